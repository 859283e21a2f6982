/- Logs: the answers that the document fixes. Conditions: none. -/
import Derived.Test.YtnhbjfkeeegdgaaCfWal8
import Derived.Test.YtnhbjfkeeegdgaaCfDef
namespace Go.Gx
open Go.Proofs
theorem kwal9_el9 : elT Try.prog 9 1 = true := by kernel_rfl
theorem kwal9_en21 : Go.Proofs.Enters Try.prog 21 := Go.Proofs.enters_of Try.func21 (by kernel_rfl) rfl
theorem kwal9_en23 : Go.Proofs.Enters Try.prog 23 := Go.Proofs.enters_of Try.func23 (by kernel_rfl) rfl
theorem kwal9_en24 : Go.Proofs.Enters Try.prog 24 := Go.Proofs.enters_of Try.func24 (by kernel_rfl) rfl
theorem kwal9_en25 : Go.Proofs.Enters Try.prog 25 := Go.Proofs.enters_of Try.func25 (by kernel_rfl) rfl
theorem kwal9_en26 : Go.Proofs.Enters Try.prog 26 := Go.Proofs.enters_of Try.func26 (by kernel_rfl) rfl
theorem kwal9_en27 : Go.Proofs.Enters Try.prog 27 := Go.Proofs.enters_of Try.func27 (by kernel_rfl) rfl
theorem kwal9_en28 : Go.Proofs.Enters Try.prog 28 := Go.Proofs.enters_of Try.func28 (by kernel_rfl) rfl
theorem kwal9_en31 : Go.Proofs.Enters Try.prog 31 := Go.Proofs.enters_of Try.func31 (by kernel_rfl) rfl
theorem kwal9_mixed : Try.prog.follows .mixedOrders = true := by kernel_rfl
theorem kwal9_oc9 : oneCellT Try.prog 9 = true := by kernel_rfl
theorem kwal9_sz9 : (Try.prog.info? 9).map (·.size) = some 1 := by kernel_rfl
theorem same21 (A B : Nat → Prop) (v u : Value) (l m : List Str) (w : World) (h : StrsAt A w v l) (h' : StrsAt B w u m) :
    Ret Try.prog 21 #[v, u] w fun r w' => r = .bool (decide (l = m)) ∧ Bel w w' := by
  obtain ⟨pl, cl, rfl, a1, a2, a3, a4, -⟩ := id h
  obtain ⟨pm, cm, rfl, b1, b2, b3, b4, -⟩ := id h'
  refine ret_of_W Try.func21 rfl (Nat.le_of_ble_eq_true rfl) (res1 rfl) ?_
  have hB := Gr.refl (fun _ => False) w
  refine W.seq ?_
  refine W.region ?_
  refine L.val (x_as (v := .bool _) rfl) rfl ?_
  refine L.nil ?_
  refine thn_n ?_
  refine W.seq ?_
  refine W.seq ?_
  refine W.region ?_
  refine L.val (x_mv (v := .slice _ _ _) rfl) rfl ?_
  refine L.val (x_len_slice Try.underlying37 rfl) rfl ?_
  refine L.val (x_mv (v := .slice _ _ _) rfl) rfl ?_
  refine L.val (x_len_slice Try.underlying37 rfl) rfl ?_
  refine L.val (x_neq rfl rfl) rfl ?_
  refine L.nil ?_
  refine thn_n ?_
  refine W.cond (b := _) rfl (fun g10 => ?_) (fun g10 => ?_)
  ·have h10 := dne_t g10
   have hne : ¬ l = m := fun e => by rw [e] at h10; exact h10 rfl
   refine W.seq ?_
   refine W.region ?_
   refine L.val (x_as (v := .bool _) rfl) rfl ?_
   refine L.nil ?_
   refine thn_n ?_
   refine W.ret (thn_r (fin_mk (.inr rfl) ?_))
   rw [decide_eq_false hne]; exact ⟨rfl, hB⟩
  ·have h10 := dne_f g10
   have hlm : l.length = m.length := by omega
   refine W.skip ?_
   refine thn_n ?_
   refine W.seq ?_
   refine W.seq ?_
   refine W.region ?_
   refine L.val (x_as (v := .int _ _) rfl) rfl ?_
   refine L.nil ?_
   refine thn_n ?_
   refine W.block ?_
   refine W.loop (fun m' E w' => ∃ (k : Nat), m' = l.length - k ∧ E 0 = .slice pl l.length cl ∧ E 1 = .slice pm m.length cm ∧ E 5 = .int .i64 (k : Nat) ∧ (k ≤ l.length) ∧ (Bel w w') ∧ (StrsAt A w' (.slice pl l.length cl) l) ∧ (StrsAt B w' (.slice pm m.length cm) m) ∧ (l.take k = m.take k)) (l.length) ?_ ?_
   ·exact ⟨0, by omega, by first | rfl | exact vi (by omega), by first | rfl | exact vi (by omega), by first | rfl | exact vi (by omega), (by first | assumption | omega | rfl), (by first | assumption | omega | rfl), (by first | assumption | omega | rfl), (by first | assumption | omega | rfl), (by rfl)⟩
   ·rintro _ E wL11 ⟨k, em, e0, e1, e5, hk, hB, h, h', heq⟩
    rw [upd_self e0, upd_self e1, upd_self e5]
    refine W.seq ?_
    refine W.seq ?_
    refine W.region ?_
    refine L.val (x_mv (v := .int _ _) rfl) rfl ?_
    refine L.val (x_mv (v := .slice _ _ _) rfl) rfl ?_
    refine L.val (x_len_slice Try.underlying37 rfl) rfl ?_
    refine L.val (x_lss rfl rfl) rfl ?_
    refine L.nil ?_
    refine thn_n ?_
    refine W.cond (b := _) rfl (fun g14 => ?_) (fun g14 => ?_)
    ·have h14 := of_decide_eq_true g14
     have hlt : k < l.length := by omega
     have hlt2 : k < m.length := by omega
     obtain ⟨bl, ol, rfl, hc⟩ := h.elem hlt
     obtain ⟨bm, om, rfl, hc'⟩ := h'.elem hlt2
     refine W.skip ?_
     refine thn_n ?_
     refine W.seq ?_
     refine W.block ?_
     refine W.seq ?_
     refine W.drawB kwal9_mixed (by kernel_rfl) ?_
     refine LQ.val (fun w hw => x_mv (v := .slice _ _ _) rfl) rfl ?_
     refine LQ.val (fun w hw => x_mv (v := .int _ _) rfl) rfl ?_
     refine LQ.val (fun w hw => x_ia1 (j := k) Try.underlying37 kwal9_sz9 rfl rfl (by omega) (by omega)) rfl ?_
     refine LQ.val (fun w hw => x_ld (v := S _) kwal9_oc9 rfl (hw.keep hc)) rfl ?_
     refine LQ.val (fun w hw => x_mv (v := .slice _ _ _) rfl) rfl ?_
     refine LQ.val (fun w hw => x_mv (v := .int _ _) rfl) rfl ?_
     refine LQ.val (fun w hw => x_ia1 (j := k) Try.underlying37 kwal9_sz9 rfl rfl (by omega) (by omega)) rfl ?_
     refine LQ.val (fun w hw => x_ld (v := S _) kwal9_oc9 rfl (hw.keep hc')) rfl ?_
     refine LQ.val (fun w hw => x_nes rfl rfl) rfl ?_
     refine LQ.nil ?_
     intro w17 hw
     have hB := hB.carry hw; have h := h.carry hw; have h' := h'.carry hw
     refine thn_n ?_
     refine W.cond (b := _) rfl (fun g25 => ?_) (fun g25 => ?_)
     ·have h25 := sne_t g25
      have hne : ¬ l = m := fun e => h25 (by rw [e])
      refine W.seq ?_
      refine W.region ?_
      refine L.val (x_as (v := .bool _) rfl) rfl ?_
      refine L.nil ?_
      refine thn_n ?_
      refine W.ret (blk_r (thn_r (thn_r (blk_r (thn_r (fin_mk (.inr rfl) ?_))))))
      rw [decide_eq_false hne]; exact ⟨rfl, hB⟩
     ·have h25 := sne_f g25
      have he25 : l.getD k [] = m.getD k [] := h25
      refine W.skip ?_
      refine blk_n ?_
      refine thn_n ?_
      refine W.region ?_
      refine L.val (x_mv (v := .int _ _) rfl) rfl ?_
      refine L.val (x_add rfl rfl (wr64 (by omega))) rfl ?_
      refine L.val (x_as (v := .int _ _) rfl) rfl ?_
      refine L.nil ?_
      refine thn_n ⟨rfl, ?_⟩
      refine ⟨_, ?_, k + 1, rfl, by first | rfl | exact vi (by omega), by first | rfl | exact vi (by omega), by first | rfl | exact vi (by omega), (by first | assumption | omega | rfl), (by first | assumption | omega | rfl), (by first | assumption | omega | rfl), (by first | assumption | omega | rfl), (by rw [take_snoc (d := []) hlt, take_snoc (d := []) hlt2, heq, he25])⟩
      omega
    ·have h14 := dlt_f g14
     refine W.exit (thn_x (thn_x (blk_hit ?_)))
     refine thn_n ?_
     refine W.seq ?_
     refine W.region ?_
     refine L.val (x_as (v := .bool _) rfl) rfl ?_
     refine L.nil ?_
     refine thn_n ?_
     refine W.ret (fin_mk (.inr rfl) ?_)
     have hh : l = m := by
       have e1 : l.take k = l := by rw [show k = l.length by omega, List.take_length]
       have e2 : m.take k = m := by rw [show k = m.length by omega, List.take_length]
       rw [← e1, heq, e2]
     rw [decide_eq_true hh]; exact ⟨rfl, hB⟩
theorem x_nep0 {E : Env} {w : World} {P : Program} {x y : Operand} {t u z e : TypeId} {p : Option Addr} (hu : P.underlying u = some (.pointer e)) (hx : ev E x = .pointer p) (hy : ev E y = .pointer none) : X P (.binOp .neq u x y z) t E w (.bool (!p.isNone)) w := by
  unfold X
  have h0 : ∀ d : Nat, (Op.equalIn (d + 1) u (.pointer p) (.pointer none)).run P w = .ok p.isNone w := fun d => by cases p <;> simp [Op.equalIn, run_underlying hu]
  have h1 := h0 9999
  have h2 : (binOp .neq u (.pointer p) (.pointer none)).run P w = .ok (.bool (!p.isNone)) w := by
    simp only [binOp]
    simp [show Op.equal u (.pointer p) (.pointer none) = Op.equalIn (9999 + 1) u (.pointer p) (.pointer none) from rfl, h1]
  have hg : ∀ d : Nat, (Op.eqGuardIn (d + 1) u (.pointer p) (.pointer none)).run P w = .ok false w := fun d => by simp [Op.eqGuardIn, run_underlying hu]
  simp [execOp, hx, hy, eqGuard, h2]
def lab : List Str := [[97], [98]]
def lc : List Str := [[99]]
def lz : List Str := [[122]]
def dA0 : Dk := newD 6
def aA1 : Int × Dk × Pt := appA dA0 pt0 lab
def aA2 : Int × Dk × Pt := appA aA1.2.1 aA1.2.2 lc
def aA3 : Int × Dk × Pt := turnA aA2.2.1 aA2.2.2 lz
theorem aw0 : openA dA0 = (0, pt0, []) := by decide +kernel
theorem aw1 : aA1.1 = 0 := by decide +kernel
theorem aw2 : aA2.1 = 0 := by decide +kernel
theorem aw3 : openA aA2.2.1 = (0, aA2.2.2, lab ++ lc) := by decide +kernel
theorem aw4 : aA2.2.2.ep = 2 ∧ aA2.2.2.tail = 18 := by decide +kernel
theorem aw5 : aA3.1 = 0 := by decide +kernel
theorem aw6 : aA3.2.2.tail = 6 ∧ aA3.2.1.pl.length = 6 := by decide +kernel
theorem q0 : QOk dA0 pt0 := ⟨by decide +kernel, rfl, rfl, rfl, by decide +kernel, by decide +kernel, by decide +kernel, by decide +kernel, by decide +kernel⟩
theorem q1 : QOk aA1.2.1 aA1.2.2 := ⟨by decide +kernel, by decide +kernel, by decide +kernel, by decide +kernel, by decide +kernel, by decide +kernel, by decide +kernel, by decide +kernel, by decide +kernel⟩
theorem q2 : QOk aA2.2.1 aA2.2.2 := ⟨by decide +kernel, by decide +kernel, by decide +kernel, by decide +kernel, by decide +kernel, by decide +kernel, by decide +kernel, by decide +kernel, by decide +kernel⟩
theorem LogAt.le {n0 n1 bl b : Nat} {w : World} {p : Pt} (h : LogAt n1 w bl b p) (hn : n0 ≤ n1) : LogAt n0 w bl b p := ⟨Nat.le_trans hn h.1, h.2⟩
theorem strs_new {w : World} {b : Nat} (l : List Str) (h : Box w b 9 (l.map S)) (hl : l.length ≤ 70368744177664) (hx : ∀ x ∈ l, x.length ≤ 9223372036854775807) : StrsAt (fun _ => False) w (.slice (some ⟨b, 0, none⟩) l.length l.length) l := strs_of_box l h (fun f => f) hl hx
theorem awake21 (w : World) : Ret Try.prog 29 #[] w fun v w' => v = .bool true ∧ Bel w w' := by
  refine ret_of_W Try.func29 rfl (Nat.le_of_ble_eq_true rfl) (res1 rfl) ?_
  have hB := Gr.refl (fun _ => False) w
  refine W.seq ?_
  refine W.region ?_
  refine L.val (x_as (v := .bool _) rfl) rfl ?_
  refine L.nil ?_
  refine thn_n ?_
  refine W.seq ?_
  refine W.region ?_
  refine L.ret (x_call kwal9_en31 rfl) rfl (newdisk_ok 6 (by decide) _) ?_
  rintro _ w8 ⟨b, rfl, h, hw⟩
  have hB := hB.carry hw
  refine L.val (x_mv (v := _) rfl) rfl ?_
  refine L.val (x_ext (v := .pointer _) rfl rfl) rfl ?_
  refine L.val (x_ext (v := .int _ _) rfl rfl) rfl ?_
  refine L.val (x_as (v := .pointer _) rfl) rfl ?_
  refine L.val (x_as (v := .int _ _) rfl) rfl ?_
  refine L.nil ?_
  refine thn_n ?_
  refine W.seq ?_
  refine W.region ?_
  have hs8 := hB.size
  refine L.val (x_mv (v := .pointer _) rfl) rfl ?_
  refine L.ret (x_call kwal9_en28 rfl) rfl (open_w w.heap.size b dA0 _ h rfl (by decide)) ?_
  rintro v13 w13 ⟨hw, hr⟩
  have hB := hB.carry hw; have h := h.carry hw
  rw [aw0] at hr
  obtain ⟨-, bl, u, rfl, hl, hU⟩ := hr.resolve_left (fun e => e.1 rfl)
  obtain ⟨pu, cu, rfl, -⟩ := id hU
  have hl : LogAt w.heap.size w13 bl b pt0 := hl.le hs8
  have hs13 := hB.size
  refine L.val (x_mv (v := _) rfl) rfl ?_
  refine L.val (x_ext (v := .pointer _) rfl rfl) rfl ?_
  refine L.val (x_ext (v := .slice _ _ _) rfl rfl) rfl ?_
  refine L.val (x_ext (v := .int _ _) rfl rfl) rfl ?_
  refine L.val (x_as (v := .pointer _) rfl) rfl ?_
  refine L.val (x_as (v := .slice _ _ _) rfl) rfl ?_
  refine L.val (x_as (v := .int _ _) rfl) rfl ?_
  refine L.nil ?_
  refine thn_n ?_
  refine W.seq ?_
  refine W.seq ?_
  refine W.region ?_
  refine L.val (x_mv (v := .int _ _) rfl) rfl ?_
  refine L.val (x_neq rfl rfl) rfl ?_
  refine L.val (x_mv (v := .bool _) rfl) rfl ?_
  refine L.splitat (dj := 19) (b := _) rfl (fun g19 => ?_) (fun g19 => ?_)
  ·have h19 := dne_t g19
   cases g19
  ·have h19 := dne_f g19
   refine L.gyes' (dj := 19) (b := _) rfl rfl g19 ?_
   refine L.val (x_mv (v := .int _ _) rfl) rfl ?_
   refine L.gyes' (dj := 19) (b := _) rfl rfl g19 ?_
   refine L.val (x_neq rfl rfl) rfl ?_
   refine L.val (x_pick_f (v := .bool _) (congrArg Value.bool g19) rfl) rfl ?_
   refine L.val (x_mv (v := .bool _) rfl) rfl ?_
   refine L.splitat (dj := 23) (b := _) rfl (fun g23 => ?_) (fun g23 => ?_)
   ·have h23 := dne_t g23
    cases g23
   ·have h23 := dne_f g23
    refine L.gyes' (dj := 23) (b := _) rfl rfl g23 ?_
    refine L.val (x_mv (v := .pointer _) rfl) rfl ?_
    refine L.gyes' (dj := 23) (b := _) rfl rfl g23 ?_
    refine L.val (x_eqp0 Try.underlying52 rfl rfl) rfl ?_
    refine L.val (x_pick_f (v := .bool _) (congrArg Value.bool g23) rfl) rfl ?_
    refine L.val (x_mv (v := .bool _) rfl) rfl ?_
    refine L.splitat (dj := 27) (b := _) rfl (fun g27 => ?_) (fun g27 => ?_)
    ·have h27 := g27
     cases g27
    ·have h27 := g27
     refine L.gyes' (dj := 27) (b := _) rfl rfl g27 ?_
     refine L.val (x_mv (v := .slice _ _ _) rfl) rfl ?_
     refine L.gyes' (dj := 27) (b := _) rfl rfl g27 ?_
     refine L.val (x_len_slice Try.underlying37 rfl) rfl ?_
     refine L.gyes' (dj := 27) (b := _) rfl rfl g27 ?_
     refine L.val (x_neq rfl rfl) rfl ?_
     refine L.val (x_pick_f (v := .bool _) (congrArg Value.bool g27) rfl) rfl ?_
     refine L.val (x_mv (v := .bool _) rfl) rfl ?_
     refine L.splitat (dj := 32) (b := _) rfl (fun g32 => ?_) (fun g32 => ?_)
     ·have h32 := dne_t g32
      cases g32
     ·have h32 := dne_f g32
      refine L.gyes' (dj := 32) (b := _) rfl rfl g32 ?_
      refine L.val (x_mv (v := .pointer _) rfl) rfl ?_
      refine L.gyes' (dj := 32) (b := _) rfl rfl g32 ?_
      refine L.bs (sz := 1) (cells := [S [97], S [98]]) Try.underlying37 kwal9_el9 rfl rfl rfl rfl (fun w34 bx34 hw hz34 => ?_)
      have hB := hB.carry hw; have h := h.carry hw; have hl := hl.carry hw
      refine L.gyes' (dj := 32) (b := _) rfl rfl g32 ?_
      refine L.ret (x_call kwal9_en23 rfl) rfl (append_w w.heap.size bl b (fun _ => False) _ lab dA0 pt0 _ h hl q0 (strs_new lab bx34 (by decide) (by decide)) hB.size (by decide)) ?_
      rintro v35 w35 ⟨rfl, h35, hl35, hg35⟩
      have hB := hg35.bel hB
      have h : DiskAt w.heap.size w35 b aA1.2.1 := h35
      have hl : LogAt w.heap.size w35 bl b aA1.2.2 := hl35
      rw [show (appA dA0 pt0 lab).1 = 0 from aw1]
      refine L.gyes' (dj := 32) (b := _) rfl rfl g32 ?_
      refine L.val (x_neq rfl rfl) rfl ?_
      refine L.val (x_pick_f (v := .bool _) (congrArg Value.bool g32) rfl) rfl ?_
      refine L.val (x_mv (v := .bool _) rfl) rfl ?_
      refine L.splitat (dj := 38) (b := _) rfl (fun g38 => ?_) (fun g38 => ?_)
      ·have h38 := dne_t g38
       cases g38
      ·have h38 := dne_f g38
       refine L.gyes' (dj := 38) (b := _) rfl rfl g38 ?_
       refine L.val (x_mv (v := .pointer _) rfl) rfl ?_
       refine L.gyes' (dj := 38) (b := _) rfl rfl g38 ?_
       refine L.bs (sz := 1) (cells := [S [99]]) Try.underlying37 kwal9_el9 rfl rfl rfl rfl (fun w40 bx40 hw hz40 => ?_)
       have hB := hB.carry hw; have h := h.carry hw; have hl := hl.carry hw
       refine L.gyes' (dj := 38) (b := _) rfl rfl g38 ?_
       refine L.ret (x_call kwal9_en23 rfl) rfl (append_w w.heap.size bl b (fun _ => False) _ lc _ _ _ h hl q1 (strs_new lc bx40 (by decide) (by decide)) hB.size (by decide)) ?_
       rintro v41 w41 ⟨rfl, h41, hl41, hg41⟩
       have hB := hg41.bel hB
       have h : DiskAt w.heap.size w41 b aA2.2.1 := h41
       have hl : LogAt w.heap.size w41 bl b aA2.2.2 := hl41
       rw [show (appA aA1.2.1 aA1.2.2 lc).1 = 0 from aw2]
       refine L.gyes' (dj := 38) (b := _) rfl rfl g38 ?_
       refine L.val (x_neq rfl rfl) rfl ?_
       refine L.val (x_pick_f (v := .bool _) (congrArg Value.bool g38) rfl) rfl ?_
       refine L.nil ?_
       refine thn_n ?_
       refine W.cond (b := _) rfl (fun g42 => ?_) (fun g42 => ?_)
       ·have h42 := dne_t g42
        cases g42
       ·have h42 := dne_f g42
        refine W.skip ?_
        refine thn_n ?_
        refine W.seq ?_
        refine W.region ?_
        have hs45 := hB.size
        refine L.val (x_mv (v := .pointer _) rfl) rfl ?_
        refine L.ret (x_call kwal9_en28 rfl) rfl (open_w w.heap.size b aA2.2.1 _ h (by decide +kernel) (by decide +kernel)) ?_
        rintro v46 w46 ⟨hw, hr⟩
        have hB := hB.carry hw; have h := h.carry hw
        rw [aw3] at hr
        obtain ⟨-, bl2, u2, rfl, hl, hU⟩ := hr.resolve_left (fun e => e.1 rfl)
        obtain ⟨pu2, cu2, rfl, -⟩ := id hU
        have hU : StrsAt _ w46 _ (lab ++ lc) := hU
        have hl : LogAt w.heap.size w46 bl2 b aA2.2.2 := hl.le hs45
        refine L.val (x_mv (v := _) rfl) rfl ?_
        refine L.val (x_ext (v := .pointer _) rfl rfl) rfl ?_
        refine L.val (x_ext (v := .slice _ _ _) rfl rfl) rfl ?_
        refine L.val (x_ext (v := .int _ _) rfl rfl) rfl ?_
        refine L.val (x_as (v := .pointer _) rfl) rfl ?_
        refine L.val (x_as (v := .slice _ _ _) rfl) rfl ?_
        refine L.val (x_as (v := .int _ _) rfl) rfl ?_
        refine L.nil ?_
        refine thn_n ?_
        refine W.seq ?_
        refine W.region ?_
        refine L.val (x_mv (v := .int _ _) rfl) rfl ?_
        refine L.val (x_eql rfl rfl) rfl ?_
        refine L.val (x_mv (v := .bool _) rfl) rfl ?_
        refine L.splitat (dj := 52) (b := _) rfl (fun g52 => ?_) (fun g52 => ?_)
        ·have h52 := of_decide_eq_true g52
         refine L.gyes' (dj := 52) (b := _) rfl rfl g52 ?_
         refine L.val (x_mv (v := .pointer _) rfl) rfl ?_
         refine L.gyes' (dj := 52) (b := _) rfl rfl g52 ?_
         refine L.val (x_nep0 Try.underlying52 rfl rfl) rfl ?_
         refine L.val (x_pick_t (v := .bool _) (congrArg Value.bool g52) rfl) rfl ?_
         refine L.val (x_mv (v := .bool _) rfl) rfl ?_
         refine L.splitat (dj := 56) (b := _) rfl (fun g56 => ?_) (fun g56 => ?_)
         ·have h56 := g56
          refine L.gyes' (dj := 56) (b := _) rfl rfl g56 ?_
          refine L.val (x_mv (v := .slice _ _ _) rfl) rfl ?_
          refine L.gyes' (dj := 56) (b := _) rfl rfl g56 ?_
          refine L.bs (sz := 1) (cells := [S [97], S [98], S [99]]) Try.underlying37 kwal9_el9 rfl rfl rfl rfl (fun w58 bx58 hw hz58 => ?_)
          have hB := hB.carry hw; have h := h.carry hw; have hl := hl.carry hw; have hU := hU.carry hw
          refine L.gyes' (dj := 56) (b := _) rfl rfl g56 ?_
          refine L.ret (x_call kwal9_en21 rfl) rfl (same21 _ _ _ _ _ (lab ++ lc) _ hU (strs_new (lab ++ lc) bx58 (by decide) (by decide))) ?_
          rintro v59 w59 ⟨rfl, hw⟩
          have hB := hB.carry hw; have h := h.carry hw; have hl := hl.carry hw; have hU := hU.carry hw; have bx58 := bx58.carry hw
          refine L.val (x_pick_t (v := .bool _) (congrArg Value.bool g56) rfl) rfl ?_
          refine L.val (x_mv (v := .bool _) rfl) rfl ?_
          refine L.splitat (dj := 61) (b := _) rfl (fun g61 => ?_) (fun g61 => ?_)
          ·have h61 := g61
           refine L.gyes' (dj := 61) (b := _) rfl rfl g61 ?_
           refine L.val (x_mv (v := .pointer _) rfl) rfl ?_
           refine L.gyes' (dj := 61) (b := _) rfl rfl g61 ?_
           refine L.ret (x_call kwal9_en27 rfl) rfl (epoch_w _ _ _ _ _ hl (by rw [aw4.1]; decide)) ?_
           rintro v63 w63 ⟨rfl, hq⟩
           rw [hq, aw4.1]
           refine L.gyes' (dj := 61) (b := _) rfl rfl g61 ?_
           refine L.val (x_eql rfl rfl) rfl ?_
           refine L.val (x_pick_t (v := .bool _) (congrArg Value.bool g61) rfl) rfl ?_
           refine L.val (x_mv (v := .bool _) rfl) rfl ?_
           refine L.splitat (dj := 66) (b := _) rfl (fun g66 => ?_) (fun g66 => ?_)
           ·have h66 := of_decide_eq_true g66
            refine L.gyes' (dj := 66) (b := _) rfl rfl g66 ?_
            refine L.val (x_mv (v := .pointer _) rfl) rfl ?_
            refine L.gyes' (dj := 66) (b := _) rfl rfl g66 ?_
            refine L.ret (x_call kwal9_en25 rfl) rfl (tail_w _ _ _ _ _ hl) ?_
            rintro v68 w68 ⟨rfl, hq⟩
            rw [hq, aw4.2]
            refine L.gyes' (dj := 66) (b := _) rfl rfl g66 ?_
            refine L.val (x_eql rfl rfl) rfl ?_
            refine L.val (x_pick_t (v := .bool _) (congrArg Value.bool g66) rfl) rfl ?_
            refine L.val (x_mv (v := .bool _) rfl) rfl ?_
            refine L.splitat (dj := 71) (b := _) rfl (fun g71 => ?_) (fun g71 => ?_)
            ·have h71 := of_decide_eq_true g71
             refine L.gyes' (dj := 71) (b := _) rfl rfl g71 ?_
             refine L.val (x_mv (v := .pointer _) rfl) rfl ?_
             refine L.gyes' (dj := 71) (b := _) rfl rfl g71 ?_
             refine L.bs (sz := 1) (cells := [S [122]]) Try.underlying37 kwal9_el9 rfl rfl rfl rfl (fun w73 bx73 hw hz73 => ?_)
             have hB := hB.carry hw; have h := h.carry hw; have hl := hl.carry hw
             refine L.gyes' (dj := 71) (b := _) rfl rfl g71 ?_
             refine L.ret (x_call kwal9_en24 rfl) rfl (turn_w w.heap.size bl2 b (fun _ => False) _ lz _ _ _ h hl q2 (strs_new lz bx73 (by decide) (by decide)) hB.size (by decide)) ?_
             rintro v74 w74 ⟨rfl, h74, hl74, hg74⟩
             have hB := hg74.bel hB
             have h : DiskAt w.heap.size w74 b aA3.2.1 := h74
             have hl : LogAt w.heap.size w74 bl2 b aA3.2.2 := hl74
             rw [show (turnA aA2.2.1 aA2.2.2 lz).1 = 0 from aw5]
             refine L.gyes' (dj := 71) (b := _) rfl rfl g71 ?_
             refine L.val (x_eql rfl rfl) rfl ?_
             refine L.val (x_pick_t (v := .bool _) (congrArg Value.bool g71) rfl) rfl ?_
             refine L.val (x_mv (v := .bool _) rfl) rfl ?_
             refine L.splitat (dj := 77) (b := _) rfl (fun g77 => ?_) (fun g77 => ?_)
             ·have h77 := of_decide_eq_true g77
              refine L.gyes' (dj := 77) (b := _) rfl rfl g77 ?_
              refine L.val (x_mv (v := .pointer _) rfl) rfl ?_
              refine L.gyes' (dj := 77) (b := _) rfl rfl g77 ?_
              refine L.ret (x_call kwal9_en26 rfl) rfl (leftL_w _ _ _ _ _ _ h hl (by rw [aw6.2]; decide) (by rw [aw6.1]; decide)) ?_
              rintro v79 w79 ⟨rfl, hw⟩
              have hB := hB.carry hw; have h := h.carry hw; have hl := hl.carry hw
              rw [aw6.1, aw6.2]
              refine L.gyes' (dj := 77) (b := _) rfl rfl g77 ?_
              refine L.val (x_eql rfl rfl) rfl ?_
              refine L.val (x_pick_t (v := .bool _) (congrArg Value.bool g77) rfl) rfl ?_
              refine L.val (x_as (v := .bool _) rfl) rfl ?_
              refine L.nil ?_
              refine thn_n ?_
              refine W.ret (fin_mk (.inr rfl) ?_)
              exact ⟨rfl, hB⟩
             ·have h77 := of_decide_eq_false g77
              cases g77
            ·have h71 := of_decide_eq_false g71
             cases g71
           ·have h66 := of_decide_eq_false g66
            cases g66
          ·have h61 := g61
           exact absurd g61 (by decide)
         ·have h56 := g56
          cases g56
        ·have h52 := of_decide_eq_false g52
         cases g52
end Go.Gx
namespace Go.Gx
open Go.Proofs
theorem kwal10_el52 : elT Try.prog 52 1 = true := by kernel_rfl
theorem kwal10_en23 : Go.Proofs.Enters Try.prog 23 := Go.Proofs.enters_of Try.func23 (by kernel_rfl) rfl
theorem kwal10_en24 : Go.Proofs.Enters Try.prog 24 := Go.Proofs.enters_of Try.func24 (by kernel_rfl) rfl
theorem kwal10_en25 : Go.Proofs.Enters Try.prog 25 := Go.Proofs.enters_of Try.func25 (by kernel_rfl) rfl
theorem kwal10_en26 : Go.Proofs.Enters Try.prog 26 := Go.Proofs.enters_of Try.func26 (by kernel_rfl) rfl
theorem kwal10_en27 : Go.Proofs.Enters Try.prog 27 := Go.Proofs.enters_of Try.func27 (by kernel_rfl) rfl
theorem kwal10_en28 : Go.Proofs.Enters Try.prog 28 := Go.Proofs.enters_of Try.func28 (by kernel_rfl) rfl
theorem kwal10_en29 : Go.Proofs.Enters Try.prog 29 := Go.Proofs.enters_of Try.func29 (by kernel_rfl) rfl
theorem kwal10_en65 : Go.Proofs.Enters Try.prog 65 := Go.Proofs.enters_of Try.func65 (by kernel_rfl) rfl
theorem kwal10_en74 : Go.Proofs.Enters Try.prog 74 := Go.Proofs.enters_of Try.func74 (by kernel_rfl) rfl
theorem kwal10_fo55_0 : fieldOff Try.prog 55 0 = some 0 := by kernel_rfl
theorem kwal10_fo55_2 : fieldOff Try.prog 55 2 = some 2 := by kernel_rfl
theorem kwal10_fo58_0 : fieldOff Try.prog 58 0 = some 0 := by kernel_rfl
theorem kwal10_fo58_1 : fieldOff Try.prog 58 1 = some 4 := by kernel_rfl
theorem kwal10_oc3 : oneCellT Try.prog 3 = true := by kernel_rfl
theorem kwal10_oc52 : oneCellT Try.prog 52 = true := by kernel_rfl
theorem kwal10_oc53 : oneCellT Try.prog 53 = true := by kernel_rfl
theorem kwal10_oc56 : oneCellT Try.prog 56 = true := by kernel_rfl
theorem kwal10_si58 : structInfo Try.prog 58 = some ([(0, 4), (4, 1), (5, 1)], [Value.int .u64 0, Value.int .i64 0, Value.int .i64 0, Value.int .i64 0, Value.pointer none, Value.bool false]) := by kernel_rfl
theorem kwal10_si68 : structInfo Try.prog 68 = some ([(0, 1), (1, 1), (2, 3), (5, 1), (6, 1), (7, 1)], [Value.slice none 0 0, Value.slice none 0 0, Value.slice none 0 0, Value.int .i64 0, Value.int .i64 0, Value.int .i64 0, Value.int .i64 0, Value.bool false]) := by kernel_rfl
theorem kwal10_sz52 : (Try.prog.info? 52).map (·.size) = some 1 := by kernel_rfl
def NoL (w : World) (p : Option Addr) : Prop := p = none ∨ ∃ b, p = some ⟨b, 0, none⟩ ∧ Box w b 58 zeroLog
theorem NoL.carry {w w' : World} {p : Option Addr} (h : NoL w p) (g : Bel w w') : NoL w' p := by
  rcases h with h | ⟨b, h1, h2⟩
  · exact .inl h
  · exact .inr ⟨b, h1, h2.carry g⟩
theorem append_no (p : Option Addr) (v : Value) (w : World) (h : NoL w p) : Ret Try.prog 23 #[.pointer p, v] w fun v w' => v = .int .i64 1 ∧ w' = w := by
  rcases h with rfl | ⟨b, rfl, hb⟩
  · exact append_nil v w
  · exact append_zero b v w hb
theorem turn_no (p : Option Addr) (v : Value) (w : World) (h : NoL w p) : Ret Try.prog 24 #[.pointer p, v] w fun v w' => v = .int .i64 1 ∧ w' = w := by
  rcases h with rfl | ⟨b, rfl, hb⟩
  · exact turn_nil v w
  · exact turn_zero b v w hb
theorem tail_no (p : Option Addr) (w : World) (h : NoL w p) : Ret Try.prog 25 #[.pointer p] w fun v w' => v = .int .i64 0 ∧ w' = w := by
  rcases h with rfl | ⟨b, rfl, hb⟩
  refine ret_of_W Try.func25 rfl (Nat.le_of_ble_eq_true rfl) (res1 rfl) ?_
  refine W.seq ?_
  refine W.region ?_
  refine L.val (x_as (v := .int _ _) rfl) rfl ?_
  refine L.nil ?_
  refine thn_n ?_
  refine W.seq ?_
  refine W.seq ?_
  refine W.region ?_
  refine L.val (x_mv (v := .pointer _) rfl) rfl ?_
  refine L.val (x_eqp0 Try.underlying52 rfl rfl) rfl ?_
  refine L.nil ?_
  refine thn_n ?_
  refine W.cond (b := _) rfl (fun g4 => ?_) (fun g4 => ?_)
  ·have h4 := g4
   refine W.seq ?_
   refine W.region ?_
   refine L.val (x_as (v := .int _ _) rfl) rfl ?_
   refine L.nil ?_
   refine thn_n ?_
   refine W.ret (thn_r (fin_mk (.inr rfl) ?_))
   exact ⟨rfl, rfl⟩
  ·have h4 := g4
   cases g4
  refine ret_of_W Try.func25 rfl (Nat.le_of_ble_eq_true rfl) (res1 rfl) ?_
  refine W.seq ?_
  refine W.region ?_
  refine L.val (x_as (v := .int _ _) rfl) rfl ?_
  refine L.nil ?_
  refine thn_n ?_
  refine W.seq ?_
  refine W.seq ?_
  refine W.region ?_
  refine L.val (x_mv (v := .pointer _) rfl) rfl ?_
  refine L.val (x_eqp0 Try.underlying52 rfl rfl) rfl ?_
  refine L.nil ?_
  refine thn_n ?_
  refine W.cond (b := _) rfl (fun g4 => ?_) (fun g4 => ?_)
  ·have h4 := g4
   cases g4
  ·have h4 := g4
   refine W.skip ?_
   refine thn_n ?_
   refine W.seq ?_
   refine W.region ?_
   refine L.val (x_mv (v := .pointer _) rfl) rfl ?_
   refine L.val (x_nil rfl) rfl ?_
   refine L.val (x_fa kwal10_fo58_0 rfl) rfl ?_
   refine L.val (x_fa kwal10_fo55_2 rfl) rfl ?_
   refine L.val (x_ld (v := .int _ _) kwal10_oc3 rfl (hb.cell (i := 2) rfl)) rfl ?_
   refine L.val (x_as (v := .int _ _) rfl) rfl ?_
   refine L.nil ?_
   refine thn_n ?_
   refine W.ret (fin_mk (.inr rfl) ?_)
   exact ⟨rfl, rfl⟩
theorem epoch_no (p : Option Addr) (w : World) (h : NoL w p) : Ret Try.prog 27 #[.pointer p] w fun v w' => v = .int .i64 0 ∧ w' = w := by
  rcases h with rfl | ⟨b, rfl, hb⟩
  refine ret_of_W Try.func27 rfl (Nat.le_of_ble_eq_true rfl) (res1 rfl) ?_
  refine W.seq ?_
  refine W.region ?_
  refine L.val (x_as (v := .int _ _) rfl) rfl ?_
  refine L.nil ?_
  refine thn_n ?_
  refine W.seq ?_
  refine W.seq ?_
  refine W.region ?_
  refine L.val (x_mv (v := .pointer _) rfl) rfl ?_
  refine L.val (x_eqp0 Try.underlying52 rfl rfl) rfl ?_
  refine L.nil ?_
  refine thn_n ?_
  refine W.cond (b := _) rfl (fun g4 => ?_) (fun g4 => ?_)
  ·have h4 := g4
   refine W.seq ?_
   refine W.region ?_
   refine L.val (x_as (v := .int _ _) rfl) rfl ?_
   refine L.nil ?_
   refine thn_n ?_
   refine W.ret (thn_r (fin_mk (.inr rfl) ?_))
   exact ⟨rfl, rfl⟩
  ·have h4 := g4
   cases g4
  refine ret_of_W Try.func27 rfl (Nat.le_of_ble_eq_true rfl) (res1 rfl) ?_
  refine W.seq ?_
  refine W.region ?_
  refine L.val (x_as (v := .int _ _) rfl) rfl ?_
  refine L.nil ?_
  refine thn_n ?_
  refine W.seq ?_
  refine W.seq ?_
  refine W.region ?_
  refine L.val (x_mv (v := .pointer _) rfl) rfl ?_
  refine L.val (x_eqp0 Try.underlying52 rfl rfl) rfl ?_
  refine L.nil ?_
  refine thn_n ?_
  refine W.cond (b := _) rfl (fun g4 => ?_) (fun g4 => ?_)
  ·have h4 := g4
   cases g4
  ·have h4 := g4
   refine W.skip ?_
   refine thn_n ?_
   refine W.seq ?_
   refine W.region ?_
   refine L.val (x_mv (v := .pointer _) rfl) rfl ?_
   refine L.val (x_nil rfl) rfl ?_
   refine L.val (x_fa kwal10_fo58_0 rfl) rfl ?_
   refine L.val (x_fa kwal10_fo55_0 rfl) rfl ?_
   refine L.val (x_ld (v := .int _ _) kwal10_oc53 rfl (hb.cell (i := 0) rfl)) rfl ?_
   refine L.val (x_conv (k' := .i64) (by rw [Try.underlying53]; rfl) Try.underlying3 rfl (wr64 (by omega))) rfl ?_
   refine L.val (x_as (v := .int _ _) rfl) rfl ?_
   refine L.nil ?_
   refine thn_n ?_
   refine W.ret (fin_mk (.inr rfl) ?_)
   exact ⟨rfl, rfl⟩
theorem left_no (p : Option Addr) (w : World) (h : NoL w p) : Ret Try.prog 26 #[.pointer p] w fun v w' => v = .int .i64 0 ∧ w' = w := by
  rcases h with rfl | ⟨b, rfl, hb⟩
  refine ret_of_W Try.func26 rfl (Nat.le_of_ble_eq_true rfl) (res1 rfl) ?_
  refine W.seq ?_
  refine W.region ?_
  refine L.val (x_as (v := .int _ _) rfl) rfl ?_
  refine L.nil ?_
  refine thn_n ?_
  refine W.seq ?_
  refine W.seq ?_
  refine W.region ?_
  refine L.val (x_mv (v := .pointer _) rfl) rfl ?_
  refine L.val (x_eqp0 Try.underlying52 rfl rfl) rfl ?_
  refine L.val (x_mv (v := .bool _) rfl) rfl ?_
  refine L.splitat (dj := 5) (b := _) rfl (fun g5 => ?_) (fun g5 => ?_)
  ·have h5 := g5
   refine L.gno (dj := 5) (b := _) rfl rfl g5 rfl ?_
   refine L.gno (dj := 5) (b := _) rfl rfl g5 rfl ?_
   refine L.gno (dj := 5) (b := _) rfl rfl g5 rfl ?_
   refine L.gno (dj := 5) (b := _) rfl rfl g5 rfl ?_
   refine L.gno (dj := 5) (b := _) rfl rfl g5 rfl ?_
   refine L.val (x_pick_t (v := .bool _) (congrArg Value.bool g5) rfl) rfl ?_
   refine L.nil ?_
   refine thn_n ?_
   refine W.cond (b := true) rfl (fun _ => ?_) (fun h => nomatch h)
   refine W.seq ?_
   refine W.region ?_
   refine L.val (x_as (v := .int _ _) rfl) rfl ?_
   refine L.nil ?_
   refine thn_n ?_
   refine W.ret (thn_r (fin_mk (.inr rfl) ?_))
   exact ⟨rfl, rfl⟩
  ·have h5 := g5
   cases g5
  refine ret_of_W Try.func26 rfl (Nat.le_of_ble_eq_true rfl) (res1 rfl) ?_
  refine W.seq ?_
  refine W.region ?_
  refine L.val (x_as (v := .int _ _) rfl) rfl ?_
  refine L.nil ?_
  refine thn_n ?_
  refine W.seq ?_
  refine W.seq ?_
  refine W.region ?_
  refine L.val (x_mv (v := .pointer _) rfl) rfl ?_
  refine L.val (x_eqp0 Try.underlying52 rfl rfl) rfl ?_
  refine L.val (x_mv (v := .bool _) rfl) rfl ?_
  refine L.splitat (dj := 5) (b := _) rfl (fun g5 => ?_) (fun g5 => ?_)
  ·have h5 := g5
   cases g5
  ·have h5 := g5
   refine L.gyes' (dj := 5) (b := _) rfl rfl g5 ?_
   refine L.val (x_mv (v := .pointer _) rfl) rfl ?_
   refine L.gyes' (dj := 5) (b := _) rfl rfl g5 ?_
   refine L.val (x_nil rfl) rfl ?_
   refine L.gyes' (dj := 5) (b := _) rfl rfl g5 ?_
   refine L.val (x_fa kwal10_fo58_1 rfl) rfl ?_
   refine L.gyes' (dj := 5) (b := _) rfl rfl g5 ?_
   refine L.val (x_ld (v := .pointer _) kwal10_oc56 rfl (hb.cell0 rfl)) rfl ?_
   refine L.gyes' (dj := 5) (b := _) rfl rfl g5 ?_
   refine L.val (x_eqp0 Try.underlying56 rfl rfl) rfl ?_
   refine L.val (x_pick_f (v := .bool _) (congrArg Value.bool g5) rfl) rfl ?_
   refine L.nil ?_
   refine thn_n ?_
   refine W.cond (b := _) rfl (fun g10 => ?_) (fun g10 => ?_)
   ·have h10 := g10
    refine W.seq ?_
    refine W.region ?_
    refine L.val (x_as (v := .int _ _) rfl) rfl ?_
    refine L.nil ?_
    refine thn_n ?_
    refine W.ret (thn_r (fin_mk (.inr rfl) ?_))
    exact ⟨rfl, rfl⟩
   ·have h10 := g10
    cases g10
def zeroDisk : List Value := dkV (.slice none 0 0) (.slice none 0 0) (.slice none 0 0) 0 0 ⟨[], [], 0, 0, false⟩
theorem sectors_no (b : Nat) (w : World) (hb : Box w b 68 zeroDisk) : Ret Try.prog 65 #[.pointer (some ⟨b, 0, none⟩)] w fun v w' => v = .int .i64 0 ∧ w' = w := by
  refine ret_of_W Try.func65 rfl (Nat.le_of_ble_eq_true rfl) (res1 rfl) ?_
  refine W.seq ?_
  refine W.region ?_
  refine L.val (x_as (v := .int _ _) rfl) rfl ?_
  refine L.nil ?_
  refine thn_n ?_
  refine W.seq ?_
  refine W.seq ?_
  refine W.region ?_
  refine L.val (x_mv (v := .pointer _) rfl) rfl ?_
  refine L.ret (x_call kwal10_en74 rfl) rfl (none_zeroD b (.slice none 0 0) (.slice none 0 0) 0 0 _ _ hb) ?_
  rintro _ w4 ⟨rfl, hq⟩
  rw [hq]
  refine L.nil ?_
  refine thn_n ?_
  refine W.cond (b := _) rfl (fun g4 => ?_) (fun g4 => ?_)
  ·have h4 := g4
   refine W.seq ?_
   refine W.region ?_
   refine L.val (x_as (v := .int _ _) rfl) rfl ?_
   refine L.nil ?_
   refine thn_n ?_
   refine W.ret (thn_r (fin_mk (.inr rfl) ?_))
   exact ⟨rfl, rfl⟩
  ·have h4 := g4
   cases g4
theorem open_no (b : Nat) (w : World) (hb : Box w b 68 zeroDisk) : Ret Try.prog 28 #[.pointer (some ⟨b, 0, none⟩)] w fun v w' => v = .tuple #[.pointer none, .slice none 0 0, .int .i64 1] ∧ w' = w := by
  refine ret_of_W Try.func28 rfl (Nat.le_of_ble_eq_true rfl) (res3 rfl) ?_
  refine W.seq ?_
  refine W.region ?_
  refine L.val (x_as (v := .pointer _) rfl) rfl ?_
  refine L.val (x_as (v := .slice _ _ _) rfl) rfl ?_
  refine L.val (x_as (v := .int _ _) rfl) rfl ?_
  refine L.nil ?_
  refine thn_n ?_
  refine W.seq ?_
  refine W.block ?_
  refine W.seq ?_
  refine W.region ?_
  refine L.val (x_mv (v := .pointer _) rfl) rfl ?_
  refine L.ret (x_call kwal10_en65 rfl) rfl (sectors_no b _ hb) ?_
  rintro _ w22 ⟨rfl, hq⟩
  rw [hq]
  refine L.val (x_eql rfl rfl) rfl ?_
  refine L.val (x_as (v := .bool _) rfl) rfl ?_
  refine L.nil ?_
  refine thn_n ?_
  refine W.cond (b := _) rfl (fun g23 => ?_) (fun g23 => ?_)
  ·have h23 := of_decide_eq_true g23
   refine W.seq ?_
   refine W.region ?_
   refine L.val (x_as (v := .pointer _) rfl) rfl ?_
   refine L.val (x_as (v := .slice _ _ _) rfl) rfl ?_
   refine L.val (x_as (v := .int _ _) rfl) rfl ?_
   refine L.nil ?_
   refine thn_n ?_
   refine W.ret (blk_r (thn_r (fin_mk (.inr rfl) ?_)))
   exact ⟨rfl, rfl⟩
  ·have h23 := of_decide_eq_false g23
   cases g23
theorem nobody21 (A : Nat → Prop) (v : Value) (l : List Str) (w : World) (h : StrsAt A w v l) : Ret Try.prog 5 #[v] w fun v w' => v = .bool true ∧ Bel w w' := by
  obtain ⟨pv, cv, rfl, -⟩ := id h
  refine ret_of_W Try.func5 rfl (Nat.le_of_ble_eq_true rfl) (res1 rfl) ?_
  have hB := Gr.refl (fun _ => False) w
  refine W.seq ?_
  refine W.region ?_
  refine L.val (x_as (v := .bool _) rfl) rfl ?_
  refine L.nil ?_
  refine thn_n ?_
  refine W.seq ?_
  refine W.seq ?_
  refine W.region ?_
  refine L.val (x_build (cells := [.int _ _, .int _ _, .int _ _, .int _ _, .pointer _, .bool _]) kwal10_si58 rfl rfl) rfl ?_
  refine L.box (cs := zeroLog) rfl rfl (fun w9 bx9 hw hz9 => ?_)
  have hB := hB.carry hw
  refine L.bs (sz := 1) (cells := [.pointer none, .pointer (some ⟨w.heap.size, 0, none⟩)]) Try.underlying59 kwal10_el52 rfl rfl rfl rfl (fun w10 bx10 hw hz10 => ?_)
  have hB := hB.carry hw; have bx9 := bx9.carry hw
  refine L.val (x_len_slice Try.underlying59 rfl) rfl ?_
  refine L.val (x_mv (v := .int _ _) rfl) rfl ?_
  refine L.nil ?_
  refine thn_n ?_
  refine W.block ?_
  refine W.loop (fun m' E w' => ∃ (k : Nat), m' = 2 - k ∧ E 0 = .slice pv l.length cv ∧ E 10 = .slice (some ⟨w9.heap.size, 0, none⟩) 2 2 ∧ E 11 = .int .i64 2 ∧ E 12 = .int .i64 (k : Nat) ∧ (k ≤ 2) ∧ (Bel w w') ∧ (Box w' w.heap.size 58 zeroLog) ∧ (Box w' w9.heap.size 52 [.pointer none, .pointer (some ⟨w.heap.size, 0, none⟩)])) (2) ?_ ?_
  ·exact ⟨0, by omega, by first | rfl | exact vi (by omega), by first | rfl | exact vi (by omega), by first | rfl | exact vi (by omega), by first | rfl | exact vi (by omega), (by first | assumption | omega | rfl), (by first | assumption | omega | rfl), (by first | assumption | omega | rfl), (by first | assumption | omega | rfl)⟩
  ·rintro _ E wL13 ⟨k, em, e0, e10, e11, e12, hk, hB, bx9, bx10⟩
   rw [upd_self e0, upd_self e10, upd_self e11, upd_self e12]
   refine W.seq ?_
   refine W.region ?_
   refine L.val (x_lss rfl rfl) rfl ?_
   refine L.nil ?_
   refine thn_n ?_
   refine W.seq ?_
   refine W.cond (b := _) rfl (fun g13 => ?_) (fun g13 => ?_)
   ·have h13 := of_decide_eq_true g13
    have hlt : k < 2 := by omega
    obtain ⟨p, hp, hc, hno⟩ : ∃ p, p = (if k = 0 then none else some (⟨w.heap.size, 0, none⟩ : Addr)) ∧ wL13.cell? ⟨w9.heap.size, 0 + k, none⟩ = some (.pointer p) ∧ NoL wL13 p := by
      refine ⟨_, rfl, ?_, ?_⟩
      · by_cases hk0 : k = 0
        · subst hk0; exact bx10.cell0 (i := 0) rfl
        · have : k = 1 := by omega
          subst this; exact bx10.cell0 (i := 1) rfl
      · by_cases hk0 : k = 0
        · exact .inl (by rw [if_pos hk0])
        · exact .inr ⟨_, by rw [if_neg hk0], bx9⟩
    refine W.skip ?_
    refine thn_n ?_
    refine W.seq ?_
    refine W.block ?_
    refine W.seq ?_
    refine W.region ?_
    refine L.val (x_ia1 (j := k) Try.underlying59 kwal10_sz52 rfl rfl (by omega) (by omega)) rfl ?_
    refine L.val (x_ld (v := .pointer _) kwal10_oc52 rfl hc) rfl ?_
    refine L.val (x_as (v := .pointer _) rfl) rfl ?_
    refine L.nil ?_
    refine thn_n ?_
    refine W.seq ?_
    refine W.region ?_
    refine L.val (x_mv (v := .pointer _) rfl) rfl ?_
    refine L.val (x_mv (v := .slice _ _ _) rfl) rfl ?_
    refine L.ret (x_call kwal10_en23 rfl) rfl (append_no p _ _ hno) ?_
    rintro v18 w18 ⟨rfl, hq⟩
    rw [hq]
    refine L.val (x_neq rfl rfl) rfl ?_
    refine L.val (x_mv (v := .bool _) rfl) rfl ?_
    refine L.splitat (dj := 20) (b := _) rfl (fun g20 => ?_) (fun g20 => ?_)
    ·have h20 := dne_t g20
     cases g20
    ·have h20 := dne_f g20
     refine L.gyes' (dj := 20) (b := _) rfl rfl g20 ?_
     refine L.val (x_mv (v := .pointer _) rfl) rfl ?_
     refine L.gyes' (dj := 20) (b := _) rfl rfl g20 ?_
     refine L.val (x_mv (v := .slice _ _ _) rfl) rfl ?_
     refine L.gyes' (dj := 20) (b := _) rfl rfl g20 ?_
     refine L.ret (x_call kwal10_en24 rfl) rfl (turn_no p _ _ hno) ?_
     rintro v23 w23 ⟨rfl, hq⟩
     rw [hq]
     refine L.gyes' (dj := 20) (b := _) rfl rfl g20 ?_
     refine L.val (x_neq rfl rfl) rfl ?_
     refine L.val (x_pick_f (v := .bool _) (congrArg Value.bool g20) rfl) rfl ?_
     refine L.val (x_mv (v := .bool _) rfl) rfl ?_
     refine L.splitat (dj := 26) (b := _) rfl (fun g26 => ?_) (fun g26 => ?_)
     ·have h26 := dne_t g26
      cases g26
     ·have h26 := dne_f g26
      refine L.gyes' (dj := 26) (b := _) rfl rfl g26 ?_
      refine L.val (x_mv (v := .pointer _) rfl) rfl ?_
      refine L.gyes' (dj := 26) (b := _) rfl rfl g26 ?_
      refine L.ret (x_call kwal10_en25 rfl) rfl (tail_no p _ hno) ?_
      rintro v28 w28 ⟨rfl, hq⟩
      rw [hq]
      refine L.gyes' (dj := 26) (b := _) rfl rfl g26 ?_
      refine L.val (x_mv (v := .pointer _) rfl) rfl ?_
      refine L.gyes' (dj := 26) (b := _) rfl rfl g26 ?_
      refine L.ret (x_call kwal10_en26 rfl) rfl (left_no p _ hno) ?_
      rintro v30 w30 ⟨rfl, hq⟩
      rw [hq]
      refine L.gyes' (dj := 26) (b := _) rfl rfl g26 ?_
      refine L.val (x_add rfl rfl (wr64 (by omega))) rfl ?_
      refine L.gyes' (dj := 26) (b := _) rfl rfl g26 ?_
      refine L.val (x_mv (v := .pointer _) rfl) rfl ?_
      refine L.gyes' (dj := 26) (b := _) rfl rfl g26 ?_
      refine L.ret (x_call kwal10_en27 rfl) rfl (epoch_no p _ hno) ?_
      rintro v33 w33 ⟨rfl, hq⟩
      rw [hq]
      refine L.gyes' (dj := 26) (b := _) rfl rfl g26 ?_
      refine L.val (x_add rfl rfl (wr64 (by omega))) rfl ?_
      refine L.gyes' (dj := 26) (b := _) rfl rfl g26 ?_
      refine L.val (x_neq rfl rfl) rfl ?_
      refine L.val (x_pick_f (v := .bool _) (congrArg Value.bool g26) rfl) rfl ?_
      refine L.nil ?_
      refine thn_n ?_
      refine W.cond (b := _) rfl (fun g35 => ?_) (fun g35 => ?_)
      ·have h35 := dne_t g35
       cases g35
      ·have h35 := dne_f g35
       refine W.skip ?_
       refine blk_n ?_
       refine thn_n ?_
       refine W.region ?_
       refine L.val (x_add rfl rfl (wr64 (by omega))) rfl ?_
       refine L.val (x_mv (v := .int _ _) rfl) rfl ?_
       refine L.nil ?_
       refine thn_n ⟨rfl, ?_⟩
       refine ⟨_, ?_, k + 1, rfl, by first | rfl | exact vi (by omega), by first | rfl | exact vi (by omega), by first | rfl | exact vi (by omega), by first | rfl | exact vi (by omega), (by first | assumption | omega | rfl), (by first | assumption | omega | rfl), (by first | assumption | omega | rfl), (by first | assumption | omega | rfl)⟩
       omega
   ·have h13 := dlt_f g13
    refine W.exit (thn_x (thn_x (blk_hit ?_)))
    refine thn_n ?_
    refine W.seq ?_
    refine W.region ?_
    refine L.val (x_build (cells := [.slice _ _ _, .slice _ _ _, .slice _ _ _, .int _ _, .int _ _, .int _ _, .int _ _, .bool _]) kwal10_si68 rfl rfl) rfl ?_
    refine L.box (cs := zeroDisk) rfl rfl (fun w40 bx40 hw hz40 => ?_)
    have hB := hB.carry hw; have bx9 := bx9.carry hw; have bx10 := bx10.carry hw
    refine L.ret (x_call kwal10_en28 rfl) rfl (open_no _ _ bx40) ?_
    rintro v41 w41 ⟨rfl, hq⟩
    rw [hq]
    refine L.val (x_mv (v := _) rfl) rfl ?_
    refine L.val (x_ext (v := .pointer _) rfl rfl) rfl ?_
    refine L.val (x_ext (v := .slice _ _ _) rfl rfl) rfl ?_
    refine L.val (x_ext (v := .int _ _) rfl rfl) rfl ?_
    refine L.val (x_as (v := .pointer _) rfl) rfl ?_
    refine L.val (x_as (v := .slice _ _ _) rfl) rfl ?_
    refine L.val (x_as (v := .int _ _) rfl) rfl ?_
    refine L.nil ?_
    refine thn_n ?_
    refine W.seq ?_
    refine W.region ?_
    refine L.val (x_mv (v := .pointer _) rfl) rfl ?_
    refine L.val (x_eqp0 Try.underlying52 rfl rfl) rfl ?_
    refine L.val (x_mv (v := .bool _) rfl) rfl ?_
    refine L.splitat (dj := 47) (b := _) rfl (fun g47 => ?_) (fun g47 => ?_)
    ·have h47 := g47
     refine L.gyes' (dj := 47) (b := _) rfl rfl g47 ?_
     refine L.val (x_mv (v := .slice _ _ _) rfl) rfl ?_
     refine L.gyes' (dj := 47) (b := _) rfl rfl g47 ?_
     refine L.val (x_len_slice Try.underlying37 rfl) rfl ?_
     refine L.gyes' (dj := 47) (b := _) rfl rfl g47 ?_
     refine L.val (x_eql rfl rfl) rfl ?_
     refine L.val (x_pick_t (v := .bool _) (congrArg Value.bool g47) rfl) rfl ?_
     refine L.val (x_mv (v := .bool _) rfl) rfl ?_
     refine L.splitat (dj := 52) (b := _) rfl (fun g52 => ?_) (fun g52 => ?_)
     ·have h52 := of_decide_eq_true g52
      refine L.gyes' (dj := 52) (b := _) rfl rfl g52 ?_
      refine L.val (x_mv (v := .int _ _) rfl) rfl ?_
      refine L.gyes' (dj := 52) (b := _) rfl rfl g52 ?_
      refine L.val (x_eql rfl rfl) rfl ?_
      refine L.val (x_pick_t (v := .bool _) (congrArg Value.bool g52) rfl) rfl ?_
      refine L.val (x_mv (v := .bool _) rfl) rfl ?_
      refine L.splitat (dj := 56) (b := _) rfl (fun g56 => ?_) (fun g56 => ?_)
      ·have h56 := of_decide_eq_true g56
       refine L.gyes' (dj := 56) (b := _) rfl rfl g56 ?_
       refine L.ret (x_call kwal10_en29 rfl) rfl (awake21 _) ?_
       rintro v57 w57 ⟨rfl, hw⟩
       have hB := hB.carry hw; have bx9 := bx9.carry hw; have bx10 := bx10.carry hw; have bx40 := bx40.carry hw
       refine L.val (x_pick_t (v := .bool _) (congrArg Value.bool g56) rfl) rfl ?_
       refine L.val (x_as (v := .bool _) rfl) rfl ?_
       refine L.nil ?_
       refine thn_n ?_
       refine W.ret (fin_mk (.inr rfl) ?_)
       exact ⟨rfl, hB⟩
      ·have h56 := of_decide_eq_false g56
       cases g56
     ·have h52 := of_decide_eq_false g52
      cases g52
    ·have h47 := g47
     cases g47
theorem law_nobody21 (A : Nat → Prop) (l : List Str) (v : Value) (w : World) (h : StrsAt A w v l) : Ret Try.prog 5 #[v] w fun v w' => v = .bool true ∧ Bel w w' := nobody21 A v l w h
end Go.Gx
namespace Go.Gx
open Go.ChangeShapes Go.WideShapes Go.Deep Go.RowKit
section
variable {H : Type} {enc : TypeId × Value → H} {P : Program}
theorem strsl_arg {tE e : TypeId} (ht : P.underlying tE = some (.slice e)) (he : P.underlying e = some .string) (hc : P.cellsOf e = 1) (hb : 2 ≤ P.bytesOf e) {W : World} {base : Nat} {v : Value} {d : DataW H} {p : List MemPlace}
    (hv : Value.okWide P W .any base tE v) (h : DataW.Trod enc P W 0 (fun _ => true) true tE v d p) (hw : (d.weights P tE).all (· ≤ reachBytes) = true) : ∃ l, StrsAt (fun _ => False) W v l := by
  obtain ⟨fuel, h⟩ := h
  have hcells : v.cells.toList = [v] := by
    unfold Value.okWide at hv
    rw [ht] at hv
    cases v <;> simp_all [Value.cells, Cell.okWide, Cell.ok]
  rw [hcells] at h
  exact strs_open ht he hc hb h hw
end
end Go.Gx
