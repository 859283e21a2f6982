/- Logs: the answers that the document fixes. Conditions: none. -/
import Derived.Test.YtnhbjfkeeegdgaaCiWal8
namespace Go.Gx
open Go.Proofs
theorem kwal9_el9 : elT Try.prog 9 1 = true := by kernel_rfl
theorem kwal9_en21 : Go.Proofs.Enters Try.prog 21 := Go.Proofs.enters_of Try.func21 (by kernel_rfl) rfl
theorem kwal9_en23 : Go.Proofs.Enters Try.prog 23 := Go.Proofs.enters_of Try.func23 (by kernel_rfl) rfl
theorem kwal9_en24 : Go.Proofs.Enters Try.prog 24 := Go.Proofs.enters_of Try.func24 (by kernel_rfl) rfl
theorem kwal9_en25 : Go.Proofs.Enters Try.prog 25 := Go.Proofs.enters_of Try.func25 (by kernel_rfl) rfl
theorem kwal9_en26 : Go.Proofs.Enters Try.prog 26 := Go.Proofs.enters_of Try.func26 (by kernel_rfl) rfl
theorem kwal9_en27 : Go.Proofs.Enters Try.prog 27 := Go.Proofs.enters_of Try.func27 (by kernel_rfl) rfl
theorem kwal9_en28 : Go.Proofs.Enters Try.prog 28 := Go.Proofs.enters_of Try.func28 (by kernel_rfl) rfl
theorem kwal9_en31 : Go.Proofs.Enters Try.prog 31 := Go.Proofs.enters_of Try.func31 (by kernel_rfl) rfl
theorem kwal9_mixed : Try.prog.follows .mixedOrders = true := by kernel_rfl
theorem kwal9_oc9 : oneCellT Try.prog 9 = true := by kernel_rfl
theorem kwal9_sz9 : (Try.prog.info? 9).map (·.size) = some 1 := by kernel_rfl
theorem same21 (A B : Nat → Prop) (v u : Value) (l m : List Str) (w : World) (h : StrsAt A w v l) (h' : StrsAt B w u m) :
    Ret Try.prog 21 #[v, u] w fun r w' => r = .bool (decide (l = m)) ∧ Bel w w' := by
  obtain ⟨pl, cl, rfl, a1, a2, a3, a4, -⟩ := id h
  obtain ⟨pm, cm, rfl, b1, b2, b3, b4, -⟩ := id h'
  refine ret_of_W Try.func21 rfl (Nat.le_of_ble_eq_true rfl) (res1 rfl) ?_
  have hB := Gr.refl (fun _ => False) w
  refine W.seq ?_
  refine W.region ?_
  refine L.val (x_as (v := .bool _) rfl) rfl ?_
  refine L.nil ?_
  refine thn_n ?_
  refine W.seq ?_
  refine W.seq ?_
  refine W.region ?_
  refine L.val (x_mv (v := .slice _ _ _) rfl) rfl ?_
  refine L.val (x_len_slice Try.underlying37 rfl) rfl ?_
  refine L.val (x_mv (v := .slice _ _ _) rfl) rfl ?_
  refine L.val (x_len_slice Try.underlying37 rfl) rfl ?_
  refine L.val (x_neq rfl rfl) rfl ?_
  refine L.nil ?_
  refine thn_n ?_
  refine W.cond (b := _) rfl (fun g10 => ?_) (fun g10 => ?_)
  ·have h10 := dne_t g10
   have hne : ¬ l = m := fun e => by rw [e] at h10; exact h10 rfl
   refine W.seq ?_
   refine W.region ?_
   refine L.val (x_as (v := .bool _) rfl) rfl ?_
   refine L.nil ?_
   refine thn_n ?_
   refine W.ret (thn_r (fin_mk (.inr rfl) ?_))
   rw [decide_eq_false hne]; exact ⟨rfl, hB⟩
  ·have h10 := dne_f g10
   have hlm : l.length = m.length := by omega
   refine W.skip ?_
   refine thn_n ?_
   refine W.seq ?_
   refine W.seq ?_
   refine W.region ?_
   refine L.val (x_as (v := .int _ _) rfl) rfl ?_
   refine L.nil ?_
   refine thn_n ?_
   refine W.block ?_
   refine W.loop (fun m' E w' => ∃ (k : Nat), m' = l.length - k ∧ E 0 = .slice pl l.length cl ∧ E 1 = .slice pm m.length cm ∧ E 5 = .int .i64 (k : Nat) ∧ (k ≤ l.length) ∧ (Bel w w') ∧ (StrsAt A w' (.slice pl l.length cl) l) ∧ (StrsAt B w' (.slice pm m.length cm) m) ∧ (l.take k = m.take k)) (l.length) ?_ ?_
   ·exact ⟨0, by omega, by first | rfl | exact vi (by omega), by first | rfl | exact vi (by omega), by first | rfl | exact vi (by omega), (by first | assumption | omega | rfl), (by first | assumption | omega | rfl), (by first | assumption | omega | rfl), (by first | assumption | omega | rfl), (by rfl)⟩
   ·rintro _ E wL11 ⟨k, em, e0, e1, e5, hk, hB, h, h', heq⟩
    rw [upd_self e0, upd_self e1, upd_self e5]
    refine W.seq ?_
    refine W.seq ?_
    refine W.region ?_
    refine L.val (x_mv (v := .int _ _) rfl) rfl ?_
    refine L.val (x_mv (v := .slice _ _ _) rfl) rfl ?_
    refine L.val (x_len_slice Try.underlying37 rfl) rfl ?_
    refine L.val (x_lss rfl rfl) rfl ?_
    refine L.nil ?_
    refine thn_n ?_
    refine W.cond (b := _) rfl (fun g14 => ?_) (fun g14 => ?_)
    ·have h14 := of_decide_eq_true g14
     have hlt : k < l.length := by omega
     have hlt2 : k < m.length := by omega
     obtain ⟨bl, ol, rfl, hc⟩ := h.elem hlt
     obtain ⟨bm, om, rfl, hc'⟩ := h'.elem hlt2
     refine W.skip ?_
     refine thn_n ?_
     refine W.seq ?_
     refine W.block ?_
     refine W.seq ?_
     refine W.drawB kwal9_mixed (by kernel_rfl) ?_
     refine LQ.val (fun w hw => x_mv (v := .slice _ _ _) rfl) rfl ?_
     refine LQ.val (fun w hw => x_mv (v := .int _ _) rfl) rfl ?_
     refine LQ.val (fun w hw => x_ia1 (j := k) Try.underlying37 kwal9_sz9 rfl rfl (by omega) (by omega)) rfl ?_
     refine LQ.val (fun w hw => x_ld (v := S _) kwal9_oc9 rfl (hw.keep hc)) rfl ?_
     refine LQ.val (fun w hw => x_mv (v := .slice _ _ _) rfl) rfl ?_
     refine LQ.val (fun w hw => x_mv (v := .int _ _) rfl) rfl ?_
     refine LQ.val (fun w hw => x_ia1 (j := k) Try.underlying37 kwal9_sz9 rfl rfl (by omega) (by omega)) rfl ?_
     refine LQ.val (fun w hw => x_ld (v := S _) kwal9_oc9 rfl (hw.keep hc')) rfl ?_
     refine LQ.val (fun w hw => x_nes rfl rfl) rfl ?_
     refine LQ.nil ?_
     intro w17 hw
     have hB := hB.carry hw; have h := h.carry hw; have h' := h'.carry hw
     refine thn_n ?_
     refine W.cond (b := _) rfl (fun g25 => ?_) (fun g25 => ?_)
     ·have h25 := sne_t g25
      have hne : ¬ l = m := fun e => h25 (by rw [e])
      refine W.seq ?_
      refine W.region ?_
      refine L.val (x_as (v := .bool _) rfl) rfl ?_
      refine L.nil ?_
      refine thn_n ?_
      refine W.ret (blk_r (thn_r (thn_r (blk_r (thn_r (fin_mk (.inr rfl) ?_))))))
      rw [decide_eq_false hne]; exact ⟨rfl, hB⟩
     ·have h25 := sne_f g25
      have he25 : l.getD k [] = m.getD k [] := h25
      refine W.skip ?_
      refine blk_n ?_
      refine thn_n ?_
      refine W.region ?_
      refine L.val (x_mv (v := .int _ _) rfl) rfl ?_
      refine L.val (x_add rfl rfl (wr64 (by omega))) rfl ?_
      refine L.val (x_as (v := .int _ _) rfl) rfl ?_
      refine L.nil ?_
      refine thn_n ⟨rfl, ?_⟩
      refine ⟨_, ?_, k + 1, rfl, by first | rfl | exact vi (by omega), by first | rfl | exact vi (by omega), by first | rfl | exact vi (by omega), (by first | assumption | omega | rfl), (by first | assumption | omega | rfl), (by first | assumption | omega | rfl), (by first | assumption | omega | rfl), (by rw [take_snoc (d := []) hlt, take_snoc (d := []) hlt2, heq, he25])⟩
      omega
    ·have h14 := dlt_f g14
     refine W.exit (thn_x (thn_x (blk_hit ?_)))
     refine thn_n ?_
     refine W.seq ?_
     refine W.region ?_
     refine L.val (x_as (v := .bool _) rfl) rfl ?_
     refine L.nil ?_
     refine thn_n ?_
     refine W.ret (fin_mk (.inr rfl) ?_)
     have hh : l = m := by
       have e1 : l.take k = l := by rw [show k = l.length by omega, List.take_length]
       have e2 : m.take k = m := by rw [show k = m.length by omega, List.take_length]
       rw [← e1, heq, e2]
     rw [decide_eq_true hh]; exact ⟨rfl, hB⟩
theorem x_nep0 {E : Env} {w : World} {P : Program} {x y : Operand} {t u z e : TypeId} {p : Option Addr} (hu : P.underlying u = some (.pointer e)) (hx : ev E x = .pointer p) (hy : ev E y = .pointer none) : X P (.binOp .neq u x y z) t E w (.bool (!p.isNone)) w := by
  unfold X
  have h0 : ∀ d : Nat, (Op.equalIn (d + 1) u (.pointer p) (.pointer none)).run P w = .ok p.isNone w := fun d => by cases p <;> simp [Op.equalIn, run_underlying hu]
  have h1 := h0 9999
  have h2 : (binOp .neq u (.pointer p) (.pointer none)).run P w = .ok (.bool (!p.isNone)) w := by
    simp only [binOp]
    simp [show Op.equal u (.pointer p) (.pointer none) = Op.equalIn (9999 + 1) u (.pointer p) (.pointer none) from rfl, h1]
  have hg : ∀ d : Nat, (Op.eqGuardIn (d + 1) u (.pointer p) (.pointer none)).run P w = .ok false w := fun d => by simp [Op.eqGuardIn, run_underlying hu]
  simp [execOp, hx, hy, eqGuard, h2]
def lab : List Str := [[97], [98]]
def lc : List Str := [[99]]
def lz : List Str := [[122]]
def dA0 : Dk := newD 6
def aA1 : Int × Dk × Pt := appA dA0 pt0 lab
def aA2 : Int × Dk × Pt := appA aA1.2.1 aA1.2.2 lc
def aA3 : Int × Dk × Pt := turnA aA2.2.1 aA2.2.2 lz
theorem aw0 : openA dA0 = (0, pt0, []) := by decide +kernel
theorem aw1 : aA1.1 = 0 := by decide +kernel
theorem aw2 : aA2.1 = 0 := by decide +kernel
theorem aw3 : openA aA2.2.1 = (0, aA2.2.2, lab ++ lc) := by decide +kernel
theorem aw4 : aA2.2.2.ep = 2 ∧ aA2.2.2.tail = 18 := by decide +kernel
theorem aw5 : aA3.1 = 0 := by decide +kernel
theorem aw6 : aA3.2.2.tail = 6 ∧ aA3.2.1.pl.length = 6 := by decide +kernel
theorem q0 : QOk dA0 pt0 := ⟨by decide +kernel, rfl, rfl, rfl, by decide +kernel, by decide +kernel, by decide +kernel, by decide +kernel, by decide +kernel⟩
theorem q1 : QOk aA1.2.1 aA1.2.2 := ⟨by decide +kernel, by decide +kernel, by decide +kernel, by decide +kernel, by decide +kernel, by decide +kernel, by decide +kernel, by decide +kernel, by decide +kernel⟩
theorem q2 : QOk aA2.2.1 aA2.2.2 := ⟨by decide +kernel, by decide +kernel, by decide +kernel, by decide +kernel, by decide +kernel, by decide +kernel, by decide +kernel, by decide +kernel, by decide +kernel⟩
theorem LogAt.le {n0 n1 bl b : Nat} {w : World} {p : Pt} (h : LogAt n1 w bl b p) (hn : n0 ≤ n1) : LogAt n0 w bl b p := ⟨Nat.le_trans hn h.1, h.2⟩
theorem strs_new {w : World} {b : Nat} (l : List Str) (h : Box w b 9 (l.map S)) (hl : l.length ≤ 70368744177664) (hx : ∀ x ∈ l, x.length ≤ 9223372036854775807) : StrsAt (fun _ => False) w (.slice (some ⟨b, 0, none⟩) l.length l.length) l := strs_of_box l h (fun f => f) hl hx
theorem awake21 (w : World) : Ret Try.prog 29 #[] w fun v w' => v = .bool true ∧ Bel w w' := by
  refine ret_of_W Try.func29 rfl (Nat.le_of_ble_eq_true rfl) (res1 rfl) ?_
  have hB := Gr.refl (fun _ => False) w
  refine W.seq ?_
  refine W.region ?_
  refine L.val (x_as (v := .bool _) rfl) rfl ?_
  refine L.nil ?_
  refine thn_n ?_
  refine W.seq ?_
  refine W.region ?_
  refine L.ret (x_call kwal9_en31 rfl) rfl (newdisk_ok 6 (by decide) _) ?_
  rintro _ w8 ⟨b, rfl, h, hw⟩
  have hB := hB.carry hw
  refine L.val (x_mv (v := _) rfl) rfl ?_
  refine L.val (x_ext (v := .pointer _) rfl rfl) rfl ?_
  refine L.val (x_ext (v := .int _ _) rfl rfl) rfl ?_
  refine L.val (x_as (v := .pointer _) rfl) rfl ?_
  refine L.val (x_as (v := .int _ _) rfl) rfl ?_
  refine L.nil ?_
  refine thn_n ?_
  refine W.seq ?_
  refine W.region ?_
  have hs8 := hB.size
  refine L.val (x_mv (v := .pointer _) rfl) rfl ?_
  refine L.ret (x_call kwal9_en28 rfl) rfl (open_w w.heap.size b dA0 _ h rfl (by decide)) ?_
  rintro v13 w13 ⟨hw, hr⟩
  have hB := hB.carry hw; have h := h.carry hw
  rw [aw0] at hr
  obtain ⟨-, bl, u, rfl, hl, hU⟩ := hr.resolve_left (fun e => e.1 rfl)
  obtain ⟨pu, cu, rfl, -⟩ := id hU
  have hl : LogAt w.heap.size w13 bl b pt0 := hl.le hs8
  have hs13 := hB.size
  refine L.val (x_mv (v := _) rfl) rfl ?_
  refine L.val (x_ext (v := .pointer _) rfl rfl) rfl ?_
  refine L.val (x_ext (v := .slice _ _ _) rfl rfl) rfl ?_
  refine L.val (x_ext (v := .int _ _) rfl rfl) rfl ?_
  refine L.val (x_as (v := .pointer _) rfl) rfl ?_
  refine L.val (x_as (v := .slice _ _ _) rfl) rfl ?_
  refine L.val (x_as (v := .int _ _) rfl) rfl ?_
  refine L.nil ?_
  refine thn_n ?_
  refine W.seq ?_
  refine W.seq ?_
  refine W.region ?_
  refine L.val (x_mv (v := .int _ _) rfl) rfl ?_
  refine L.val (x_neq rfl rfl) rfl ?_
  refine L.val (x_mv (v := .bool _) rfl) rfl ?_
  refine L.splitat (dj := 19) (b := _) rfl (fun g19 => ?_) (fun g19 => ?_)
  ·have h19 := dne_t g19
   cases g19
  ·have h19 := dne_f g19
   refine L.gyes' (dj := 19) (b := _) rfl rfl g19 ?_
   refine L.val (x_mv (v := .int _ _) rfl) rfl ?_
   refine L.gyes' (dj := 19) (b := _) rfl rfl g19 ?_
   refine L.val (x_neq rfl rfl) rfl ?_
   refine L.val (x_pick_f (v := .bool _) (congrArg Value.bool g19) rfl) rfl ?_
   refine L.val (x_mv (v := .bool _) rfl) rfl ?_
   refine L.splitat (dj := 23) (b := _) rfl (fun g23 => ?_) (fun g23 => ?_)
   ·have h23 := dne_t g23
    cases g23
   ·have h23 := dne_f g23
    refine L.gyes' (dj := 23) (b := _) rfl rfl g23 ?_
    refine L.val (x_mv (v := .pointer _) rfl) rfl ?_
    refine L.gyes' (dj := 23) (b := _) rfl rfl g23 ?_
    refine L.val (x_eqp0 Try.underlying52 rfl rfl) rfl ?_
    refine L.val (x_pick_f (v := .bool _) (congrArg Value.bool g23) rfl) rfl ?_
    refine L.val (x_mv (v := .bool _) rfl) rfl ?_
    refine L.splitat (dj := 27) (b := _) rfl (fun g27 => ?_) (fun g27 => ?_)
    ·have h27 := g27
     cases g27
    ·have h27 := g27
     refine L.gyes' (dj := 27) (b := _) rfl rfl g27 ?_
     refine L.val (x_mv (v := .slice _ _ _) rfl) rfl ?_
     refine L.gyes' (dj := 27) (b := _) rfl rfl g27 ?_
     refine L.val (x_len_slice Try.underlying37 rfl) rfl ?_
     refine L.gyes' (dj := 27) (b := _) rfl rfl g27 ?_
     refine L.val (x_neq rfl rfl) rfl ?_
     refine L.val (x_pick_f (v := .bool _) (congrArg Value.bool g27) rfl) rfl ?_
     refine L.val (x_mv (v := .bool _) rfl) rfl ?_
     refine L.splitat (dj := 32) (b := _) rfl (fun g32 => ?_) (fun g32 => ?_)
     ·have h32 := dne_t g32
      cases g32
     ·have h32 := dne_f g32
      refine L.gyes' (dj := 32) (b := _) rfl rfl g32 ?_
      refine L.val (x_mv (v := .pointer _) rfl) rfl ?_
      refine L.gyes' (dj := 32) (b := _) rfl rfl g32 ?_
      refine L.bs (sz := 1) (cells := [S [97], S [98]]) Try.underlying37 kwal9_el9 rfl rfl rfl rfl (fun w34 bx34 hw hz34 => ?_)
      have hB := hB.carry hw; have h := h.carry hw; have hl := hl.carry hw
      refine L.gyes' (dj := 32) (b := _) rfl rfl g32 ?_
      refine L.ret (x_call kwal9_en23 rfl) rfl (append_w w.heap.size bl b (fun _ => False) _ lab dA0 pt0 _ h hl q0 (strs_new lab bx34 (by decide) (by decide)) hB.size (by decide)) ?_
      rintro v35 w35 ⟨rfl, h35, hl35, hg35⟩
      have hB := hg35.bel hB
      have h : DiskAt w.heap.size w35 b aA1.2.1 := h35
      have hl : LogAt w.heap.size w35 bl b aA1.2.2 := hl35
      rw [show (appA dA0 pt0 lab).1 = 0 from aw1]
      refine L.gyes' (dj := 32) (b := _) rfl rfl g32 ?_
      refine L.val (x_neq rfl rfl) rfl ?_
      refine L.val (x_pick_f (v := .bool _) (congrArg Value.bool g32) rfl) rfl ?_
      refine L.val (x_mv (v := .bool _) rfl) rfl ?_
      refine L.splitat (dj := 38) (b := _) rfl (fun g38 => ?_) (fun g38 => ?_)
      ·have h38 := dne_t g38
       cases g38
      ·have h38 := dne_f g38
       refine L.gyes' (dj := 38) (b := _) rfl rfl g38 ?_
       refine L.val (x_mv (v := .pointer _) rfl) rfl ?_
       refine L.gyes' (dj := 38) (b := _) rfl rfl g38 ?_
       refine L.bs (sz := 1) (cells := [S [99]]) Try.underlying37 kwal9_el9 rfl rfl rfl rfl (fun w40 bx40 hw hz40 => ?_)
       have hB := hB.carry hw; have h := h.carry hw; have hl := hl.carry hw
       refine L.gyes' (dj := 38) (b := _) rfl rfl g38 ?_
       refine L.ret (x_call kwal9_en23 rfl) rfl (append_w w.heap.size bl b (fun _ => False) _ lc _ _ _ h hl q1 (strs_new lc bx40 (by decide) (by decide)) hB.size (by decide)) ?_
       rintro v41 w41 ⟨rfl, h41, hl41, hg41⟩
       have hB := hg41.bel hB
       have h : DiskAt w.heap.size w41 b aA2.2.1 := h41
       have hl : LogAt w.heap.size w41 bl b aA2.2.2 := hl41
       rw [show (appA aA1.2.1 aA1.2.2 lc).1 = 0 from aw2]
       refine L.gyes' (dj := 38) (b := _) rfl rfl g38 ?_
       refine L.val (x_neq rfl rfl) rfl ?_
       refine L.val (x_pick_f (v := .bool _) (congrArg Value.bool g38) rfl) rfl ?_
       refine L.nil ?_
       refine thn_n ?_
       refine W.cond (b := _) rfl (fun g42 => ?_) (fun g42 => ?_)
       ·have h42 := dne_t g42
        cases g42
       ·have h42 := dne_f g42
        refine W.skip ?_
        refine thn_n ?_
        refine W.seq ?_
        refine W.region ?_
        have hs45 := hB.size
        refine L.val (x_mv (v := .pointer _) rfl) rfl ?_
        refine L.ret (x_call kwal9_en28 rfl) rfl (open_w w.heap.size b aA2.2.1 _ h (by decide +kernel) (by decide +kernel)) ?_
        rintro v46 w46 ⟨hw, hr⟩
        have hB := hB.carry hw; have h := h.carry hw
        rw [aw3] at hr
        obtain ⟨-, bl2, u2, rfl, hl, hU⟩ := hr.resolve_left (fun e => e.1 rfl)
        obtain ⟨pu2, cu2, rfl, -⟩ := id hU
        have hU : StrsAt _ w46 _ (lab ++ lc) := hU
        have hl : LogAt w.heap.size w46 bl2 b aA2.2.2 := hl.le hs45
        refine L.val (x_mv (v := _) rfl) rfl ?_
        refine L.val (x_ext (v := .pointer _) rfl rfl) rfl ?_
        refine L.val (x_ext (v := .slice _ _ _) rfl rfl) rfl ?_
        refine L.val (x_ext (v := .int _ _) rfl rfl) rfl ?_
        refine L.val (x_as (v := .pointer _) rfl) rfl ?_
        refine L.val (x_as (v := .slice _ _ _) rfl) rfl ?_
        refine L.val (x_as (v := .int _ _) rfl) rfl ?_
        refine L.nil ?_
        refine thn_n ?_
        refine W.seq ?_
        refine W.region ?_
        refine L.val (x_mv (v := .int _ _) rfl) rfl ?_
        refine L.val (x_eql rfl rfl) rfl ?_
        refine L.val (x_mv (v := .bool _) rfl) rfl ?_
        refine L.splitat (dj := 52) (b := _) rfl (fun g52 => ?_) (fun g52 => ?_)
        ·have h52 := of_decide_eq_true g52
         refine L.gyes' (dj := 52) (b := _) rfl rfl g52 ?_
         refine L.val (x_mv (v := .pointer _) rfl) rfl ?_
         refine L.gyes' (dj := 52) (b := _) rfl rfl g52 ?_
         refine L.val (x_nep0 Try.underlying52 rfl rfl) rfl ?_
         refine L.val (x_pick_t (v := .bool _) (congrArg Value.bool g52) rfl) rfl ?_
         refine L.val (x_mv (v := .bool _) rfl) rfl ?_
         refine L.splitat (dj := 56) (b := _) rfl (fun g56 => ?_) (fun g56 => ?_)
         ·have h56 := g56
          refine L.gyes' (dj := 56) (b := _) rfl rfl g56 ?_
          refine L.val (x_mv (v := .slice _ _ _) rfl) rfl ?_
          refine L.gyes' (dj := 56) (b := _) rfl rfl g56 ?_
          refine L.bs (sz := 1) (cells := [S [97], S [98], S [99]]) Try.underlying37 kwal9_el9 rfl rfl rfl rfl (fun w58 bx58 hw hz58 => ?_)
          have hB := hB.carry hw; have h := h.carry hw; have hl := hl.carry hw; have hU := hU.carry hw
          refine L.gyes' (dj := 56) (b := _) rfl rfl g56 ?_
          refine L.ret (x_call kwal9_en21 rfl) rfl (same21 _ _ _ _ _ (lab ++ lc) _ hU (strs_new (lab ++ lc) bx58 (by decide) (by decide))) ?_
          rintro v59 w59 ⟨rfl, hw⟩
          have hB := hB.carry hw; have h := h.carry hw; have hl := hl.carry hw; have hU := hU.carry hw; have bx58 := bx58.carry hw
          refine L.val (x_pick_t (v := .bool _) (congrArg Value.bool g56) rfl) rfl ?_
          refine L.val (x_mv (v := .bool _) rfl) rfl ?_
          refine L.splitat (dj := 61) (b := _) rfl (fun g61 => ?_) (fun g61 => ?_)
          ·have h61 := g61
           refine L.gyes' (dj := 61) (b := _) rfl rfl g61 ?_
           refine L.val (x_mv (v := .pointer _) rfl) rfl ?_
           refine L.gyes' (dj := 61) (b := _) rfl rfl g61 ?_
           refine L.ret (x_call kwal9_en27 rfl) rfl (epoch_w _ _ _ _ _ hl (by rw [aw4.1]; decide)) ?_
           rintro v63 w63 ⟨rfl, hq⟩
           rw [hq, aw4.1]
           refine L.gyes' (dj := 61) (b := _) rfl rfl g61 ?_
           refine L.val (x_eql rfl rfl) rfl ?_
           refine L.val (x_pick_t (v := .bool _) (congrArg Value.bool g61) rfl) rfl ?_
           refine L.val (x_mv (v := .bool _) rfl) rfl ?_
           refine L.splitat (dj := 66) (b := _) rfl (fun g66 => ?_) (fun g66 => ?_)
           ·have h66 := of_decide_eq_true g66
            refine L.gyes' (dj := 66) (b := _) rfl rfl g66 ?_
            refine L.val (x_mv (v := .pointer _) rfl) rfl ?_
            refine L.gyes' (dj := 66) (b := _) rfl rfl g66 ?_
            refine L.ret (x_call kwal9_en25 rfl) rfl (tail_w _ _ _ _ _ hl) ?_
            rintro v68 w68 ⟨rfl, hq⟩
            rw [hq, aw4.2]
            refine L.gyes' (dj := 66) (b := _) rfl rfl g66 ?_
            refine L.val (x_eql rfl rfl) rfl ?_
            refine L.val (x_pick_t (v := .bool _) (congrArg Value.bool g66) rfl) rfl ?_
            refine L.val (x_mv (v := .bool _) rfl) rfl ?_
            refine L.splitat (dj := 71) (b := _) rfl (fun g71 => ?_) (fun g71 => ?_)
            ·have h71 := of_decide_eq_true g71
             refine L.gyes' (dj := 71) (b := _) rfl rfl g71 ?_
             refine L.val (x_mv (v := .pointer _) rfl) rfl ?_
             refine L.gyes' (dj := 71) (b := _) rfl rfl g71 ?_
             refine L.bs (sz := 1) (cells := [S [122]]) Try.underlying37 kwal9_el9 rfl rfl rfl rfl (fun w73 bx73 hw hz73 => ?_)
             have hB := hB.carry hw; have h := h.carry hw; have hl := hl.carry hw
             refine L.gyes' (dj := 71) (b := _) rfl rfl g71 ?_
             refine L.ret (x_call kwal9_en24 rfl) rfl (turn_w w.heap.size bl2 b (fun _ => False) _ lz _ _ _ h hl q2 (strs_new lz bx73 (by decide) (by decide)) hB.size (by decide)) ?_
             rintro v74 w74 ⟨rfl, h74, hl74, hg74⟩
             have hB := hg74.bel hB
             have h : DiskAt w.heap.size w74 b aA3.2.1 := h74
             have hl : LogAt w.heap.size w74 bl2 b aA3.2.2 := hl74
             rw [show (turnA aA2.2.1 aA2.2.2 lz).1 = 0 from aw5]
             refine L.gyes' (dj := 71) (b := _) rfl rfl g71 ?_
             refine L.val (x_eql rfl rfl) rfl ?_
             refine L.val (x_pick_t (v := .bool _) (congrArg Value.bool g71) rfl) rfl ?_
             refine L.val (x_mv (v := .bool _) rfl) rfl ?_
             refine L.splitat (dj := 77) (b := _) rfl (fun g77 => ?_) (fun g77 => ?_)
             ·have h77 := of_decide_eq_true g77
              refine L.gyes' (dj := 77) (b := _) rfl rfl g77 ?_
              refine L.val (x_mv (v := .pointer _) rfl) rfl ?_
              refine L.gyes' (dj := 77) (b := _) rfl rfl g77 ?_
              refine L.ret (x_call kwal9_en26 rfl) rfl (leftL_w _ _ _ _ _ _ h hl (by rw [aw6.2]; decide) (by rw [aw6.1]; decide)) ?_
              rintro v79 w79 ⟨rfl, hw⟩
              have hB := hB.carry hw; have h := h.carry hw; have hl := hl.carry hw
              rw [aw6.1, aw6.2]
              refine L.gyes' (dj := 77) (b := _) rfl rfl g77 ?_
              refine L.val (x_eql rfl rfl) rfl ?_
              refine L.val (x_pick_t (v := .bool _) (congrArg Value.bool g77) rfl) rfl ?_
              refine L.val (x_as (v := .bool _) rfl) rfl ?_
              refine L.nil ?_
              refine thn_n ?_
              refine W.ret (fin_mk (.inr rfl) ?_)
              exact ⟨rfl, hB⟩
             ·have h77 := of_decide_eq_false g77
              cases g77
            ·have h71 := of_decide_eq_false g71
             cases g71
           ·have h66 := of_decide_eq_false g66
            cases g66
          ·have h61 := g61
           exact absurd g61 (by decide)
         ·have h56 := g56
          cases g56
        ·have h52 := of_decide_eq_false g52
         cases g52
end Go.Gx
namespace Go.Gx
open Go.Proofs
def NoL (w : World) (p : Option Addr) : Prop := p = none ∨ ∃ b, p = some ⟨b, 0, none⟩ ∧ Box w b 58 zeroLog
theorem NoL.carry {w w' : World} {p : Option Addr} (h : NoL w p) (g : Bel w w') : NoL w' p := by
  rcases h with h | ⟨b, h1, h2⟩
  · exact .inl h
  · exact .inr ⟨b, h1, h2.carry g⟩
end Go.Gx
namespace Go.Gx
open Go.Proofs
theorem kwal11_en23 : Go.Proofs.Enters Try.prog 23 := Go.Proofs.enters_of Try.func23 (by kernel_rfl) rfl
theorem kwal11_en24 : Go.Proofs.Enters Try.prog 24 := Go.Proofs.enters_of Try.func24 (by kernel_rfl) rfl
theorem kwal11_fo76_0 : fieldOff Try.prog 76 0 = some 0 := by kernel_rfl
theorem kwal11_fo76_1 : fieldOff Try.prog 76 1 = some 1 := by kernel_rfl
theorem kwal11_oc3 : oneCellT Try.prog 3 = true := by kernel_rfl
theorem kwal11_oc37 : oneCellT Try.prog 37 = true := by kernel_rfl
theorem kwal11_oc9 : oneCellT Try.prog 9 = true := by kernel_rfl
theorem kwal11_sz76 : (Try.prog.info? 76).map (·.size) = some 6 := by kernel_rfl
theorem kwal11_sz9 : (Try.prog.info? 9).map (·.size) = some 1 := by kernel_rfl
def BlsAt (A : Nat → Prop) (w : World) (v : Value) (l : List Bool) : Prop := ∃ p cap, v = .slice p l.length cap ∧ l.length ≤ cap ∧ cap ≤ 9223372036854775807 ∧ l.length ≤ 140737488355328 ∧
  (l ≠ [] → ∃ b o, p = some ⟨b, o, none⟩ ∧ ¬ A b ∧ ∀ i, i < l.length → w.cell? ⟨b, o + i, none⟩ = some (.bool (l.getD i false)))
theorem BlsAt.one {A : Nat → Prop} {w : World} {v : Value} {l : List Bool} (h : BlsAt A w v l) : v.oneCell' = true := by obtain ⟨_, _, rfl, -⟩ := h; rfl
theorem BlsAt.move {A A' : Nat → Prop} {w w' : World} {v : Value} {l : List Bool} (hc : ∀ (a : Addr) v, ¬ A a.block → w.cell? a = some v → w'.cell? a = some v ∧ ¬ A' a.block) (h : BlsAt A w v l) : BlsAt A' w' v l := by
  obtain ⟨p, cap, e, a1, a2, a3, a4⟩ := h
  refine ⟨p, cap, e, a1, a2, a3, fun hl => ?_⟩
  obtain ⟨b, o, hp, hA, hcell⟩ := a4 hl
  have h0 := hc _ _ hA (hcell 0 (List.length_pos_iff.2 hl))
  exact ⟨b, o, hp, h0.2, fun i hi => (hc _ _ hA (hcell i hi)).1⟩
structure Wc where
  kind : Int
  bods : List Str
  at' : Int
  keep : List Bool
  torn : Int
  cut : Int
instance : Inhabited Wc := ⟨⟨0, [], 0, [], 0, 0⟩⟩
def wcV (a : Wc) (vb vk : Value) : List Value := [.int .i64 a.kind, vb, .int .i64 a.at', vk, .int .i64 a.torn, .int .i64 a.cut]
def WcC (A : Nat → Prop) (w : World) (cs : List Value) (a : Wc) : Prop := ∃ vb vk, cs = wcV a vb vk ∧ StrsAt A w vb a.bods ∧ BlsAt A w vk a.keep ∧ ∀ s ∈ a.bods, s.length ≤ 140737488355328
instance car_wc : Car WcC 6 where
  pos := by omega
  len := fun ⟨_, _, h, _⟩ => by rw [h]; rfl
  one := fun ⟨vb, vk, h, h1, h2, _⟩ => by
    rw [h]; intro v hv
    simp only [wcV, List.mem_cons, List.not_mem_nil, or_false] at hv
    rcases hv with rfl | rfl | rfl | rfl | rfl | rfl
    · rfl
    · exact h1.one
    · rfl
    · exact h2.one
    · rfl
    · rfl
  move := fun hc ⟨vb, vk, h, h1, h2, h3⟩ => ⟨vb, vk, h, by
    obtain ⟨p, cap, e, a1, a2, a3, a4, a5⟩ := h1
    refine ⟨p, cap, e, a1, a2, a3, a4, fun hl => ?_⟩
    obtain ⟨b, o, hp, hA, hcell⟩ := a5 hl
    have h0 := hc _ _ hA (hcell 0 (List.length_pos_iff.2 hl))
    exact ⟨b, o, hp, h0.2, fun i hi => (hc _ _ hA (hcell i hi)).1⟩, h2.move hc, h3⟩
abbrev WcsAt (A : Nat → Prop) (w : World) (v : Value) (l : List Wc) : Prop := RecsAt WcC 6 A w v l
def costB (l : List Str) : Nat := (l.map fun s => min s.length 30000 + 10).sum
def costW (l : List Wc) : Nat := (l.map fun a => 100 + costB a.bods).sum
def fewA (l : List Wc) : Bool := decide (costW l ≤ 60000)
theorem costB_take {l : List Str} {k : Nat} (h : k < l.length) : costB (l.take (k + 1)) = costB (l.take k) + (min (l.getD k []).length 30000 + 10) := by
  unfold costB
  rw [take_snoc (d := []) h, List.map_append, List.sum_append]; simp
theorem costW_take {l : List Wc} {k : Nat} (h : k < l.length) : costW (l.take (k + 1)) = costW (l.take k) + (100 + costB (l.getD k default).bods) := by
  unfold costW
  rw [take_snoc (d := default) h, List.map_append, List.sum_append]; simp
theorem costB_le (l : List Str) (k : Nat) : costB (l.take k) ≤ costB l := by
  unfold costB
  conv => rhs; rw [← List.take_append_drop k l, List.map_append, List.sum_append]
  omega
theorem costW_le (l : List Wc) (k : Nat) : costW (l.take k) ≤ costW l := by
  unfold costW
  conv => rhs; rw [← List.take_append_drop k l, List.map_append, List.sum_append]
  omega
theorem few21 (A : Nat → Prop) (v : Value) (l : List Wc) (w : World) (h : WcsAt A w v l) : Ret Try.prog 30 #[v] w fun v w' => v = .bool (fewA l) ∧ w' = w := by
  obtain ⟨pv, cv, row, rfl, h1, h2, h3, hR⟩ := id h
  refine ret_of_W Try.func30 rfl (Nat.le_of_ble_eq_true rfl) (res1 rfl) ?_
  refine W.seq ?_
  refine W.region ?_
  refine L.val (x_as (v := .bool _) rfl) rfl ?_
  refine L.nil ?_
  refine thn_n ?_
  refine W.seq ?_
  refine W.region ?_
  refine L.val (x_as (v := .int _ _) rfl) rfl ?_
  refine L.nil ?_
  refine thn_n ?_
  refine W.seq ?_
  refine W.seq ?_
  refine W.region ?_
  refine L.val (x_as (v := .int _ _) rfl) rfl ?_
  refine L.nil ?_
  refine thn_n ?_
  refine W.block ?_
  refine W.loop (fun m' E w' => ∃ (i : Nat), m' = l.length - i ∧ E 0 = .slice pv l.length cv ∧ E 3 = .int .i64 (costW (l.take i) : Nat) ∧ E 4 = .int .i64 (i : Nat) ∧ (i ≤ l.length) ∧ (costW (l.take i) ≤ 60000) ∧ (w' = w)) (l.length) ?_ ?_
  ·exact ⟨0, by omega, by first | rfl | exact vi (by omega) | exact vs (by first | assumption | (rw [hst]; done) | (rw [hst]; simp only [List.append_assoc])), by first | rfl | exact vi (by omega) | exact vs (by first | assumption | (rw [hst]; done) | (rw [hst]; simp only [List.append_assoc])), by first | rfl | exact vi (by omega) | exact vs (by first | assumption | (rw [hst]; done) | (rw [hst]; simp only [List.append_assoc])), (by first | assumption | omega | rfl), (by simp [costW]), (by first | assumption | omega | rfl)⟩
  ·rintro _ E wL6 ⟨i, em, e0, e3, e4, hi, hq, hw0⟩
   rw [upd_self e0, upd_self e3, upd_self e4]
   refine W.seq ?_
   refine W.seq ?_
   refine W.region ?_
   subst hw0
   refine L.val (x_mv (v := .int _ _) rfl) rfl ?_
   refine L.val (x_mv (v := .slice _ _ _) rfl) rfl ?_
   refine L.val (x_len_slice Try.underlying70 rfl) rfl ?_
   refine L.val (x_lss rfl rfl) rfl ?_
   refine L.nil ?_
   refine thn_n ?_
   refine W.cond (b := _) rfl (fun g9 => ?_) (fun g9 => ?_)
   ·have h9 := of_decide_eq_true g9
    have hlt : i < l.length := by omega
    obtain ⟨b, o, rfl, -, hc⟩ := hR.elem hlt
    obtain ⟨vb, vk, hrow, hs, hk, -⟩ := hR.each i hlt
    obtain ⟨pb, cb, rfl, s1, s2, s3, s4, -⟩ := id hs
    have hcb : wL6.cell? ⟨b, o + i * 6 + 1, none⟩ = some (.slice pb (l.getD i default).bods.length cb) := by rw [hc 1 (by omega), hrow]; rfl
    have hst := costW_take hlt
    have hle := costW_le l (i + 1)
    refine W.skip ?_
    refine thn_n ?_
    refine W.seq ?_
    refine W.block ?_
    refine W.seq ?_
    refine W.region ?_
    refine L.val (x_mv (v := .int _ _) rfl) rfl ?_
    refine L.val (x_add rfl rfl (wr64 (by omega))) rfl ?_
    refine L.val (x_as (v := .int _ _) rfl) rfl ?_
    refine L.nil ?_
    refine thn_n ?_
    refine W.seq ?_
    refine W.seq ?_
    refine W.region ?_
    refine L.val (x_as (v := .int _ _) rfl) rfl ?_
    refine L.nil ?_
    refine thn_n ?_
    refine W.block ?_
    refine W.loop (fun m' E w' => ∃ (j : Nat), m' = (l.getD i default).bods.length - j ∧ E 0 = .slice (some ⟨b, o, none⟩) l.length cv ∧ E 3 = .int .i64 (costW (l.take i) + 100 + costB ((l.getD i default).bods.take j) : Nat) ∧ E 4 = .int .i64 (i : Nat) ∧ E 5 = .int .i64 (j : Nat) ∧ (j ≤ (l.getD i default).bods.length) ∧ (costB ((l.getD i default).bods.take j) ≤ 60000) ∧ (w' = wL6)) ((l.getD i default).bods.length) ?_ ?_
    ·exact ⟨0, by omega, by first | rfl | exact vi (by omega) | exact vs (by first | assumption | (rw [hst]; done) | (rw [hst]; simp only [List.append_assoc])), by first | rfl | exact vi (by omega) | exact vs (by first | assumption | (rw [hst]; done) | (rw [hst]; simp only [List.append_assoc])), by first | rfl | exact vi (by omega) | exact vs (by first | assumption | (rw [hst]; done) | (rw [hst]; simp only [List.append_assoc])), by first | rfl | exact vi (by omega) | exact vs (by first | assumption | (rw [hst]; done) | (rw [hst]; simp only [List.append_assoc])), (by first | assumption | omega | rfl), (by simp [costB]), (by first | assumption | omega | rfl)⟩
    ·rintro _ E wL14 ⟨j, em, e0, e3, e4, e5, hj, hqj, hw1⟩
     rw [upd_self e0, upd_self e3, upd_self e4, upd_self e5]
     refine W.seq ?_
     refine W.seq ?_
     refine W.region ?_
     subst hw1
     refine L.val (x_mv (v := .int _ _) rfl) rfl ?_
     refine L.val (x_mv (v := .slice _ _ _) rfl) rfl ?_
     refine L.val (x_mv (v := .int _ _) rfl) rfl ?_
     refine L.val (x_ia (j := i) Try.underlying70 kwal11_sz76 rfl rfl (by omega) (by omega)) rfl ?_
     refine L.val (x_fa kwal11_fo76_1 rfl) rfl ?_
     refine L.val (x_ld (v := .slice _ _ _) kwal11_oc37 rfl hcb) rfl ?_
     refine L.val (x_len_slice Try.underlying37 rfl) rfl ?_
     refine L.val (x_lss rfl rfl) rfl ?_
     refine L.nil ?_
     refine thn_n ?_
     refine W.cond (b := _) rfl (fun g21 => ?_) (fun g21 => ?_)
     ·have h21 := of_decide_eq_true g21
      have hltj : j < (l.getD i default).bods.length := by omega
      obtain ⟨bj, oj, rfl, hcj⟩ := hs.elem hltj
      have hstj := costB_take hltj
      have hlej := costB_le (l.getD i default).bods (j + 1)
      refine W.skip ?_
      refine thn_n ?_
      refine W.seq ?_
      refine W.block ?_
      refine W.seq ?_
      refine W.region ?_
      refine L.val (x_mv (v := .int _ _) rfl) rfl ?_
      refine L.val (x_mv (v := .slice _ _ _) rfl) rfl ?_
      refine L.val (x_mv (v := .int _ _) rfl) rfl ?_
      refine L.val (x_ia (j := i) Try.underlying70 kwal11_sz76 rfl rfl (by omega) (by omega)) rfl ?_
      refine L.val (x_fa kwal11_fo76_1 rfl) rfl ?_
      refine L.val (x_ld (v := .slice _ _ _) kwal11_oc37 rfl hcb) rfl ?_
      refine L.val (x_mv (v := .int _ _) rfl) rfl ?_
      refine L.val (x_ia1 (j := j) Try.underlying37 kwal11_sz9 rfl rfl (by omega) (by omega)) rfl ?_
      refine L.val (x_ld (v := S _) kwal11_oc9 rfl hcj) rfl ?_
      refine L.val (x_len_str Try.underlying9 rfl) rfl ?_
      refine L.val (x_min rfl rfl) rfl ?_
      refine L.val (x_add rfl rfl (wr64 (by omega))) rfl ?_
      refine L.val (x_add rfl rfl (wr64 (by omega))) rfl ?_
      refine L.val (x_as (v := .int _ _) rfl) rfl ?_
      refine L.nil ?_
      refine thn_n ?_
      refine W.seq ?_
      refine W.region ?_
      refine L.val (x_mv (v := .int _ _) rfl) rfl ?_
      refine L.val (x_gtr rfl rfl) rfl ?_
      refine L.nil ?_
      refine thn_n ?_
      refine W.cond (b := _) rfl (fun g38 => ?_) (fun g38 => ?_)
      ·have h38 := of_decide_eq_true g38
       have hf : fewA l = false := decide_eq_false (by omega)
       refine W.seq ?_
       refine W.region ?_
       refine L.val (x_as (v := .bool _) rfl) rfl ?_
       refine L.nil ?_
       refine thn_n ?_
       refine W.ret (blk_r (thn_r (thn_r (blk_r (thn_r (blk_r (thn_r (thn_r (blk_r (thn_r (fin_mk (.inr rfl) ?_)))))))))))
       rw [hf]; exact ⟨rfl, rfl⟩
      ·have h38 := dlt_f g38
       refine W.skip ?_
       refine blk_n ?_
       refine thn_n ?_
       refine W.region ?_
       refine L.val (x_mv (v := .int _ _) rfl) rfl ?_
       refine L.val (x_add rfl rfl (wr64 (by omega))) rfl ?_
       refine L.val (x_as (v := .int _ _) rfl) rfl ?_
       refine L.nil ?_
       refine thn_n ⟨rfl, ?_⟩
       refine ⟨_, ?_, j + 1, rfl, by first | rfl | exact vi (by omega) | exact vs (by first | assumption | (rw [hst]; done) | (rw [hst]; simp only [List.append_assoc])), by first | rfl | exact vi (by omega) | exact vs (by first | assumption | (rw [hst]; done) | (rw [hst]; simp only [List.append_assoc])), by first | rfl | exact vi (by omega) | exact vs (by first | assumption | (rw [hst]; done) | (rw [hst]; simp only [List.append_assoc])), by first | rfl | exact vi (by omega) | exact vs (by first | assumption | (rw [hst]; done) | (rw [hst]; simp only [List.append_assoc])), (by first | assumption | omega | rfl), (by first | assumption | omega | rfl), (by first | assumption | omega | rfl)⟩
       omega
     ·have h21 := dlt_f g21
      have hje : j = (l.getD i default).bods.length := by omega
      subst hje
      rw [List.take_length] at *
      refine W.exit (thn_x (thn_x (blk_hit ?_)))
      refine thn_n ?_
      refine W.seq ?_
      refine W.region ?_
      refine L.val (x_mv (v := .int _ _) rfl) rfl ?_
      refine L.val (x_gtr rfl rfl) rfl ?_
      refine L.nil ?_
      refine thn_n ?_
      refine W.cond (b := _) rfl (fun g40 => ?_) (fun g40 => ?_)
      ·have h40 := of_decide_eq_true g40
       have hf : fewA l = false := decide_eq_false (by omega)
       refine W.seq ?_
       refine W.region ?_
       refine L.val (x_as (v := .bool _) rfl) rfl ?_
       refine L.nil ?_
       refine thn_n ?_
       refine W.ret (blk_r (thn_r (thn_r (blk_r (thn_r (fin_mk (.inr rfl) ?_))))))
       rw [hf]; exact ⟨rfl, rfl⟩
      ·have h40 := dlt_f g40
       refine W.skip ?_
       refine blk_n ?_
       refine thn_n ?_
       refine W.region ?_
       refine L.val (x_mv (v := .int _ _) rfl) rfl ?_
       refine L.val (x_add rfl rfl (wr64 (by omega))) rfl ?_
       refine L.val (x_as (v := .int _ _) rfl) rfl ?_
       refine L.nil ?_
       refine thn_n ⟨rfl, ?_⟩
       refine ⟨_, ?_, i + 1, rfl, by first | rfl | exact vi (by omega) | exact vs (by first | assumption | (rw [hst]; done) | (rw [hst]; simp only [List.append_assoc])), by first | rfl | exact vi (by omega) | exact vs (by first | assumption | (rw [hst]; done) | (rw [hst]; simp only [List.append_assoc])), by first | rfl | exact vi (by omega) | exact vs (by first | assumption | (rw [hst]; done) | (rw [hst]; simp only [List.append_assoc])), (by first | assumption | omega | rfl), (by first | assumption | omega | rfl), (by first | assumption | omega | rfl)⟩
       omega
   ·have h9 := dlt_f g9
    have hie : i = l.length := by omega
    subst hie
    rw [List.take_length] at hq
    have hf : fewA l = true := decide_eq_true hq
    refine W.exit (thn_x (thn_x (blk_hit ?_)))
    refine thn_n ?_
    refine W.seq ?_
    refine W.region ?_
    refine L.val (x_as (v := .bool _) rfl) rfl ?_
    refine L.nil ?_
    refine thn_n ?_
    refine W.ret (fin_mk (.inr rfl) ?_)
    rw [hf]; exact ⟨rfl, rfl⟩
theorem x_tmod {E : Env} {w : World} {P : Program} {x y : Operand} {t u z : TypeId} {k : IntKind} {a b c : Int} (hx : ev E x = .int k a) (hy : ev E y = .int k b) (hb : b ≠ 0) (hc : a.tmod b = c) : X P (.binOp .rem u x y z) t E w (.int k c) w := by
  unfold X; simp [execOp, hx, hy, go_sem, Op.intDiv, hb, hc]
def secN (n : Int) : Nat := 6 + (n.tmod 60 + 60).toNat % 60
theorem secN_le (n : Int) : 6 ≤ secN n ∧ secN n ≤ 65 := by unfold secN; omega
theorem sectors21 (n : Int) (w : World) : Ret Try.prog 32 #[.int .i64 n] w fun v w' => v = .int .i64 (secN n : Nat) ∧ w' = w := by
  have h1 := Int.tmod_lt_of_pos n (show (0 : Int) < 60 by decide)
  have h2 : -60 < n.tmod 60 := by have := Int.lt_tmod_of_pos n (show (0 : Int) < 60 by decide); omega
  have h3 : (n.tmod 60 + 60).tmod 60 = (((n.tmod 60 + 60).toNat % 60 : Nat) : Int) := by
    rw [Int.tmod_eq_emod_of_nonneg (by omega)]; omega
  generalize hz : n.tmod 60 = z at *
  refine ret_of_W Try.func32 rfl (Nat.le_of_ble_eq_true rfl) (res1 rfl) ?_
  refine W.seq ?_
  refine W.region ?_
  refine L.val (x_as (v := .int _ _) rfl) rfl ?_
  refine L.nil ?_
  refine thn_n ?_
  refine W.seq ?_
  refine W.region ?_
  refine L.val (x_mv (v := .int _ _) rfl) rfl ?_
  refine L.val (x_tmod (c := z) rfl rfl (by decide) hz) rfl ?_
  refine L.val (x_add rfl rfl (wr64 (by omega))) rfl ?_
  refine L.val (x_tmod rfl rfl (by decide) h3) rfl ?_
  refine L.val (x_add rfl rfl (wr64 (by omega))) rfl ?_
  refine L.val (x_as (v := .int _ _) rfl) rfl ?_
  refine L.nil ?_
  refine thn_n ?_
  refine W.ret (fin_mk (.inr rfl) ?_)
  refine ⟨?_, rfl⟩
  have e : ((secN n : Nat) : Int) = 6 + (((z + 60).toNat % 60 : Nat) : Int) := by unfold secN; rw [hz]; omega
  rw [e]; rfl
theorem need_le {l : List Str} : need l ≤ costB l + 3 * l.length := by
  unfold need costB
  induction l with
  | nil => simp
  | cons s l ih => simp only [List.map_cons, List.sum_cons, List.length_cons]; omega
theorem len_costB (l : List Str) : 10 * l.length ≤ costB l := by
  unfold costB
  induction l with
  | nil => simp
  | cons s l ih => simp only [List.map_cons, List.sum_cons, List.length_cons]; omega
def doesA (D : Dk) (q : Pt) (a : Wc) : Int × Dk × Pt := if a.kind = 0 then appA D q a.bods else if a.kind = 1 then turnA D q a.bods else (0, D, q)
theorem does21 (n0 bl b : Nat) (cs : List Value) (a : Wc) (D : Dk) (q : Pt) (w : World) (h : DiskAt n0 w b D) (hl : LogAt n0 w bl b q) (hq : QOk D q) (hs : WcC (fun k => n0 ≤ k) w cs a) (hn : n0 ≤ w.heap.size) (hne : need a.bods ≤ 10000000) :
    Ret Try.prog 34 #[.pointer (some ⟨bl, 0, none⟩), .agg cs.toArray] w fun v w' => v = .int .i64 (doesA D q a).1 ∧ DiskAt n0 w' b (doesA D q a).2.1 ∧ LogAt n0 w' bl b (doesA D q a).2.2 ∧ Dg lgTy n0 w w' := by
  obtain ⟨vb, vk, rfl, hs, hk, -⟩ := hs
  obtain ⟨pb, cb, rfl, -⟩ := id hs
  obtain ⟨pk, ck, rfl, -⟩ := id hk
  refine ret_of_W Try.func34 rfl (Nat.le_of_ble_eq_true rfl) (res1 rfl) ?_
  have hG := Dg.refl lgTy n0 w
  refine W.seq ?_
  refine W.region ?_
  refine L.box (cs := wcV a (.slice pb a.bods.length cb) (.slice pk a.keep.length ck)) rfl rfl (fun w3 bx3 hw hz3 => ?_)
  have hG := hG.carry hw; have h := h.carry hw; have hl := hl.carry hw; have hs := hs.carry hw
  refine L.val (x_as (v := .int _ _) rfl) rfl ?_
  refine L.nil ?_
  refine thn_n ?_
  refine W.seq ?_
  refine W.seq ?_
  refine W.region ?_
  refine L.val (x_fa kwal11_fo76_0 rfl) rfl ?_
  refine L.val (x_ld (v := .int _ _) kwal11_oc3 rfl (bx3.cell0 rfl)) rfl ?_
  refine L.nil ?_
  refine thn_n ?_
  refine W.block ?_
  refine W.seq ?_
  refine W.region ?_
  refine L.val (x_eql rfl rfl) rfl ?_
  refine L.val (x_as (v := .bool _) rfl) rfl ?_
  refine L.nil ?_
  refine thn_n ?_
  refine W.cond (b := _) rfl (fun g8 => ?_) (fun g8 => ?_)
  ·have h8 := of_decide_eq_true g8
   have hd : doesA D q a = appA D q a.bods := by unfold doesA; rw [if_pos h8]
   refine W.seq ?_
   refine W.region ?_
   refine L.val (x_mv (v := .pointer _) rfl) rfl ?_
   refine L.val (x_fa kwal11_fo76_1 rfl) rfl ?_
   refine L.val (x_ld (v := .slice _ _ _) kwal11_oc37 rfl (bx3.cell0 rfl)) rfl ?_
   refine L.ret (x_call kwal11_en23 rfl) rfl (append_w n0 bl b _ _ a.bods D q _ h hl hq hs (Nat.le_trans hn hG.size) hne) ?_
   rintro _ w12 ⟨rfl, h12, hl12, hg12⟩
   refine L.val (x_as (v := .int _ _) rfl) rfl ?_
   refine L.nil ?_
   refine thn_n ?_
   refine W.ret (blk_r (thn_r (fin_mk (.inr rfl) ?_)))
   rw [hd]; exact ⟨rfl, h12, hl12, hG.trans hg12⟩
  ·have h8 := of_decide_eq_false g8
   refine W.seq ?_
   refine W.region ?_
   refine L.val (x_eql rfl rfl) rfl ?_
   refine L.val (x_as (v := .bool _) rfl) rfl ?_
   refine L.nil ?_
   refine thn_n ?_
   refine W.cond (b := _) rfl (fun g14 => ?_) (fun g14 => ?_)
   ·have h14 := of_decide_eq_true g14
    have hd : doesA D q a = turnA D q a.bods := by unfold doesA; rw [if_neg h8, if_pos h14]
    refine W.seq ?_
    refine W.region ?_
    refine L.val (x_mv (v := .pointer _) rfl) rfl ?_
    refine L.val (x_fa kwal11_fo76_1 rfl) rfl ?_
    refine L.val (x_ld (v := .slice _ _ _) kwal11_oc37 rfl (bx3.cell0 rfl)) rfl ?_
    refine L.ret (x_call kwal11_en24 rfl) rfl (turn_w n0 bl b _ _ a.bods D q _ h hl hq hs (Nat.le_trans hn hG.size) hne) ?_
    rintro _ w18 ⟨rfl, h18, hl18, hg18⟩
    refine L.val (x_as (v := .int _ _) rfl) rfl ?_
    refine L.nil ?_
    refine thn_n ?_
    refine W.ret (blk_r (thn_r (fin_mk (.inr rfl) ?_)))
    rw [hd]; exact ⟨rfl, h18, hl18, hG.trans hg18⟩
   ·have h14 := of_decide_eq_false g14
    refine W.skip ?_
    refine blk_n ?_
    refine thn_n ?_
    refine W.seq ?_
    refine W.region ?_
    refine L.val (x_as (v := .int _ _) rfl) rfl ?_
    refine L.nil ?_
    refine thn_n ?_
    refine W.ret (fin_mk (.inr rfl) ?_)
    have hd : doesA D q a = (0, D, q) := by unfold doesA; rw [if_neg h8, if_neg h14]
    rw [hd]; exact ⟨rfl, h, hl, hG⟩
end Go.Gx
