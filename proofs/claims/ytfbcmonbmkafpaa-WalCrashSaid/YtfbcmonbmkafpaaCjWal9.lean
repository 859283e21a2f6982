/- Logs: the answers that the document fixes. Conditions: none. -/
import Derived.Test.YtfbcmonbmkafpaaCjWal8
import Derived.Test.YtfbcmonbmkafpaaCjRowG
namespace Go.Gx
open Go.Proofs
theorem kwal9_el9 : elT Try.prog 9 1 = true := by kernel_rfl
theorem kwal9_en10 : Go.Proofs.Enters Try.prog 10 := Go.Proofs.enters_of Try.func10 (by kernel_rfl) rfl
theorem kwal9_en11 : Go.Proofs.Enters Try.prog 11 := Go.Proofs.enters_of Try.func11 (by kernel_rfl) rfl
theorem kwal9_en12 : Go.Proofs.Enters Try.prog 12 := Go.Proofs.enters_of Try.func12 (by kernel_rfl) rfl
theorem kwal9_en15 : Go.Proofs.Enters Try.prog 15 := Go.Proofs.enters_of Try.func15 (by kernel_rfl) rfl
theorem kwal9_en20 : Go.Proofs.Enters Try.prog 20 := Go.Proofs.enters_of Try.func20 (by kernel_rfl) rfl
theorem kwal9_en7 : Go.Proofs.Enters Try.prog 7 := Go.Proofs.enters_of Try.func7 (by kernel_rfl) rfl
theorem kwal9_en8 : Go.Proofs.Enters Try.prog 8 := Go.Proofs.enters_of Try.func8 (by kernel_rfl) rfl
theorem kwal9_en9 : Go.Proofs.Enters Try.prog 9 := Go.Proofs.enters_of Try.func9 (by kernel_rfl) rfl
theorem kwal9_mixed : Try.prog.follows .mixedOrders = true := by kernel_rfl
theorem kwal9_oc9 : oneCellT Try.prog 9 = true := by kernel_rfl
theorem kwal9_sz9 : (Try.prog.info? 9).map (·.size) = some 1 := by kernel_rfl
theorem same21 (A B : Nat → Prop) (v u : Value) (l m : List Str) (w : World) (h : StrsAt A w v l) (h' : StrsAt B w u m) :
    Ret Try.prog 20 #[v, u] w fun r w' => r = .bool (decide (l = m)) ∧ Bel w w' := by
  obtain ⟨pl, cl, rfl, a1, a2, a3, a4, -⟩ := id h
  obtain ⟨pm, cm, rfl, b1, b2, b3, b4, -⟩ := id h'
  refine ret_of_W Try.func20 rfl (Nat.le_of_ble_eq_true rfl) (res1 rfl) ?_
  have hB := Gr.refl (fun _ => False) w
  refine W.seq ?_
  refine W.region ?_
  refine L.val (x_as (v := .bool _) rfl) rfl ?_
  refine L.nil ?_
  refine thn_n ?_
  refine W.seq ?_
  refine W.seq ?_
  refine W.region ?_
  refine L.val (x_mv (v := .slice _ _ _) rfl) rfl ?_
  refine L.val (x_len_slice Try.underlying22 rfl) rfl ?_
  refine L.val (x_mv (v := .slice _ _ _) rfl) rfl ?_
  refine L.val (x_len_slice Try.underlying22 rfl) rfl ?_
  refine L.val (x_neq rfl rfl) rfl ?_
  refine L.nil ?_
  refine thn_n ?_
  refine W.cond (b := _) rfl (fun g10 => ?_) (fun g10 => ?_)
  ·have h10 := dne_t g10
   have hne : ¬ l = m := fun e => by rw [e] at h10; exact h10 rfl
   refine W.seq ?_
   refine W.region ?_
   refine L.val (x_as (v := .bool _) rfl) rfl ?_
   refine L.nil ?_
   refine thn_n ?_
   refine W.ret (thn_r (fin_mk (.inr rfl) ?_))
   rw [decide_eq_false hne]; exact ⟨rfl, hB⟩
  ·have h10 := dne_f g10
   have hlm : l.length = m.length := by omega
   refine W.skip ?_
   refine thn_n ?_
   refine W.seq ?_
   refine W.seq ?_
   refine W.region ?_
   refine L.val (x_as (v := .int _ _) rfl) rfl ?_
   refine L.nil ?_
   refine thn_n ?_
   refine W.block ?_
   refine W.loop (fun m' E w' => ∃ (k : Nat), m' = l.length - k ∧ E 0 = .slice pl l.length cl ∧ E 1 = .slice pm m.length cm ∧ E 5 = .int .i64 (k : Nat) ∧ (k ≤ l.length) ∧ (Bel w w') ∧ (StrsAt A w' (.slice pl l.length cl) l) ∧ (StrsAt B w' (.slice pm m.length cm) m) ∧ (l.take k = m.take k)) (l.length) ?_ ?_
   ·exact ⟨0, by omega, by first | rfl | exact vi (by omega), by first | rfl | exact vi (by omega), by first | rfl | exact vi (by omega), (by first | assumption | omega | rfl), (by first | assumption | omega | rfl), (by first | assumption | omega | rfl), (by first | assumption | omega | rfl), (by rfl)⟩
   ·rintro _ E wL11 ⟨k, em, e0, e1, e5, hk, hB, h, h', heq⟩
    rw [upd_self e0, upd_self e1, upd_self e5]
    refine W.seq ?_
    refine W.seq ?_
    refine W.region ?_
    refine L.val (x_mv (v := .int _ _) rfl) rfl ?_
    refine L.val (x_mv (v := .slice _ _ _) rfl) rfl ?_
    refine L.val (x_len_slice Try.underlying22 rfl) rfl ?_
    refine L.val (x_lss rfl rfl) rfl ?_
    refine L.nil ?_
    refine thn_n ?_
    refine W.cond (b := _) rfl (fun g14 => ?_) (fun g14 => ?_)
    ·have h14 := of_decide_eq_true g14
     have hlt : k < l.length := by omega
     have hlt2 : k < m.length := by omega
     obtain ⟨bl, ol, rfl, hc⟩ := h.elem hlt
     obtain ⟨bm, om, rfl, hc'⟩ := h'.elem hlt2
     refine W.skip ?_
     refine thn_n ?_
     refine W.seq ?_
     refine W.block ?_
     refine W.seq ?_
     refine W.drawB kwal9_mixed (by kernel_rfl) ?_
     refine LQ.val (fun w hw => x_mv (v := .slice _ _ _) rfl) rfl ?_
     refine LQ.val (fun w hw => x_mv (v := .int _ _) rfl) rfl ?_
     refine LQ.val (fun w hw => x_ia1 (j := k) Try.underlying22 kwal9_sz9 rfl rfl (by omega) (by omega)) rfl ?_
     refine LQ.val (fun w hw => x_ld (v := S _) kwal9_oc9 rfl (hw.keep hc)) rfl ?_
     refine LQ.val (fun w hw => x_mv (v := .slice _ _ _) rfl) rfl ?_
     refine LQ.val (fun w hw => x_mv (v := .int _ _) rfl) rfl ?_
     refine LQ.val (fun w hw => x_ia1 (j := k) Try.underlying22 kwal9_sz9 rfl rfl (by omega) (by omega)) rfl ?_
     refine LQ.val (fun w hw => x_ld (v := S _) kwal9_oc9 rfl (hw.keep hc')) rfl ?_
     refine LQ.val (fun w hw => x_nes rfl rfl) rfl ?_
     refine LQ.nil ?_
     intro w17 hw
     have hB := hB.carry hw; have h := h.carry hw; have h' := h'.carry hw
     refine thn_n ?_
     refine W.cond (b := _) rfl (fun g25 => ?_) (fun g25 => ?_)
     ·have h25 := sne_t g25
      have hne : ¬ l = m := fun e => h25 (by rw [e])
      refine W.seq ?_
      refine W.region ?_
      refine L.val (x_as (v := .bool _) rfl) rfl ?_
      refine L.nil ?_
      refine thn_n ?_
      refine W.ret (blk_r (thn_r (thn_r (blk_r (thn_r (fin_mk (.inr rfl) ?_))))))
      rw [decide_eq_false hne]; exact ⟨rfl, hB⟩
     ·have h25 := sne_f g25
      have he25 : l.getD k [] = m.getD k [] := h25
      refine W.skip ?_
      refine blk_n ?_
      refine thn_n ?_
      refine W.region ?_
      refine L.val (x_mv (v := .int _ _) rfl) rfl ?_
      refine L.val (x_add rfl rfl (wr64 (by omega))) rfl ?_
      refine L.val (x_as (v := .int _ _) rfl) rfl ?_
      refine L.nil ?_
      refine thn_n ⟨rfl, ?_⟩
      refine ⟨_, ?_, k + 1, rfl, by first | rfl | exact vi (by omega), by first | rfl | exact vi (by omega), by first | rfl | exact vi (by omega), (by first | assumption | omega | rfl), (by first | assumption | omega | rfl), (by first | assumption | omega | rfl), (by first | assumption | omega | rfl), (by rw [take_snoc (d := []) hlt, take_snoc (d := []) hlt2, heq, he25])⟩
      omega
    ·have h14 := dlt_f g14
     refine W.exit (thn_x (thn_x (blk_hit ?_)))
     refine thn_n ?_
     refine W.seq ?_
     refine W.region ?_
     refine L.val (x_as (v := .bool _) rfl) rfl ?_
     refine L.nil ?_
     refine thn_n ?_
     refine W.ret (fin_mk (.inr rfl) ?_)
     have hh : l = m := by
       have e1 : l.take k = l := by rw [show k = l.length by omega, List.take_length]
       have e2 : m.take k = m := by rw [show k = m.length by omega, List.take_length]
       rw [← e1, heq, e2]
     rw [decide_eq_true hh]; exact ⟨rfl, hB⟩
theorem x_nep0 {E : Env} {w : World} {P : Program} {x y : Operand} {t u z e : TypeId} {p : Option Addr} (hu : P.underlying u = some (.pointer e)) (hx : ev E x = .pointer p) (hy : ev E y = .pointer none) : X P (.binOp .neq u x y z) t E w (.bool (!p.isNone)) w := by
  unfold X
  have h0 : ∀ d : Nat, (Op.equalIn (d + 1) u (.pointer p) (.pointer none)).run P w = .ok p.isNone w := fun d => by cases p <;> simp [Op.equalIn, run_underlying hu]
  have h1 := h0 9999
  have h2 : (binOp .neq u (.pointer p) (.pointer none)).run P w = .ok (.bool (!p.isNone)) w := by
    simp only [binOp]
    simp [show Op.equal u (.pointer p) (.pointer none) = Op.equalIn (9999 + 1) u (.pointer p) (.pointer none) from rfl, h1]
  have hg : ∀ d : Nat, (Op.eqGuardIn (d + 1) u (.pointer p) (.pointer none)).run P w = .ok false w := fun d => by simp [Op.eqGuardIn, run_underlying hu]
  simp [execOp, hx, hy, eqGuard, h2]
def lab : List Str := [[97], [98]]
def lc : List Str := [[99]]
def lz : List Str := [[122]]
def dA0 : Dk := newD 6
def aA1 : Int × Dk × Pt := appA dA0 pt0 lab
def aA2 : Int × Dk × Pt := appA aA1.2.1 aA1.2.2 lc
def aA3 : Int × Dk × Pt := turnA aA2.2.1 aA2.2.2 lz
theorem aw0 : openA dA0 = (0, pt0, []) := by decide +kernel
theorem aw1 : aA1.1 = 0 := by decide +kernel
theorem aw2 : aA2.1 = 0 := by decide +kernel
theorem aw3 : openA aA2.2.1 = (0, aA2.2.2, lab ++ lc) := by decide +kernel
theorem aw4 : aA2.2.2.ep = 2 ∧ aA2.2.2.tail = 18 := by decide +kernel
theorem aw5 : aA3.1 = 0 := by decide +kernel
theorem aw6 : aA3.2.2.tail = 6 ∧ aA3.2.1.pl.length = 6 := by decide +kernel
theorem q0 : QOk dA0 pt0 := ⟨by decide +kernel, rfl, rfl, rfl, by decide +kernel, by decide +kernel, by decide +kernel, by decide +kernel, by decide +kernel⟩
theorem q1 : QOk aA1.2.1 aA1.2.2 := ⟨by decide +kernel, by decide +kernel, by decide +kernel, by decide +kernel, by decide +kernel, by decide +kernel, by decide +kernel, by decide +kernel, by decide +kernel⟩
theorem q2 : QOk aA2.2.1 aA2.2.2 := ⟨by decide +kernel, by decide +kernel, by decide +kernel, by decide +kernel, by decide +kernel, by decide +kernel, by decide +kernel, by decide +kernel, by decide +kernel⟩
theorem LogAt.le {n0 n1 bl b : Nat} {w : World} {p : Pt} (h : LogAt n1 w bl b p) (hn : n0 ≤ n1) : LogAt n0 w bl b p := ⟨Nat.le_trans hn h.1, h.2⟩
theorem strs_new {w : World} {b : Nat} (l : List Str) (h : Box w b 9 (l.map S)) (hl : l.length ≤ 70368744177664) (hx : ∀ x ∈ l, x.length ≤ 9223372036854775807) : StrsAt (fun _ => False) w (.slice (some ⟨b, 0, none⟩) l.length l.length) l := strs_of_box l h (fun f => f) hl hx
theorem awake21 (w : World) : Ret Try.prog 13 #[] w fun v w' => v = .bool true ∧ Bel w w' := by
  refine ret_of_W Try.func13 rfl (Nat.le_of_ble_eq_true rfl) (res1 rfl) ?_
  have hB := Gr.refl (fun _ => False) w
  refine W.seq ?_
  refine W.region ?_
  refine L.val (x_as (v := .bool _) rfl) rfl ?_
  refine L.nil ?_
  refine thn_n ?_
  refine W.seq ?_
  refine W.region ?_
  refine L.ret (x_call kwal9_en15 rfl) rfl (newdisk_ok 6 (by decide) _) ?_
  rintro _ w8 ⟨b, rfl, h, hw⟩
  have hB := hB.carry hw
  refine L.val (x_mv (v := _) rfl) rfl ?_
  refine L.val (x_ext (v := .pointer _) rfl rfl) rfl ?_
  refine L.val (x_ext (v := .int _ _) rfl rfl) rfl ?_
  refine L.val (x_as (v := .pointer _) rfl) rfl ?_
  refine L.val (x_as (v := .int _ _) rfl) rfl ?_
  refine L.nil ?_
  refine thn_n ?_
  refine W.seq ?_
  refine W.region ?_
  have hs8 := hB.size
  refine L.val (x_mv (v := .pointer _) rfl) rfl ?_
  refine L.ret (x_call kwal9_en12 rfl) rfl (open_w w.heap.size b dA0 _ h rfl (by decide)) ?_
  rintro v13 w13 ⟨hw, hr⟩
  have hB := hB.carry hw; have h := h.carry hw
  rw [aw0] at hr
  obtain ⟨-, bl, u, rfl, hl, hU⟩ := hr.resolve_left (fun e => e.1 rfl)
  obtain ⟨pu, cu, rfl, -⟩ := id hU
  have hl : LogAt w.heap.size w13 bl b pt0 := hl.le hs8
  have hs13 := hB.size
  refine L.val (x_mv (v := _) rfl) rfl ?_
  refine L.val (x_ext (v := .pointer _) rfl rfl) rfl ?_
  refine L.val (x_ext (v := .slice _ _ _) rfl rfl) rfl ?_
  refine L.val (x_ext (v := .int _ _) rfl rfl) rfl ?_
  refine L.val (x_as (v := .pointer _) rfl) rfl ?_
  refine L.val (x_as (v := .slice _ _ _) rfl) rfl ?_
  refine L.val (x_as (v := .int _ _) rfl) rfl ?_
  refine L.nil ?_
  refine thn_n ?_
  refine W.seq ?_
  refine W.seq ?_
  refine W.region ?_
  refine L.val (x_mv (v := .int _ _) rfl) rfl ?_
  refine L.val (x_neq rfl rfl) rfl ?_
  refine L.val (x_mv (v := .bool _) rfl) rfl ?_
  refine L.splitat (dj := 19) (b := _) rfl (fun g19 => ?_) (fun g19 => ?_)
  ·have h19 := dne_t g19
   cases g19
  ·have h19 := dne_f g19
   refine L.gyes' (dj := 19) (b := _) rfl rfl g19 ?_
   refine L.val (x_mv (v := .int _ _) rfl) rfl ?_
   refine L.gyes' (dj := 19) (b := _) rfl rfl g19 ?_
   refine L.val (x_neq rfl rfl) rfl ?_
   refine L.val (x_pick_f (v := .bool _) (congrArg Value.bool g19) rfl) rfl ?_
   refine L.val (x_mv (v := .bool _) rfl) rfl ?_
   refine L.splitat (dj := 23) (b := _) rfl (fun g23 => ?_) (fun g23 => ?_)
   ·have h23 := dne_t g23
    cases g23
   ·have h23 := dne_f g23
    refine L.gyes' (dj := 23) (b := _) rfl rfl g23 ?_
    refine L.val (x_mv (v := .pointer _) rfl) rfl ?_
    refine L.gyes' (dj := 23) (b := _) rfl rfl g23 ?_
    refine L.val (x_eqp0 Try.underlying23 rfl rfl) rfl ?_
    refine L.val (x_pick_f (v := .bool _) (congrArg Value.bool g23) rfl) rfl ?_
    refine L.val (x_mv (v := .bool _) rfl) rfl ?_
    refine L.splitat (dj := 27) (b := _) rfl (fun g27 => ?_) (fun g27 => ?_)
    ·have h27 := g27
     cases g27
    ·have h27 := g27
     refine L.gyes' (dj := 27) (b := _) rfl rfl g27 ?_
     refine L.val (x_mv (v := .slice _ _ _) rfl) rfl ?_
     refine L.gyes' (dj := 27) (b := _) rfl rfl g27 ?_
     refine L.val (x_len_slice Try.underlying22 rfl) rfl ?_
     refine L.gyes' (dj := 27) (b := _) rfl rfl g27 ?_
     refine L.val (x_neq rfl rfl) rfl ?_
     refine L.val (x_pick_f (v := .bool _) (congrArg Value.bool g27) rfl) rfl ?_
     refine L.val (x_mv (v := .bool _) rfl) rfl ?_
     refine L.splitat (dj := 32) (b := _) rfl (fun g32 => ?_) (fun g32 => ?_)
     ·have h32 := dne_t g32
      cases g32
     ·have h32 := dne_f g32
      refine L.gyes' (dj := 32) (b := _) rfl rfl g32 ?_
      refine L.val (x_mv (v := .pointer _) rfl) rfl ?_
      refine L.gyes' (dj := 32) (b := _) rfl rfl g32 ?_
      refine L.bs (sz := 1) (cells := [S [97], S [98]]) Try.underlying22 kwal9_el9 rfl rfl rfl rfl (fun w34 bx34 hw hz34 => ?_)
      have hB := hB.carry hw; have h := h.carry hw; have hl := hl.carry hw
      refine L.gyes' (dj := 32) (b := _) rfl rfl g32 ?_
      refine L.ret (x_call kwal9_en7 rfl) rfl (append_w w.heap.size bl b (fun _ => False) _ lab dA0 pt0 _ h hl q0 (strs_new lab bx34 (by decide) (by decide)) hB.size (by decide)) ?_
      rintro v35 w35 ⟨rfl, h35, hl35, hg35⟩
      have hB := hg35.bel hB
      have h : DiskAt w.heap.size w35 b aA1.2.1 := h35
      have hl : LogAt w.heap.size w35 bl b aA1.2.2 := hl35
      rw [show (appA dA0 pt0 lab).1 = 0 from aw1]
      refine L.gyes' (dj := 32) (b := _) rfl rfl g32 ?_
      refine L.val (x_neq rfl rfl) rfl ?_
      refine L.val (x_pick_f (v := .bool _) (congrArg Value.bool g32) rfl) rfl ?_
      refine L.val (x_mv (v := .bool _) rfl) rfl ?_
      refine L.splitat (dj := 38) (b := _) rfl (fun g38 => ?_) (fun g38 => ?_)
      ·have h38 := dne_t g38
       cases g38
      ·have h38 := dne_f g38
       refine L.gyes' (dj := 38) (b := _) rfl rfl g38 ?_
       refine L.val (x_mv (v := .pointer _) rfl) rfl ?_
       refine L.gyes' (dj := 38) (b := _) rfl rfl g38 ?_
       refine L.bs (sz := 1) (cells := [S [99]]) Try.underlying22 kwal9_el9 rfl rfl rfl rfl (fun w40 bx40 hw hz40 => ?_)
       have hB := hB.carry hw; have h := h.carry hw; have hl := hl.carry hw
       refine L.gyes' (dj := 38) (b := _) rfl rfl g38 ?_
       refine L.ret (x_call kwal9_en7 rfl) rfl (append_w w.heap.size bl b (fun _ => False) _ lc _ _ _ h hl q1 (strs_new lc bx40 (by decide) (by decide)) hB.size (by decide)) ?_
       rintro v41 w41 ⟨rfl, h41, hl41, hg41⟩
       have hB := hg41.bel hB
       have h : DiskAt w.heap.size w41 b aA2.2.1 := h41
       have hl : LogAt w.heap.size w41 bl b aA2.2.2 := hl41
       rw [show (appA aA1.2.1 aA1.2.2 lc).1 = 0 from aw2]
       refine L.gyes' (dj := 38) (b := _) rfl rfl g38 ?_
       refine L.val (x_neq rfl rfl) rfl ?_
       refine L.val (x_pick_f (v := .bool _) (congrArg Value.bool g38) rfl) rfl ?_
       refine L.nil ?_
       refine thn_n ?_
       refine W.cond (b := _) rfl (fun g42 => ?_) (fun g42 => ?_)
       ·have h42 := dne_t g42
        cases g42
       ·have h42 := dne_f g42
        refine W.skip ?_
        refine thn_n ?_
        refine W.seq ?_
        refine W.region ?_
        have hs45 := hB.size
        refine L.val (x_mv (v := .pointer _) rfl) rfl ?_
        refine L.ret (x_call kwal9_en12 rfl) rfl (open_w w.heap.size b aA2.2.1 _ h (by decide +kernel) (by decide +kernel)) ?_
        rintro v46 w46 ⟨hw, hr⟩
        have hB := hB.carry hw; have h := h.carry hw
        rw [aw3] at hr
        obtain ⟨-, bl2, u2, rfl, hl, hU⟩ := hr.resolve_left (fun e => e.1 rfl)
        obtain ⟨pu2, cu2, rfl, -⟩ := id hU
        have hU : StrsAt _ w46 _ (lab ++ lc) := hU
        have hl : LogAt w.heap.size w46 bl2 b aA2.2.2 := hl.le hs45
        refine L.val (x_mv (v := _) rfl) rfl ?_
        refine L.val (x_ext (v := .pointer _) rfl rfl) rfl ?_
        refine L.val (x_ext (v := .slice _ _ _) rfl rfl) rfl ?_
        refine L.val (x_ext (v := .int _ _) rfl rfl) rfl ?_
        refine L.val (x_as (v := .pointer _) rfl) rfl ?_
        refine L.val (x_as (v := .slice _ _ _) rfl) rfl ?_
        refine L.val (x_as (v := .int _ _) rfl) rfl ?_
        refine L.nil ?_
        refine thn_n ?_
        refine W.seq ?_
        refine W.region ?_
        refine L.val (x_mv (v := .int _ _) rfl) rfl ?_
        refine L.val (x_eql rfl rfl) rfl ?_
        refine L.val (x_mv (v := .bool _) rfl) rfl ?_
        refine L.splitat (dj := 52) (b := _) rfl (fun g52 => ?_) (fun g52 => ?_)
        ·have h52 := of_decide_eq_true g52
         refine L.gyes' (dj := 52) (b := _) rfl rfl g52 ?_
         refine L.val (x_mv (v := .pointer _) rfl) rfl ?_
         refine L.gyes' (dj := 52) (b := _) rfl rfl g52 ?_
         refine L.val (x_nep0 Try.underlying23 rfl rfl) rfl ?_
         refine L.val (x_pick_t (v := .bool _) (congrArg Value.bool g52) rfl) rfl ?_
         refine L.val (x_mv (v := .bool _) rfl) rfl ?_
         refine L.splitat (dj := 56) (b := _) rfl (fun g56 => ?_) (fun g56 => ?_)
         ·have h56 := g56
          refine L.gyes' (dj := 56) (b := _) rfl rfl g56 ?_
          refine L.val (x_mv (v := .slice _ _ _) rfl) rfl ?_
          refine L.gyes' (dj := 56) (b := _) rfl rfl g56 ?_
          refine L.bs (sz := 1) (cells := [S [97], S [98], S [99]]) Try.underlying22 kwal9_el9 rfl rfl rfl rfl (fun w58 bx58 hw hz58 => ?_)
          have hB := hB.carry hw; have h := h.carry hw; have hl := hl.carry hw; have hU := hU.carry hw
          refine L.gyes' (dj := 56) (b := _) rfl rfl g56 ?_
          refine L.ret (x_call kwal9_en20 rfl) rfl (same21 _ _ _ _ _ (lab ++ lc) _ hU (strs_new (lab ++ lc) bx58 (by decide) (by decide))) ?_
          rintro v59 w59 ⟨rfl, hw⟩
          have hB := hB.carry hw; have h := h.carry hw; have hl := hl.carry hw; have hU := hU.carry hw; have bx58 := bx58.carry hw
          refine L.val (x_pick_t (v := .bool _) (congrArg Value.bool g56) rfl) rfl ?_
          refine L.val (x_mv (v := .bool _) rfl) rfl ?_
          refine L.splitat (dj := 61) (b := _) rfl (fun g61 => ?_) (fun g61 => ?_)
          ·have h61 := g61
           refine L.gyes' (dj := 61) (b := _) rfl rfl g61 ?_
           refine L.val (x_mv (v := .pointer _) rfl) rfl ?_
           refine L.gyes' (dj := 61) (b := _) rfl rfl g61 ?_
           refine L.ret (x_call kwal9_en11 rfl) rfl (epoch_w _ _ _ _ _ hl (by rw [aw4.1]; decide)) ?_
           rintro v63 w63 ⟨rfl, hq⟩
           rw [hq, aw4.1]
           refine L.gyes' (dj := 61) (b := _) rfl rfl g61 ?_
           refine L.val (x_eql rfl rfl) rfl ?_
           refine L.val (x_pick_t (v := .bool _) (congrArg Value.bool g61) rfl) rfl ?_
           refine L.val (x_mv (v := .bool _) rfl) rfl ?_
           refine L.splitat (dj := 66) (b := _) rfl (fun g66 => ?_) (fun g66 => ?_)
           ·have h66 := of_decide_eq_true g66
            refine L.gyes' (dj := 66) (b := _) rfl rfl g66 ?_
            refine L.val (x_mv (v := .pointer _) rfl) rfl ?_
            refine L.gyes' (dj := 66) (b := _) rfl rfl g66 ?_
            refine L.ret (x_call kwal9_en9 rfl) rfl (tail_w _ _ _ _ _ hl) ?_
            rintro v68 w68 ⟨rfl, hq⟩
            rw [hq, aw4.2]
            refine L.gyes' (dj := 66) (b := _) rfl rfl g66 ?_
            refine L.val (x_eql rfl rfl) rfl ?_
            refine L.val (x_pick_t (v := .bool _) (congrArg Value.bool g66) rfl) rfl ?_
            refine L.val (x_mv (v := .bool _) rfl) rfl ?_
            refine L.splitat (dj := 71) (b := _) rfl (fun g71 => ?_) (fun g71 => ?_)
            ·have h71 := of_decide_eq_true g71
             refine L.gyes' (dj := 71) (b := _) rfl rfl g71 ?_
             refine L.val (x_mv (v := .pointer _) rfl) rfl ?_
             refine L.gyes' (dj := 71) (b := _) rfl rfl g71 ?_
             refine L.bs (sz := 1) (cells := [S [122]]) Try.underlying22 kwal9_el9 rfl rfl rfl rfl (fun w73 bx73 hw hz73 => ?_)
             have hB := hB.carry hw; have h := h.carry hw; have hl := hl.carry hw
             refine L.gyes' (dj := 71) (b := _) rfl rfl g71 ?_
             refine L.ret (x_call kwal9_en8 rfl) rfl (turn_w w.heap.size bl2 b (fun _ => False) _ lz _ _ _ h hl q2 (strs_new lz bx73 (by decide) (by decide)) hB.size (by decide)) ?_
             rintro v74 w74 ⟨rfl, h74, hl74, hg74⟩
             have hB := hg74.bel hB
             have h : DiskAt w.heap.size w74 b aA3.2.1 := h74
             have hl : LogAt w.heap.size w74 bl2 b aA3.2.2 := hl74
             rw [show (turnA aA2.2.1 aA2.2.2 lz).1 = 0 from aw5]
             refine L.gyes' (dj := 71) (b := _) rfl rfl g71 ?_
             refine L.val (x_eql rfl rfl) rfl ?_
             refine L.val (x_pick_t (v := .bool _) (congrArg Value.bool g71) rfl) rfl ?_
             refine L.val (x_mv (v := .bool _) rfl) rfl ?_
             refine L.splitat (dj := 77) (b := _) rfl (fun g77 => ?_) (fun g77 => ?_)
             ·have h77 := of_decide_eq_true g77
              refine L.gyes' (dj := 77) (b := _) rfl rfl g77 ?_
              refine L.val (x_mv (v := .pointer _) rfl) rfl ?_
              refine L.gyes' (dj := 77) (b := _) rfl rfl g77 ?_
              refine L.ret (x_call kwal9_en10 rfl) rfl (leftL_w _ _ _ _ _ _ h hl (by rw [aw6.2]; decide) (by rw [aw6.1]; decide)) ?_
              rintro v79 w79 ⟨rfl, hw⟩
              have hB := hB.carry hw; have h := h.carry hw; have hl := hl.carry hw
              rw [aw6.1, aw6.2]
              refine L.gyes' (dj := 77) (b := _) rfl rfl g77 ?_
              refine L.val (x_eql rfl rfl) rfl ?_
              refine L.val (x_pick_t (v := .bool _) (congrArg Value.bool g77) rfl) rfl ?_
              refine L.val (x_as (v := .bool _) rfl) rfl ?_
              refine L.nil ?_
              refine thn_n ?_
              refine W.ret (fin_mk (.inr rfl) ?_)
              exact ⟨rfl, hB⟩
             ·have h77 := of_decide_eq_false g77
              cases g77
            ·have h71 := of_decide_eq_false g71
             cases g71
           ·have h66 := of_decide_eq_false g66
            cases g66
          ·have h61 := g61
           exact absurd g61 (by decide)
         ·have h56 := g56
          cases g56
        ·have h52 := of_decide_eq_false g52
         cases g52
end Go.Gx
namespace Go.Gx
open Go.Proofs
def NoL (w : World) (p : Option Addr) : Prop := p = none ∨ ∃ b, p = some ⟨b, 0, none⟩ ∧ Box w b 29 zeroLog
theorem NoL.carry {w w' : World} {p : Option Addr} (h : NoL w p) (g : Bel w w') : NoL w' p := by
  rcases h with h | ⟨b, h1, h2⟩
  · exact .inl h
  · exact .inr ⟨b, h1, h2.carry g⟩
end Go.Gx
namespace Go.Gx
open Go.Proofs
theorem kwal11_fo51_1 : fieldOff Try.prog 51 1 = some 1 := by kernel_rfl
theorem kwal11_oc22 : oneCellT Try.prog 22 = true := by kernel_rfl
theorem kwal11_oc9 : oneCellT Try.prog 9 = true := by kernel_rfl
theorem kwal11_sz51 : (Try.prog.info? 51).map (·.size) = some 6 := by kernel_rfl
theorem kwal11_sz9 : (Try.prog.info? 9).map (·.size) = some 1 := by kernel_rfl
def BlsAt (A : Nat → Prop) (w : World) (v : Value) (l : List Bool) : Prop := ∃ p cap, v = .slice p l.length cap ∧ l.length ≤ cap ∧ cap ≤ 9223372036854775807 ∧ l.length ≤ 140737488355328 ∧
  (l ≠ [] → ∃ b o, p = some ⟨b, o, none⟩ ∧ ¬ A b ∧ ∀ i, i < l.length → w.cell? ⟨b, o + i, none⟩ = some (.bool (l.getD i false)))
theorem BlsAt.one {A : Nat → Prop} {w : World} {v : Value} {l : List Bool} (h : BlsAt A w v l) : v.oneCell' = true := by obtain ⟨_, _, rfl, -⟩ := h; rfl
theorem BlsAt.move {A A' : Nat → Prop} {w w' : World} {v : Value} {l : List Bool} (hc : ∀ (a : Addr) v, ¬ A a.block → w.cell? a = some v → w'.cell? a = some v ∧ ¬ A' a.block) (h : BlsAt A w v l) : BlsAt A' w' v l := by
  obtain ⟨p, cap, e, a1, a2, a3, a4⟩ := h
  refine ⟨p, cap, e, a1, a2, a3, fun hl => ?_⟩
  obtain ⟨b, o, hp, hA, hcell⟩ := a4 hl
  have h0 := hc _ _ hA (hcell 0 (List.length_pos_iff.2 hl))
  exact ⟨b, o, hp, h0.2, fun i hi => (hc _ _ hA (hcell i hi)).1⟩
structure Wc where
  kind : Int
  bods : List Str
  at' : Int
  keep : List Bool
  torn : Int
  cut : Int
instance : Inhabited Wc := ⟨⟨0, [], 0, [], 0, 0⟩⟩
def wcV (a : Wc) (vb vk : Value) : List Value := [.int .i64 a.kind, vb, .int .i64 a.at', vk, .int .i64 a.torn, .int .i64 a.cut]
def WcC (A : Nat → Prop) (w : World) (cs : List Value) (a : Wc) : Prop := ∃ vb vk, cs = wcV a vb vk ∧ StrsAt A w vb a.bods ∧ BlsAt A w vk a.keep ∧ ∀ s ∈ a.bods, s.length ≤ 140737488355328
instance car_wc : Car WcC 6 where
  pos := by omega
  len := fun ⟨_, _, h, _⟩ => by rw [h]; rfl
  one := fun ⟨vb, vk, h, h1, h2, _⟩ => by
    rw [h]; intro v hv
    simp only [wcV, List.mem_cons, List.not_mem_nil, or_false] at hv
    rcases hv with rfl | rfl | rfl | rfl | rfl | rfl
    · rfl
    · exact h1.one
    · rfl
    · exact h2.one
    · rfl
    · rfl
  move := fun hc ⟨vb, vk, h, h1, h2, h3⟩ => ⟨vb, vk, h, by
    obtain ⟨p, cap, e, a1, a2, a3, a4, a5⟩ := h1
    refine ⟨p, cap, e, a1, a2, a3, a4, fun hl => ?_⟩
    obtain ⟨b, o, hp, hA, hcell⟩ := a5 hl
    have h0 := hc _ _ hA (hcell 0 (List.length_pos_iff.2 hl))
    exact ⟨b, o, hp, h0.2, fun i hi => (hc _ _ hA (hcell i hi)).1⟩, h2.move hc, h3⟩
abbrev WcsAt (A : Nat → Prop) (w : World) (v : Value) (l : List Wc) : Prop := RecsAt WcC 6 A w v l
def costB (l : List Str) : Nat := (l.map fun s => min s.length 30000 + 10).sum
def costW (l : List Wc) : Nat := (l.map fun a => 100 + costB a.bods).sum
def fewA (l : List Wc) : Bool := decide (costW l ≤ 60000)
theorem costB_take {l : List Str} {k : Nat} (h : k < l.length) : costB (l.take (k + 1)) = costB (l.take k) + (min (l.getD k []).length 30000 + 10) := by
  unfold costB
  rw [take_snoc (d := []) h, List.map_append, List.sum_append]; simp
theorem costW_take {l : List Wc} {k : Nat} (h : k < l.length) : costW (l.take (k + 1)) = costW (l.take k) + (100 + costB (l.getD k default).bods) := by
  unfold costW
  rw [take_snoc (d := default) h, List.map_append, List.sum_append]; simp
theorem costB_le (l : List Str) (k : Nat) : costB (l.take k) ≤ costB l := by
  unfold costB
  conv => rhs; rw [← List.take_append_drop k l, List.map_append, List.sum_append]
  omega
theorem costW_le (l : List Wc) (k : Nat) : costW (l.take k) ≤ costW l := by
  unfold costW
  conv => rhs; rw [← List.take_append_drop k l, List.map_append, List.sum_append]
  omega
theorem few21 (A : Nat → Prop) (v : Value) (l : List Wc) (w : World) (h : WcsAt A w v l) : Ret Try.prog 14 #[v] w fun v w' => v = .bool (fewA l) ∧ w' = w := by
  obtain ⟨pv, cv, row, rfl, h1, h2, h3, hR⟩ := id h
  refine ret_of_W Try.func14 rfl (Nat.le_of_ble_eq_true rfl) (res1 rfl) ?_
  refine W.seq ?_
  refine W.region ?_
  refine L.val (x_as (v := .bool _) rfl) rfl ?_
  refine L.nil ?_
  refine thn_n ?_
  refine W.seq ?_
  refine W.region ?_
  refine L.val (x_as (v := .int _ _) rfl) rfl ?_
  refine L.nil ?_
  refine thn_n ?_
  refine W.seq ?_
  refine W.seq ?_
  refine W.region ?_
  refine L.val (x_as (v := .int _ _) rfl) rfl ?_
  refine L.nil ?_
  refine thn_n ?_
  refine W.block ?_
  refine W.loop (fun m' E w' => ∃ (i : Nat), m' = l.length - i ∧ E 0 = .slice pv l.length cv ∧ E 3 = .int .i64 (costW (l.take i) : Nat) ∧ E 4 = .int .i64 (i : Nat) ∧ (i ≤ l.length) ∧ (costW (l.take i) ≤ 60000) ∧ (w' = w)) (l.length) ?_ ?_
  ·exact ⟨0, by omega, by first | rfl | exact vi (by omega) | exact vs (by first | assumption | (rw [hst]; done) | (rw [hst]; simp only [List.append_assoc])), by first | rfl | exact vi (by omega) | exact vs (by first | assumption | (rw [hst]; done) | (rw [hst]; simp only [List.append_assoc])), by first | rfl | exact vi (by omega) | exact vs (by first | assumption | (rw [hst]; done) | (rw [hst]; simp only [List.append_assoc])), (by first | assumption | omega | rfl), (by simp [costW]), (by first | assumption | omega | rfl)⟩
  ·rintro _ E wL6 ⟨i, em, e0, e3, e4, hi, hq, hw0⟩
   rw [upd_self e0, upd_self e3, upd_self e4]
   refine W.seq ?_
   refine W.seq ?_
   refine W.region ?_
   subst hw0
   refine L.val (x_mv (v := .int _ _) rfl) rfl ?_
   refine L.val (x_mv (v := .slice _ _ _) rfl) rfl ?_
   refine L.val (x_len_slice Try.underlying45 rfl) rfl ?_
   refine L.val (x_lss rfl rfl) rfl ?_
   refine L.nil ?_
   refine thn_n ?_
   refine W.cond (b := _) rfl (fun g9 => ?_) (fun g9 => ?_)
   ·have h9 := of_decide_eq_true g9
    have hlt : i < l.length := by omega
    obtain ⟨b, o, rfl, -, hc⟩ := hR.elem hlt
    obtain ⟨vb, vk, hrow, hs, hk, -⟩ := hR.each i hlt
    obtain ⟨pb, cb, rfl, s1, s2, s3, s4, -⟩ := id hs
    have hcb : wL6.cell? ⟨b, o + i * 6 + 1, none⟩ = some (.slice pb (l.getD i default).bods.length cb) := by rw [hc 1 (by omega), hrow]; rfl
    have hst := costW_take hlt
    have hle := costW_le l (i + 1)
    refine W.skip ?_
    refine thn_n ?_
    refine W.seq ?_
    refine W.block ?_
    refine W.seq ?_
    refine W.region ?_
    refine L.val (x_mv (v := .int _ _) rfl) rfl ?_
    refine L.val (x_add rfl rfl (wr64 (by omega))) rfl ?_
    refine L.val (x_as (v := .int _ _) rfl) rfl ?_
    refine L.nil ?_
    refine thn_n ?_
    refine W.seq ?_
    refine W.seq ?_
    refine W.region ?_
    refine L.val (x_as (v := .int _ _) rfl) rfl ?_
    refine L.nil ?_
    refine thn_n ?_
    refine W.block ?_
    refine W.loop (fun m' E w' => ∃ (j : Nat), m' = (l.getD i default).bods.length - j ∧ E 0 = .slice (some ⟨b, o, none⟩) l.length cv ∧ E 3 = .int .i64 (costW (l.take i) + 100 + costB ((l.getD i default).bods.take j) : Nat) ∧ E 4 = .int .i64 (i : Nat) ∧ E 5 = .int .i64 (j : Nat) ∧ (j ≤ (l.getD i default).bods.length) ∧ (costB ((l.getD i default).bods.take j) ≤ 60000) ∧ (w' = wL6)) ((l.getD i default).bods.length) ?_ ?_
    ·exact ⟨0, by omega, by first | rfl | exact vi (by omega) | exact vs (by first | assumption | (rw [hst]; done) | (rw [hst]; simp only [List.append_assoc])), by first | rfl | exact vi (by omega) | exact vs (by first | assumption | (rw [hst]; done) | (rw [hst]; simp only [List.append_assoc])), by first | rfl | exact vi (by omega) | exact vs (by first | assumption | (rw [hst]; done) | (rw [hst]; simp only [List.append_assoc])), by first | rfl | exact vi (by omega) | exact vs (by first | assumption | (rw [hst]; done) | (rw [hst]; simp only [List.append_assoc])), (by first | assumption | omega | rfl), (by simp [costB]), (by first | assumption | omega | rfl)⟩
    ·rintro _ E wL14 ⟨j, em, e0, e3, e4, e5, hj, hqj, hw1⟩
     rw [upd_self e0, upd_self e3, upd_self e4, upd_self e5]
     refine W.seq ?_
     refine W.seq ?_
     refine W.region ?_
     subst hw1
     refine L.val (x_mv (v := .int _ _) rfl) rfl ?_
     refine L.val (x_mv (v := .slice _ _ _) rfl) rfl ?_
     refine L.val (x_mv (v := .int _ _) rfl) rfl ?_
     refine L.val (x_ia (j := i) Try.underlying45 kwal11_sz51 rfl rfl (by omega) (by omega)) rfl ?_
     refine L.val (x_fa kwal11_fo51_1 rfl) rfl ?_
     refine L.val (x_ld (v := .slice _ _ _) kwal11_oc22 rfl hcb) rfl ?_
     refine L.val (x_len_slice Try.underlying22 rfl) rfl ?_
     refine L.val (x_lss rfl rfl) rfl ?_
     refine L.nil ?_
     refine thn_n ?_
     refine W.cond (b := _) rfl (fun g21 => ?_) (fun g21 => ?_)
     ·have h21 := of_decide_eq_true g21
      have hltj : j < (l.getD i default).bods.length := by omega
      obtain ⟨bj, oj, rfl, hcj⟩ := hs.elem hltj
      have hstj := costB_take hltj
      have hlej := costB_le (l.getD i default).bods (j + 1)
      refine W.skip ?_
      refine thn_n ?_
      refine W.seq ?_
      refine W.block ?_
      refine W.seq ?_
      refine W.region ?_
      refine L.val (x_mv (v := .int _ _) rfl) rfl ?_
      refine L.val (x_mv (v := .slice _ _ _) rfl) rfl ?_
      refine L.val (x_mv (v := .int _ _) rfl) rfl ?_
      refine L.val (x_ia (j := i) Try.underlying45 kwal11_sz51 rfl rfl (by omega) (by omega)) rfl ?_
      refine L.val (x_fa kwal11_fo51_1 rfl) rfl ?_
      refine L.val (x_ld (v := .slice _ _ _) kwal11_oc22 rfl hcb) rfl ?_
      refine L.val (x_mv (v := .int _ _) rfl) rfl ?_
      refine L.val (x_ia1 (j := j) Try.underlying22 kwal11_sz9 rfl rfl (by omega) (by omega)) rfl ?_
      refine L.val (x_ld (v := S _) kwal11_oc9 rfl hcj) rfl ?_
      refine L.val (x_len_str Try.underlying9 rfl) rfl ?_
      refine L.val (x_min rfl rfl) rfl ?_
      refine L.val (x_add rfl rfl (wr64 (by omega))) rfl ?_
      refine L.val (x_add rfl rfl (wr64 (by omega))) rfl ?_
      refine L.val (x_as (v := .int _ _) rfl) rfl ?_
      refine L.nil ?_
      refine thn_n ?_
      refine W.seq ?_
      refine W.region ?_
      refine L.val (x_mv (v := .int _ _) rfl) rfl ?_
      refine L.val (x_gtr rfl rfl) rfl ?_
      refine L.nil ?_
      refine thn_n ?_
      refine W.cond (b := _) rfl (fun g38 => ?_) (fun g38 => ?_)
      ·have h38 := of_decide_eq_true g38
       have hf : fewA l = false := decide_eq_false (by omega)
       refine W.seq ?_
       refine W.region ?_
       refine L.val (x_as (v := .bool _) rfl) rfl ?_
       refine L.nil ?_
       refine thn_n ?_
       refine W.ret (blk_r (thn_r (thn_r (blk_r (thn_r (blk_r (thn_r (thn_r (blk_r (thn_r (fin_mk (.inr rfl) ?_)))))))))))
       rw [hf]; exact ⟨rfl, rfl⟩
      ·have h38 := dlt_f g38
       refine W.skip ?_
       refine blk_n ?_
       refine thn_n ?_
       refine W.region ?_
       refine L.val (x_mv (v := .int _ _) rfl) rfl ?_
       refine L.val (x_add rfl rfl (wr64 (by omega))) rfl ?_
       refine L.val (x_as (v := .int _ _) rfl) rfl ?_
       refine L.nil ?_
       refine thn_n ⟨rfl, ?_⟩
       refine ⟨_, ?_, j + 1, rfl, by first | rfl | exact vi (by omega) | exact vs (by first | assumption | (rw [hst]; done) | (rw [hst]; simp only [List.append_assoc])), by first | rfl | exact vi (by omega) | exact vs (by first | assumption | (rw [hst]; done) | (rw [hst]; simp only [List.append_assoc])), by first | rfl | exact vi (by omega) | exact vs (by first | assumption | (rw [hst]; done) | (rw [hst]; simp only [List.append_assoc])), by first | rfl | exact vi (by omega) | exact vs (by first | assumption | (rw [hst]; done) | (rw [hst]; simp only [List.append_assoc])), (by first | assumption | omega | rfl), (by first | assumption | omega | rfl), (by first | assumption | omega | rfl)⟩
       omega
     ·have h21 := dlt_f g21
      have hje : j = (l.getD i default).bods.length := by omega
      subst hje
      rw [List.take_length] at *
      refine W.exit (thn_x (thn_x (blk_hit ?_)))
      refine thn_n ?_
      refine W.seq ?_
      refine W.region ?_
      refine L.val (x_mv (v := .int _ _) rfl) rfl ?_
      refine L.val (x_gtr rfl rfl) rfl ?_
      refine L.nil ?_
      refine thn_n ?_
      refine W.cond (b := _) rfl (fun g40 => ?_) (fun g40 => ?_)
      ·have h40 := of_decide_eq_true g40
       have hf : fewA l = false := decide_eq_false (by omega)
       refine W.seq ?_
       refine W.region ?_
       refine L.val (x_as (v := .bool _) rfl) rfl ?_
       refine L.nil ?_
       refine thn_n ?_
       refine W.ret (blk_r (thn_r (thn_r (blk_r (thn_r (fin_mk (.inr rfl) ?_))))))
       rw [hf]; exact ⟨rfl, rfl⟩
      ·have h40 := dlt_f g40
       refine W.skip ?_
       refine blk_n ?_
       refine thn_n ?_
       refine W.region ?_
       refine L.val (x_mv (v := .int _ _) rfl) rfl ?_
       refine L.val (x_add rfl rfl (wr64 (by omega))) rfl ?_
       refine L.val (x_as (v := .int _ _) rfl) rfl ?_
       refine L.nil ?_
       refine thn_n ⟨rfl, ?_⟩
       refine ⟨_, ?_, i + 1, rfl, by first | rfl | exact vi (by omega) | exact vs (by first | assumption | (rw [hst]; done) | (rw [hst]; simp only [List.append_assoc])), by first | rfl | exact vi (by omega) | exact vs (by first | assumption | (rw [hst]; done) | (rw [hst]; simp only [List.append_assoc])), by first | rfl | exact vi (by omega) | exact vs (by first | assumption | (rw [hst]; done) | (rw [hst]; simp only [List.append_assoc])), (by first | assumption | omega | rfl), (by first | assumption | omega | rfl), (by first | assumption | omega | rfl)⟩
       omega
   ·have h9 := dlt_f g9
    have hie : i = l.length := by omega
    subst hie
    rw [List.take_length] at hq
    have hf : fewA l = true := decide_eq_true hq
    refine W.exit (thn_x (thn_x (blk_hit ?_)))
    refine thn_n ?_
    refine W.seq ?_
    refine W.region ?_
    refine L.val (x_as (v := .bool _) rfl) rfl ?_
    refine L.nil ?_
    refine thn_n ?_
    refine W.ret (fin_mk (.inr rfl) ?_)
    rw [hf]; exact ⟨rfl, rfl⟩
theorem x_tmod {E : Env} {w : World} {P : Program} {x y : Operand} {t u z : TypeId} {k : IntKind} {a b c : Int} (hx : ev E x = .int k a) (hy : ev E y = .int k b) (hb : b ≠ 0) (hc : a.tmod b = c) : X P (.binOp .rem u x y z) t E w (.int k c) w := by
  unfold X; simp [execOp, hx, hy, go_sem, Op.intDiv, hb, hc]
def secN (n : Int) : Nat := 6 + (n.tmod 60 + 60).toNat % 60
theorem secN_le (n : Int) : 6 ≤ secN n ∧ secN n ≤ 65 := by unfold secN; omega
theorem sectors21 (n : Int) (w : World) : Ret Try.prog 16 #[.int .i64 n] w fun v w' => v = .int .i64 (secN n : Nat) ∧ w' = w := by
  have h1 := Int.tmod_lt_of_pos n (show (0 : Int) < 60 by decide)
  have h2 : -60 < n.tmod 60 := by have := Int.lt_tmod_of_pos n (show (0 : Int) < 60 by decide); omega
  have h3 : (n.tmod 60 + 60).tmod 60 = (((n.tmod 60 + 60).toNat % 60 : Nat) : Int) := by
    rw [Int.tmod_eq_emod_of_nonneg (by omega)]; omega
  generalize hz : n.tmod 60 = z at *
  refine ret_of_W Try.func16 rfl (Nat.le_of_ble_eq_true rfl) (res1 rfl) ?_
  refine W.seq ?_
  refine W.region ?_
  refine L.val (x_as (v := .int _ _) rfl) rfl ?_
  refine L.nil ?_
  refine thn_n ?_
  refine W.seq ?_
  refine W.region ?_
  refine L.val (x_mv (v := .int _ _) rfl) rfl ?_
  refine L.val (x_tmod (c := z) rfl rfl (by decide) hz) rfl ?_
  refine L.val (x_add rfl rfl (wr64 (by omega))) rfl ?_
  refine L.val (x_tmod rfl rfl (by decide) h3) rfl ?_
  refine L.val (x_add rfl rfl (wr64 (by omega))) rfl ?_
  refine L.val (x_as (v := .int _ _) rfl) rfl ?_
  refine L.nil ?_
  refine thn_n ?_
  refine W.ret (fin_mk (.inr rfl) ?_)
  refine ⟨?_, rfl⟩
  have e : ((secN n : Nat) : Int) = 6 + (((z + 60).toNat % 60 : Nat) : Int) := by unfold secN; rw [hz]; omega
  rw [e]; rfl
theorem need_le {l : List Str} : need l ≤ costB l + 3 * l.length := by
  unfold need costB
  induction l with
  | nil => simp
  | cons s l ih => simp only [List.map_cons, List.sum_cons, List.length_cons]; omega
theorem len_costB (l : List Str) : 10 * l.length ≤ costB l := by
  unfold costB
  induction l with
  | nil => simp
  | cons s l ih => simp only [List.map_cons, List.sum_cons, List.length_cons]; omega
end Go.Gx
namespace Go.Gx
open Go.ChangeShapes Go.WideShapes Go.Deep Go.RowKit
section
variable {H : Type} {enc : TypeId × Value → H} {P : Program} {w : World} {base : Nat} {spare : Nat → Bool} {held : Bool}
def StzC (_ : Nat → Prop) (_ : World) (cs : List Value) (x : Str) : Prop := cs = [S x] ∧ x.length ≤ 140737488355328
theorem stz_open {e : TypeId} (he : P.underlying e = some .string) (fuel : Nat) (cs : List Value) (x : DataW H × List MemPlace) (h : DataW.trod enc P w base spare held fuel e cs = some x) (hw : (x.1.weights P e).all (· ≤ reachBytes) = true) : ∃ s, StzC (fun _ => False) w cs s := by
  obtain ⟨s, e1, e2, -⟩ := DataW.trod_string he (x := x) h
  refine ⟨s.data.toList, by rw [e1]; simp [S], ?_⟩
  rw [e2] at hw
  have h3 := reachBytes_lt
  have : s.data.toList.length ≤ reachBytes := by simpa [DataW.weights] using hw
  omega
theorem strz_open {t e : TypeId} {fuel : Nat} {v : Value} {x : DataW H × List MemPlace} (ht : P.underlying t = some (.slice e)) (he : P.underlying e = some .string) (hc : P.cellsOf e = 1) (hb : 2 ≤ P.bytesOf e)
    (h : DataW.trod enc P w base spare held fuel t [v] = some x) (hw : (x.1.weights P t).all (· ≤ reachBytes) = true) : ∃ l, StrsAt (fun _ => False) w v l ∧ ∀ s ∈ l, s.length ≤ 140737488355328 := by
  obtain ⟨l, p, cap, row, rfl, h1, h2, h3, hR⟩ := recs_open (Cc := StzC) ht hc (by omega) hb (stz_open he) h hw
  have hlen : ∀ s ∈ l, s.length ≤ 140737488355328 := fun s hs => by
    obtain ⟨i, hi, rfl⟩ := List.getElem_of_mem hs
    have := (hR.each i hi).2
    rwa [List.getD_eq_getElem?_getD, List.getElem?_eq_getElem hi] at this
  refine ⟨l, ⟨p, cap, rfl, h1, h2, h3, fun s hs => by have := hlen s hs; omega, fun hne => ?_⟩, hlen⟩
  obtain ⟨b, o, hp, hA, hcell⟩ := hR.at_ hne
  refine ⟨b, o, hp, hA, fun i hi => ?_⟩
  have := hcell i 0 hi (by omega)
  rw [(hR.each i hi).1, Nat.mul_one, Nat.add_zero] at this
  rw [this, List.getD_eq_getElem?_getD]; simp [List.getElem?_eq_getElem hi]
theorem bls_open {t e : TypeId} {fuel : Nat} {v : Value} {x : DataW H × List MemPlace} (ht : P.underlying t = some (.slice e)) (he : P.underlying e = some .bool) (hc : P.cellsOf e = 1) (hb : 1 ≤ P.bytesOf e)
    (h : DataW.trod enc P w base spare held fuel t [v] = some x) (hw : (x.1.weights P t).all (· ≤ reachBytes) = true) : ∃ l, BlsAt (fun _ => False) w v l := by
  rcases open_slice1 ht hc h with ⟨h1, rfl⟩ | ⟨a, len, cap, m, n, V, D, Pl, h1, -, hl, hm, hmm, rfl, hx⟩
  · simp only [List.cons.injEq, and_true] at h1
    exact ⟨[], none, 0, h1, Nat.le_refl _, by simp, by simp, fun h => absurd rfl h⟩
  · simp only [List.cons.injEq, and_true] at h1
    subst h1
    have hlm : len ≤ m := by rw [hmm]; split <;> omega
    have hs : ∀ i, i < len → ∃ s : Bool, V i = .bool s := fun i hi => by
      obtain ⟨s, h1, -⟩ := DataW.trod_bool he (hx i (by omega)).2
      simp only [List.cons.injEq, and_true] at h1
      exact ⟨s, h1⟩
    obtain ⟨f, hf⟩ := choose_lt (α := Bool) hs
    have hby := (weights_slice ht hw).1
    have hlen : len ≤ 140737488355328 := by
      have h1 : len * P.bytesOf e ≤ reachBytes := Nat.le_trans (Nat.mul_le_mul_right _ (by simp)) hby
      have h2 : len * 1 ≤ len * P.bytesOf e := Nat.mul_le_mul_left _ hb
      have h3 := reachBytes_lt
      omega
    have e0 : ((List.range len).map f).length = len := by simp
    refine ⟨(List.range len).map f, some a, cap, by rw [e0], by rw [e0]; exact hl, hm, by rw [e0]; exact hlen, fun hne => ?_⟩
    have h0 : 0 < len := by rcases Nat.eq_zero_or_pos len with h | h; exact absurd (by rw [h]; rfl) hne; exact h
    have hc0 := (hx 0 (by omega)).1
    obtain ⟨b, o, spot⟩ := a
    have hspot : spot = none := by simpa [Addr.add] using World.cell?_spot hc0
    subst hspot
    refine ⟨b, o, rfl, fun f => f, fun i hi => ?_⟩
    rw [e0] at hi
    have hci := (hx i (by omega)).1
    rw [add_plain] at hci
    rw [hci, hf i hi, List.getD_eq_getElem?_getD, List.getElem?_map, List.getElem?_range hi]; rfl
structure FaT (P : Program) (tF eB : TypeId) (f0 f1 f2 : Field) : Prop where
  hB : P.underlying tF = some (.struct #[f0, f1, f2])
  h0 : P.underlying f0.type = some (.slice eB)
  hb : P.underlying eB = some .bool
  h1 : P.underlying f1.type = some (.int .i64)
  h2 : P.underlying f2.type = some (.int .i64)
  o : f0.offset = 0 ∧ f1.offset = 1 ∧ f2.offset = 2
  c : P.cellsOf f0.type = 1 ∧ P.cellsOf f1.type = 1 ∧ P.cellsOf f2.type = 1 ∧ P.cellsOf tF = 3 ∧ P.cellsOf eB = 1 ∧ 1 ≤ P.bytesOf eB
theorem fa_open {tF eB : TypeId} {f0 f1 f2 : Field} (G : FaT P tF eB f0 f1 f2) (fuel : Nat) (cs : List Value) (x : DataW H × List MemPlace) (h : DataW.trod enc P w base spare held fuel tF cs = some x) (hw : (x.1.weights P tF).all (· ≤ reachBytes) = true) :
    ∃ vk, ∃ l : List Bool, ∃ t c : Int, cs = [vk, .int .i64 t, .int .i64 c] ∧ BlsAt (fun _ => False) w vk l := by
  obtain ⟨xs, n, rfl, rfl, hlen, hxl, hf⟩ := DataW.trod_struct G.hB h
  obtain ⟨o0, o1, o2⟩ := G.o
  obtain ⟨c0, c1, c2, c3, c4, c5⟩ := G.c
  rw [c3] at hlen
  match cs, hlen with
  | [v0, v1, v2], _ =>
    match xs, hxl with
    | [x0, x1, x2], _ =>
      have g0' := hf 0 f0 rfl
      have g1' := hf 1 f1 rfl
      have g2' := hf 2 f2 rfl
      rw [o0, c0] at g0'; rw [o1, c1] at g1'; rw [o2, c2] at g2'
      have w0 := weights_at G.hB hw (i := 0) (f := f0) (d := x0.1) rfl rfl
      obtain ⟨l, hl⟩ := bls_open G.h0 G.hb c4 c5 (x := x0) g0' w0
      obtain ⟨k1, e1, -, -⟩ := DataW.trod_int G.h1 (x := x1) g1'
      obtain ⟨k2, e2, -, -⟩ := DataW.trod_int G.h2 (x := x2) g2'
      simp at e1 e2
      exact ⟨v0, l, k1, k2, by rw [e1, e2], hl⟩
structure WcT (P : Program) (tB tF eS : TypeId) (g0 g1 g2 g3 : Field) : Prop where
  hB : P.underlying tB = some (.struct #[g0, g1, g2, g3])
  h0 : P.underlying g0.type = some (.int .i64)
  h1 : P.underlying g1.type = some (.slice eS)
  hs : P.underlying eS = some .string
  h2 : P.underlying g2.type = some (.int .i64)
  h3 : g3.type = tF
  o : g0.offset = 0 ∧ g1.offset = 1 ∧ g2.offset = 2 ∧ g3.offset = 3
  c : P.cellsOf g0.type = 1 ∧ P.cellsOf g1.type = 1 ∧ P.cellsOf g2.type = 1 ∧ P.cellsOf tF = 3 ∧ P.cellsOf tB = 6 ∧ P.cellsOf eS = 1 ∧ 2 ≤ P.bytesOf eS
theorem int_arg {tT : TypeId} (ht : P.underlying tT = some (.int .i64)) {W : World} {base : Nat} {v : Value} {d : DataW H} {p : List MemPlace}
    (hv : Value.okWide P W .any base tT v) (h : DataW.Trod enc P W 0 (fun _ => true) true tT v d p) : ∃ n : Int, v = .int .i64 n ∧ True := by
  obtain ⟨fuel, h⟩ := h
  have hcells : v.cells.toList = [v] := by
    unfold Value.okWide at hv
    rw [ht] at hv
    cases v <;> simp_all [Value.cells, Cell.okWide, Cell.ok]
  rw [hcells] at h
  obtain ⟨k0, e0, -, -⟩ := DataW.trod_int ht h
  simp at e0
  exact ⟨k0, e0, trivial⟩
end
end Go.Gx
namespace Go.Gx
open Go.ChangeShapes Go.WideShapes Go.Deep Go.RowKit
section
variable {H : Type} {enc : TypeId × Value → H} {P : Program} {w : World} {base : Nat} {spare : Nat → Bool} {held : Bool}
def WcD (A : Nat → Prop) (w : World) (cs : List Value) (a : Wc) : Prop := WcC A w cs a ∧ a.at' ≤ 9223372036854775807
instance car_wd : Car WcD 6 where
  pos := by omega
  len := fun h => Car.len h.1
  one := fun h => Car.one h.1
  move := fun hc h => ⟨Car.move hc h.1, h.2⟩
theorem wf64 {n : Int} (h : (Lit.int .i64 n).wf = true) : n ≤ 9223372036854775807 := by
  simp only [Lit.wf, Bool.and_eq_true, decide_eq_true_eq] at h
  exact h.2
theorem wd_open {tB tF eS eB : TypeId} {g0 g1 g2 g3 f0 f1 f2 : Field} (G : WcT P tB tF eS g0 g1 g2 g3) (F : FaT P tF eB f0 f1 f2) (fuel : Nat) (cs : List Value) (x : DataW H × List MemPlace) (h : DataW.trod enc P w base spare held fuel tB cs = some x) (hw : (x.1.weights P tB).all (· ≤ reachBytes) = true) :
    ∃ a, WcD (fun _ => False) w cs a := by
  obtain ⟨xs, n, rfl, rfl, hlen, hxl, hf⟩ := DataW.trod_struct G.hB h
  obtain ⟨o0, o1, o2, o3⟩ := G.o
  obtain ⟨c0, c1, c2, c3, c4, c5, c6⟩ := G.c
  rw [c4] at hlen
  match cs, hlen with
  | [v0, v1, v2, v3, v4, v5], _ =>
    match xs, hxl with
    | [x0, x1, x2, x3], _ =>
      have g0' := hf 0 g0 rfl
      have g1' := hf 1 g1 rfl
      have g2' := hf 2 g2 rfl
      have g3' := hf 3 g3 rfl
      rw [o0, c0] at g0'; rw [o1, c1] at g1'; rw [o2, c2] at g2'; rw [o3, G.h3, c3] at g3'
      have w1 := weights_at G.hB hw (i := 1) (f := g1) (d := x1.1) rfl rfl
      have w3 := weights_at G.hB hw (i := 3) (f := g3) (d := x3.1) rfl rfl
      rw [G.h3] at w3
      obtain ⟨k0, e0, -, -⟩ := DataW.trod_int G.h0 (x := x0) g0'
      obtain ⟨bs, hbs, hbl⟩ := strz_open G.h1 G.hs c5 c6 (x := x1) g1' w1
      obtain ⟨k2, e2, -, b2⟩ := DataW.trod_int G.h2 (x := x2) g2'
      obtain ⟨vk, ks, t, c, e3, hk⟩ := fa_open F _ _ x3 g3' w3
      simp at e0 e2
      have e3 : [v3, v4, v5] = [vk, .int .i64 t, .int .i64 c] := e3
      simp only [List.cons.injEq, and_true] at e3
      exact ⟨⟨k0, bs, k2, ks, t, c⟩, ⟨v1, vk, by rw [e0, e2, e3.1, e3.2.1, e3.2.2]; rfl, hbs, hk, hbl⟩, wf64 b2⟩
theorem wds_arg {tE tB tF eS eB : TypeId} {g0 g1 g2 g3 f0 f1 f2 : Field} (hE : P.underlying tE = some (.slice tB)) (hb : 2 ≤ P.bytesOf tB) (G : WcT P tB tF eS g0 g1 g2 g3) (F : FaT P tF eB f0 f1 f2) {W : World} {base : Nat} {v : Value} {d : DataW H} {p : List MemPlace}
    (hv : Value.okWide P W .any base tE v) (h : DataW.Trod enc P W 0 (fun _ => true) true tE v d p) (hw : (d.weights P tE).all (· ≤ reachBytes) = true) : ∃ l, RecsAt WcC 6 (fun _ => False) W v l ∧ ∀ i, i < l.length → (l.getD i default).at' ≤ 9223372036854775807 := by
  obtain ⟨l, pv, cv, row, e, h1, h2, h3, hR⟩ := recs_arg (Cc := WcD) hE G.c.2.2.2.2.1 (by omega) hb (fun fuel cs x h hw => wd_open G F fuel cs x h hw) hv h hw
  exact ⟨l, ⟨pv, cv, row, e, h1, h2, h3, ⟨hR.at_, hR.len, fun i hi => (hR.each i hi).1⟩⟩, fun i hi => (hR.each i hi).2⟩
end
end Go.Gx
