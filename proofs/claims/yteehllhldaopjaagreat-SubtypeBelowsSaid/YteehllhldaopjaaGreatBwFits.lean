/- The program's own Check, Size, Deep, Closed: what the reference's say. Conditions: none. -/
import Derived.Test.YteehllhldaopjaaGreatBwCompact
import Derived.Test.YteehllhldaopjaaGreatBwEq
namespace Go.Gx
open Go.Proofs
theorem kfits_ag25 : aggT Tryz.prog 25 5 = true := by kernel_rfl
theorem kfits_en132 : Go.Proofs.Enters Tryz.prog 132 := Go.Proofs.enters_of Tryz.func132 (by kernel_rfl) rfl
theorem kfits_en134 : Go.Proofs.Enters Tryz.prog 134 := Go.Proofs.enters_of Tryz.func134 (by kernel_rfl) rfl
theorem kfits_en147 : Go.Proofs.Enters Tryz.prog 147 := Go.Proofs.enters_of Tryz.func147 (by kernel_rfl) rfl
theorem kfits_en148 : Go.Proofs.Enters Tryz.prog 148 := Go.Proofs.enters_of Tryz.func148 (by kernel_rfl) rfl
theorem kfits_fo25_0 : fieldOff Tryz.prog 25 0 = some 0 := by kernel_rfl
theorem kfits_fo25_1 : fieldOff Tryz.prog 25 1 = some 1 := by kernel_rfl
theorem kfits_fo25_2 : fieldOff Tryz.prog 25 2 = some 2 := by kernel_rfl
theorem kfits_fo25_3 : fieldOff Tryz.prog 25 3 = some 3 := by kernel_rfl
theorem kfits_fo25_4 : fieldOff Tryz.prog 25 4 = some 4 := by kernel_rfl
theorem kfits_oc22 : oneCellT Tryz.prog 22 = true := by kernel_rfl
theorem kfits_oc23 : oneCellT Tryz.prog 23 = true := by kernel_rfl
theorem kfits_oc3 : oneCellT Tryz.prog 3 = true := by kernel_rfl
theorem kfits_oc9 : oneCellT Tryz.prog 9 = true := by kernel_rfl
theorem plain_ok (l : Str) (w : World) : Ret Tryz.prog 148 #[S l] w fun v w' => v = .bool (plainS l) ∧ Bel w w' := by
  refine ret_of_W Tryz.func148 rfl (Nat.le_of_ble_eq_true rfl) (res1 rfl) ?_
  have hB := Gr.refl (fun _ => False) w
  refine W.seq ?_
  refine W.region ?_
  refine L.val (x_as (v := .bool _) rfl) rfl ?_
  refine L.nil ?_
  refine thn_n ?_
  refine W.seq ?_
  refine W.region ?_
  refine L.val (x_mv (v := S _) rfl) rfl ?_
  refine L.val (x_eqs rfl rfl) rfl ?_
  refine L.val (x_mv (v := .bool _) rfl) rfl ?_
  refine' L.group0 2 6 7 7 5 false rfl ?_ ?_ ?_
  rotate_left 1
  ·intro g5
   have h5 := seq_f g5
   refine L.gyes' (dj := 5) (b := _) rfl rfl g5 ?_
   refine L.val (x_mv (v := S _) rfl) rfl ?_
   refine L.gyes' (dj := 5) (b := _) rfl rfl g5 ?_
   refine L.val (x_eqs rfl rfl) rfl ?_
   refine L.nil ?_
   refine thn_n ⟨rfl, rfl, ?_, rfl⟩
   repeat (first | exact jeq.refl _ _ _ | refine jeq.upd rfl ?_ | refine jeq.jk rfl rfl ?_)
  ·intro g5
   refine L.gno (dj := 5) (b := _) rfl rfl g5 rfl ?_
   refine L.gno (dj := 5) (b := _) rfl rfl g5 rfl ?_
   refine L.nil (thn_n ⟨rfl, rfl, ?_⟩)
   repeat (first | exact jeq.refl _ _ _ | refine jeq.upd rfl ?_ | refine jeq.jk rfl rfl ?_)
  intro J5 j5
  refine L.val (x_or rfl j5) rfl ?_
  refine L.val (x_mv (v := .bool _) rfl) rfl ?_
  refine' L.group0 2 10 11 11 9 false rfl ?_ ?_ ?_
  rotate_left 1
  ·intro g9
   have h9 := g9
   refine L.gyes' (dj := 9) (b := _) rfl rfl g9 ?_
   refine L.val (x_mv (v := S _) rfl) rfl ?_
   refine L.gyes' (dj := 9) (b := _) rfl rfl g9 ?_
   refine L.val (x_eqs rfl rfl) rfl ?_
   refine L.nil ?_
   refine thn_n ⟨rfl, rfl, ?_, rfl⟩
   repeat (first | exact jeq.refl _ _ _ | refine jeq.upd rfl ?_ | refine jeq.jk rfl rfl ?_)
  ·intro g9
   refine L.gno (dj := 9) (b := _) rfl rfl g9 rfl ?_
   refine L.gno (dj := 9) (b := _) rfl rfl g9 rfl ?_
   refine L.nil (thn_n ⟨rfl, rfl, ?_⟩)
   repeat (first | exact jeq.refl _ _ _ | refine jeq.upd rfl ?_ | refine jeq.jk rfl rfl ?_)
  intro J9 j9
  refine L.val (x_or rfl j9) rfl ?_
  refine L.val (x_mv (v := .bool _) rfl) rfl ?_
  refine' L.group0 2 14 15 15 13 false rfl ?_ ?_ ?_
  rotate_left 1
  ·intro g13
   have h13 := g13
   refine L.gyes' (dj := 13) (b := _) rfl rfl g13 ?_
   refine L.val (x_mv (v := S _) rfl) rfl ?_
   refine L.gyes' (dj := 13) (b := _) rfl rfl g13 ?_
   refine L.val (x_eqs rfl rfl) rfl ?_
   refine L.nil ?_
   refine thn_n ⟨rfl, rfl, ?_, rfl⟩
   repeat (first | exact jeq.refl _ _ _ | refine jeq.upd rfl ?_ | refine jeq.jk rfl rfl ?_)
  ·intro g13
   refine L.gno (dj := 13) (b := _) rfl rfl g13 rfl ?_
   refine L.gno (dj := 13) (b := _) rfl rfl g13 rfl ?_
   refine L.nil (thn_n ⟨rfl, rfl, ?_⟩)
   repeat (first | exact jeq.refl _ _ _ | refine jeq.upd rfl ?_ | refine jeq.jk rfl rfl ?_)
  intro J13 j13
  refine L.val (x_or rfl j13) rfl ?_
  refine L.val (x_as (v := .bool _) rfl) rfl ?_
  refine L.nil ?_
  refine thn_n ?_
  refine W.ret (fin_mk (.inr rfl) ?_)
  exact ⟨vb rfl, hB⟩
section
variable {s : Sh}
theorem fits_bare (h : 1 ≤ s.kind ∧ s.kind ≤ 4) : fitsS s = (((s.of == [] && s.name == []) && decide ((s.names.length : Int) = 0)) && decide ((s.parts.length : Int) = 0)) := by
  unfold fitsS
  rw [if_neg (by simp; omega)]
  cases s.of == [] <;> cases s.name == [] <;> simp
  rw [if_neg (by simp; omega)]
  by_cases hn : s.names = []
  · simp [hn, show s.kind ≠ 8 by omega, show s.kind ≠ 5 by omega, h.1, h.2]
  · simp [hn]
theorem fits_list (h : s.kind = 5) : fitsS s = (((s.of == [] && s.name == []) && decide ((s.names.length : Int) = 0)) && decide ((s.parts.length : Int) = 1)) := by
  unfold fitsS
  rw [if_neg (by simp; omega)]
  cases s.of == [] <;> cases s.name == [] <;> simp [h]
  by_cases hn : s.names = []
  · simp [hn]
  · simp [hn]
theorem fits_rec (h : s.kind = 6 ∨ s.kind = 7) : fitsS s = ((s.of == [] && s.name == []) && namesOk s.names s.parts.length) := by
  unfold fitsS
  rw [if_neg (by simp; omega)]
  cases s.of == [] <;> cases s.name == [] <;> simp
  intro h6 h7; omega
theorem fits_tup (h : s.kind = 8) : fitsS s = (((s.of == [] && s.name == []) && decide ((s.names.length : Int) = 0)) && decide ((0 : Int) < (s.parts.length : Int))) := by
  unfold fitsS
  rw [if_neg (by simp; omega)]
  cases s.of == [] <;> cases s.name == [] <;> simp [h]
  by_cases hn : s.names = []
  · simp [hn]
    cases s.parts <;> simp
    omega
  · simp [hn]
theorem fits_name (h : s.kind = 9) : fitsS s = (((upperS s.name && ((s.of == [] && !plainS s.name) || nameS s.of)) && decide ((s.names.length : Int) = 0)) && decide ((s.parts.length : Int) = 0)) := by
  unfold fitsS
  rw [if_pos (by simp [h])]
  simp [h, Bool.or_comm]
theorem fits_var (h : s.kind = 10) : fitsS s = (((upperS s.name && nameS s.of) && decide ((s.names.length : Int) = 0)) && decide ((s.parts.length : Int) = 0)) := by
  unfold fitsS
  rw [if_pos (by simp [h])]
  simp [h]
theorem fits_none (h : s.kind < 1 ∨ 10 < s.kind) : fitsS s = false := by
  unfold fitsS
  rw [if_neg (by simp; omega)]
  cases s.of == [] <;> cases s.name == [] <;> simp
  rw [if_neg (by omega)]
  intro _
  rw [if_neg (by omega), if_neg (by omega)]
  intros; omega
end
theorem fits_ok (A : Nat → Prop) (s : Sh) (cs : List Value) (w : World) (hs : ShC A w cs s) (hS : s.parts.length ≤ 400000) :
    Ret Tryz.prog 101 #[.agg cs.toArray] w fun v w' => v = .bool (fitsS s) ∧ Bel w w' := by
  have hs0 := hs
  obtain ⟨vn, vp, rfl, hn, hp, hof, hnm⟩ := hs.inv
  obtain ⟨p, cap, row, rfl, p1, p2, p3, hr⟩ := hp
  obtain ⟨pn, capn, rfl, n1, n2, n3, hL, -⟩ := id hn
  clear hn
  refine ret_of_W Tryz.func101 rfl (Nat.le_of_ble_eq_true rfl) (res1 rfl) ?_
  have hB := Gr.refl (fun _ => False) w
  refine W.seq ?_
  refine W.region ?_
  refine L.box (cs := _) rfl rfl (fun w1 bx1 hw hz1 => ?_)
  have hB := hB.carry hw; have hs := hs.carry hw
  refine L.val (x_as (v := .bool _) rfl) rfl ?_
  refine L.nil ?_
  refine thn_n ?_
  refine W.seq ?_
  refine W.region ?_
  refine L.val (x_fa kfits_fo25_1 rfl) rfl ?_
  refine L.val (x_ld (v := S _) kfits_oc9 rfl (bx1.cell0 rfl)) rfl ?_
  refine L.val (x_eqs rfl rfl) rfl ?_
  refine L.val (x_mv (v := .bool _) rfl) rfl ?_
  refine' L.group0 3 8 10 10 7 true rfl ?_ ?_ ?_
  rotate_left 1
  ·intro g7
   have h7 := seq_t g7
   refine L.gyes' (dj := 7) (b := _) rfl rfl g7 ?_
   refine L.val (x_fa kfits_fo25_2 rfl) rfl ?_
   refine L.gyes' (dj := 7) (b := _) rfl rfl g7 ?_
   refine L.val (x_ld (v := S _) kfits_oc9 rfl (bx1.cell0 rfl)) rfl ?_
   refine L.gyes' (dj := 7) (b := _) rfl rfl g7 ?_
   refine L.val (x_eqs rfl rfl) rfl ?_
   refine L.nil ?_
   refine thn_n ⟨rfl, rfl, ?_, rfl⟩
   repeat (first | exact jeq.refl _ _ _ | refine jeq.upd rfl ?_ | refine jeq.jk rfl rfl ?_)
  ·intro g7
   refine L.gno (dj := 7) (b := _) rfl rfl g7 rfl ?_
   refine L.gno (dj := 7) (b := _) rfl rfl g7 rfl ?_
   refine L.gno (dj := 7) (b := _) rfl rfl g7 rfl ?_
   refine L.nil (thn_n ⟨rfl, rfl, ?_⟩)
   repeat (first | exact jeq.refl _ _ _ | refine jeq.upd rfl ?_ | refine jeq.jk rfl rfl ?_)
  intro J7 j7
  refine L.val (x_and rfl j7) rfl ?_
  refine L.val (x_as (v := .bool _) rfl) rfl ?_
  refine L.nil ?_
  refine thn_n ?_
  refine W.seq ?_
  refine W.seq ?_
  refine W.region ?_
  refine L.val (x_fa kfits_fo25_0 rfl) rfl ?_
  refine L.val (x_ld (v := .int _ _) kfits_oc3 rfl (bx1.cell0 rfl)) rfl ?_
  refine L.nil ?_
  refine thn_n ?_
  refine W.block ?_
  refine W.seq ?_
  refine W.seq ?_
  refine W.region ?_
  refine L.val (x_eql rfl rfl) rfl ?_
  refine L.val (x_as (v := .bool _) rfl) rfl ?_
  refine L.nil ?_
  refine thn_n ?_
  refine W.cond (b := _) rfl (fun g15 => ?_) (fun g15 => ?_)
  ·have h15 := of_decide_eq_true g15
   refine W.skip ?_
   refine thn_n ?_
   refine W.cond (b := _) rfl (fun _ => ?_) (fun h => nomatch (g15.symm.trans h : true = false))
   refine W.seq ?_
   refine W.region ?_
   refine L.val (x_mv (v := .bool _) rfl) rfl ?_
   refine L.val (x_mv (v := .bool _) rfl) rfl ?_
   refine' L.group0 4 21 24 24 20 true rfl ?_ ?_ ?_
   rotate_left 1
   ·intro g20
    have h20 := g20
    refine L.gyes' (dj := 20) (b := _) rfl rfl g20 ?_
    refine L.val (x_fa kfits_fo25_3 rfl) rfl ?_
    refine L.gyes' (dj := 20) (b := _) rfl rfl g20 ?_
    refine L.val (x_ld (v := .slice _ _ _) kfits_oc22 rfl (bx1.cell0 rfl)) rfl ?_
    refine L.gyes' (dj := 20) (b := _) rfl rfl g20 ?_
    refine L.val (x_len_slice Tryz.underlying22 rfl) rfl ?_
    refine L.gyes' (dj := 20) (b := _) rfl rfl g20 ?_
    refine L.val (x_eql rfl rfl) rfl ?_
    refine L.nil ?_
    refine thn_n ⟨rfl, rfl, ?_, rfl⟩
    repeat (first | exact jeq.refl _ _ _ | refine jeq.upd rfl ?_ | refine jeq.jk rfl rfl ?_)
   ·intro g20
    refine L.gno (dj := 20) (b := _) rfl rfl g20 rfl ?_
    refine L.gno (dj := 20) (b := _) rfl rfl g20 rfl ?_
    refine L.gno (dj := 20) (b := _) rfl rfl g20 rfl ?_
    refine L.gno (dj := 20) (b := _) rfl rfl g20 rfl ?_
    refine L.nil (thn_n ⟨rfl, rfl, ?_⟩)
    repeat (first | exact jeq.refl _ _ _ | refine jeq.upd rfl ?_ | refine jeq.jk rfl rfl ?_)
   intro J20 j20
   refine L.val (x_and rfl j20) rfl ?_
   refine L.val (x_mv (v := .bool _) rfl) rfl ?_
   refine' L.group0 4 27 30 30 26 true rfl ?_ ?_ ?_
   rotate_left 1
   ·intro g26
    have h26 := g26
    refine L.gyes' (dj := 26) (b := _) rfl rfl g26 ?_
    refine L.val (x_fa kfits_fo25_4 rfl) rfl ?_
    refine L.gyes' (dj := 26) (b := _) rfl rfl g26 ?_
    refine L.val (x_ld (v := .slice _ _ _) kfits_oc23 rfl (bx1.cell0 rfl)) rfl ?_
    refine L.gyes' (dj := 26) (b := _) rfl rfl g26 ?_
    refine L.val (x_len_slice Tryz.underlying23 rfl) rfl ?_
    refine L.gyes' (dj := 26) (b := _) rfl rfl g26 ?_
    refine L.val (x_eql rfl rfl) rfl ?_
    refine L.nil ?_
    refine thn_n ⟨rfl, rfl, ?_, rfl⟩
    repeat (first | exact jeq.refl _ _ _ | refine jeq.upd rfl ?_ | refine jeq.jk rfl rfl ?_)
   ·intro g26
    refine L.gno (dj := 26) (b := _) rfl rfl g26 rfl ?_
    refine L.gno (dj := 26) (b := _) rfl rfl g26 rfl ?_
    refine L.gno (dj := 26) (b := _) rfl rfl g26 rfl ?_
    refine L.gno (dj := 26) (b := _) rfl rfl g26 rfl ?_
    refine L.nil (thn_n ⟨rfl, rfl, ?_⟩)
    repeat (first | exact jeq.refl _ _ _ | refine jeq.upd rfl ?_ | refine jeq.jk rfl rfl ?_)
   intro J26 j26
   refine L.val (x_and rfl j26) rfl ?_
   refine L.val (x_as (v := .bool _) rfl) rfl ?_
   refine L.nil ?_
   refine thn_n ?_
   refine W.ret (blk_r (thn_r (fin_mk (.inr rfl) ?_)))
   exact ⟨vb (fits_bare (by omega)).symm, hB⟩
  ·have h15 := of_decide_eq_false g15
   refine W.seq ?_
   refine W.region ?_
   refine L.val (x_eql rfl rfl) rfl ?_
   refine L.val (x_as (v := .bool _) rfl) rfl ?_
   refine L.nil ?_
   refine thn_n ?_
   refine W.cond (b := _) rfl (fun g16 => ?_) (fun g16 => ?_)
   ·have h16 := of_decide_eq_true g16
    refine W.skip ?_
    refine thn_n ?_
    refine W.cond (b := _) rfl (fun _ => ?_) (fun h => nomatch (g16.symm.trans h : true = false))
    refine W.seq ?_
    refine W.region ?_
    refine L.val (x_mv (v := .bool _) rfl) rfl ?_
    refine L.val (x_mv (v := .bool _) rfl) rfl ?_
    refine' L.group0 4 21 24 24 20 true rfl ?_ ?_ ?_
    rotate_left 1
    ·intro g20
     have h20 := g20
     refine L.gyes' (dj := 20) (b := _) rfl rfl g20 ?_
     refine L.val (x_fa kfits_fo25_3 rfl) rfl ?_
     refine L.gyes' (dj := 20) (b := _) rfl rfl g20 ?_
     refine L.val (x_ld (v := .slice _ _ _) kfits_oc22 rfl (bx1.cell0 rfl)) rfl ?_
     refine L.gyes' (dj := 20) (b := _) rfl rfl g20 ?_
     refine L.val (x_len_slice Tryz.underlying22 rfl) rfl ?_
     refine L.gyes' (dj := 20) (b := _) rfl rfl g20 ?_
     refine L.val (x_eql rfl rfl) rfl ?_
     refine L.nil ?_
     refine thn_n ⟨rfl, rfl, ?_, rfl⟩
     repeat (first | exact jeq.refl _ _ _ | refine jeq.upd rfl ?_ | refine jeq.jk rfl rfl ?_)
    ·intro g20
     refine L.gno (dj := 20) (b := _) rfl rfl g20 rfl ?_
     refine L.gno (dj := 20) (b := _) rfl rfl g20 rfl ?_
     refine L.gno (dj := 20) (b := _) rfl rfl g20 rfl ?_
     refine L.gno (dj := 20) (b := _) rfl rfl g20 rfl ?_
     refine L.nil (thn_n ⟨rfl, rfl, ?_⟩)
     repeat (first | exact jeq.refl _ _ _ | refine jeq.upd rfl ?_ | refine jeq.jk rfl rfl ?_)
    intro J20 j20
    refine L.val (x_and rfl j20) rfl ?_
    refine L.val (x_mv (v := .bool _) rfl) rfl ?_
    refine' L.group0 4 27 30 30 26 true rfl ?_ ?_ ?_
    rotate_left 1
    ·intro g26
     have h26 := g26
     refine L.gyes' (dj := 26) (b := _) rfl rfl g26 ?_
     refine L.val (x_fa kfits_fo25_4 rfl) rfl ?_
     refine L.gyes' (dj := 26) (b := _) rfl rfl g26 ?_
     refine L.val (x_ld (v := .slice _ _ _) kfits_oc23 rfl (bx1.cell0 rfl)) rfl ?_
     refine L.gyes' (dj := 26) (b := _) rfl rfl g26 ?_
     refine L.val (x_len_slice Tryz.underlying23 rfl) rfl ?_
     refine L.gyes' (dj := 26) (b := _) rfl rfl g26 ?_
     refine L.val (x_eql rfl rfl) rfl ?_
     refine L.nil ?_
     refine thn_n ⟨rfl, rfl, ?_, rfl⟩
     repeat (first | exact jeq.refl _ _ _ | refine jeq.upd rfl ?_ | refine jeq.jk rfl rfl ?_)
    ·intro g26
     refine L.gno (dj := 26) (b := _) rfl rfl g26 rfl ?_
     refine L.gno (dj := 26) (b := _) rfl rfl g26 rfl ?_
     refine L.gno (dj := 26) (b := _) rfl rfl g26 rfl ?_
     refine L.gno (dj := 26) (b := _) rfl rfl g26 rfl ?_
     refine L.nil (thn_n ⟨rfl, rfl, ?_⟩)
     repeat (first | exact jeq.refl _ _ _ | refine jeq.upd rfl ?_ | refine jeq.jk rfl rfl ?_)
    intro J26 j26
    refine L.val (x_and rfl j26) rfl ?_
    refine L.val (x_as (v := .bool _) rfl) rfl ?_
    refine L.nil ?_
    refine thn_n ?_
    refine W.ret (blk_r (thn_r (fin_mk (.inr rfl) ?_)))
    exact ⟨vb (fits_bare (by omega)).symm, hB⟩
   ·have h16 := of_decide_eq_false g16
    refine W.seq ?_
    refine W.region ?_
    refine L.val (x_eql rfl rfl) rfl ?_
    refine L.val (x_as (v := .bool _) rfl) rfl ?_
    refine L.nil ?_
    refine thn_n ?_
    refine W.cond (b := _) rfl (fun g17 => ?_) (fun g17 => ?_)
    ·have h17 := of_decide_eq_true g17
     refine W.skip ?_
     refine thn_n ?_
     refine W.cond (b := _) rfl (fun _ => ?_) (fun h => nomatch (g17.symm.trans h : true = false))
     refine W.seq ?_
     refine W.region ?_
     refine L.val (x_mv (v := .bool _) rfl) rfl ?_
     refine L.val (x_mv (v := .bool _) rfl) rfl ?_
     refine' L.group0 4 21 24 24 20 true rfl ?_ ?_ ?_
     rotate_left 1
     ·intro g20
      have h20 := g20
      refine L.gyes' (dj := 20) (b := _) rfl rfl g20 ?_
      refine L.val (x_fa kfits_fo25_3 rfl) rfl ?_
      refine L.gyes' (dj := 20) (b := _) rfl rfl g20 ?_
      refine L.val (x_ld (v := .slice _ _ _) kfits_oc22 rfl (bx1.cell0 rfl)) rfl ?_
      refine L.gyes' (dj := 20) (b := _) rfl rfl g20 ?_
      refine L.val (x_len_slice Tryz.underlying22 rfl) rfl ?_
      refine L.gyes' (dj := 20) (b := _) rfl rfl g20 ?_
      refine L.val (x_eql rfl rfl) rfl ?_
      refine L.nil ?_
      refine thn_n ⟨rfl, rfl, ?_, rfl⟩
      repeat (first | exact jeq.refl _ _ _ | refine jeq.upd rfl ?_ | refine jeq.jk rfl rfl ?_)
     ·intro g20
      refine L.gno (dj := 20) (b := _) rfl rfl g20 rfl ?_
      refine L.gno (dj := 20) (b := _) rfl rfl g20 rfl ?_
      refine L.gno (dj := 20) (b := _) rfl rfl g20 rfl ?_
      refine L.gno (dj := 20) (b := _) rfl rfl g20 rfl ?_
      refine L.nil (thn_n ⟨rfl, rfl, ?_⟩)
      repeat (first | exact jeq.refl _ _ _ | refine jeq.upd rfl ?_ | refine jeq.jk rfl rfl ?_)
     intro J20 j20
     refine L.val (x_and rfl j20) rfl ?_
     refine L.val (x_mv (v := .bool _) rfl) rfl ?_
     refine' L.group0 4 27 30 30 26 true rfl ?_ ?_ ?_
     rotate_left 1
     ·intro g26
      have h26 := g26
      refine L.gyes' (dj := 26) (b := _) rfl rfl g26 ?_
      refine L.val (x_fa kfits_fo25_4 rfl) rfl ?_
      refine L.gyes' (dj := 26) (b := _) rfl rfl g26 ?_
      refine L.val (x_ld (v := .slice _ _ _) kfits_oc23 rfl (bx1.cell0 rfl)) rfl ?_
      refine L.gyes' (dj := 26) (b := _) rfl rfl g26 ?_
      refine L.val (x_len_slice Tryz.underlying23 rfl) rfl ?_
      refine L.gyes' (dj := 26) (b := _) rfl rfl g26 ?_
      refine L.val (x_eql rfl rfl) rfl ?_
      refine L.nil ?_
      refine thn_n ⟨rfl, rfl, ?_, rfl⟩
      repeat (first | exact jeq.refl _ _ _ | refine jeq.upd rfl ?_ | refine jeq.jk rfl rfl ?_)
     ·intro g26
      refine L.gno (dj := 26) (b := _) rfl rfl g26 rfl ?_
      refine L.gno (dj := 26) (b := _) rfl rfl g26 rfl ?_
      refine L.gno (dj := 26) (b := _) rfl rfl g26 rfl ?_
      refine L.gno (dj := 26) (b := _) rfl rfl g26 rfl ?_
      refine L.nil (thn_n ⟨rfl, rfl, ?_⟩)
      repeat (first | exact jeq.refl _ _ _ | refine jeq.upd rfl ?_ | refine jeq.jk rfl rfl ?_)
     intro J26 j26
     refine L.val (x_and rfl j26) rfl ?_
     refine L.val (x_as (v := .bool _) rfl) rfl ?_
     refine L.nil ?_
     refine thn_n ?_
     refine W.ret (blk_r (thn_r (fin_mk (.inr rfl) ?_)))
     exact ⟨vb (fits_bare (by omega)).symm, hB⟩
    ·have h17 := of_decide_eq_false g17
     refine W.region ?_
     refine L.val (x_eql rfl rfl) rfl ?_
     refine L.val (x_as (v := .bool _) rfl) rfl ?_
     refine L.nil ?_
     refine thn_n ?_
     refine W.cond (b := _) rfl (fun g18 => ?_) (fun g18 => ?_)
     ·have h18 := of_decide_eq_true g18
      refine W.seq ?_
      refine W.region ?_
      refine L.val (x_mv (v := .bool _) rfl) rfl ?_
      refine L.val (x_mv (v := .bool _) rfl) rfl ?_
      refine' L.group0 4 21 24 24 20 true rfl ?_ ?_ ?_
      rotate_left 1
      ·intro g20
       have h20 := g20
       refine L.gyes' (dj := 20) (b := _) rfl rfl g20 ?_
       refine L.val (x_fa kfits_fo25_3 rfl) rfl ?_
       refine L.gyes' (dj := 20) (b := _) rfl rfl g20 ?_
       refine L.val (x_ld (v := .slice _ _ _) kfits_oc22 rfl (bx1.cell0 rfl)) rfl ?_
       refine L.gyes' (dj := 20) (b := _) rfl rfl g20 ?_
       refine L.val (x_len_slice Tryz.underlying22 rfl) rfl ?_
       refine L.gyes' (dj := 20) (b := _) rfl rfl g20 ?_
       refine L.val (x_eql rfl rfl) rfl ?_
       refine L.nil ?_
       refine thn_n ⟨rfl, rfl, ?_, rfl⟩
       repeat (first | exact jeq.refl _ _ _ | refine jeq.upd rfl ?_ | refine jeq.jk rfl rfl ?_)
      ·intro g20
       refine L.gno (dj := 20) (b := _) rfl rfl g20 rfl ?_
       refine L.gno (dj := 20) (b := _) rfl rfl g20 rfl ?_
       refine L.gno (dj := 20) (b := _) rfl rfl g20 rfl ?_
       refine L.gno (dj := 20) (b := _) rfl rfl g20 rfl ?_
       refine L.nil (thn_n ⟨rfl, rfl, ?_⟩)
       repeat (first | exact jeq.refl _ _ _ | refine jeq.upd rfl ?_ | refine jeq.jk rfl rfl ?_)
      intro J20 j20
      refine L.val (x_and rfl j20) rfl ?_
      refine L.val (x_mv (v := .bool _) rfl) rfl ?_
      refine' L.group0 4 27 30 30 26 true rfl ?_ ?_ ?_
      rotate_left 1
      ·intro g26
       have h26 := g26
       refine L.gyes' (dj := 26) (b := _) rfl rfl g26 ?_
       refine L.val (x_fa kfits_fo25_4 rfl) rfl ?_
       refine L.gyes' (dj := 26) (b := _) rfl rfl g26 ?_
       refine L.val (x_ld (v := .slice _ _ _) kfits_oc23 rfl (bx1.cell0 rfl)) rfl ?_
       refine L.gyes' (dj := 26) (b := _) rfl rfl g26 ?_
       refine L.val (x_len_slice Tryz.underlying23 rfl) rfl ?_
       refine L.gyes' (dj := 26) (b := _) rfl rfl g26 ?_
       refine L.val (x_eql rfl rfl) rfl ?_
       refine L.nil ?_
       refine thn_n ⟨rfl, rfl, ?_, rfl⟩
       repeat (first | exact jeq.refl _ _ _ | refine jeq.upd rfl ?_ | refine jeq.jk rfl rfl ?_)
      ·intro g26
       refine L.gno (dj := 26) (b := _) rfl rfl g26 rfl ?_
       refine L.gno (dj := 26) (b := _) rfl rfl g26 rfl ?_
       refine L.gno (dj := 26) (b := _) rfl rfl g26 rfl ?_
       refine L.gno (dj := 26) (b := _) rfl rfl g26 rfl ?_
       refine L.nil (thn_n ⟨rfl, rfl, ?_⟩)
       repeat (first | exact jeq.refl _ _ _ | refine jeq.upd rfl ?_ | refine jeq.jk rfl rfl ?_)
      intro J26 j26
      refine L.val (x_and rfl j26) rfl ?_
      refine L.val (x_as (v := .bool _) rfl) rfl ?_
      refine L.nil ?_
      refine thn_n ?_
      refine W.ret (blk_r (thn_r (fin_mk (.inr rfl) ?_)))
      exact ⟨vb (fits_bare (by omega)).symm, hB⟩
     ·have h18 := of_decide_eq_false g18
      refine W.seq ?_
      refine W.region ?_
      refine L.val (x_eql rfl rfl) rfl ?_
      refine L.val (x_as (v := .bool _) rfl) rfl ?_
      refine L.nil ?_
      refine thn_n ?_
      refine W.cond (b := _) rfl (fun g33 => ?_) (fun g33 => ?_)
      ·have h33 := of_decide_eq_true g33
       refine W.seq ?_
       refine W.region ?_
       refine L.val (x_mv (v := .bool _) rfl) rfl ?_
       refine L.val (x_mv (v := .bool _) rfl) rfl ?_
       refine' L.group0 4 36 39 39 35 true rfl ?_ ?_ ?_
       rotate_left 1
       ·intro g35
        have h35 := g35
        refine L.gyes' (dj := 35) (b := _) rfl rfl g35 ?_
        refine L.val (x_fa kfits_fo25_3 rfl) rfl ?_
        refine L.gyes' (dj := 35) (b := _) rfl rfl g35 ?_
        refine L.val (x_ld (v := .slice _ _ _) kfits_oc22 rfl (bx1.cell0 rfl)) rfl ?_
        refine L.gyes' (dj := 35) (b := _) rfl rfl g35 ?_
        refine L.val (x_len_slice Tryz.underlying22 rfl) rfl ?_
        refine L.gyes' (dj := 35) (b := _) rfl rfl g35 ?_
        refine L.val (x_eql rfl rfl) rfl ?_
        refine L.nil ?_
        refine thn_n ⟨rfl, rfl, ?_, rfl⟩
        repeat (first | exact jeq.refl _ _ _ | refine jeq.upd rfl ?_ | refine jeq.jk rfl rfl ?_)
       ·intro g35
        refine L.gno (dj := 35) (b := _) rfl rfl g35 rfl ?_
        refine L.gno (dj := 35) (b := _) rfl rfl g35 rfl ?_
        refine L.gno (dj := 35) (b := _) rfl rfl g35 rfl ?_
        refine L.gno (dj := 35) (b := _) rfl rfl g35 rfl ?_
        refine L.nil (thn_n ⟨rfl, rfl, ?_⟩)
        repeat (first | exact jeq.refl _ _ _ | refine jeq.upd rfl ?_ | refine jeq.jk rfl rfl ?_)
       intro J35 j35
       refine L.val (x_and rfl j35) rfl ?_
       refine L.val (x_mv (v := .bool _) rfl) rfl ?_
       refine' L.group0 4 42 45 45 41 true rfl ?_ ?_ ?_
       rotate_left 1
       ·intro g41
        have h41 := g41
        refine L.gyes' (dj := 41) (b := _) rfl rfl g41 ?_
        refine L.val (x_fa kfits_fo25_4 rfl) rfl ?_
        refine L.gyes' (dj := 41) (b := _) rfl rfl g41 ?_
        refine L.val (x_ld (v := .slice _ _ _) kfits_oc23 rfl (bx1.cell0 rfl)) rfl ?_
        refine L.gyes' (dj := 41) (b := _) rfl rfl g41 ?_
        refine L.val (x_len_slice Tryz.underlying23 rfl) rfl ?_
        refine L.gyes' (dj := 41) (b := _) rfl rfl g41 ?_
        refine L.val (x_eql rfl rfl) rfl ?_
        refine L.nil ?_
        refine thn_n ⟨rfl, rfl, ?_, rfl⟩
        repeat (first | exact jeq.refl _ _ _ | refine jeq.upd rfl ?_ | refine jeq.jk rfl rfl ?_)
       ·intro g41
        refine L.gno (dj := 41) (b := _) rfl rfl g41 rfl ?_
        refine L.gno (dj := 41) (b := _) rfl rfl g41 rfl ?_
        refine L.gno (dj := 41) (b := _) rfl rfl g41 rfl ?_
        refine L.gno (dj := 41) (b := _) rfl rfl g41 rfl ?_
        refine L.nil (thn_n ⟨rfl, rfl, ?_⟩)
        repeat (first | exact jeq.refl _ _ _ | refine jeq.upd rfl ?_ | refine jeq.jk rfl rfl ?_)
       intro J41 j41
       refine L.val (x_and rfl j41) rfl ?_
       refine L.val (x_as (v := .bool _) rfl) rfl ?_
       refine L.nil ?_
       refine thn_n ?_
       refine W.ret (blk_r (thn_r (fin_mk (.inr rfl) ?_)))
       exact ⟨vb (fits_list (by omega)).symm, hB⟩
      ·have h33 := of_decide_eq_false g33
       refine W.seq ?_
       refine W.seq ?_
       refine W.region ?_
       refine L.val (x_eql rfl rfl) rfl ?_
       refine L.val (x_as (v := .bool _) rfl) rfl ?_
       refine L.nil ?_
       refine thn_n ?_
       refine W.cond (b := _) rfl (fun g48 => ?_) (fun g48 => ?_)
       ·have h48 := of_decide_eq_true g48
        refine W.skip ?_
        refine thn_n ?_
        refine W.cond (b := _) rfl (fun _ => ?_) (fun h => nomatch (g48.symm.trans h : true = false))
        refine W.seq ?_
        refine W.region ?_
        refine L.val (x_mv (v := .bool _) rfl) rfl ?_
        refine L.val (x_mv (v := .bool _) rfl) rfl ?_
        refine' L.group 2 52 53 53 51 true rfl ?_ ?_ ?_
        rotate_left 1
        ·intro g51 hg51
         have h51 := g51
         refine L.gyes' (dj := 51) (b := _) rfl rfl g51 ?_
         refine L.val (x_ldn (vs := _) kfits_ag25 rfl rfl (bx1.row rfl)) rfl ?_
         refine L.gyes' (dj := 51) (b := _) rfl rfl g51 ?_
         refine L.ret (x_call kfits_en147 rfl) rfl (named_ok A s _ _ hs hS) ?_
         rintro _ w53 ⟨rfl, hw⟩
         have hB := hB.carry hw; have hs := hs.carry hw; have bx1 := bx1.carry hw; have hg51 := hg51.carry hw
         refine L.nil ?_
         refine thn_n ⟨rfl, ?_, ?_, fun _ => rfl⟩
         ·exact hg51
         ·repeat (first | exact jeq.refl _ _ _ | refine jeq.upd rfl ?_ | refine jeq.jk rfl rfl ?_)
        ·intro g51
         refine L.gno (dj := 51) (b := _) rfl rfl g51 rfl ?_
         refine L.gno (dj := 51) (b := _) rfl rfl g51 rfl ?_
         refine L.nil (thn_n ⟨rfl, Gr.refl _ _, ?_⟩)
         refine ⟨?_, fun h => h.elim⟩
         repeat (first | exact jeq.refl _ _ _ | refine jeq.upd rfl ?_ | refine jeq.jk rfl rfl ?_)
        intro J51 w51 hw j51
        have hB := hB.carry hw; have hs := hs.carry hw; have bx1 := bx1.carry hw
        refine L.val (x_and rfl j51) rfl ?_
        refine L.val (x_as (v := .bool _) rfl) rfl ?_
        refine L.nil ?_
        refine thn_n ?_
        refine W.ret (blk_r (thn_r (fin_mk (.inr rfl) ?_)))
        exact ⟨vb (fits_rec (by omega)).symm, hB⟩
       ·have h48 := of_decide_eq_false g48
        refine W.region ?_
        refine L.val (x_eql rfl rfl) rfl ?_
        refine L.val (x_as (v := .bool _) rfl) rfl ?_
        refine L.nil ?_
        refine thn_n ?_
        refine W.cond (b := _) rfl (fun g49 => ?_) (fun g49 => ?_)
        ·have h49 := of_decide_eq_true g49
         refine W.seq ?_
         refine W.region ?_
         refine L.val (x_mv (v := .bool _) rfl) rfl ?_
         refine L.val (x_mv (v := .bool _) rfl) rfl ?_
         refine' L.group 2 52 53 53 51 true rfl ?_ ?_ ?_
         rotate_left 1
         ·intro g51 hg51
          have h51 := g51
          refine L.gyes' (dj := 51) (b := _) rfl rfl g51 ?_
          refine L.val (x_ldn (vs := _) kfits_ag25 rfl rfl (bx1.row rfl)) rfl ?_
          refine L.gyes' (dj := 51) (b := _) rfl rfl g51 ?_
          refine L.ret (x_call kfits_en147 rfl) rfl (named_ok A s _ _ hs hS) ?_
          rintro _ w53 ⟨rfl, hw⟩
          have hB := hB.carry hw; have hs := hs.carry hw; have bx1 := bx1.carry hw; have hg51 := hg51.carry hw
          refine L.nil ?_
          refine thn_n ⟨rfl, ?_, ?_, fun _ => rfl⟩
          ·exact hg51
          ·repeat (first | exact jeq.refl _ _ _ | refine jeq.upd rfl ?_ | refine jeq.jk rfl rfl ?_)
         ·intro g51
          refine L.gno (dj := 51) (b := _) rfl rfl g51 rfl ?_
          refine L.gno (dj := 51) (b := _) rfl rfl g51 rfl ?_
          refine L.nil (thn_n ⟨rfl, Gr.refl _ _, ?_⟩)
          refine ⟨?_, fun h => h.elim⟩
          repeat (first | exact jeq.refl _ _ _ | refine jeq.upd rfl ?_ | refine jeq.jk rfl rfl ?_)
         intro J51 w51 hw j51
         have hB := hB.carry hw; have hs := hs.carry hw; have bx1 := bx1.carry hw
         refine L.val (x_and rfl j51) rfl ?_
         refine L.val (x_as (v := .bool _) rfl) rfl ?_
         refine L.nil ?_
         refine thn_n ?_
         refine W.ret (blk_r (thn_r (fin_mk (.inr rfl) ?_)))
         exact ⟨vb (fits_rec (by omega)).symm, hB⟩
        ·have h49 := of_decide_eq_false g49
         refine W.seq ?_
         refine W.region ?_
         refine L.val (x_eql rfl rfl) rfl ?_
         refine L.val (x_as (v := .bool _) rfl) rfl ?_
         refine L.nil ?_
         refine thn_n ?_
         refine W.cond (b := _) rfl (fun g56 => ?_) (fun g56 => ?_)
         ·have h56 := of_decide_eq_true g56
          refine W.seq ?_
          refine W.region ?_
          refine L.val (x_mv (v := .bool _) rfl) rfl ?_
          refine L.val (x_mv (v := .bool _) rfl) rfl ?_
          refine' L.group0 4 59 62 62 58 true rfl ?_ ?_ ?_
          rotate_left 1
          ·intro g58
           have h58 := g58
           refine L.gyes' (dj := 58) (b := _) rfl rfl g58 ?_
           refine L.val (x_fa kfits_fo25_3 rfl) rfl ?_
           refine L.gyes' (dj := 58) (b := _) rfl rfl g58 ?_
           refine L.val (x_ld (v := .slice _ _ _) kfits_oc22 rfl (bx1.cell0 rfl)) rfl ?_
           refine L.gyes' (dj := 58) (b := _) rfl rfl g58 ?_
           refine L.val (x_len_slice Tryz.underlying22 rfl) rfl ?_
           refine L.gyes' (dj := 58) (b := _) rfl rfl g58 ?_
           refine L.val (x_eql rfl rfl) rfl ?_
           refine L.nil ?_
           refine thn_n ⟨rfl, rfl, ?_, rfl⟩
           repeat (first | exact jeq.refl _ _ _ | refine jeq.upd rfl ?_ | refine jeq.jk rfl rfl ?_)
          ·intro g58
           refine L.gno (dj := 58) (b := _) rfl rfl g58 rfl ?_
           refine L.gno (dj := 58) (b := _) rfl rfl g58 rfl ?_
           refine L.gno (dj := 58) (b := _) rfl rfl g58 rfl ?_
           refine L.gno (dj := 58) (b := _) rfl rfl g58 rfl ?_
           refine L.nil (thn_n ⟨rfl, rfl, ?_⟩)
           repeat (first | exact jeq.refl _ _ _ | refine jeq.upd rfl ?_ | refine jeq.jk rfl rfl ?_)
          intro J58 j58
          refine L.val (x_and rfl j58) rfl ?_
          refine L.val (x_mv (v := .bool _) rfl) rfl ?_
          refine' L.group0 4 65 68 68 64 true rfl ?_ ?_ ?_
          rotate_left 1
          ·intro g64
           have h64 := g64
           refine L.gyes' (dj := 64) (b := _) rfl rfl g64 ?_
           refine L.val (x_fa kfits_fo25_4 rfl) rfl ?_
           refine L.gyes' (dj := 64) (b := _) rfl rfl g64 ?_
           refine L.val (x_ld (v := .slice _ _ _) kfits_oc23 rfl (bx1.cell0 rfl)) rfl ?_
           refine L.gyes' (dj := 64) (b := _) rfl rfl g64 ?_
           refine L.val (x_len_slice Tryz.underlying23 rfl) rfl ?_
           refine L.gyes' (dj := 64) (b := _) rfl rfl g64 ?_
           refine L.val (x_gtr rfl rfl) rfl ?_
           refine L.nil ?_
           refine thn_n ⟨rfl, rfl, ?_, rfl⟩
           repeat (first | exact jeq.refl _ _ _ | refine jeq.upd rfl ?_ | refine jeq.jk rfl rfl ?_)
          ·intro g64
           refine L.gno (dj := 64) (b := _) rfl rfl g64 rfl ?_
           refine L.gno (dj := 64) (b := _) rfl rfl g64 rfl ?_
           refine L.gno (dj := 64) (b := _) rfl rfl g64 rfl ?_
           refine L.gno (dj := 64) (b := _) rfl rfl g64 rfl ?_
           refine L.nil (thn_n ⟨rfl, rfl, ?_⟩)
           repeat (first | exact jeq.refl _ _ _ | refine jeq.upd rfl ?_ | refine jeq.jk rfl rfl ?_)
          intro J64 j64
          refine L.val (x_and rfl j64) rfl ?_
          refine L.val (x_as (v := .bool _) rfl) rfl ?_
          refine L.nil ?_
          refine thn_n ?_
          refine W.ret (blk_r (thn_r (fin_mk (.inr rfl) ?_)))
          exact ⟨vb (fits_tup (by omega)).symm, hB⟩
         ·have h56 := of_decide_eq_false g56
          refine W.seq ?_
          refine W.region ?_
          refine L.val (x_eql rfl rfl) rfl ?_
          refine L.val (x_as (v := .bool _) rfl) rfl ?_
          refine L.nil ?_
          refine thn_n ?_
          refine W.cond (b := _) rfl (fun g71 => ?_) (fun g71 => ?_)
          ·have h71 := of_decide_eq_true g71
           refine W.seq ?_
           refine W.region ?_
           refine L.val (x_fa kfits_fo25_2 rfl) rfl ?_
           refine L.val (x_ld (v := S _) kfits_oc9 rfl (bx1.cell0 rfl)) rfl ?_
           refine L.ret (x_call kfits_en132 rfl) rfl (upperL _ hnm _) ?_
           rintro _ w74 ⟨rfl, hw⟩
           have hB := hB.carry hw; have hs := hs.carry hw; have bx1 := bx1.carry hw
           refine L.val (x_mv (v := .bool _) rfl) rfl ?_
           refine' L.group 14 76 89 89 75 true rfl ?_ ?_ ?_
           rotate_left 1
           ·intro g75 hg75
            have h75 := g75
            refine L.gyes' (dj := 75) (b := _) rfl rfl g75 ?_
            refine L.val (x_fa kfits_fo25_1 rfl) rfl ?_
            refine L.gyes' (dj := 75) (b := _) rfl rfl g75 ?_
            refine L.val (x_ld (v := S _) kfits_oc9 rfl (bx1.cell0 rfl)) rfl ?_
            refine L.gyes' (dj := 75) (b := _) rfl rfl g75 ?_
            refine L.val (x_eqs rfl rfl) rfl ?_
            refine L.gyes' (dj := 75) (b := _) rfl rfl g75 ?_
            refine L.val (x_mv (v := .bool _) rfl) rfl ?_
            refine' L.group 4 80 83 83 79 true rfl ?_ ?_ ?_
            rotate_left 1
            ·intro g79 hg79
             have h79 := seq_t g79
             refine L.gyes' (dj := 79) (b := _) rfl rfl g79 ?_
             refine L.val (x_fa kfits_fo25_2 rfl) rfl ?_
             refine L.gyes' (dj := 79) (b := _) rfl rfl g79 ?_
             refine L.val (x_ld (v := S _) kfits_oc9 rfl (bx1.cell0 rfl)) rfl ?_
             refine L.gyes' (dj := 79) (b := _) rfl rfl g79 ?_
             refine L.ret (x_call kfits_en148 rfl) rfl (plain_ok _ _) ?_
             rintro _ w82 ⟨rfl, hw⟩
             have hB := hB.carry hw; have hs := hs.carry hw; have bx1 := bx1.carry hw; have hg75 := hg75.carry hw; have hg79 := hg79.carry hw
             refine L.gyes' (dj := 79) (b := _) rfl rfl g79 ?_
             refine L.val (x_not rfl) rfl ?_
             refine L.nil ?_
             refine thn_n ⟨rfl, ?_, ?_, fun _ => rfl⟩
             ·exact hg79
             ·repeat (first | exact jeq.refl _ _ _ | refine jeq.upd rfl ?_ | refine jeq.jk rfl rfl ?_)
            ·intro g79
             refine L.gno (dj := 79) (b := _) rfl rfl g79 rfl ?_
             refine L.gno (dj := 79) (b := _) rfl rfl g79 rfl ?_
             refine L.gno (dj := 79) (b := _) rfl rfl g79 rfl ?_
             refine L.gno (dj := 79) (b := _) rfl rfl g79 rfl ?_
             refine L.nil (thn_n ⟨rfl, Gr.refl _ _, ?_⟩)
             refine ⟨?_, fun h => h.elim⟩
             repeat (first | exact jeq.refl _ _ _ | refine jeq.upd rfl ?_ | refine jeq.jk rfl rfl ?_)
            intro J79 w79 hw j79
            have hB := hB.carry hw; have hs := hs.carry hw; have bx1 := bx1.carry hw; have hg75 := hg75.carry hw
            refine L.gyes' (dj := 75) (b := _) rfl rfl g75 ?_
            refine L.val (x_and rfl j79) rfl ?_
            refine L.gyes' (dj := 75) (b := _) rfl rfl g75 ?_
            refine L.val (x_mv (v := .bool _) rfl) rfl ?_
            refine' L.group 3 86 88 88 85 false rfl ?_ ?_ ?_
            rotate_left 1
            ·intro g85 hg85
             have h85 := g85
             refine L.gyes' (dj := 85) (b := _) rfl rfl g85 ?_
             refine L.val (x_fa kfits_fo25_1 rfl) rfl ?_
             refine L.gyes' (dj := 85) (b := _) rfl rfl g85 ?_
             refine L.val (x_ld (v := S _) kfits_oc9 rfl (bx1.cell0 rfl)) rfl ?_
             refine L.gyes' (dj := 85) (b := _) rfl rfl g85 ?_
             refine L.ret (x_call kfits_en134 rfl) rfl (nameL _ hof _) ?_
             rintro _ w88 ⟨rfl, hw⟩
             have hB := hB.carry hw; have hs := hs.carry hw; have bx1 := bx1.carry hw; have hg75 := hg75.carry hw; have hg85 := hg85.carry hw
             refine L.nil ?_
             refine thn_n ⟨rfl, ?_, ?_, fun _ => rfl⟩
             ·exact hg85
             ·repeat (first | exact jeq.refl _ _ _ | refine jeq.upd rfl ?_ | refine jeq.jk rfl rfl ?_)
            ·intro g85
             refine L.gno (dj := 85) (b := _) rfl rfl g85 rfl ?_
             refine L.gno (dj := 85) (b := _) rfl rfl g85 rfl ?_
             refine L.gno (dj := 85) (b := _) rfl rfl g85 rfl ?_
             refine L.nil (thn_n ⟨rfl, Gr.refl _ _, ?_⟩)
             refine ⟨?_, fun h => h.elim⟩
             repeat (first | exact jeq.refl _ _ _ | refine jeq.upd rfl ?_ | refine jeq.jk rfl rfl ?_)
            intro J85 w85 hw j85
            have hB := hB.carry hw; have hs := hs.carry hw; have bx1 := bx1.carry hw; have hg75 := hg75.carry hw
            refine L.gyes' (dj := 75) (b := _) rfl rfl g75 ?_
            refine L.val (x_or rfl j85) rfl ?_
            refine L.nil ?_
            refine thn_n ⟨rfl, ?_, ?_, fun _ => rfl⟩
            ·exact hg75
            ·repeat (first | exact jeq.refl _ _ _ | refine jeq.upd rfl ?_ | refine jeq.jk rfl rfl ?_)
           ·intro g75
            refine L.gno (dj := 75) (b := _) rfl rfl g75 rfl ?_
            refine L.gno (dj := 75) (b := _) rfl rfl g75 rfl ?_
            refine L.gno (dj := 75) (b := _) rfl rfl g75 rfl ?_
            refine L.gno (dj := 75) (b := _) rfl rfl g75 rfl ?_
            refine L.gun (dj := 79) rfl rfl rfl ?_
            refine L.gun (dj := 79) rfl rfl rfl ?_
            refine L.gun (dj := 79) rfl rfl rfl ?_
            refine L.gun (dj := 79) rfl rfl rfl ?_
            refine L.gno (dj := 75) (b := _) rfl rfl g75 rfl ?_
            refine L.gno (dj := 75) (b := _) rfl rfl g75 rfl ?_
            refine L.gun (dj := 85) rfl rfl rfl ?_
            refine L.gun (dj := 85) rfl rfl rfl ?_
            refine L.gun (dj := 85) rfl rfl rfl ?_
            refine L.gno (dj := 75) (b := _) rfl rfl g75 rfl ?_
            refine L.nil (thn_n ⟨rfl, Gr.refl _ _, ?_⟩)
            refine ⟨?_, fun h => h.elim⟩
            repeat (first | exact jeq.refl _ _ _ | refine jeq.upd rfl ?_ | refine jeq.jk rfl rfl ?_)
           intro J75 w75 hw j75
           have hB := hB.carry hw; have hs := hs.carry hw; have bx1 := bx1.carry hw
           refine L.val (x_and rfl j75) rfl ?_
           refine L.val (x_mv (v := .bool _) rfl) rfl ?_
           refine' L.group0 4 92 95 95 91 true rfl ?_ ?_ ?_
           rotate_left 1
           ·intro g91
            have h91 := g91
            refine L.gyes' (dj := 91) (b := _) rfl rfl g91 ?_
            refine L.val (x_fa kfits_fo25_3 rfl) rfl ?_
            refine L.gyes' (dj := 91) (b := _) rfl rfl g91 ?_
            refine L.val (x_ld (v := .slice _ _ _) kfits_oc22 rfl (bx1.cell0 rfl)) rfl ?_
            refine L.gyes' (dj := 91) (b := _) rfl rfl g91 ?_
            refine L.val (x_len_slice Tryz.underlying22 rfl) rfl ?_
            refine L.gyes' (dj := 91) (b := _) rfl rfl g91 ?_
            refine L.val (x_eql rfl rfl) rfl ?_
            refine L.nil ?_
            refine thn_n ⟨rfl, rfl, ?_, rfl⟩
            repeat (first | exact jeq.refl _ _ _ | refine jeq.upd rfl ?_ | refine jeq.jk rfl rfl ?_)
           ·intro g91
            refine L.gno (dj := 91) (b := _) rfl rfl g91 rfl ?_
            refine L.gno (dj := 91) (b := _) rfl rfl g91 rfl ?_
            refine L.gno (dj := 91) (b := _) rfl rfl g91 rfl ?_
            refine L.gno (dj := 91) (b := _) rfl rfl g91 rfl ?_
            refine L.nil (thn_n ⟨rfl, rfl, ?_⟩)
            repeat (first | exact jeq.refl _ _ _ | refine jeq.upd rfl ?_ | refine jeq.jk rfl rfl ?_)
           intro J91 j91
           refine L.val (x_and rfl j91) rfl ?_
           refine L.val (x_mv (v := .bool _) rfl) rfl ?_
           refine' L.group0 4 98 101 101 97 true rfl ?_ ?_ ?_
           rotate_left 1
           ·intro g97
            have h97 := g97
            refine L.gyes' (dj := 97) (b := _) rfl rfl g97 ?_
            refine L.val (x_fa kfits_fo25_4 rfl) rfl ?_
            refine L.gyes' (dj := 97) (b := _) rfl rfl g97 ?_
            refine L.val (x_ld (v := .slice _ _ _) kfits_oc23 rfl (bx1.cell0 rfl)) rfl ?_
            refine L.gyes' (dj := 97) (b := _) rfl rfl g97 ?_
            refine L.val (x_len_slice Tryz.underlying23 rfl) rfl ?_
            refine L.gyes' (dj := 97) (b := _) rfl rfl g97 ?_
            refine L.val (x_eql rfl rfl) rfl ?_
            refine L.nil ?_
            refine thn_n ⟨rfl, rfl, ?_, rfl⟩
            repeat (first | exact jeq.refl _ _ _ | refine jeq.upd rfl ?_ | refine jeq.jk rfl rfl ?_)
           ·intro g97
            refine L.gno (dj := 97) (b := _) rfl rfl g97 rfl ?_
            refine L.gno (dj := 97) (b := _) rfl rfl g97 rfl ?_
            refine L.gno (dj := 97) (b := _) rfl rfl g97 rfl ?_
            refine L.gno (dj := 97) (b := _) rfl rfl g97 rfl ?_
            refine L.nil (thn_n ⟨rfl, rfl, ?_⟩)
            repeat (first | exact jeq.refl _ _ _ | refine jeq.upd rfl ?_ | refine jeq.jk rfl rfl ?_)
           intro J97 j97
           refine L.val (x_and rfl j97) rfl ?_
           refine L.val (x_as (v := .bool _) rfl) rfl ?_
           refine L.nil ?_
           refine thn_n ?_
           refine W.ret (blk_r (thn_r (fin_mk (.inr rfl) ?_)))
           exact ⟨vb (fits_name (by omega)).symm, hB⟩
          ·have h71 := of_decide_eq_false g71
           refine W.seq ?_
           refine W.region ?_
           refine L.val (x_eql rfl rfl) rfl ?_
           refine L.val (x_as (v := .bool _) rfl) rfl ?_
           refine L.nil ?_
           refine thn_n ?_
           refine W.cond (b := _) rfl (fun g104 => ?_) (fun g104 => ?_)
           ·have h104 := of_decide_eq_true g104
            refine W.seq ?_
            refine W.region ?_
            refine L.val (x_fa kfits_fo25_2 rfl) rfl ?_
            refine L.val (x_ld (v := S _) kfits_oc9 rfl (bx1.cell0 rfl)) rfl ?_
            refine L.ret (x_call kfits_en132 rfl) rfl (upperL _ hnm _) ?_
            rintro _ w107 ⟨rfl, hw⟩
            have hB := hB.carry hw; have hs := hs.carry hw; have bx1 := bx1.carry hw
            refine L.val (x_mv (v := .bool _) rfl) rfl ?_
            refine' L.group 3 109 111 111 108 true rfl ?_ ?_ ?_
            rotate_left 1
            ·intro g108 hg108
             have h108 := g108
             refine L.gyes' (dj := 108) (b := _) rfl rfl g108 ?_
             refine L.val (x_fa kfits_fo25_1 rfl) rfl ?_
             refine L.gyes' (dj := 108) (b := _) rfl rfl g108 ?_
             refine L.val (x_ld (v := S _) kfits_oc9 rfl (bx1.cell0 rfl)) rfl ?_
             refine L.gyes' (dj := 108) (b := _) rfl rfl g108 ?_
             refine L.ret (x_call kfits_en134 rfl) rfl (nameL _ hof _) ?_
             rintro _ w111 ⟨rfl, hw⟩
             have hB := hB.carry hw; have hs := hs.carry hw; have bx1 := bx1.carry hw; have hg108 := hg108.carry hw
             refine L.nil ?_
             refine thn_n ⟨rfl, ?_, ?_, fun _ => rfl⟩
             ·exact hg108
             ·repeat (first | exact jeq.refl _ _ _ | refine jeq.upd rfl ?_ | refine jeq.jk rfl rfl ?_)
            ·intro g108
             refine L.gno (dj := 108) (b := _) rfl rfl g108 rfl ?_
             refine L.gno (dj := 108) (b := _) rfl rfl g108 rfl ?_
             refine L.gno (dj := 108) (b := _) rfl rfl g108 rfl ?_
             refine L.nil (thn_n ⟨rfl, Gr.refl _ _, ?_⟩)
             refine ⟨?_, fun h => h.elim⟩
             repeat (first | exact jeq.refl _ _ _ | refine jeq.upd rfl ?_ | refine jeq.jk rfl rfl ?_)
            intro J108 w108 hw j108
            have hB := hB.carry hw; have hs := hs.carry hw; have bx1 := bx1.carry hw
            refine L.val (x_and rfl j108) rfl ?_
            refine L.val (x_mv (v := .bool _) rfl) rfl ?_
            refine' L.group0 4 114 117 117 113 true rfl ?_ ?_ ?_
            rotate_left 1
            ·intro g113
             have h113 := g113
             refine L.gyes' (dj := 113) (b := _) rfl rfl g113 ?_
             refine L.val (x_fa kfits_fo25_3 rfl) rfl ?_
             refine L.gyes' (dj := 113) (b := _) rfl rfl g113 ?_
             refine L.val (x_ld (v := .slice _ _ _) kfits_oc22 rfl (bx1.cell0 rfl)) rfl ?_
             refine L.gyes' (dj := 113) (b := _) rfl rfl g113 ?_
             refine L.val (x_len_slice Tryz.underlying22 rfl) rfl ?_
             refine L.gyes' (dj := 113) (b := _) rfl rfl g113 ?_
             refine L.val (x_eql rfl rfl) rfl ?_
             refine L.nil ?_
             refine thn_n ⟨rfl, rfl, ?_, rfl⟩
             repeat (first | exact jeq.refl _ _ _ | refine jeq.upd rfl ?_ | refine jeq.jk rfl rfl ?_)
            ·intro g113
             refine L.gno (dj := 113) (b := _) rfl rfl g113 rfl ?_
             refine L.gno (dj := 113) (b := _) rfl rfl g113 rfl ?_
             refine L.gno (dj := 113) (b := _) rfl rfl g113 rfl ?_
             refine L.gno (dj := 113) (b := _) rfl rfl g113 rfl ?_
             refine L.nil (thn_n ⟨rfl, rfl, ?_⟩)
             repeat (first | exact jeq.refl _ _ _ | refine jeq.upd rfl ?_ | refine jeq.jk rfl rfl ?_)
            intro J113 j113
            refine L.val (x_and rfl j113) rfl ?_
            refine L.val (x_mv (v := .bool _) rfl) rfl ?_
            refine' L.group0 4 120 123 123 119 true rfl ?_ ?_ ?_
            rotate_left 1
            ·intro g119
             have h119 := g119
             refine L.gyes' (dj := 119) (b := _) rfl rfl g119 ?_
             refine L.val (x_fa kfits_fo25_4 rfl) rfl ?_
             refine L.gyes' (dj := 119) (b := _) rfl rfl g119 ?_
             refine L.val (x_ld (v := .slice _ _ _) kfits_oc23 rfl (bx1.cell0 rfl)) rfl ?_
             refine L.gyes' (dj := 119) (b := _) rfl rfl g119 ?_
             refine L.val (x_len_slice Tryz.underlying23 rfl) rfl ?_
             refine L.gyes' (dj := 119) (b := _) rfl rfl g119 ?_
             refine L.val (x_eql rfl rfl) rfl ?_
             refine L.nil ?_
             refine thn_n ⟨rfl, rfl, ?_, rfl⟩
             repeat (first | exact jeq.refl _ _ _ | refine jeq.upd rfl ?_ | refine jeq.jk rfl rfl ?_)
            ·intro g119
             refine L.gno (dj := 119) (b := _) rfl rfl g119 rfl ?_
             refine L.gno (dj := 119) (b := _) rfl rfl g119 rfl ?_
             refine L.gno (dj := 119) (b := _) rfl rfl g119 rfl ?_
             refine L.gno (dj := 119) (b := _) rfl rfl g119 rfl ?_
             refine L.nil (thn_n ⟨rfl, rfl, ?_⟩)
             repeat (first | exact jeq.refl _ _ _ | refine jeq.upd rfl ?_ | refine jeq.jk rfl rfl ?_)
            intro J119 j119
            refine L.val (x_and rfl j119) rfl ?_
            refine L.val (x_as (v := .bool _) rfl) rfl ?_
            refine L.nil ?_
            refine thn_n ?_
            refine W.ret (blk_r (thn_r (fin_mk (.inr rfl) ?_)))
            exact ⟨vb (fits_var (by omega)).symm, hB⟩
           ·have h104 := of_decide_eq_false g104
            refine W.skip ?_
            refine blk_n ?_
            refine thn_n ?_
            refine W.seq ?_
            refine W.region ?_
            refine L.val (x_as (v := .bool _) rfl) rfl ?_
            refine L.nil ?_
            refine thn_n ?_
            refine W.ret (fin_mk (.inr rfl) ?_)
            exact ⟨vb (fits_none (by omega)).symm, hB⟩
end Go.Gx
