/- The law ShapeSorts. Conditions: none. -/
import Derived.Test.YteehllhldaopjaaAwake
import Derived.Test.YteehllhldaopjaaRSort3
namespace Go.Gx
open Go.Proofs
theorem klawsorts_ag25 : aggT Try.prog 25 5 = true := by kernel_rfl
theorem klawsorts_en27 : Go.Proofs.Enters Try.prog 27 := Go.Proofs.enters_of Try.func27 (by kernel_rfl) rfl
theorem klawsorts_en29 : Go.Proofs.Enters Try.prog 29 := Go.Proofs.enters_of Try.func29 (by kernel_rfl) rfl
theorem klawsorts_en33 : Go.Proofs.Enters Try.prog 33 := Go.Proofs.enters_of Try.func33 (by kernel_rfl) rfl
theorem klawsorts_en40 : Go.Proofs.Enters Try.prog 40 := Go.Proofs.enters_of Try.func40 (by kernel_rfl) rfl
theorem klawsorts_en44 : Go.Proofs.Enters Try.prog 44 := Go.Proofs.enters_of Try.func44 (by kernel_rfl) rfl
theorem klawsorts_en45 : Go.Proofs.Enters Try.prog 45 := Go.Proofs.enters_of Try.func45 (by kernel_rfl) rfl
theorem klawsorts_mixed : Try.prog.follows .mixedOrders = true := by kernel_rfl

theorem law_sorts (A : Nat → Prop) (s : Sh) (cs : List Value) (w : World) (hs : ShC A w cs s) : Ret Try.prog 10 #[.agg cs.toArray] w fun v w' => v = .bool true ∧ Bel w w' := by
  have hlen := hs.len
  refine ret_of_W Try.func10 rfl (Nat.le_of_ble_eq_true rfl) (res1 rfl) ?_
  have hB := Gr.refl (fun _ => False) w
  refine W.seq ?_
  refine W.region ?_
  refine L.box (cs := cs) rfl rfl (fun w1 bx1 hw hz1 => ?_)
  have hB := hB.carry hw; have hs := hs.carry hw
  refine L.val (x_as (v := .bool _) rfl) rfl ?_
  refine L.nil ?_
  refine thn_n ?_
  refine W.seq ?_
  refine W.seq ?_
  refine W.region ?_
  refine L.val (x_ldn (vs := cs) klawsorts_ag25 rfl hlen (bx1.row hlen)) rfl ?_
  refine L.ret (x_call klawsorts_en40 rfl) rfl (check07 _ s _ _ hs) ?_
  rintro _ w4 ⟨rfl, hw⟩
  have hB := hB.carry hw; have hs := hs.carry hw; have bx1 := bx1.carry hw
  refine L.val (x_neq rfl rfl) rfl ?_
  refine L.nil ?_
  refine thn_n ?_
  refine W.cond (b := _) rfl (fun g5 => ?_) (fun g5 => ?_)
  ·have h5 := dne_t g5
   refine W.seq ?_
   refine W.region ?_
   refine L.val (x_ldn (vs := cs) klawsorts_ag25 rfl hlen (bx1.row hlen)) rfl ?_
   refine L.ret (x_call klawsorts_en29 rfl) rfl (checkL _ s _ _ hs) ?_
   rintro _ w7 ⟨rfl, hw⟩
   have hB := hB.carry hw; have hs := hs.carry hw; have bx1 := bx1.carry hw
   refine L.val (x_neq rfl rfl) rfl ?_
   refine L.val (x_mv (v := .bool _) rfl) rfl ?_
   refine' L.group 1 10 10 10 9 true rfl ?_ ?_ ?_
   rotate_left 1
   ·intro g9 hg9
    have h9 := dne_t g9
    refine L.gyes' (dj := 9) (b := _) rfl rfl g9 ?_
    refine L.ret (x_call klawsorts_en44 rfl) rfl (awake07 _) ?_
    rintro _ w10 ⟨rfl, hw⟩
    have hB := hB.carry hw; have hs := hs.carry hw; have bx1 := bx1.carry hw; have hg9 := hg9.carry hw
    refine L.nil ?_
    refine thn_n ⟨rfl, ?_, ?_, fun _ => rfl⟩
    ·exact hg9
    ·repeat (first | exact jeq.refl _ _ _ | refine jeq.upd rfl ?_ | refine jeq.jk rfl rfl ?_)
   ·intro g9
    refine L.gno (dj := 9) (b := _) rfl rfl g9 rfl ?_
    refine L.nil (thn_n ⟨rfl, Gr.refl _ _, ?_⟩)
    refine ⟨?_, fun h => h.elim⟩
    repeat (first | exact jeq.refl _ _ _ | refine jeq.upd rfl ?_ | refine jeq.jk rfl rfl ?_)
   intro J9 w9 hw j9
   have hB := hB.carry hw; have hs := hs.carry hw; have bx1 := bx1.carry hw
   refine L.val (x_and rfl j9) rfl ?_
   refine L.val (x_as (v := .bool _) rfl) rfl ?_
   refine L.nil ?_
   refine thn_n ?_
   refine W.ret (thn_r (fin_mk (.inr rfl) ?_))
   exact ⟨vb (by simp [h5]), hB⟩
  ·have h5 := dne_f g5
   refine W.skip ?_
   refine thn_n ?_
   refine W.seq ?_
   refine W.drawS klawsorts_mixed ?_
   have hB := hB.carry (bel_drew _); have hs := hs.carry (bel_drew _); have bx1 := bx1.carry (bel_drew _)
   refine LA.step (rs := [0, 2]) (by kernel_rfl) (by simp) ⟨⟨_, rfl, ?_⟩, ⟨_, rfl, ?_⟩, trivial⟩
   ·refine L.val (x_ldn (vs := cs) klawsorts_ag25 rfl hlen (bx1.row hlen)) rfl ?_
    refine L.nil ?_
    refine thn_n ?_
    refine LA.step (rs := [1, 2]) (by kernel_rfl) (by simp) ⟨⟨_, rfl, ?_⟩, ⟨_, rfl, ?_⟩, trivial⟩
    ·refine L.ret (x_call klawsorts_en33 rfl) rfl (sort_okL _ s _ _ hs) ?_
     rintro _ w13 ⟨cs13, rfl, h13, hw⟩
     have hB := hB.carry hw; have hs := hs.carry hw; have bx1 := bx1.carry hw
     try have h15 := h15.carry hw
     refine L.nil ?_
     refine thn_n ?_
     refine LA.step (rs := [2]) (by kernel_rfl) (by simp) ⟨⟨_, rfl, ?_⟩, trivial⟩
     refine L.val (x_ldn (vs := cs) klawsorts_ag25 rfl hlen (bx1.row hlen)) rfl ?_
     refine L.nil ?_
     refine thn_n ?_
     refine LA.step (rs := [3]) (by kernel_rfl) (by simp) ⟨⟨_, rfl, ?_⟩, trivial⟩
     refine L.ret (x_call klawsorts_en45 rfl) rfl (rsort_okL _ s _ _ hs) ?_
     rintro _ w15 ⟨cs15, rfl, h15, hw⟩
     have hB := hB.carry hw; have hs := hs.carry hw; have bx1 := bx1.carry hw
     try have h13 := h13.carry hw
     refine L.nil ?_
     refine thn_n ?_
     refine LA.step (rs := [4]) (by kernel_rfl) (by simp) ⟨⟨_, rfl, ?_⟩, trivial⟩
     refine L.ret (x_call klawsorts_en27 rfl) rfl (equal07 _ _ _ (Nat.lt_succ_self _) _ _ _ _ _ h13 h15) ?_
     rintro _ w16 ⟨rfl, hw⟩
     have hB := hB.carry hw; have hs := hs.carry hw; have bx1 := bx1.carry hw
     refine L.nil ?_
     refine thn_n ?_
     refine LA.take (i := 5) rfl (by kernel_rfl) (by kernel_rfl) (by kernel_rfl) (fun w => x_mv (v := .bool _) rfl) rfl ?_
     refine LA.step (rs := [6]) (by kernel_rfl) (by simp) ⟨⟨_, rfl, ?_⟩, trivial⟩
     refine L.splitat (dj := 17) (b := _) rfl (fun g17 => ?_) (fun g17 => ?_)
     ·have h17 := g17
      refine L.gyes' (dj := 17) (b := _) rfl rfl g17 ?_
      refine L.ret (x_call klawsorts_en44 rfl) rfl (awake07 _) ?_
      rintro _ w18 ⟨rfl, hw⟩
      have hB := hB.carry hw; have hs := hs.carry hw; have bx1 := bx1.carry hw
      refine L.nil ?_
      refine thn_n ?_
      refine LA.take (i := 7) rfl (by kernel_rfl) (by kernel_rfl) (by kernel_rfl) (fun w => x_pick_t (v := .bool _) (by rw [← g17]; rfl) rfl) rfl ?_
      refine LA.take (i := 8) rfl (by kernel_rfl) (by kernel_rfl) (by kernel_rfl) (fun w => x_as (v := .bool _) rfl) rfl ?_
      refine LA.done (by kernel_rfl) ?_
      refine nrm_n ?_
      refine thn_n ?_
      refine W.ret (fin_mk (.inr rfl) ?_)
      exact ⟨vb (by first | rfl | simp), hB⟩
     ·have h17 := g17
      exact absurd g17 (by show ¬ eqS _ _ = false; rw [eqS_t rfl]; simp)
    ·refine L.val (x_ldn (vs := cs) klawsorts_ag25 rfl hlen (bx1.row hlen)) rfl ?_
     refine L.nil ?_
     refine thn_n ?_
     refine LA.step (rs := [1]) (by kernel_rfl) (by simp) ⟨⟨_, rfl, ?_⟩, trivial⟩
     refine L.ret (x_call klawsorts_en33 rfl) rfl (sort_okL _ s _ _ hs) ?_
     rintro _ w13 ⟨cs13, rfl, h13, hw⟩
     have hB := hB.carry hw; have hs := hs.carry hw; have bx1 := bx1.carry hw
     try have h15 := h15.carry hw
     refine L.nil ?_
     refine thn_n ?_
     refine LA.step (rs := [3]) (by kernel_rfl) (by simp) ⟨⟨_, rfl, ?_⟩, trivial⟩
     refine L.ret (x_call klawsorts_en45 rfl) rfl (rsort_okL _ s _ _ hs) ?_
     rintro _ w15 ⟨cs15, rfl, h15, hw⟩
     have hB := hB.carry hw; have hs := hs.carry hw; have bx1 := bx1.carry hw
     try have h13 := h13.carry hw
     refine L.nil ?_
     refine thn_n ?_
     refine LA.step (rs := [4]) (by kernel_rfl) (by simp) ⟨⟨_, rfl, ?_⟩, trivial⟩
     refine L.ret (x_call klawsorts_en27 rfl) rfl (equal07 _ _ _ (Nat.lt_succ_self _) _ _ _ _ _ h13 h15) ?_
     rintro _ w16 ⟨rfl, hw⟩
     have hB := hB.carry hw; have hs := hs.carry hw; have bx1 := bx1.carry hw
     refine L.nil ?_
     refine thn_n ?_
     refine LA.take (i := 5) rfl (by kernel_rfl) (by kernel_rfl) (by kernel_rfl) (fun w => x_mv (v := .bool _) rfl) rfl ?_
     refine LA.step (rs := [6]) (by kernel_rfl) (by simp) ⟨⟨_, rfl, ?_⟩, trivial⟩
     refine L.splitat (dj := 17) (b := _) rfl (fun g17 => ?_) (fun g17 => ?_)
     ·have h17 := g17
      refine L.gyes' (dj := 17) (b := _) rfl rfl g17 ?_
      refine L.ret (x_call klawsorts_en44 rfl) rfl (awake07 _) ?_
      rintro _ w18 ⟨rfl, hw⟩
      have hB := hB.carry hw; have hs := hs.carry hw; have bx1 := bx1.carry hw
      refine L.nil ?_
      refine thn_n ?_
      refine LA.take (i := 7) rfl (by kernel_rfl) (by kernel_rfl) (by kernel_rfl) (fun w => x_pick_t (v := .bool _) (by rw [← g17]; rfl) rfl) rfl ?_
      refine LA.take (i := 8) rfl (by kernel_rfl) (by kernel_rfl) (by kernel_rfl) (fun w => x_as (v := .bool _) rfl) rfl ?_
      refine LA.done (by kernel_rfl) ?_
      refine nrm_n ?_
      refine thn_n ?_
      refine W.ret (fin_mk (.inr rfl) ?_)
      exact ⟨vb (by first | rfl | simp), hB⟩
     ·have h17 := g17
      exact absurd g17 (by show ¬ eqS _ _ = false; rw [eqS_t rfl]; simp)
   ·refine L.val (x_ldn (vs := cs) klawsorts_ag25 rfl hlen (bx1.row hlen)) rfl ?_
    refine L.nil ?_
    refine thn_n ?_
    refine LA.step (rs := [0]) (by kernel_rfl) (by simp) ⟨⟨_, rfl, ?_⟩, trivial⟩
    refine L.val (x_ldn (vs := cs) klawsorts_ag25 rfl hlen (bx1.row hlen)) rfl ?_
    refine L.nil ?_
    refine thn_n ?_
    refine LA.step (rs := [1]) (by kernel_rfl) (by simp) ⟨⟨_, rfl, ?_⟩, trivial⟩
    refine L.ret (x_call klawsorts_en33 rfl) rfl (sort_okL _ s _ _ hs) ?_
    rintro _ w13 ⟨cs13, rfl, h13, hw⟩
    have hB := hB.carry hw; have hs := hs.carry hw; have bx1 := bx1.carry hw
    try have h15 := h15.carry hw
    refine L.nil ?_
    refine thn_n ?_
    refine LA.step (rs := [3]) (by kernel_rfl) (by simp) ⟨⟨_, rfl, ?_⟩, trivial⟩
    refine L.ret (x_call klawsorts_en45 rfl) rfl (rsort_okL _ s _ _ hs) ?_
    rintro _ w15 ⟨cs15, rfl, h15, hw⟩
    have hB := hB.carry hw; have hs := hs.carry hw; have bx1 := bx1.carry hw
    try have h13 := h13.carry hw
    refine L.nil ?_
    refine thn_n ?_
    refine LA.step (rs := [4]) (by kernel_rfl) (by simp) ⟨⟨_, rfl, ?_⟩, trivial⟩
    refine L.ret (x_call klawsorts_en27 rfl) rfl (equal07 _ _ _ (Nat.lt_succ_self _) _ _ _ _ _ h13 h15) ?_
    rintro _ w16 ⟨rfl, hw⟩
    have hB := hB.carry hw; have hs := hs.carry hw; have bx1 := bx1.carry hw
    refine L.nil ?_
    refine thn_n ?_
    refine LA.take (i := 5) rfl (by kernel_rfl) (by kernel_rfl) (by kernel_rfl) (fun w => x_mv (v := .bool _) rfl) rfl ?_
    refine LA.step (rs := [6]) (by kernel_rfl) (by simp) ⟨⟨_, rfl, ?_⟩, trivial⟩
    refine L.splitat (dj := 17) (b := _) rfl (fun g17 => ?_) (fun g17 => ?_)
    ·have h17 := g17
     refine L.gyes' (dj := 17) (b := _) rfl rfl g17 ?_
     refine L.ret (x_call klawsorts_en44 rfl) rfl (awake07 _) ?_
     rintro _ w18 ⟨rfl, hw⟩
     have hB := hB.carry hw; have hs := hs.carry hw; have bx1 := bx1.carry hw
     refine L.nil ?_
     refine thn_n ?_
     refine LA.take (i := 7) rfl (by kernel_rfl) (by kernel_rfl) (by kernel_rfl) (fun w => x_pick_t (v := .bool _) (by rw [← g17]; rfl) rfl) rfl ?_
     refine LA.take (i := 8) rfl (by kernel_rfl) (by kernel_rfl) (by kernel_rfl) (fun w => x_as (v := .bool _) rfl) rfl ?_
     refine LA.done (by kernel_rfl) ?_
     refine nrm_n ?_
     refine thn_n ?_
     refine W.ret (fin_mk (.inr rfl) ?_)
     exact ⟨vb (by first | rfl | simp), hB⟩
    ·have h17 := g17
     exact absurd g17 (by show ¬ eqS _ _ = false; rw [eqS_t rfl]; simp)
end Go.Gx

