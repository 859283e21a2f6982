/- The program's Same: both right, and alike in their order. Conditions: none. -/
import Derived.Test.YteehllhldaopjaaGdEqL
namespace Go.Gx
open Go.Proofs
theorem ksame_ag25 : aggT Try.prog 25 5 = true := by kernel_rfl
theorem ksame_en29 : Go.Proofs.Enters Try.prog 29 := Go.Proofs.enters_of Try.func29 (by kernel_rfl) rfl
theorem ksame_en68 : Go.Proofs.Enters Try.prog 68 := Go.Proofs.enters_of Try.func68 (by kernel_rfl) rfl
theorem ksame_en79 : Go.Proofs.Enters Try.prog 79 := Go.Proofs.enters_of Try.func79 (by kernel_rfl) rfl
theorem ksame_mixed : Try.prog.follows .mixedOrders = true := by kernel_rfl
noncomputable def sameS (a b : Sh) : Bool := decide (checkS a = 0) && decide (checkS b = 0) && eqS a.sort b.sort
theorem same_ok (A0 A1 : Nat → Prop) (a b : Sh) (cs ds : List Value) (w : World) (ha : ShC A0 w cs a) (hb : ShC A1 w ds b) :
    Ret Try.prog 53 #[.agg cs.toArray, .agg ds.toArray] w fun v w' => v = .bool (sameS a b) ∧ Bel w w' := by
  have hla := ha.len
  have hlb := hb.len
  refine ret_of_W Try.func53 rfl (Nat.le_of_ble_eq_true rfl) (res1 rfl) ?_
  have hB := Gr.refl (fun _ => False) w
  refine W.seq ?_
  refine W.region ?_
  refine L.box (cs := cs) rfl rfl (fun w2 bx2 hw hz2 => ?_)
  have hB := hB.carry hw; have ha := ha.carry hw; have hb := hb.carry hw
  refine L.box (cs := ds) rfl rfl (fun w3 bx3 hw hz3 => ?_)
  have hB := hB.carry hw; have ha := ha.carry hw; have hb := hb.carry hw; have bx2 := bx2.carry hw
  refine L.val (x_as (v := .bool _) rfl) rfl ?_
  refine L.nil ?_
  refine thn_n ?_
  refine W.seq ?_
  refine W.drawS ksame_mixed ?_
  have hB := hB.carry (bel_drew _); have ha := ha.carry (bel_drew _); have hb := hb.carry (bel_drew _); have bx2 := bx2.carry (bel_drew _); have bx3 := bx3.carry (bel_drew _)
  refine LA.step (rs := [0]) (by kernel_rfl) (by simp) ⟨⟨_, rfl, ?_⟩, trivial⟩
  refine L.val (x_ldn (vs := cs) ksame_ag25 rfl hla (bx2.row hla)) rfl ?_
  refine L.nil ?_
  refine thn_n ?_
  refine LA.step (rs := [1]) (by kernel_rfl) (by simp) ⟨⟨_, rfl, ?_⟩, trivial⟩
  refine L.ret (x_call ksame_en29 rfl) rfl (checkL A0 a _ _ ha) ?_
  rintro _ w6 ⟨rfl, hw⟩
  have hB := hB.carry hw; have ha := ha.carry hw; have hb := hb.carry hw; have bx2 := bx2.carry hw; have bx3 := bx3.carry hw
  refine L.nil ?_
  refine thn_n ?_
  refine LA.take (i := 2) rfl (by kernel_rfl) (by kernel_rfl) (by kernel_rfl) (fun w => x_eql rfl rfl) rfl ?_
  refine LA.take (i := 3) rfl (by kernel_rfl) (by kernel_rfl) (by kernel_rfl) (fun w => x_mv (v := .bool _) rfl) rfl ?_
  refine LA.step (rs := [4]) (by kernel_rfl) (by simp) ⟨⟨_, rfl, ?_⟩, trivial⟩
  refine L.splitat (dj := 8) (b := _) rfl (fun g8 => ?_) (fun g8 => ?_)
  ·have h8 := of_decide_eq_true g8
   refine L.gyes' (dj := 8) (b := _) rfl rfl g8 ?_
   refine L.val (x_ldn (vs := ds) ksame_ag25 rfl hlb (bx3.row hlb)) rfl ?_
   refine L.nil ?_
   refine thn_n ?_
   refine LA.step (rs := [5]) (by kernel_rfl) (by simp) ⟨⟨_, rfl, ?_⟩, trivial⟩
   refine L.gyes' (dj := 8) (b := _) rfl rfl g8 ?_
   refine L.ret (x_call ksame_en29 rfl) rfl (checkL A1 b _ _ hb) ?_
   rintro _ w10 ⟨rfl, hw⟩
   have hB := hB.carry hw; have ha := ha.carry hw; have hb := hb.carry hw; have bx2 := bx2.carry hw; have bx3 := bx3.carry hw
   refine L.nil ?_
   refine thn_n ?_
   refine LA.step (rs := [6]) (by kernel_rfl) (by simp) ⟨⟨_, rfl, ?_⟩, trivial⟩
   refine L.gyes' (dj := 8) (b := _) rfl rfl g8 ?_
   refine L.val (x_eql rfl rfl) rfl ?_
   refine L.nil ?_
   refine thn_n ?_
   refine LA.take (i := 7) rfl (by kernel_rfl) (by kernel_rfl) (by kernel_rfl) (fun w => x_pick_t (v := .bool _) (congrArg Value.bool g8) rfl) rfl ?_
   refine LA.take (i := 8) rfl (by kernel_rfl) (by kernel_rfl) (by kernel_rfl) (fun w => x_mv (v := .bool _) rfl) rfl ?_
   refine LA.step (rs := [9, 11]) (by kernel_rfl) (by simp) ⟨⟨_, rfl, ?_⟩, ⟨_, rfl, ?_⟩, trivial⟩
   ·refine L.splitat (dj := 13) (b := _) rfl (fun g13 => ?_) (fun g13 => ?_)
    ·have h13 := of_decide_eq_true g13
     refine L.gyes' (dj := 13) (b := _) rfl rfl g13 ?_
     refine L.val (x_ldn (vs := cs) ksame_ag25 rfl hla (bx2.row hla)) rfl ?_
     refine L.nil ?_
     refine thn_n ?_
     refine LA.step (rs := [10, 11]) (by kernel_rfl) (by simp) ⟨⟨_, rfl, ?_⟩, ⟨_, rfl, ?_⟩, trivial⟩
     ·refine L.gyes' (dj := 13) (b := _) rfl rfl g13 ?_
      refine L.ret (x_call ksame_en68 rfl) rfl (sorted0 _ a (Nat.lt_succ_self _) (check_zero h8).1 (check_zero h8).2.2 A0 _ _ ha) ?_
      rintro _ w15 ⟨cs15, rfl, ht15, hw⟩
      have hB := hB.carry hw; have ha := ha.carry hw; have hb := hb.carry hw; have bx2 := bx2.carry hw; have bx3 := bx3.carry hw
      refine L.nil ?_
      refine thn_n ?_
      refine LA.step (rs := [11]) (by kernel_rfl) (by simp) ⟨⟨_, rfl, ?_⟩, trivial⟩
      refine L.gyes' (dj := 13) (b := _) rfl rfl g13 ?_
      refine L.val (x_ldn (vs := ds) ksame_ag25 rfl hlb (bx3.row hlb)) rfl ?_
      refine L.nil ?_
      refine thn_n ?_
      refine LA.step (rs := [12]) (by kernel_rfl) (by simp) ⟨⟨_, rfl, ?_⟩, trivial⟩
      refine L.gyes' (dj := 13) (b := _) rfl rfl g13 ?_
      refine L.ret (x_call ksame_en68 rfl) rfl (sorted0 _ b (Nat.lt_succ_self _) (check_zero h13).1 (check_zero h13).2.2 A1 _ _ hb) ?_
      rintro _ w17 ⟨cs17, rfl, ht17, hw⟩
      have hB := hB.carry hw; have ha := ha.carry hw; have hb := hb.carry hw; have bx2 := bx2.carry hw; have bx3 := bx3.carry hw; have ht15 := ht15.carry hw
      refine L.nil ?_
      refine thn_n ?_
      refine LA.step (rs := [13]) (by kernel_rfl) (by simp) ⟨⟨_, rfl, ?_⟩, trivial⟩
      refine L.gyes' (dj := 13) (b := _) rfl rfl g13 ?_
      refine L.ret (x_call ksame_en79 rfl) rfl (equal_ok _ _ _ (Nat.lt_succ_self _) _ _ _ _ _ ht15 ht17) ?_
      rintro _ w18 ⟨rfl, hw⟩
      have hB := hB.carry hw; have ha := ha.carry hw; have hb := hb.carry hw; have bx2 := bx2.carry hw; have bx3 := bx3.carry hw; have ht15 := ht15.carry hw; have ht17 := ht17.carry hw
      refine L.nil ?_
      refine thn_n ?_
      refine LA.take (i := 14) rfl (by kernel_rfl) (by kernel_rfl) (by kernel_rfl) (fun w => x_pick_t (v := .bool _) (congrArg Value.bool g13) rfl) rfl ?_
      refine LA.take (i := 15) rfl (by kernel_rfl) (by kernel_rfl) (by kernel_rfl) (fun w => x_as (v := .bool _) rfl) rfl ?_
      refine LA.done (by kernel_rfl) ?_
      refine nrm_n ?_
      refine thn_n ?_
      refine W.ret (fin_mk (.inr rfl) ?_)
      refine ⟨vb ?_, hB⟩
      unfold sameS
      first
        | (rw [h8, h13]; simp)
        | (rw [h8]; simp [h13])
        | (simp [h8])
     ·refine L.gyes' (dj := 13) (b := _) rfl rfl g13 ?_
      refine L.val (x_ldn (vs := ds) ksame_ag25 rfl hlb (bx3.row hlb)) rfl ?_
      refine L.nil ?_
      refine thn_n ?_
      refine LA.step (rs := [10]) (by kernel_rfl) (by simp) ⟨⟨_, rfl, ?_⟩, trivial⟩
      refine L.gyes' (dj := 13) (b := _) rfl rfl g13 ?_
      refine L.ret (x_call ksame_en68 rfl) rfl (sorted0 _ a (Nat.lt_succ_self _) (check_zero h8).1 (check_zero h8).2.2 A0 _ _ ha) ?_
      rintro _ w15 ⟨cs15, rfl, ht15, hw⟩
      have hB := hB.carry hw; have ha := ha.carry hw; have hb := hb.carry hw; have bx2 := bx2.carry hw; have bx3 := bx3.carry hw
      refine L.nil ?_
      refine thn_n ?_
      refine LA.step (rs := [12]) (by kernel_rfl) (by simp) ⟨⟨_, rfl, ?_⟩, trivial⟩
      refine L.gyes' (dj := 13) (b := _) rfl rfl g13 ?_
      refine L.ret (x_call ksame_en68 rfl) rfl (sorted0 _ b (Nat.lt_succ_self _) (check_zero h13).1 (check_zero h13).2.2 A1 _ _ hb) ?_
      rintro _ w17 ⟨cs17, rfl, ht17, hw⟩
      have hB := hB.carry hw; have ha := ha.carry hw; have hb := hb.carry hw; have bx2 := bx2.carry hw; have bx3 := bx3.carry hw; have ht15 := ht15.carry hw
      refine L.nil ?_
      refine thn_n ?_
      refine LA.step (rs := [13]) (by kernel_rfl) (by simp) ⟨⟨_, rfl, ?_⟩, trivial⟩
      refine L.gyes' (dj := 13) (b := _) rfl rfl g13 ?_
      refine L.ret (x_call ksame_en79 rfl) rfl (equal_ok _ _ _ (Nat.lt_succ_self _) _ _ _ _ _ ht15 ht17) ?_
      rintro _ w18 ⟨rfl, hw⟩
      have hB := hB.carry hw; have ha := ha.carry hw; have hb := hb.carry hw; have bx2 := bx2.carry hw; have bx3 := bx3.carry hw; have ht15 := ht15.carry hw; have ht17 := ht17.carry hw
      refine L.nil ?_
      refine thn_n ?_
      refine LA.take (i := 14) rfl (by kernel_rfl) (by kernel_rfl) (by kernel_rfl) (fun w => x_pick_t (v := .bool _) (congrArg Value.bool g13) rfl) rfl ?_
      refine LA.take (i := 15) rfl (by kernel_rfl) (by kernel_rfl) (by kernel_rfl) (fun w => x_as (v := .bool _) rfl) rfl ?_
      refine LA.done (by kernel_rfl) ?_
      refine nrm_n ?_
      refine thn_n ?_
      refine W.ret (fin_mk (.inr rfl) ?_)
      refine ⟨vb ?_, hB⟩
      unfold sameS
      first
        | (rw [h8, h13]; simp)
        | (rw [h8]; simp [h13])
        | (simp [h8])
    ·have h13 := of_decide_eq_false g13
     refine L.gno (dj := 13) (b := _) rfl rfl g13 rfl ?_
     refine L.nil ?_
     refine thn_n ?_
     refine LA.step (rs := [10, 11]) (by kernel_rfl) (by simp) ⟨⟨_, rfl, ?_⟩, ⟨_, rfl, ?_⟩, trivial⟩
     ·refine L.gno (dj := 13) (b := _) rfl rfl g13 rfl ?_
      refine L.nil ?_
      refine thn_n ?_
      refine LA.step (rs := [11]) (by kernel_rfl) (by simp) ⟨⟨_, rfl, ?_⟩, trivial⟩
      refine L.gno (dj := 13) (b := _) rfl rfl g13 rfl ?_
      refine L.nil ?_
      refine thn_n ?_
      refine LA.step (rs := [12]) (by kernel_rfl) (by simp) ⟨⟨_, rfl, ?_⟩, trivial⟩
      refine L.gno (dj := 13) (b := _) rfl rfl g13 rfl ?_
      refine L.nil ?_
      refine thn_n ?_
      refine LA.step (rs := [13]) (by kernel_rfl) (by simp) ⟨⟨_, rfl, ?_⟩, trivial⟩
      refine L.gno (dj := 13) (b := _) rfl rfl g13 rfl ?_
      refine L.nil ?_
      refine thn_n ?_
      refine LA.take (i := 14) rfl (by kernel_rfl) (by kernel_rfl) (by kernel_rfl) (fun w => x_pick_f (v := .bool _) (congrArg Value.bool g13) rfl) rfl ?_
      refine LA.take (i := 15) rfl (by kernel_rfl) (by kernel_rfl) (by kernel_rfl) (fun w => x_as (v := .bool _) rfl) rfl ?_
      refine LA.done (by kernel_rfl) ?_
      refine nrm_n ?_
      refine thn_n ?_
      refine W.ret (fin_mk (.inr rfl) ?_)
      refine ⟨vb ?_, hB⟩
      unfold sameS
      first
        | (rw [h8, h13]; simp)
        | (rw [h8]; simp [h13])
        | (simp [h8])
     ·refine L.gno (dj := 13) (b := _) rfl rfl g13 rfl ?_
      refine L.nil ?_
      refine thn_n ?_
      refine LA.step (rs := [10]) (by kernel_rfl) (by simp) ⟨⟨_, rfl, ?_⟩, trivial⟩
      refine L.gno (dj := 13) (b := _) rfl rfl g13 rfl ?_
      refine L.nil ?_
      refine thn_n ?_
      refine LA.step (rs := [12]) (by kernel_rfl) (by simp) ⟨⟨_, rfl, ?_⟩, trivial⟩
      refine L.gno (dj := 13) (b := _) rfl rfl g13 rfl ?_
      refine L.nil ?_
      refine thn_n ?_
      refine LA.step (rs := [13]) (by kernel_rfl) (by simp) ⟨⟨_, rfl, ?_⟩, trivial⟩
      refine L.gno (dj := 13) (b := _) rfl rfl g13 rfl ?_
      refine L.nil ?_
      refine thn_n ?_
      refine LA.take (i := 14) rfl (by kernel_rfl) (by kernel_rfl) (by kernel_rfl) (fun w => x_pick_f (v := .bool _) (congrArg Value.bool g13) rfl) rfl ?_
      refine LA.take (i := 15) rfl (by kernel_rfl) (by kernel_rfl) (by kernel_rfl) (fun w => x_as (v := .bool _) rfl) rfl ?_
      refine LA.done (by kernel_rfl) ?_
      refine nrm_n ?_
      refine thn_n ?_
      refine W.ret (fin_mk (.inr rfl) ?_)
      refine ⟨vb ?_, hB⟩
      unfold sameS
      first
        | (rw [h8, h13]; simp)
        | (rw [h8]; simp [h13])
        | (simp [h8])
   ·refine L.splitat (dj := 13) (b := _) rfl (fun g13 => ?_) (fun g13 => ?_)
    ·have h13 := of_decide_eq_true g13
     refine L.gyes' (dj := 13) (b := _) rfl rfl g13 ?_
     refine L.val (x_ldn (vs := ds) ksame_ag25 rfl hlb (bx3.row hlb)) rfl ?_
     refine L.nil ?_
     refine thn_n ?_
     refine LA.step (rs := [9]) (by kernel_rfl) (by simp) ⟨⟨_, rfl, ?_⟩, trivial⟩
     refine L.gyes' (dj := 13) (b := _) rfl rfl g13 ?_
     refine L.val (x_ldn (vs := cs) ksame_ag25 rfl hla (bx2.row hla)) rfl ?_
     refine L.nil ?_
     refine thn_n ?_
     refine LA.step (rs := [10]) (by kernel_rfl) (by simp) ⟨⟨_, rfl, ?_⟩, trivial⟩
     refine L.gyes' (dj := 13) (b := _) rfl rfl g13 ?_
     refine L.ret (x_call ksame_en68 rfl) rfl (sorted0 _ a (Nat.lt_succ_self _) (check_zero h8).1 (check_zero h8).2.2 A0 _ _ ha) ?_
     rintro _ w15 ⟨cs15, rfl, ht15, hw⟩
     have hB := hB.carry hw; have ha := ha.carry hw; have hb := hb.carry hw; have bx2 := bx2.carry hw; have bx3 := bx3.carry hw
     refine L.nil ?_
     refine thn_n ?_
     refine LA.step (rs := [12]) (by kernel_rfl) (by simp) ⟨⟨_, rfl, ?_⟩, trivial⟩
     refine L.gyes' (dj := 13) (b := _) rfl rfl g13 ?_
     refine L.ret (x_call ksame_en68 rfl) rfl (sorted0 _ b (Nat.lt_succ_self _) (check_zero h13).1 (check_zero h13).2.2 A1 _ _ hb) ?_
     rintro _ w17 ⟨cs17, rfl, ht17, hw⟩
     have hB := hB.carry hw; have ha := ha.carry hw; have hb := hb.carry hw; have bx2 := bx2.carry hw; have bx3 := bx3.carry hw; have ht15 := ht15.carry hw
     refine L.nil ?_
     refine thn_n ?_
     refine LA.step (rs := [13]) (by kernel_rfl) (by simp) ⟨⟨_, rfl, ?_⟩, trivial⟩
     refine L.gyes' (dj := 13) (b := _) rfl rfl g13 ?_
     refine L.ret (x_call ksame_en79 rfl) rfl (equal_ok _ _ _ (Nat.lt_succ_self _) _ _ _ _ _ ht15 ht17) ?_
     rintro _ w18 ⟨rfl, hw⟩
     have hB := hB.carry hw; have ha := ha.carry hw; have hb := hb.carry hw; have bx2 := bx2.carry hw; have bx3 := bx3.carry hw; have ht15 := ht15.carry hw; have ht17 := ht17.carry hw
     refine L.nil ?_
     refine thn_n ?_
     refine LA.take (i := 14) rfl (by kernel_rfl) (by kernel_rfl) (by kernel_rfl) (fun w => x_pick_t (v := .bool _) (congrArg Value.bool g13) rfl) rfl ?_
     refine LA.take (i := 15) rfl (by kernel_rfl) (by kernel_rfl) (by kernel_rfl) (fun w => x_as (v := .bool _) rfl) rfl ?_
     refine LA.done (by kernel_rfl) ?_
     refine nrm_n ?_
     refine thn_n ?_
     refine W.ret (fin_mk (.inr rfl) ?_)
     refine ⟨vb ?_, hB⟩
     unfold sameS
     first
       | (rw [h8, h13]; simp)
       | (rw [h8]; simp [h13])
       | (simp [h8])
    ·have h13 := of_decide_eq_false g13
     refine L.gno (dj := 13) (b := _) rfl rfl g13 rfl ?_
     refine L.nil ?_
     refine thn_n ?_
     refine LA.step (rs := [9]) (by kernel_rfl) (by simp) ⟨⟨_, rfl, ?_⟩, trivial⟩
     refine L.gno (dj := 13) (b := _) rfl rfl g13 rfl ?_
     refine L.nil ?_
     refine thn_n ?_
     refine LA.step (rs := [10]) (by kernel_rfl) (by simp) ⟨⟨_, rfl, ?_⟩, trivial⟩
     refine L.gno (dj := 13) (b := _) rfl rfl g13 rfl ?_
     refine L.nil ?_
     refine thn_n ?_
     refine LA.step (rs := [12]) (by kernel_rfl) (by simp) ⟨⟨_, rfl, ?_⟩, trivial⟩
     refine L.gno (dj := 13) (b := _) rfl rfl g13 rfl ?_
     refine L.nil ?_
     refine thn_n ?_
     refine LA.step (rs := [13]) (by kernel_rfl) (by simp) ⟨⟨_, rfl, ?_⟩, trivial⟩
     refine L.gno (dj := 13) (b := _) rfl rfl g13 rfl ?_
     refine L.nil ?_
     refine thn_n ?_
     refine LA.take (i := 14) rfl (by kernel_rfl) (by kernel_rfl) (by kernel_rfl) (fun w => x_pick_f (v := .bool _) (congrArg Value.bool g13) rfl) rfl ?_
     refine LA.take (i := 15) rfl (by kernel_rfl) (by kernel_rfl) (by kernel_rfl) (fun w => x_as (v := .bool _) rfl) rfl ?_
     refine LA.done (by kernel_rfl) ?_
     refine nrm_n ?_
     refine thn_n ?_
     refine W.ret (fin_mk (.inr rfl) ?_)
     refine ⟨vb ?_, hB⟩
     unfold sameS
     first
       | (rw [h8, h13]; simp)
       | (rw [h8]; simp [h13])
       | (simp [h8])
  ·have h8 := of_decide_eq_false g8
   refine L.gno (dj := 8) (b := _) rfl rfl g8 rfl ?_
   refine L.nil ?_
   refine thn_n ?_
   refine LA.step (rs := [5]) (by kernel_rfl) (by simp) ⟨⟨_, rfl, ?_⟩, trivial⟩
   refine L.gno (dj := 8) (b := _) rfl rfl g8 rfl ?_
   refine L.nil ?_
   refine thn_n ?_
   refine LA.step (rs := [6]) (by kernel_rfl) (by simp) ⟨⟨_, rfl, ?_⟩, trivial⟩
   refine L.gno (dj := 8) (b := _) rfl rfl g8 rfl ?_
   refine L.nil ?_
   refine thn_n ?_
   refine LA.take (i := 7) rfl (by kernel_rfl) (by kernel_rfl) (by kernel_rfl) (fun w => x_pick_f (v := .bool _) (congrArg Value.bool g8) rfl) rfl ?_
   refine LA.take (i := 8) rfl (by kernel_rfl) (by kernel_rfl) (by kernel_rfl) (fun w => x_mv (v := .bool _) rfl) rfl ?_
   refine LA.step (rs := [9, 11]) (by kernel_rfl) (by simp) ⟨⟨_, rfl, ?_⟩, ⟨_, rfl, ?_⟩, trivial⟩
   ·refine L.gno (dj := 13) (b := _) rfl rfl rfl rfl ?_
    refine L.nil ?_
    refine thn_n ?_
    refine LA.step (rs := [10, 11]) (by kernel_rfl) (by simp) ⟨⟨_, rfl, ?_⟩, ⟨_, rfl, ?_⟩, trivial⟩
    ·refine L.gno (dj := 13) (b := _) rfl rfl rfl rfl ?_
     refine L.nil ?_
     refine thn_n ?_
     refine LA.step (rs := [11]) (by kernel_rfl) (by simp) ⟨⟨_, rfl, ?_⟩, trivial⟩
     refine L.gno (dj := 13) (b := _) rfl rfl rfl rfl ?_
     refine L.nil ?_
     refine thn_n ?_
     refine LA.step (rs := [12]) (by kernel_rfl) (by simp) ⟨⟨_, rfl, ?_⟩, trivial⟩
     refine L.gno (dj := 13) (b := _) rfl rfl rfl rfl ?_
     refine L.nil ?_
     refine thn_n ?_
     refine LA.step (rs := [13]) (by kernel_rfl) (by simp) ⟨⟨_, rfl, ?_⟩, trivial⟩
     refine L.gno (dj := 13) (b := _) rfl rfl rfl rfl ?_
     refine L.nil ?_
     refine thn_n ?_
     refine LA.take (i := 14) rfl (by kernel_rfl) (by kernel_rfl) (by kernel_rfl) (fun w => x_pick_f (v := .bool _) rfl rfl) rfl ?_
     refine LA.take (i := 15) rfl (by kernel_rfl) (by kernel_rfl) (by kernel_rfl) (fun w => x_as (v := .bool _) rfl) rfl ?_
     refine LA.done (by kernel_rfl) ?_
     refine nrm_n ?_
     refine thn_n ?_
     refine W.ret (fin_mk (.inr rfl) ?_)
     refine ⟨vb ?_, hB⟩
     unfold sameS
     first
       | (rw [h8, h13]; simp)
       | (rw [h8]; simp [h13])
       | (simp [h8])
    ·refine L.gno (dj := 13) (b := _) rfl rfl rfl rfl ?_
     refine L.nil ?_
     refine thn_n ?_
     refine LA.step (rs := [10]) (by kernel_rfl) (by simp) ⟨⟨_, rfl, ?_⟩, trivial⟩
     refine L.gno (dj := 13) (b := _) rfl rfl rfl rfl ?_
     refine L.nil ?_
     refine thn_n ?_
     refine LA.step (rs := [12]) (by kernel_rfl) (by simp) ⟨⟨_, rfl, ?_⟩, trivial⟩
     refine L.gno (dj := 13) (b := _) rfl rfl rfl rfl ?_
     refine L.nil ?_
     refine thn_n ?_
     refine LA.step (rs := [13]) (by kernel_rfl) (by simp) ⟨⟨_, rfl, ?_⟩, trivial⟩
     refine L.gno (dj := 13) (b := _) rfl rfl rfl rfl ?_
     refine L.nil ?_
     refine thn_n ?_
     refine LA.take (i := 14) rfl (by kernel_rfl) (by kernel_rfl) (by kernel_rfl) (fun w => x_pick_f (v := .bool _) rfl rfl) rfl ?_
     refine LA.take (i := 15) rfl (by kernel_rfl) (by kernel_rfl) (by kernel_rfl) (fun w => x_as (v := .bool _) rfl) rfl ?_
     refine LA.done (by kernel_rfl) ?_
     refine nrm_n ?_
     refine thn_n ?_
     refine W.ret (fin_mk (.inr rfl) ?_)
     refine ⟨vb ?_, hB⟩
     unfold sameS
     first
       | (rw [h8, h13]; simp)
       | (rw [h8]; simp [h13])
       | (simp [h8])
   ·refine L.gno (dj := 13) (b := _) rfl rfl rfl rfl ?_
    refine L.nil ?_
    refine thn_n ?_
    refine LA.step (rs := [9]) (by kernel_rfl) (by simp) ⟨⟨_, rfl, ?_⟩, trivial⟩
    refine L.gno (dj := 13) (b := _) rfl rfl rfl rfl ?_
    refine L.nil ?_
    refine thn_n ?_
    refine LA.step (rs := [10]) (by kernel_rfl) (by simp) ⟨⟨_, rfl, ?_⟩, trivial⟩
    refine L.gno (dj := 13) (b := _) rfl rfl rfl rfl ?_
    refine L.nil ?_
    refine thn_n ?_
    refine LA.step (rs := [12]) (by kernel_rfl) (by simp) ⟨⟨_, rfl, ?_⟩, trivial⟩
    refine L.gno (dj := 13) (b := _) rfl rfl rfl rfl ?_
    refine L.nil ?_
    refine thn_n ?_
    refine LA.step (rs := [13]) (by kernel_rfl) (by simp) ⟨⟨_, rfl, ?_⟩, trivial⟩
    refine L.gno (dj := 13) (b := _) rfl rfl rfl rfl ?_
    refine L.nil ?_
    refine thn_n ?_
    refine LA.take (i := 14) rfl (by kernel_rfl) (by kernel_rfl) (by kernel_rfl) (fun w => x_pick_f (v := .bool _) rfl rfl) rfl ?_
    refine LA.take (i := 15) rfl (by kernel_rfl) (by kernel_rfl) (by kernel_rfl) (fun w => x_as (v := .bool _) rfl) rfl ?_
    refine LA.done (by kernel_rfl) ?_
    refine nrm_n ?_
    refine thn_n ?_
    refine W.ret (fin_mk (.inr rfl) ?_)
    refine ⟨vb ?_, hB⟩
    unfold sameS
    first
      | (rw [h8, h13]; simp)
      | (rw [h8]; simp [h13])
      | (simp [h8])
end Go.Gx
