/- The reference's Same, and the law ShapeSames. Conditions: none. -/
import Derived.Test.YteehllhldaopjaaGreatAwake
import Derived.Test.YteehllhldaopjaaGreatSame
import Derived.Test.YteehllhldaopjaaGreatRSort3
import Derived.Test.YteehllhldaopjaaGreatFree
namespace Go.Gx
open Go.Proofs
theorem krsame_ag25 : aggT Tryz.prog 25 5 = true := by kernel_rfl
theorem krsame_en26 : Go.Proofs.Enters Tryz.prog 26 := Go.Proofs.enters_of Tryz.func26 (by kernel_rfl) rfl
theorem krsame_en34 : Go.Proofs.Enters Tryz.prog 34 := Go.Proofs.enters_of Tryz.func34 (by kernel_rfl) rfl
theorem krsame_en35 : Go.Proofs.Enters Tryz.prog 35 := Go.Proofs.enters_of Tryz.func35 (by kernel_rfl) rfl
theorem krsame_en36 : Go.Proofs.Enters Tryz.prog 36 := Go.Proofs.enters_of Tryz.func36 (by kernel_rfl) rfl
theorem krsame_en52 : Go.Proofs.Enters Tryz.prog 52 := Go.Proofs.enters_of Tryz.func52 (by kernel_rfl) rfl
theorem krsame_en73 : Go.Proofs.Enters Tryz.prog 73 := Go.Proofs.enters_of Tryz.func73 (by kernel_rfl) rfl
theorem krsame_mixed : Tryz.prog.follows .mixedOrders = true := by kernel_rfl

theorem rsame_ok (A0 A1 : Nat → Prop) (a b : Sh) (cs ds : List Value) (w : World) (ha : ShC A0 w cs a) (hb : ShC A1 w ds b) :
    Ret Tryz.prog 35 #[.agg cs.toArray, .agg ds.toArray] w fun v w' => v = .bool (sameS a b) ∧ Bel w w' := by
  have hla := ha.len
  have hlb := hb.len
  refine ret_of_W Tryz.func35 rfl (Nat.le_of_ble_eq_true rfl) (res1 rfl) ?_
  have hB := Gr.refl (fun _ => False) w
  refine W.seq ?_
  refine W.region ?_
  refine L.box (cs := cs) rfl rfl (fun w2 bx2 hw hz2 => ?_)
  have hB := hB.carry hw; have ha := ha.carry hw; have hb := hb.carry hw
  refine L.box (cs := ds) rfl rfl (fun w3 bx3 hw hz3 => ?_)
  have hB := hB.carry hw; have ha := ha.carry hw; have hb := hb.carry hw; have bx2 := bx2.carry hw
  refine L.val (x_as (v := .bool _) rfl) rfl ?_
  refine L.nil ?_
  refine thn_n ?_
  refine W.seq ?_
  refine W.drawF 16 krsame_mixed (fun wF5 hB0 => ?_)
  refine LAC.takeN (i := 0) rfl (by kernel_rfl) (by kernel_rfl) (by kernel_rfl) (by kernel_rfl) (fun w hw => x_ldn (vs := cs) krsame_ag25 rfl hla (hw.keepRow hla (bx2.row hla))) rfl ?_
  refine LAC.step (rs := [1]) (fun _ => hB0) (by kernel_rfl) (by simp) ⟨⟨_, rfl, ?_⟩, trivial⟩
  refine L.ret (x_call krsame_en52 rfl) rfl (check07 A0 a _ _ (ha.carry hB0)) ?_
  rintro _ w6 ⟨rfl, hw⟩
  have hB0 := hB0.carry hw
  refine L.nil ?_
  refine thn_n ?_
  refine LAC.takeN (i := 2) rfl (by kernel_rfl) (by kernel_rfl) (by kernel_rfl) (by kernel_rfl) (fun w hw => x_eql rfl rfl) rfl ?_
  refine LAC.takeN (i := 3) rfl (by kernel_rfl) (by kernel_rfl) (by kernel_rfl) (by kernel_rfl) (fun w hw => x_mv (v := .bool _) rfl) rfl ?_
  refine LAC.split (dj := 8) (b := _) rfl (fun g8 => ?_) (fun g8 => ?_)
  ·have h8 := of_decide_eq_true g8
   refine LAC.takeG (i := 4) rfl (by kernel_rfl) (by kernel_rfl) (by kernel_rfl) (by kernel_rfl) (dj := 8) (b := _) rfl rfl g8 (fun w hw => x_ldn (vs := ds) krsame_ag25 rfl hlb (hw.keepRow hlb (bx3.row hlb))) rfl ?_
   refine LAC.step (rs := [5]) (fun _ => hB0) (by kernel_rfl) (by simp) ⟨⟨_, rfl, ?_⟩, trivial⟩
   refine L.gyes' (dj := 8) (b := _) rfl rfl g8 ?_
   refine L.ret (x_call krsame_en52 rfl) rfl (check07 A1 b _ _ (hb.carry hB0)) ?_
   rintro _ w10 ⟨rfl, hw⟩
   have hB0 := hB0.carry hw
   refine L.nil ?_
   refine thn_n ?_
   refine LAC.takeG (i := 6) rfl (by kernel_rfl) (by kernel_rfl) (by kernel_rfl) (by kernel_rfl) (dj := 8) (b := _) rfl rfl g8 (fun w hw => x_eql rfl rfl) rfl ?_
   refine LAC.takeN (i := 7) rfl (by kernel_rfl) (by kernel_rfl) (by kernel_rfl) (by kernel_rfl) (fun w hw => x_pick_t (v := .bool _) (by rw [← g8]; rfl) rfl) rfl ?_
   refine LAC.takeN (i := 8) rfl (by kernel_rfl) (by kernel_rfl) (by kernel_rfl) (by kernel_rfl) (fun w hw => x_mv (v := .bool _) rfl) rfl ?_
   refine LAC.split (dj := 13) (b := _) rfl (fun g13 => ?_) (fun g13 => ?_)
   ·have h13 := of_decide_eq_true g13
    refine LAC.takeG (i := 9) rfl (by kernel_rfl) (by kernel_rfl) (by kernel_rfl) (by kernel_rfl) (dj := 13) (b := _) rfl rfl g13 (fun w hw => x_ldn (vs := cs) krsame_ag25 rfl hla (hw.keepRow hla (bx2.row hla))) rfl ?_
    refine LAC.takeG (i := 11) rfl (by kernel_rfl) (by kernel_rfl) (by kernel_rfl) (by kernel_rfl) (dj := 13) (b := _) rfl rfl g13 (fun w hw => x_ldn (vs := ds) krsame_ag25 rfl hlb (hw.keepRow hlb (bx3.row hlb))) rfl ?_
    refine LAC.step (rs := [10]) (fun _ => hB0) (by kernel_rfl) (by simp) ⟨⟨_, rfl, ?_⟩, trivial⟩
    refine L.gyes' (dj := 13) (b := _) rfl rfl g13 ?_
    refine L.ret (x_call krsame_en73 rfl) rfl (rsorted0 _ a (Nat.lt_succ_self _) (check_zero h8).1 (check_zero h8).2.2 A0 _ _ (ha.carry hB0)) ?_
    rintro _ w15 ⟨cs15, rfl, ht15, hw⟩
    have hB0 := hB0.carry hw
    try have ht17 := ht17.carry hw
    refine L.nil ?_
    refine thn_n ?_
    refine LAC.step (rs := [12]) (fun _ => hB0) (by kernel_rfl) (by simp) ⟨⟨_, rfl, ?_⟩, trivial⟩
    refine L.gyes' (dj := 13) (b := _) rfl rfl g13 ?_
    refine L.ret (x_call krsame_en73 rfl) rfl (rsorted0 _ b (Nat.lt_succ_self _) (check_zero h13).1 (check_zero h13).2.2 A1 _ _ (hb.carry hB0)) ?_
    rintro _ w17 ⟨cs17, rfl, ht17, hw⟩
    have hB0 := hB0.carry hw
    try have ht15 := ht15.carry hw
    refine L.nil ?_
    refine thn_n ?_
    refine LAC.step (rs := [13]) (fun _ => hB0) (by kernel_rfl) (by simp) ⟨⟨_, rfl, ?_⟩, trivial⟩
    refine L.gyes' (dj := 13) (b := _) rfl rfl g13 ?_
    refine L.ret (x_call krsame_en26 rfl) rfl (equal07 _ _ _ (Nat.lt_succ_self _) _ _ _ _ _ ht15 ht17) ?_
    rintro _ w18 ⟨rfl, hw⟩
    have hB0 := hB0.carry hw
    refine L.nil ?_
    refine thn_n ?_
    refine LAC.takeN (i := 14) rfl (by kernel_rfl) (by kernel_rfl) (by kernel_rfl) (by kernel_rfl) (fun w hw => x_pick_t (v := .bool _) (by rw [← g13]; rfl) rfl) rfl ?_
    refine LAC.takeN (i := 15) rfl (by kernel_rfl) (by kernel_rfl) (by kernel_rfl) (by kernel_rfl) (fun w hw => x_as (v := .bool _) rfl) rfl ?_
    refine LAC.doneF (by kernel_rfl) hB0 ?_
    have hB := hB.carry hB0; have ha := ha.carry hB0; have hb := hb.carry hB0; have bx2 := bx2.carry hB0; have bx3 := bx3.carry hB0
    refine thn_n ?_
    refine W.ret (fin_mk (.inr rfl) ?_)
    refine ⟨vb ?_, hB⟩
    unfold sameS
    first
      | (rw [h8, h13]; simp)
      | (rw [h8]; simp [h13])
      | (simp [h8])
   ·have h13 := of_decide_eq_false g13
    refine LAC.takeU (i := 9) rfl (by kernel_rfl) (by kernel_rfl) (by kernel_rfl) (by kernel_rfl) (dj := 13) (b := _) rfl rfl g13 rfl ?_
    refine LAC.takeU (i := 10) rfl (by kernel_rfl) (by kernel_rfl) (by kernel_rfl) (by kernel_rfl) (dj := 13) (b := _) rfl rfl g13 rfl ?_
    refine LAC.takeU (i := 11) rfl (by kernel_rfl) (by kernel_rfl) (by kernel_rfl) (by kernel_rfl) (dj := 13) (b := _) rfl rfl g13 rfl ?_
    refine LAC.takeU (i := 12) rfl (by kernel_rfl) (by kernel_rfl) (by kernel_rfl) (by kernel_rfl) (dj := 13) (b := _) rfl rfl g13 rfl ?_
    refine LAC.takeU (i := 13) rfl (by kernel_rfl) (by kernel_rfl) (by kernel_rfl) (by kernel_rfl) (dj := 13) (b := _) rfl rfl g13 rfl ?_
    refine LAC.takeN (i := 14) rfl (by kernel_rfl) (by kernel_rfl) (by kernel_rfl) (by kernel_rfl) (fun w hw => x_pick_f (v := .bool _) (by rw [← g13]; rfl) rfl) rfl ?_
    refine LAC.takeN (i := 15) rfl (by kernel_rfl) (by kernel_rfl) (by kernel_rfl) (by kernel_rfl) (fun w hw => x_as (v := .bool _) rfl) rfl ?_
    refine LAC.doneF (by kernel_rfl) hB0 ?_
    have hB := hB.carry hB0; have ha := ha.carry hB0; have hb := hb.carry hB0; have bx2 := bx2.carry hB0; have bx3 := bx3.carry hB0
    refine thn_n ?_
    refine W.ret (fin_mk (.inr rfl) ?_)
    refine ⟨vb ?_, hB⟩
    unfold sameS
    first
      | (rw [h8, h13]; simp)
      | (rw [h8]; simp [h13])
      | (simp [h8])
  ·have h8 := of_decide_eq_false g8
   refine LAC.takeU (i := 4) rfl (by kernel_rfl) (by kernel_rfl) (by kernel_rfl) (by kernel_rfl) (dj := 8) (b := _) rfl rfl g8 rfl ?_
   refine LAC.takeU (i := 5) rfl (by kernel_rfl) (by kernel_rfl) (by kernel_rfl) (by kernel_rfl) (dj := 8) (b := _) rfl rfl g8 rfl ?_
   refine LAC.takeU (i := 6) rfl (by kernel_rfl) (by kernel_rfl) (by kernel_rfl) (by kernel_rfl) (dj := 8) (b := _) rfl rfl g8 rfl ?_
   refine LAC.takeN (i := 7) rfl (by kernel_rfl) (by kernel_rfl) (by kernel_rfl) (by kernel_rfl) (fun w hw => x_pick_f (v := .bool _) (by rw [← g8]; rfl) rfl) rfl ?_
   refine LAC.takeN (i := 8) rfl (by kernel_rfl) (by kernel_rfl) (by kernel_rfl) (by kernel_rfl) (fun w hw => x_mv (v := .bool _) rfl) rfl ?_
   refine LAC.takeU (i := 9) rfl (by kernel_rfl) (by kernel_rfl) (by kernel_rfl) (by kernel_rfl) (dj := 13) (b := _) rfl rfl rfl rfl ?_
   refine LAC.takeU (i := 10) rfl (by kernel_rfl) (by kernel_rfl) (by kernel_rfl) (by kernel_rfl) (dj := 13) (b := _) rfl rfl rfl rfl ?_
   refine LAC.takeU (i := 11) rfl (by kernel_rfl) (by kernel_rfl) (by kernel_rfl) (by kernel_rfl) (dj := 13) (b := _) rfl rfl rfl rfl ?_
   refine LAC.takeU (i := 12) rfl (by kernel_rfl) (by kernel_rfl) (by kernel_rfl) (by kernel_rfl) (dj := 13) (b := _) rfl rfl rfl rfl ?_
   refine LAC.takeU (i := 13) rfl (by kernel_rfl) (by kernel_rfl) (by kernel_rfl) (by kernel_rfl) (dj := 13) (b := _) rfl rfl rfl rfl ?_
   refine LAC.takeN (i := 14) rfl (by kernel_rfl) (by kernel_rfl) (by kernel_rfl) (by kernel_rfl) (fun w hw => x_pick_f (v := .bool _) rfl rfl) rfl ?_
   refine LAC.takeN (i := 15) rfl (by kernel_rfl) (by kernel_rfl) (by kernel_rfl) (by kernel_rfl) (fun w hw => x_as (v := .bool _) rfl) rfl ?_
   refine LAC.doneF (by kernel_rfl) hB0 ?_
   have hB := hB.carry hB0; have ha := ha.carry hB0; have hb := hb.carry hB0; have bx2 := bx2.carry hB0; have bx3 := bx3.carry hB0
   refine thn_n ?_
   refine W.ret (fin_mk (.inr rfl) ?_)
   refine ⟨vb ?_, hB⟩
   unfold sameS
   first
     | (rw [h8, h13]; simp)
     | (rw [h8]; simp [h13])
     | (simp [h8])
theorem law_sames (A B : Nat → Prop) (a b : Sh) (cs ds : List Value) (w : World) (ha : ShC A w cs a) (hb : ShC B w ds b) :
    Ret Tryz.prog 8 #[.agg cs.toArray, .agg ds.toArray] w fun v w' => v = .bool true ∧ Bel w w' := by
  have hla := ha.len
  have hlb := hb.len
  refine ret_of_W Tryz.func8 rfl (Nat.le_of_ble_eq_true rfl) (res1 rfl) ?_
  have hB := Gr.refl (fun _ => False) w
  refine W.seq ?_
  refine W.region ?_
  refine L.box (cs := cs) rfl rfl (fun w2 bx2 hw hz2 => ?_)
  have hB := hB.carry hw; have ha := ha.carry hw; have hb := hb.carry hw
  refine L.box (cs := ds) rfl rfl (fun w3 bx3 hw hz3 => ?_)
  have hB := hB.carry hw; have ha := ha.carry hw; have hb := hb.carry hw; have bx2 := bx2.carry hw
  refine L.val (x_as (v := .bool _) rfl) rfl ?_
  refine L.nil ?_
  refine thn_n ?_
  refine W.seq ?_
  refine W.drawF 11 krsame_mixed (fun wF5 hB0 => ?_)
  refine LAC.takeN (i := 0) rfl (by kernel_rfl) (by kernel_rfl) (by kernel_rfl) (by kernel_rfl) (fun w hw => x_ldn (vs := cs) krsame_ag25 rfl hla (hw.keepRow hla (bx2.row hla))) rfl ?_
  refine LAC.takeN (i := 1) rfl (by kernel_rfl) (by kernel_rfl) (by kernel_rfl) (by kernel_rfl) (fun w hw => x_ldn (vs := ds) krsame_ag25 rfl hlb (hw.keepRow hlb (bx3.row hlb))) rfl ?_
  refine LAC.takeN (i := 3) rfl (by kernel_rfl) (by kernel_rfl) (by kernel_rfl) (by kernel_rfl) (fun w hw => x_ldn (vs := cs) krsame_ag25 rfl hla (hw.keepRow hla (bx2.row hla))) rfl ?_
  refine LAC.takeN (i := 4) rfl (by kernel_rfl) (by kernel_rfl) (by kernel_rfl) (by kernel_rfl) (fun w hw => x_ldn (vs := ds) krsame_ag25 rfl hlb (hw.keepRow hlb (bx3.row hlb))) rfl ?_
  refine LAC.step (rs := [2]) (fun _ => hB0) (by kernel_rfl) (by simp) ⟨⟨_, rfl, ?_⟩, trivial⟩
  refine L.ret (x_call krsame_en34 rfl) rfl (same_ok _ _ a b _ _ _ (ha.carry hB0) (hb.carry hB0)) ?_
  rintro _ w7 ⟨rfl, hw⟩
  have hB0 := hB0.carry hw
  refine L.nil ?_
  refine thn_n ?_
  refine LAC.step (rs := [5]) (fun _ => hB0) (by kernel_rfl) (by simp) ⟨⟨_, rfl, ?_⟩, trivial⟩
  refine L.ret (x_call krsame_en35 rfl) rfl (rsame_ok _ _ a b _ _ _ (ha.carry hB0) (hb.carry hB0)) ?_
  rintro _ w10 ⟨rfl, hw⟩
  have hB0 := hB0.carry hw
  refine L.nil ?_
  refine thn_n ?_
  refine LAC.takeN (i := 6) rfl (by kernel_rfl) (by kernel_rfl) (by kernel_rfl) (by kernel_rfl) (fun w hw => x_eqb Tryz.underlying4 rfl rfl) rfl ?_
  refine LAC.takeN (i := 7) rfl (by kernel_rfl) (by kernel_rfl) (by kernel_rfl) (by kernel_rfl) (fun w hw => x_mv (v := .bool _) rfl) rfl ?_
  refine LAC.split (dj := 12) (b := _) rfl (fun g12 => ?_) (fun g12 => ?_)
  ·have h12 := g12
   refine LAC.step (rs := [8]) (fun _ => hB0) (by kernel_rfl) (by simp) ⟨⟨_, rfl, ?_⟩, trivial⟩
   refine L.gyes' (dj := 12) (b := _) rfl rfl g12 ?_
   refine L.ret (x_call krsame_en36 rfl) rfl (awake07 _) ?_
   rintro _ w13 ⟨rfl, hw⟩
   have hB0 := hB0.carry hw
   refine L.nil ?_
   refine thn_n ?_
   refine LAC.takeN (i := 9) rfl (by kernel_rfl) (by kernel_rfl) (by kernel_rfl) (by kernel_rfl) (fun w hw => x_pick_t (v := .bool _) (by rw [← g12]; rfl) rfl) rfl ?_
   refine LAC.takeN (i := 10) rfl (by kernel_rfl) (by kernel_rfl) (by kernel_rfl) (by kernel_rfl) (fun w hw => x_as (v := .bool _) rfl) rfl ?_
   refine LAC.doneF (by kernel_rfl) hB0 ?_
   have hB := hB.carry hB0; have ha := ha.carry hB0; have hb := hb.carry hB0; have bx2 := bx2.carry hB0; have bx3 := bx3.carry hB0
   refine thn_n ?_
   refine W.ret (fin_mk (.inr rfl) ?_)
   exact ⟨vb (by simp), hB⟩
  ·have h12 := g12
   simp at g12
end Go.Gx

