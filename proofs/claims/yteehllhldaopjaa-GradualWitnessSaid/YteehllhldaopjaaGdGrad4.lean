/- Near and Alike. Conditions: none. -/
import Derived.Test.YteehllhldaopjaaGdGrad3
namespace Go.Gx
open Go.Proofs
theorem kgrad4_ag25 : aggT Try.prog 25 5 = true := by kernel_rfl
theorem kgrad4_en108 : Go.Proofs.Enters Try.prog 108 := Go.Proofs.enters_of Try.func108 (by kernel_rfl) rfl
theorem kgrad4_en112 : Go.Proofs.Enters Try.prog 112 := Go.Proofs.enters_of Try.func112 (by kernel_rfl) rfl
theorem kgrad4_en29 : Go.Proofs.Enters Try.prog 29 := Go.Proofs.enters_of Try.func29 (by kernel_rfl) rfl
theorem kgrad4_en80 : Go.Proofs.Enters Try.prog 80 := Go.Proofs.enters_of Try.func80 (by kernel_rfl) rfl
theorem kgrad4_en81 : Go.Proofs.Enters Try.prog 81 := Go.Proofs.enters_of Try.func81 (by kernel_rfl) rfl
theorem kgrad4_en82 : Go.Proofs.Enters Try.prog 82 := Go.Proofs.enters_of Try.func82 (by kernel_rfl) rfl
theorem kgrad4_en83 : Go.Proofs.Enters Try.prog 83 := Go.Proofs.enters_of Try.func83 (by kernel_rfl) rfl
theorem kgrad4_mixed : Try.prog.follows .mixedOrders = true := by kernel_rfl
theorem both_ok (A B : Nat → Prop) (a b : Sh) (xs ys : List Value) (w : World) (ha : ShC A w xs a) (hb : ShC B w ys b) :
    Ret Try.prog 80 #[.agg xs.toArray, .agg ys.toArray] w fun v w' => v = .bool (decide (checkS a = 0) && decide (checkS b = 0)) ∧ Bel w w' := by
  have hla := ha.len
  have hlb := hb.len
  refine ret_of_W Try.func80 rfl (Nat.le_of_ble_eq_true rfl) (res1 rfl) ?_
  have hB := Gr.refl (fun _ => False) w
  refine W.seq ?_
  refine W.region ?_
  refine L.box (cs := xs) rfl rfl (fun w2 bx2 hw hz2 => ?_)
  have hB := hB.carry hw; have ha := ha.carry hw; have hb := hb.carry hw
  refine L.box (cs := ys) rfl rfl (fun w3 bx3 hw hz3 => ?_)
  have hB := hB.carry hw; have ha := ha.carry hw; have hb := hb.carry hw; have bx2 := bx2.carry hw
  refine L.val (x_as (v := .bool _) rfl) rfl ?_
  refine L.nil ?_
  refine thn_n ?_
  refine W.seq ?_
  refine W.region ?_
  refine L.val (x_ldn (vs := xs) kgrad4_ag25 rfl hla (bx2.row hla)) rfl ?_
  refine L.ret (x_call kgrad4_en29 rfl) rfl (checkL A a _ _ ha) ?_
  rintro _ w6 ⟨rfl, hw⟩
  have hB := hB.carry hw; have ha := ha.carry hw; have hb := hb.carry hw; have bx2 := bx2.carry hw; have bx3 := bx3.carry hw
  refine L.val (x_eql rfl rfl) rfl ?_
  refine L.val (x_mv (v := .bool _) rfl) rfl ?_
  refine' L.group 3 9 11 11 8 true rfl ?_ ?_ ?_
  rotate_left 1
  ·intro g8 hg8
   have h8 := of_decide_eq_true g8
   refine L.gyes' (dj := 8) (b := _) rfl rfl g8 ?_
   refine L.val (x_ldn (vs := ys) kgrad4_ag25 rfl hlb (bx3.row hlb)) rfl ?_
   refine L.gyes' (dj := 8) (b := _) rfl rfl g8 ?_
   refine L.ret (x_call kgrad4_en29 rfl) rfl (checkL B b _ _ hb) ?_
   rintro _ w10 ⟨rfl, hw⟩
   have hB := hB.carry hw; have ha := ha.carry hw; have hb := hb.carry hw; have bx2 := bx2.carry hw; have bx3 := bx3.carry hw; have hg8 := hg8.carry hw
   refine L.gyes' (dj := 8) (b := _) rfl rfl g8 ?_
   refine L.val (x_eql rfl rfl) rfl ?_
   refine L.nil ?_
   refine thn_n ⟨rfl, ?_, ?_, fun _ => rfl⟩
   ·exact hg8
   ·repeat (first | exact jeq.refl _ _ _ | refine jeq.upd rfl ?_ | refine jeq.jk rfl rfl ?_)
  ·intro g8
   refine L.gno (dj := 8) (b := _) rfl rfl g8 rfl ?_
   refine L.gno (dj := 8) (b := _) rfl rfl g8 rfl ?_
   refine L.gno (dj := 8) (b := _) rfl rfl g8 rfl ?_
   refine L.nil (thn_n ⟨rfl, Gr.refl _ _, ?_⟩)
   refine ⟨?_, fun h => h.elim⟩
   repeat (first | exact jeq.refl _ _ _ | refine jeq.upd rfl ?_ | refine jeq.jk rfl rfl ?_)
  intro J8 w8 hw j8
  have hB := hB.carry hw; have ha := ha.carry hw; have hb := hb.carry hw; have bx2 := bx2.carry hw; have bx3 := bx3.carry hw
  refine L.val (x_and rfl j8) rfl ?_
  refine L.val (x_as (v := .bool _) rfl) rfl ?_
  refine L.nil ?_
  refine thn_n ?_
  refine W.ret (fin_mk (.inr rfl) ?_)
  exact ⟨rfl, hB⟩
noncomputable def goesS (lo : Bool) (a b : Sh) : Bool := (decide (checkS a = 0) && decide (checkS b = 0)) && fitsN lo (SizeOf.sizeOf a + SizeOf.sizeOf b + 1) a b
theorem near_ok (A B : Nat → Prop) (a b : Sh) (xs ys : List Value) (w : World) (ha : ShC A w xs a) (hb : ShC B w ys b) :
    Ret Try.prog 55 #[.agg xs.toArray, .agg ys.toArray] w fun v w' => v = .bool (goesS true a b) ∧ Bel w w' := by
  have hla := ha.len
  have hlb := hb.len
  refine ret_of_W Try.func55 rfl (Nat.le_of_ble_eq_true rfl) (res1 rfl) ?_
  have hB := Gr.refl (fun _ => False) w
  refine W.seq ?_
  refine W.region ?_
  refine L.box (cs := xs) rfl rfl (fun w2 bx2 hw hz2 => ?_)
  have hB := hB.carry hw; have ha := ha.carry hw; have hb := hb.carry hw
  refine L.box (cs := ys) rfl rfl (fun w3 bx3 hw hz3 => ?_)
  have hB := hB.carry hw; have ha := ha.carry hw; have hb := hb.carry hw; have bx2 := bx2.carry hw
  refine L.val (x_as (v := .bool _) rfl) rfl ?_
  refine L.nil ?_
  refine thn_n ?_
  refine W.seq ?_
  refine W.drawF 10 kgrad4_mixed (fun wF5 hB0 => ?_)
  refine LAC.takeN (i := 0) rfl (by kernel_rfl) (by kernel_rfl) (by kernel_rfl) (by kernel_rfl) (fun w hw => x_ldn (vs := xs) kgrad4_ag25 rfl hla (hw.keepRow hla (bx2.row hla))) rfl ?_
  refine LAC.takeN (i := 1) rfl (by kernel_rfl) (by kernel_rfl) (by kernel_rfl) (by kernel_rfl) (fun w hw => x_ldn (vs := ys) kgrad4_ag25 rfl hlb (hw.keepRow hlb (bx3.row hlb))) rfl ?_
  refine LAC.step (rs := [2]) (fun _ => hB0) (by kernel_rfl) (by simp) ⟨⟨_, rfl, ?_⟩, trivial⟩
  refine L.ret (x_call kgrad4_en80 rfl) rfl (both_ok A B a b _ _ _ (ha.carry hB0) (hb.carry hB0)) ?_
  rintro _ w7 ⟨rfl, hw⟩
  have hB0 := hB0.carry hw
  refine L.nil ?_
  refine thn_n ?_
  refine LAC.takeN (i := 3) rfl (by kernel_rfl) (by kernel_rfl) (by kernel_rfl) (by kernel_rfl) (fun w hw => x_mv (v := .bool _) rfl) rfl ?_
  refine LAC.split (dj := 8) (b := _) rfl (fun g8 => ?_) (fun g8 => ?_)
  ·have h8 := g8
   have hc : checkS a = 0 ∧ checkS b = 0 := by simpa using g8
   have c1 := check_zero hc.1
   have c2 := check_zero hc.2
   refine LAC.takeG (i := 5) rfl (by kernel_rfl) (by kernel_rfl) (by kernel_rfl) (by kernel_rfl) (dj := 8) (b := _) rfl rfl g8 (fun w hw => x_ldn (vs := xs) kgrad4_ag25 rfl hla (hw.keepRow hla (bx2.row hla))) rfl ?_
   refine LAC.takeG (i := 6) rfl (by kernel_rfl) (by kernel_rfl) (by kernel_rfl) (by kernel_rfl) (dj := 8) (b := _) rfl rfl g8 (fun w hw => x_ldn (vs := ys) kgrad4_ag25 rfl hlb (hw.keepRow hlb (bx3.row hlb))) rfl ?_
   refine LAC.step (rs := [4]) (fun _ => hB0) (by kernel_rfl) (by simp) ⟨⟨_, rfl, ?_⟩, trivial⟩
   refine L.gyes' (dj := 8) (b := _) rfl rfl g8 ?_
   refine L.ret (x_call kgrad4_en81 rfl) rfl (loose_ok _) ?_
   rintro _ w9 ⟨⟨rfl, hbr⟩, hw⟩
   have hB0 := hB0.carry hw
   refine L.nil ?_
   refine thn_n ?_
   refine LAC.step (rs := [7]) (fun _ => hB0) (by kernel_rfl) (by simp) ⟨⟨_, rfl, ?_⟩, trivial⟩
   refine L.gyes' (dj := 8) (b := _) rfl rfl g8 ?_
   refine L.ret (x_call kgrad4_en82 rfl) rfl (fitsG_ok true 108 kgrad4_en108 loose_fn _ a b (Nat.lt_succ_self _) c1.1 c2.1 c1.2.2 c2.2.2 A B _ _ _ _ (ha.carry hB0) (hb.carry hB0) hbr) ?_
   rintro _ w12 ⟨rfl, hw⟩
   have hB0 := hB0.carry hw
   refine L.nil ?_
   refine thn_n ?_
   refine LAC.takeN (i := 8) rfl (by kernel_rfl) (by kernel_rfl) (by kernel_rfl) (by kernel_rfl) (fun w hw => x_pick_t (v := .bool _) (congrArg Value.bool g8) rfl) rfl ?_
   refine LAC.takeN (i := 9) rfl (by kernel_rfl) (by kernel_rfl) (by kernel_rfl) (by kernel_rfl) (fun w hw => x_as (v := .bool _) rfl) rfl ?_
   refine LAC.doneF (by kernel_rfl) hB0 ?_
   have hB := hB.carry hB0; have ha := ha.carry hB0; have hb := hb.carry hB0; have bx2 := bx2.carry hB0; have bx3 := bx3.carry hB0
   refine thn_n ?_
   refine W.ret (fin_mk (.inr rfl) ?_)
   exact ⟨vb (by unfold goesS; rw [g8]; rfl), hB⟩
  ·have h8 := g8
   refine LAC.takeU (i := 4) rfl (by kernel_rfl) (by kernel_rfl) (by kernel_rfl) (by kernel_rfl) (dj := 8) (b := _) rfl rfl g8 rfl ?_
   refine LAC.takeU (i := 5) rfl (by kernel_rfl) (by kernel_rfl) (by kernel_rfl) (by kernel_rfl) (dj := 8) (b := _) rfl rfl g8 rfl ?_
   refine LAC.takeU (i := 6) rfl (by kernel_rfl) (by kernel_rfl) (by kernel_rfl) (by kernel_rfl) (dj := 8) (b := _) rfl rfl g8 rfl ?_
   refine LAC.takeU (i := 7) rfl (by kernel_rfl) (by kernel_rfl) (by kernel_rfl) (by kernel_rfl) (dj := 8) (b := _) rfl rfl g8 rfl ?_
   refine LAC.takeN (i := 8) rfl (by kernel_rfl) (by kernel_rfl) (by kernel_rfl) (by kernel_rfl) (fun w hw => x_pick_f (v := .bool _) (congrArg Value.bool g8) rfl) rfl ?_
   refine LAC.takeN (i := 9) rfl (by kernel_rfl) (by kernel_rfl) (by kernel_rfl) (by kernel_rfl) (fun w hw => x_as (v := .bool _) rfl) rfl ?_
   refine LAC.doneF (by kernel_rfl) hB0 ?_
   have hB := hB.carry hB0; have ha := ha.carry hB0; have hb := hb.carry hB0; have bx2 := bx2.carry hB0; have bx3 := bx3.carry hB0
   refine thn_n ?_
   refine W.ret (fin_mk (.inr rfl) ?_)
   exact ⟨vb (by unfold goesS; rw [g8]; rfl), hB⟩
theorem alike_ok (A B : Nat → Prop) (a b : Sh) (xs ys : List Value) (w : World) (ha : ShC A w xs a) (hb : ShC B w ys b) :
    Ret Try.prog 57 #[.agg xs.toArray, .agg ys.toArray] w fun v w' => v = .bool (goesS false a b) ∧ Bel w w' := by
  have hla := ha.len
  have hlb := hb.len
  refine ret_of_W Try.func57 rfl (Nat.le_of_ble_eq_true rfl) (res1 rfl) ?_
  have hB := Gr.refl (fun _ => False) w
  refine W.seq ?_
  refine W.region ?_
  refine L.box (cs := xs) rfl rfl (fun w2 bx2 hw hz2 => ?_)
  have hB := hB.carry hw; have ha := ha.carry hw; have hb := hb.carry hw
  refine L.box (cs := ys) rfl rfl (fun w3 bx3 hw hz3 => ?_)
  have hB := hB.carry hw; have ha := ha.carry hw; have hb := hb.carry hw; have bx2 := bx2.carry hw
  refine L.val (x_as (v := .bool _) rfl) rfl ?_
  refine L.nil ?_
  refine thn_n ?_
  refine W.seq ?_
  refine W.drawF 10 kgrad4_mixed (fun wF5 hB0 => ?_)
  refine LAC.takeN (i := 0) rfl (by kernel_rfl) (by kernel_rfl) (by kernel_rfl) (by kernel_rfl) (fun w hw => x_ldn (vs := xs) kgrad4_ag25 rfl hla (hw.keepRow hla (bx2.row hla))) rfl ?_
  refine LAC.takeN (i := 1) rfl (by kernel_rfl) (by kernel_rfl) (by kernel_rfl) (by kernel_rfl) (fun w hw => x_ldn (vs := ys) kgrad4_ag25 rfl hlb (hw.keepRow hlb (bx3.row hlb))) rfl ?_
  refine LAC.step (rs := [2]) (fun _ => hB0) (by kernel_rfl) (by simp) ⟨⟨_, rfl, ?_⟩, trivial⟩
  refine L.ret (x_call kgrad4_en80 rfl) rfl (both_ok A B a b _ _ _ (ha.carry hB0) (hb.carry hB0)) ?_
  rintro _ w7 ⟨rfl, hw⟩
  have hB0 := hB0.carry hw
  refine L.nil ?_
  refine thn_n ?_
  refine LAC.takeN (i := 3) rfl (by kernel_rfl) (by kernel_rfl) (by kernel_rfl) (by kernel_rfl) (fun w hw => x_mv (v := .bool _) rfl) rfl ?_
  refine LAC.split (dj := 8) (b := _) rfl (fun g8 => ?_) (fun g8 => ?_)
  ·have h8 := g8
   have hc : checkS a = 0 ∧ checkS b = 0 := by simpa using g8
   have c1 := check_zero hc.1
   have c2 := check_zero hc.2
   refine LAC.takeG (i := 5) rfl (by kernel_rfl) (by kernel_rfl) (by kernel_rfl) (by kernel_rfl) (dj := 8) (b := _) rfl rfl g8 (fun w hw => x_ldn (vs := xs) kgrad4_ag25 rfl hla (hw.keepRow hla (bx2.row hla))) rfl ?_
   refine LAC.takeG (i := 6) rfl (by kernel_rfl) (by kernel_rfl) (by kernel_rfl) (by kernel_rfl) (dj := 8) (b := _) rfl rfl g8 (fun w hw => x_ldn (vs := ys) kgrad4_ag25 rfl hlb (hw.keepRow hlb (bx3.row hlb))) rfl ?_
   refine LAC.step (rs := [4]) (fun _ => hB0) (by kernel_rfl) (by simp) ⟨⟨_, rfl, ?_⟩, trivial⟩
   refine L.gyes' (dj := 8) (b := _) rfl rfl g8 ?_
   refine L.ret (x_call kgrad4_en83 rfl) rfl (strict_ok _) ?_
   rintro _ w9 ⟨⟨rfl, hbr⟩, hw⟩
   have hB0 := hB0.carry hw
   refine L.nil ?_
   refine thn_n ?_
   refine LAC.step (rs := [7]) (fun _ => hB0) (by kernel_rfl) (by simp) ⟨⟨_, rfl, ?_⟩, trivial⟩
   refine L.gyes' (dj := 8) (b := _) rfl rfl g8 ?_
   refine L.ret (x_call kgrad4_en82 rfl) rfl (fitsG_ok false 112 kgrad4_en112 strict_fn _ a b (Nat.lt_succ_self _) c1.1 c2.1 c1.2.2 c2.2.2 A B _ _ _ _ (ha.carry hB0) (hb.carry hB0) hbr) ?_
   rintro _ w12 ⟨rfl, hw⟩
   have hB0 := hB0.carry hw
   refine L.nil ?_
   refine thn_n ?_
   refine LAC.takeN (i := 8) rfl (by kernel_rfl) (by kernel_rfl) (by kernel_rfl) (by kernel_rfl) (fun w hw => x_pick_t (v := .bool _) (congrArg Value.bool g8) rfl) rfl ?_
   refine LAC.takeN (i := 9) rfl (by kernel_rfl) (by kernel_rfl) (by kernel_rfl) (by kernel_rfl) (fun w hw => x_as (v := .bool _) rfl) rfl ?_
   refine LAC.doneF (by kernel_rfl) hB0 ?_
   have hB := hB.carry hB0; have ha := ha.carry hB0; have hb := hb.carry hB0; have bx2 := bx2.carry hB0; have bx3 := bx3.carry hB0
   refine thn_n ?_
   refine W.ret (fin_mk (.inr rfl) ?_)
   exact ⟨vb (by unfold goesS; rw [g8]; rfl), hB⟩
  ·have h8 := g8
   refine LAC.takeU (i := 4) rfl (by kernel_rfl) (by kernel_rfl) (by kernel_rfl) (by kernel_rfl) (dj := 8) (b := _) rfl rfl g8 rfl ?_
   refine LAC.takeU (i := 5) rfl (by kernel_rfl) (by kernel_rfl) (by kernel_rfl) (by kernel_rfl) (dj := 8) (b := _) rfl rfl g8 rfl ?_
   refine LAC.takeU (i := 6) rfl (by kernel_rfl) (by kernel_rfl) (by kernel_rfl) (by kernel_rfl) (dj := 8) (b := _) rfl rfl g8 rfl ?_
   refine LAC.takeU (i := 7) rfl (by kernel_rfl) (by kernel_rfl) (by kernel_rfl) (by kernel_rfl) (dj := 8) (b := _) rfl rfl g8 rfl ?_
   refine LAC.takeN (i := 8) rfl (by kernel_rfl) (by kernel_rfl) (by kernel_rfl) (by kernel_rfl) (fun w hw => x_pick_f (v := .bool _) (congrArg Value.bool g8) rfl) rfl ?_
   refine LAC.takeN (i := 9) rfl (by kernel_rfl) (by kernel_rfl) (by kernel_rfl) (by kernel_rfl) (fun w hw => x_as (v := .bool _) rfl) rfl ?_
   refine LAC.doneF (by kernel_rfl) hB0 ?_
   have hB := hB.carry hB0; have ha := ha.carry hB0; have hb := hb.carry hB0; have bx2 := bx2.carry hB0; have bx3 := bx3.carry hB0
   refine thn_n ?_
   refine W.ret (fin_mk (.inr rfl) ?_)
   exact ⟨vb (by unfold goesS; rw [g8]; rfl), hB⟩
end Go.Gx
