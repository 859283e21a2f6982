/- The law GradualNears. Conditions: none. -/
import Derived.Test.YteehllhldaopjaaGreatNrRef13b
namespace Go.Gx
open Go.Proofs
theorem klawnears_ag25 : aggT Tryz.prog 25 5 = true := by kernel_rfl
theorem klawnears_en15 : Go.Proofs.Enters Tryz.prog 15 := Go.Proofs.enters_of Tryz.func15 (by kernel_rfl) rfl
theorem klawnears_en16 : Go.Proofs.Enters Tryz.prog 16 := Go.Proofs.enters_of Tryz.func16 (by kernel_rfl) rfl
theorem klawnears_en17 : Go.Proofs.Enters Tryz.prog 17 := Go.Proofs.enters_of Tryz.func17 (by kernel_rfl) rfl
theorem klawnears_en18 : Go.Proofs.Enters Tryz.prog 18 := Go.Proofs.enters_of Tryz.func18 (by kernel_rfl) rfl
theorem klawnears_en19 : Go.Proofs.Enters Tryz.prog 19 := Go.Proofs.enters_of Tryz.func19 (by kernel_rfl) rfl
theorem klawnears_en20 : Go.Proofs.Enters Tryz.prog 20 := Go.Proofs.enters_of Tryz.func20 (by kernel_rfl) rfl
theorem klawnears_en21 : Go.Proofs.Enters Tryz.prog 21 := Go.Proofs.enters_of Tryz.func21 (by kernel_rfl) rfl
theorem klawnears_en52 : Go.Proofs.Enters Tryz.prog 52 := Go.Proofs.enters_of Tryz.func52 (by kernel_rfl) rfl
theorem klawnears_en57 : Go.Proofs.Enters Tryz.prog 57 := Go.Proofs.enters_of Tryz.func57 (by kernel_rfl) rfl
theorem klawnears_en59 : Go.Proofs.Enters Tryz.prog 59 := Go.Proofs.enters_of Tryz.func59 (by kernel_rfl) rfl
theorem klawnears_mixed : Tryz.prog.follows .mixedOrders = true := by kernel_rfl
theorem goes_alk {a b : Sh} : ((decide (checkS a = 0) && decide (checkS b = 0)) && alkN (SizeOf.sizeOf a + SizeOf.sizeOf b + 1) a b) = goesS false a b := by
  unfold goesS
  by_cases ha : checkS a = 0
  · by_cases hb : checkS b = 0
    · rw [alk_eq _ _ _ (check_zero ha).2.2 (check_zero hb).2.2]
    · simp [hb]
  · simp [ha]
theorem goes_nr {a b : Sh} : ((decide (checkS a = 0) && decide (checkS b = 0)) && nrN (SizeOf.sizeOf a + SizeOf.sizeOf b + 1) a b) = goesS true a b := by
  unfold goesS
  by_cases ha : checkS a = 0
  · by_cases hb : checkS b = 0
    · rw [nr_eq _ _ _ (check_zero ha).2.2 (check_zero hb).2.2]
    · simp [hb]
  · simp [ha]
theorem alike13_ok (A B : Nat → Prop) (a b : Sh) (xs ys : List Value) (w : World) (ha : ShC A w xs a) (hb : ShC B w ys b) :
    Ret Tryz.prog 18 #[.agg xs.toArray, .agg ys.toArray] w fun v w' => v = .bool (goesS false a b) ∧ Bel w w' := by
  have hla := ha.len
  have hlb := hb.len
  refine ret_of_W Tryz.func18 rfl (Nat.le_of_ble_eq_true rfl) (res1 rfl) ?_
  have hB := Gr.refl (fun _ => False) w
  refine W.seq ?_
  refine W.region ?_
  refine L.box (cs := xs) rfl rfl (fun w2 bx2 hw hz2 => ?_)
  have hB := hB.carry hw; have ha := ha.carry hw; have hb := hb.carry hw
  refine L.box (cs := ys) rfl rfl (fun w3 bx3 hw hz3 => ?_)
  have hB := hB.carry hw; have ha := ha.carry hw; have hb := hb.carry hw; have bx2 := bx2.carry hw
  refine L.val (x_as (v := .bool _) rfl) rfl ?_
  refine L.nil ?_
  refine thn_n ?_
  refine W.seq ?_
  refine W.region ?_
  refine L.val (x_ldn (vs := xs) klawnears_ag25 rfl hla (bx2.row hla)) rfl ?_
  refine L.ret (x_call klawnears_en52 rfl) rfl (check07 A a _ _ ha) ?_
  rintro _ w6 ⟨rfl, hw⟩
  have hB := hB.carry hw; have ha := ha.carry hw; have hb := hb.carry hw; have bx2 := bx2.carry hw; have bx3 := bx3.carry hw
  refine L.val (x_eql rfl rfl) rfl ?_
  refine L.val (x_mv (v := .bool _) rfl) rfl ?_
  refine' L.group 3 9 11 11 8 true rfl ?_ ?_ ?_
  rotate_left 1
  ·intro g8 hg8
   have h8 := of_decide_eq_true g8
   refine L.gyes' (dj := 8) (b := _) rfl rfl g8 ?_
   refine L.val (x_ldn (vs := ys) klawnears_ag25 rfl hlb (bx3.row hlb)) rfl ?_
   refine L.gyes' (dj := 8) (b := _) rfl rfl g8 ?_
   refine L.ret (x_call klawnears_en52 rfl) rfl (check07 B b _ _ hb) ?_
   rintro _ w10 ⟨rfl, hw⟩
   have hB := hB.carry hw; have ha := ha.carry hw; have hb := hb.carry hw; have bx2 := bx2.carry hw; have bx3 := bx3.carry hw; have hg8 := hg8.carry hw
   refine L.gyes' (dj := 8) (b := _) rfl rfl g8 ?_
   refine L.val (x_eql rfl rfl) rfl ?_
   refine L.nil ?_
   refine thn_n ⟨rfl, ?_, ?_, fun _ => rfl⟩
   ·exact hg8
   ·repeat (first | exact jeq.refl _ _ _ | refine jeq.upd rfl ?_ | refine jeq.jk rfl rfl ?_)
  ·intro g8
   refine L.gno (dj := 8) (b := _) rfl rfl g8 rfl ?_
   refine L.gno (dj := 8) (b := _) rfl rfl g8 rfl ?_
   refine L.gno (dj := 8) (b := _) rfl rfl g8 rfl ?_
   refine L.nil (thn_n ⟨rfl, Gr.refl _ _, ?_⟩)
   refine ⟨?_, fun h => h.elim⟩
   repeat (first | exact jeq.refl _ _ _ | refine jeq.upd rfl ?_ | refine jeq.jk rfl rfl ?_)
  intro J8 w8 hw j8
  have hB := hB.carry hw; have ha := ha.carry hw; have hb := hb.carry hw; have bx2 := bx2.carry hw; have bx3 := bx3.carry hw
  refine L.val (x_and rfl j8) rfl ?_
  refine L.val (x_mv (v := .bool _) rfl) rfl ?_
  refine' L.group 3 14 16 16 13 true rfl ?_ ?_ ?_
  rotate_left 1
  ·intro g13 hg13
   have h13 := g13
   refine L.gyes' (dj := 13) (b := _) rfl rfl g13 ?_
   refine L.val (x_ldn (vs := xs) klawnears_ag25 rfl hla (bx2.row hla)) rfl ?_
   refine L.gyes' (dj := 13) (b := _) rfl rfl g13 ?_
   refine L.val (x_ldn (vs := ys) klawnears_ag25 rfl hlb (bx3.row hlb)) rfl ?_
   refine L.gyes' (dj := 13) (b := _) rfl rfl g13 ?_
   refine L.ret (x_call klawnears_en57 rfl) rfl (alike13 _ a b (Nat.lt_succ_self _) (check_zero (s := a) (by simp at g13; exact g13.1)).2.2 (check_zero (s := b) (by simp at g13; exact g13.2)).2.2 A B _ _ _ ha hb) ?_
   rintro _ w16 ⟨rfl, hw⟩
   have hB := hB.carry hw; have ha := ha.carry hw; have hb := hb.carry hw; have bx2 := bx2.carry hw; have bx3 := bx3.carry hw; have hg13 := hg13.carry hw
   refine L.nil ?_
   refine thn_n ⟨rfl, ?_, ?_, fun _ => rfl⟩
   ·exact hg13
   ·repeat (first | exact jeq.refl _ _ _ | refine jeq.upd rfl ?_ | refine jeq.jk rfl rfl ?_)
  ·intro g13
   refine L.gno (dj := 13) (b := _) rfl rfl g13 rfl ?_
   refine L.gno (dj := 13) (b := _) rfl rfl g13 rfl ?_
   refine L.gno (dj := 13) (b := _) rfl rfl g13 rfl ?_
   refine L.nil (thn_n ⟨rfl, Gr.refl _ _, ?_⟩)
   refine ⟨?_, fun h => h.elim⟩
   repeat (first | exact jeq.refl _ _ _ | refine jeq.upd rfl ?_ | refine jeq.jk rfl rfl ?_)
  intro J13 w13 hw j13
  have hB := hB.carry hw; have ha := ha.carry hw; have hb := hb.carry hw; have bx2 := bx2.carry hw; have bx3 := bx3.carry hw
  refine L.val (x_and rfl j13) rfl ?_
  refine L.val (x_as (v := .bool _) rfl) rfl ?_
  refine L.nil ?_
  refine thn_n ?_
  refine W.ret (fin_mk (.inr rfl) ?_)
  exact ⟨vb goes_alk, hB⟩
theorem near13_ok (A B : Nat → Prop) (a b : Sh) (xs ys : List Value) (w : World) (ha : ShC A w xs a) (hb : ShC B w ys b) :
    Ret Tryz.prog 20 #[.agg xs.toArray, .agg ys.toArray] w fun v w' => v = .bool (goesS true a b) ∧ Bel w w' := by
  have hla := ha.len
  have hlb := hb.len
  refine ret_of_W Tryz.func20 rfl (Nat.le_of_ble_eq_true rfl) (res1 rfl) ?_
  have hB := Gr.refl (fun _ => False) w
  refine W.seq ?_
  refine W.region ?_
  refine L.box (cs := xs) rfl rfl (fun w2 bx2 hw hz2 => ?_)
  have hB := hB.carry hw; have ha := ha.carry hw; have hb := hb.carry hw
  refine L.box (cs := ys) rfl rfl (fun w3 bx3 hw hz3 => ?_)
  have hB := hB.carry hw; have ha := ha.carry hw; have hb := hb.carry hw; have bx2 := bx2.carry hw
  refine L.val (x_as (v := .bool _) rfl) rfl ?_
  refine L.nil ?_
  refine thn_n ?_
  refine W.seq ?_
  refine W.region ?_
  refine L.val (x_ldn (vs := xs) klawnears_ag25 rfl hla (bx2.row hla)) rfl ?_
  refine L.ret (x_call klawnears_en52 rfl) rfl (check07 A a _ _ ha) ?_
  rintro _ w6 ⟨rfl, hw⟩
  have hB := hB.carry hw; have ha := ha.carry hw; have hb := hb.carry hw; have bx2 := bx2.carry hw; have bx3 := bx3.carry hw
  refine L.val (x_eql rfl rfl) rfl ?_
  refine L.val (x_mv (v := .bool _) rfl) rfl ?_
  refine' L.group 3 9 11 11 8 true rfl ?_ ?_ ?_
  rotate_left 1
  ·intro g8 hg8
   have h8 := of_decide_eq_true g8
   refine L.gyes' (dj := 8) (b := _) rfl rfl g8 ?_
   refine L.val (x_ldn (vs := ys) klawnears_ag25 rfl hlb (bx3.row hlb)) rfl ?_
   refine L.gyes' (dj := 8) (b := _) rfl rfl g8 ?_
   refine L.ret (x_call klawnears_en52 rfl) rfl (check07 B b _ _ hb) ?_
   rintro _ w10 ⟨rfl, hw⟩
   have hB := hB.carry hw; have ha := ha.carry hw; have hb := hb.carry hw; have bx2 := bx2.carry hw; have bx3 := bx3.carry hw; have hg8 := hg8.carry hw
   refine L.gyes' (dj := 8) (b := _) rfl rfl g8 ?_
   refine L.val (x_eql rfl rfl) rfl ?_
   refine L.nil ?_
   refine thn_n ⟨rfl, ?_, ?_, fun _ => rfl⟩
   ·exact hg8
   ·repeat (first | exact jeq.refl _ _ _ | refine jeq.upd rfl ?_ | refine jeq.jk rfl rfl ?_)
  ·intro g8
   refine L.gno (dj := 8) (b := _) rfl rfl g8 rfl ?_
   refine L.gno (dj := 8) (b := _) rfl rfl g8 rfl ?_
   refine L.gno (dj := 8) (b := _) rfl rfl g8 rfl ?_
   refine L.nil (thn_n ⟨rfl, Gr.refl _ _, ?_⟩)
   refine ⟨?_, fun h => h.elim⟩
   repeat (first | exact jeq.refl _ _ _ | refine jeq.upd rfl ?_ | refine jeq.jk rfl rfl ?_)
  intro J8 w8 hw j8
  have hB := hB.carry hw; have ha := ha.carry hw; have hb := hb.carry hw; have bx2 := bx2.carry hw; have bx3 := bx3.carry hw
  refine L.val (x_and rfl j8) rfl ?_
  refine L.val (x_mv (v := .bool _) rfl) rfl ?_
  refine' L.group 3 14 16 16 13 true rfl ?_ ?_ ?_
  rotate_left 1
  ·intro g13 hg13
   have h13 := g13
   refine L.gyes' (dj := 13) (b := _) rfl rfl g13 ?_
   refine L.val (x_ldn (vs := xs) klawnears_ag25 rfl hla (bx2.row hla)) rfl ?_
   refine L.gyes' (dj := 13) (b := _) rfl rfl g13 ?_
   refine L.val (x_ldn (vs := ys) klawnears_ag25 rfl hlb (bx3.row hlb)) rfl ?_
   refine L.gyes' (dj := 13) (b := _) rfl rfl g13 ?_
   refine L.ret (x_call klawnears_en59 rfl) rfl (near13 _ a b (Nat.lt_succ_self _) (check_zero (s := a) (by simp at g13; exact g13.1)).2.2 (check_zero (s := b) (by simp at g13; exact g13.2)).2.2 A B _ _ _ ha hb) ?_
   rintro _ w16 ⟨rfl, hw⟩
   have hB := hB.carry hw; have ha := ha.carry hw; have hb := hb.carry hw; have bx2 := bx2.carry hw; have bx3 := bx3.carry hw; have hg13 := hg13.carry hw
   refine L.nil ?_
   refine thn_n ⟨rfl, ?_, ?_, fun _ => rfl⟩
   ·exact hg13
   ·repeat (first | exact jeq.refl _ _ _ | refine jeq.upd rfl ?_ | refine jeq.jk rfl rfl ?_)
  ·intro g13
   refine L.gno (dj := 13) (b := _) rfl rfl g13 rfl ?_
   refine L.gno (dj := 13) (b := _) rfl rfl g13 rfl ?_
   refine L.gno (dj := 13) (b := _) rfl rfl g13 rfl ?_
   refine L.nil (thn_n ⟨rfl, Gr.refl _ _, ?_⟩)
   refine ⟨?_, fun h => h.elim⟩
   repeat (first | exact jeq.refl _ _ _ | refine jeq.upd rfl ?_ | refine jeq.jk rfl rfl ?_)
  intro J13 w13 hw j13
  have hB := hB.carry hw; have ha := ha.carry hw; have hb := hb.carry hw; have bx2 := bx2.carry hw; have bx3 := bx3.carry hw
  refine L.val (x_and rfl j13) rfl ?_
  refine L.val (x_as (v := .bool _) rfl) rfl ?_
  refine L.nil ?_
  refine thn_n ?_
  refine W.ret (fin_mk (.inr rfl) ?_)
  exact ⟨vb goes_nr, hB⟩
theorem law_nears (A0 B0 : Nat → Prop) (a b : Sh) (xs ys : List Value) (w : World) (ha : ShC A0 w xs a) (hb : ShC B0 w ys b) :
    Ret Tryz.prog 3 #[.agg xs.toArray, .agg ys.toArray] w fun v w' => v = .bool true ∧ Bel w w' := by
  have hla := ha.len
  have hlb := hb.len
  refine ret_of_W Tryz.func3 rfl (Nat.le_of_ble_eq_true rfl) (res1 rfl) ?_
  have hB := Gr.refl (fun _ => False) w
  refine W.seq ?_
  refine W.region ?_
  refine L.box (cs := xs) rfl rfl (fun w2 bx2 hw hz2 => ?_)
  have hB := hB.carry hw; have ha := ha.carry hw; have hb := hb.carry hw
  refine L.box (cs := ys) rfl rfl (fun w3 bx3 hw hz3 => ?_)
  have hB := hB.carry hw; have ha := ha.carry hw; have hb := hb.carry hw; have bx2 := bx2.carry hw
  refine L.val (x_as (v := .bool _) rfl) rfl ?_
  refine L.nil ?_
  refine thn_n ?_
  refine W.seq ?_
  refine W.drawF 36 klawnears_mixed (fun wF5 hB0 => ?_)
  refine LAC.takeN (i := 0) rfl (by kernel_rfl) (by kernel_rfl) (by kernel_rfl) (by kernel_rfl) (fun w hw => x_ldn (vs := xs) klawnears_ag25 rfl hla (hw.keepRow hla (bx2.row hla))) rfl ?_
  refine LAC.takeN (i := 2) rfl (by kernel_rfl) (by kernel_rfl) (by kernel_rfl) (by kernel_rfl) (fun w hw => x_ldn (vs := xs) klawnears_ag25 rfl hla (hw.keepRow hla (bx2.row hla))) rfl ?_
  refine LAC.step (rs := [1]) (fun _ => hB0) (by kernel_rfl) (by simp) ⟨⟨_, rfl, ?_⟩, trivial⟩
  refine L.ret (x_call klawnears_en15 rfl) rfl (plain_okG _ a _ _ (ha.carry hB0)) ?_
  rintro _ w6 ⟨rfl, hw⟩
  have hB0 := hB0.carry hw
  refine L.nil ?_
  refine thn_n ?_
  refine LAC.step (rs := [3]) (fun _ => hB0) (by kernel_rfl) (by simp) ⟨⟨_, rfl, ?_⟩, trivial⟩
  refine L.ret (x_call klawnears_en16 rfl) rfl (plain13 _ a _ _ (ha.carry hB0)) ?_
  rintro _ w8 ⟨rfl, hw⟩
  have hB0 := hB0.carry hw
  refine L.nil ?_
  refine thn_n ?_
  refine LAC.takeN (i := 4) rfl (by kernel_rfl) (by kernel_rfl) (by kernel_rfl) (by kernel_rfl) (fun w hw => x_eqb Tryz.underlying4 rfl rfl) rfl ?_
  refine LAC.takeN (i := 5) rfl (by kernel_rfl) (by kernel_rfl) (by kernel_rfl) (by kernel_rfl) (fun w hw => x_mv (v := .bool _) rfl) rfl ?_
  refine LAC.split (dj := 10) (b := _) rfl (fun g10 => ?_) (fun g10 => ?_)
  ·have h10 := g10
   refine LAC.takeG (i := 6) rfl (by kernel_rfl) (by kernel_rfl) (by kernel_rfl) (by kernel_rfl) (dj := 10) (b := _) rfl rfl g10 (fun w hw => x_ldn (vs := xs) klawnears_ag25 rfl hla (hw.keepRow hla (bx2.row hla))) rfl ?_
   refine LAC.takeG (i := 7) rfl (by kernel_rfl) (by kernel_rfl) (by kernel_rfl) (by kernel_rfl) (dj := 10) (b := _) rfl rfl g10 (fun w hw => x_ldn (vs := ys) klawnears_ag25 rfl hlb (hw.keepRow hlb (bx3.row hlb))) rfl ?_
   refine LAC.takeG (i := 9) rfl (by kernel_rfl) (by kernel_rfl) (by kernel_rfl) (by kernel_rfl) (dj := 10) (b := _) rfl rfl g10 (fun w hw => x_ldn (vs := xs) klawnears_ag25 rfl hla (hw.keepRow hla (bx2.row hla))) rfl ?_
   refine LAC.takeG (i := 10) rfl (by kernel_rfl) (by kernel_rfl) (by kernel_rfl) (by kernel_rfl) (dj := 10) (b := _) rfl rfl g10 (fun w hw => x_ldn (vs := ys) klawnears_ag25 rfl hlb (hw.keepRow hlb (bx3.row hlb))) rfl ?_
   refine LAC.step (rs := [8]) (fun _ => hB0) (by kernel_rfl) (by simp) ⟨⟨_, rfl, ?_⟩, trivial⟩
   refine L.gyes' (dj := 10) (b := _) rfl rfl g10 ?_
   refine L.ret (x_call klawnears_en17 rfl) rfl (alike_ok _ _ a b _ _ _ (ha.carry hB0) (hb.carry hB0)) ?_
   rintro _ w13 ⟨rfl, hw⟩
   have hB0 := hB0.carry hw
   refine L.nil ?_
   refine thn_n ?_
   refine LAC.step (rs := [11]) (fun _ => hB0) (by kernel_rfl) (by simp) ⟨⟨_, rfl, ?_⟩, trivial⟩
   refine L.gyes' (dj := 10) (b := _) rfl rfl g10 ?_
   refine L.ret (x_call klawnears_en18 rfl) rfl (alike13_ok _ _ a b _ _ _ (ha.carry hB0) (hb.carry hB0)) ?_
   rintro _ w16 ⟨rfl, hw⟩
   have hB0 := hB0.carry hw
   refine L.nil ?_
   refine thn_n ?_
   refine LAC.takeG (i := 12) rfl (by kernel_rfl) (by kernel_rfl) (by kernel_rfl) (by kernel_rfl) (dj := 10) (b := _) rfl rfl g10 (fun w hw => x_eqb Tryz.underlying4 rfl rfl) rfl ?_
   refine LAC.takeN (i := 13) rfl (by kernel_rfl) (by kernel_rfl) (by kernel_rfl) (by kernel_rfl) (fun w hw => x_pick_t (v := .bool _) (congrArg Value.bool g10) rfl) rfl ?_
   refine LAC.takeN (i := 14) rfl (by kernel_rfl) (by kernel_rfl) (by kernel_rfl) (by kernel_rfl) (fun w hw => x_mv (v := .bool _) rfl) rfl ?_
   refine LAC.split (dj := 19) (b := _) rfl (fun g19 => ?_) (fun g19 => ?_)
   ·have h19 := g19
    refine LAC.takeG (i := 15) rfl (by kernel_rfl) (by kernel_rfl) (by kernel_rfl) (by kernel_rfl) (dj := 19) (b := _) rfl rfl g19 (fun w hw => x_ldn (vs := xs) klawnears_ag25 rfl hla (hw.keepRow hla (bx2.row hla))) rfl ?_
    refine LAC.takeG (i := 16) rfl (by kernel_rfl) (by kernel_rfl) (by kernel_rfl) (by kernel_rfl) (dj := 19) (b := _) rfl rfl g19 (fun w hw => x_ldn (vs := ys) klawnears_ag25 rfl hlb (hw.keepRow hlb (bx3.row hlb))) rfl ?_
    refine LAC.takeG (i := 18) rfl (by kernel_rfl) (by kernel_rfl) (by kernel_rfl) (by kernel_rfl) (dj := 19) (b := _) rfl rfl g19 (fun w hw => x_ldn (vs := xs) klawnears_ag25 rfl hla (hw.keepRow hla (bx2.row hla))) rfl ?_
    refine LAC.takeG (i := 19) rfl (by kernel_rfl) (by kernel_rfl) (by kernel_rfl) (by kernel_rfl) (dj := 19) (b := _) rfl rfl g19 (fun w hw => x_ldn (vs := ys) klawnears_ag25 rfl hlb (hw.keepRow hlb (bx3.row hlb))) rfl ?_
    refine LAC.step (rs := [17]) (fun _ => hB0) (by kernel_rfl) (by simp) ⟨⟨_, rfl, ?_⟩, trivial⟩
    refine L.gyes' (dj := 19) (b := _) rfl rfl g19 ?_
    refine L.ret (x_call klawnears_en19 rfl) rfl (near_ok _ _ a b _ _ _ (ha.carry hB0) (hb.carry hB0)) ?_
    rintro _ w22 ⟨rfl, hw⟩
    have hB0 := hB0.carry hw
    refine L.nil ?_
    refine thn_n ?_
    refine LAC.step (rs := [20]) (fun _ => hB0) (by kernel_rfl) (by simp) ⟨⟨_, rfl, ?_⟩, trivial⟩
    refine L.gyes' (dj := 19) (b := _) rfl rfl g19 ?_
    refine L.ret (x_call klawnears_en20 rfl) rfl (near13_ok _ _ a b _ _ _ (ha.carry hB0) (hb.carry hB0)) ?_
    rintro _ w25 ⟨rfl, hw⟩
    have hB0 := hB0.carry hw
    refine L.nil ?_
    refine thn_n ?_
    refine LAC.takeG (i := 21) rfl (by kernel_rfl) (by kernel_rfl) (by kernel_rfl) (by kernel_rfl) (dj := 19) (b := _) rfl rfl g19 (fun w hw => x_eqb Tryz.underlying4 rfl rfl) rfl ?_
    refine LAC.takeN (i := 22) rfl (by kernel_rfl) (by kernel_rfl) (by kernel_rfl) (by kernel_rfl) (fun w hw => x_pick_t (v := .bool _) (congrArg Value.bool g19) rfl) rfl ?_
    refine LAC.takeN (i := 23) rfl (by kernel_rfl) (by kernel_rfl) (by kernel_rfl) (by kernel_rfl) (fun w hw => x_mv (v := .bool _) rfl) rfl ?_
    refine LAC.split (dj := 28) (b := _) rfl (fun g28 => ?_) (fun g28 => ?_)
    ·have h28 := g28
     refine LAC.takeG (i := 24) rfl (by kernel_rfl) (by kernel_rfl) (by kernel_rfl) (by kernel_rfl) (dj := 28) (b := _) rfl rfl g28 (fun w hw => x_ldn (vs := ys) klawnears_ag25 rfl hlb (hw.keepRow hlb (bx3.row hlb))) rfl ?_
     refine LAC.takeG (i := 25) rfl (by kernel_rfl) (by kernel_rfl) (by kernel_rfl) (by kernel_rfl) (dj := 28) (b := _) rfl rfl g28 (fun w hw => x_ldn (vs := xs) klawnears_ag25 rfl hla (hw.keepRow hla (bx2.row hla))) rfl ?_
     refine LAC.takeG (i := 27) rfl (by kernel_rfl) (by kernel_rfl) (by kernel_rfl) (by kernel_rfl) (dj := 28) (b := _) rfl rfl g28 (fun w hw => x_ldn (vs := ys) klawnears_ag25 rfl hlb (hw.keepRow hlb (bx3.row hlb))) rfl ?_
     refine LAC.takeG (i := 28) rfl (by kernel_rfl) (by kernel_rfl) (by kernel_rfl) (by kernel_rfl) (dj := 28) (b := _) rfl rfl g28 (fun w hw => x_ldn (vs := xs) klawnears_ag25 rfl hla (hw.keepRow hla (bx2.row hla))) rfl ?_
     refine LAC.step (rs := [26]) (fun _ => hB0) (by kernel_rfl) (by simp) ⟨⟨_, rfl, ?_⟩, trivial⟩
     refine L.gyes' (dj := 28) (b := _) rfl rfl g28 ?_
     refine L.ret (x_call klawnears_en19 rfl) rfl (near_ok _ _ b a _ _ _ (hb.carry hB0) (ha.carry hB0)) ?_
     rintro _ w31 ⟨rfl, hw⟩
     have hB0 := hB0.carry hw
     refine L.nil ?_
     refine thn_n ?_
     refine LAC.step (rs := [29]) (fun _ => hB0) (by kernel_rfl) (by simp) ⟨⟨_, rfl, ?_⟩, trivial⟩
     refine L.gyes' (dj := 28) (b := _) rfl rfl g28 ?_
     refine L.ret (x_call klawnears_en20 rfl) rfl (near13_ok _ _ b a _ _ _ (hb.carry hB0) (ha.carry hB0)) ?_
     rintro _ w34 ⟨rfl, hw⟩
     have hB0 := hB0.carry hw
     refine L.nil ?_
     refine thn_n ?_
     refine LAC.takeG (i := 30) rfl (by kernel_rfl) (by kernel_rfl) (by kernel_rfl) (by kernel_rfl) (dj := 28) (b := _) rfl rfl g28 (fun w hw => x_eqb Tryz.underlying4 rfl rfl) rfl ?_
     refine LAC.takeN (i := 31) rfl (by kernel_rfl) (by kernel_rfl) (by kernel_rfl) (by kernel_rfl) (fun w hw => x_pick_t (v := .bool _) (congrArg Value.bool g28) rfl) rfl ?_
     refine LAC.takeN (i := 32) rfl (by kernel_rfl) (by kernel_rfl) (by kernel_rfl) (by kernel_rfl) (fun w hw => x_mv (v := .bool _) rfl) rfl ?_
     refine LAC.split (dj := 37) (b := _) rfl (fun g37 => ?_) (fun g37 => ?_)
     ·have h37 := g37
      refine LAC.step (rs := [33]) (fun _ => hB0) (by kernel_rfl) (by simp) ⟨⟨_, rfl, ?_⟩, trivial⟩
      refine L.gyes' (dj := 37) (b := _) rfl rfl g37 ?_
      refine L.ret (x_call klawnears_en21 rfl) rfl (awake13 _) ?_
      rintro _ w38 ⟨rfl, hw⟩
      have hB0 := hB0.carry hw
      refine L.nil ?_
      refine thn_n ?_
      refine LAC.takeN (i := 34) rfl (by kernel_rfl) (by kernel_rfl) (by kernel_rfl) (by kernel_rfl) (fun w hw => x_pick_t (v := .bool _) (congrArg Value.bool g37) rfl) rfl ?_
      refine LAC.takeN (i := 35) rfl (by kernel_rfl) (by kernel_rfl) (by kernel_rfl) (by kernel_rfl) (fun w hw => x_as (v := .bool _) rfl) rfl ?_
      refine LAC.doneF (by kernel_rfl) hB0 ?_
      have hB := hB.carry hB0; have ha := ha.carry hB0; have hb := hb.carry hB0; have bx2 := bx2.carry hB0; have bx3 := bx3.carry hB0
      refine thn_n ?_
      refine W.ret (fin_mk (.inr rfl) ?_)
      exact ⟨rfl, hB⟩
     ·have h37 := g37
      simp at h37
    ·have h28 := g28
     simp at h28
   ·have h19 := g19
    simp at h19
  ·have h10 := g10
   simp at h10
end Go.Gx
