/- The laws GradualMoves, GradualAlike, GradualThrough. Conditions: none. -/
import Derived.Test.YteehllhldaopjaaGdAwake13
import Derived.Test.YteehllhldaopjaaGdBelow
import Derived.Test.YteehllhldaopjaaGdLaw13
import Derived.Test.YteehllhldaopjaaGdFree
namespace Go.Gx
open Go.Proofs
theorem klawgrad_ag25 : aggT Try.prog 25 5 = true := by kernel_rfl
theorem klawgrad_en29 : Go.Proofs.Enters Try.prog 29 := Go.Proofs.enters_of Try.func29 (by kernel_rfl) rfl
theorem klawgrad_en49 : Go.Proofs.Enters Try.prog 49 := Go.Proofs.enters_of Try.func49 (by kernel_rfl) rfl
theorem klawgrad_en55 : Go.Proofs.Enters Try.prog 55 := Go.Proofs.enters_of Try.func55 (by kernel_rfl) rfl
theorem klawgrad_en56 : Go.Proofs.Enters Try.prog 56 := Go.Proofs.enters_of Try.func56 (by kernel_rfl) rfl
theorem klawgrad_en57 : Go.Proofs.Enters Try.prog 57 := Go.Proofs.enters_of Try.func57 (by kernel_rfl) rfl
theorem law_moves (A B C : Nat → Prop) (c a b : Sh) (xs ys zs : List Value) (w : World) (hc : ShC A w xs c) (ha : ShC B w ys a) (hb : ShC C w zs b) :
    Ret Try.prog 16 #[.agg xs.toArray, .agg ys.toArray, .agg zs.toArray] w fun v w' => v = .bool true ∧ Bel w w' := by
  have hlc := hc.len
  have hla := ha.len
  have hlb := hb.len
  refine ret_of_W Try.func16 rfl (Nat.le_of_ble_eq_true rfl) (res1 rfl) ?_
  have hB := Gr.refl (fun _ => False) w
  refine W.seq ?_
  refine W.region ?_
  refine L.box (cs := xs) rfl rfl (fun w3 bx3 hw hz3 => ?_)
  have hB := hB.carry hw; have hc := hc.carry hw; have ha := ha.carry hw; have hb := hb.carry hw
  refine L.box (cs := ys) rfl rfl (fun w4 bx4 hw hz4 => ?_)
  have hB := hB.carry hw; have hc := hc.carry hw; have ha := ha.carry hw; have hb := hb.carry hw; have bx3 := bx3.carry hw
  refine L.box (cs := zs) rfl rfl (fun w5 bx5 hw hz5 => ?_)
  have hB := hB.carry hw; have hc := hc.carry hw; have ha := ha.carry hw; have hb := hb.carry hw; have bx3 := bx3.carry hw; have bx4 := bx4.carry hw
  refine L.val (x_as (v := .bool _) rfl) rfl ?_
  refine L.nil ?_
  refine thn_n ?_
  refine W.seq ?_
  refine W.seq ?_
  refine W.region ?_
  refine L.val (x_ldn (vs := xs) klawgrad_ag25 rfl hlc (bx3.row hlc)) rfl ?_
  refine L.val (x_ldn (vs := ys) klawgrad_ag25 rfl hla (bx4.row hla)) rfl ?_
  refine L.ret (x_call klawgrad_en49 rfl) rfl (below_ok _ _ c a _ _ _ hc ha) ?_
  rintro _ w9 ⟨rfl, hw⟩
  have hB := hB.carry hw; have hc := hc.carry hw; have ha := ha.carry hw; have hb := hb.carry hw; have bx3 := bx3.carry hw; have bx4 := bx4.carry hw; have bx5 := bx5.carry hw
  refine L.val (x_mv (v := .bool _) rfl) rfl ?_
  refine' L.group 3 11 13 13 10 true rfl ?_ ?_ ?_
  rotate_left 1
  ·intro g10 hg10
   have h10 := g10
   refine L.gyes' (dj := 10) (b := _) rfl rfl g10 ?_
   refine L.val (x_ldn (vs := ys) klawgrad_ag25 rfl hla (bx4.row hla)) rfl ?_
   refine L.gyes' (dj := 10) (b := _) rfl rfl g10 ?_
   refine L.val (x_ldn (vs := zs) klawgrad_ag25 rfl hlb (bx5.row hlb)) rfl ?_
   refine L.gyes' (dj := 10) (b := _) rfl rfl g10 ?_
   refine L.ret (x_call klawgrad_en55 rfl) rfl (near_ok _ _ a b _ _ _ ha hb) ?_
   rintro _ w13 ⟨rfl, hw⟩
   have hB := hB.carry hw; have hc := hc.carry hw; have ha := ha.carry hw; have hb := hb.carry hw; have bx3 := bx3.carry hw; have bx4 := bx4.carry hw; have bx5 := bx5.carry hw; have hg10 := hg10.carry hw
   refine L.nil ?_
   refine thn_n ⟨rfl, ?_, ?_, fun _ => rfl⟩
   ·exact hg10
   ·repeat (first | exact jeq.refl _ _ _ | refine jeq.upd rfl ?_ | refine jeq.jk rfl rfl ?_)
  ·intro g10
   refine L.gno (dj := 10) (b := _) rfl rfl g10 rfl ?_
   refine L.gno (dj := 10) (b := _) rfl rfl g10 rfl ?_
   refine L.gno (dj := 10) (b := _) rfl rfl g10 rfl ?_
   refine L.nil (thn_n ⟨rfl, Gr.refl _ _, ?_⟩)
   refine ⟨?_, fun h => h.elim⟩
   repeat (first | exact jeq.refl _ _ _ | refine jeq.upd rfl ?_ | refine jeq.jk rfl rfl ?_)
  intro J10 w10 hw j10
  have hB := hB.carry hw; have hc := hc.carry hw; have ha := ha.carry hw; have hb := hb.carry hw; have bx3 := bx3.carry hw; have bx4 := bx4.carry hw; have bx5 := bx5.carry hw
  refine L.val (x_and rfl j10) rfl ?_
  refine L.val (x_mv (v := .bool _) rfl) rfl ?_
  refine' L.group 4 16 19 19 15 true rfl ?_ ?_ ?_
  rotate_left 1
  ·intro g15 hg15
   have h15 := g15
   refine L.gyes' (dj := 15) (b := _) rfl rfl g15 ?_
   refine L.val (x_ldn (vs := xs) klawgrad_ag25 rfl hlc (bx3.row hlc)) rfl ?_
   refine L.gyes' (dj := 15) (b := _) rfl rfl g15 ?_
   refine L.val (x_ldn (vs := zs) klawgrad_ag25 rfl hlb (bx5.row hlb)) rfl ?_
   refine L.gyes' (dj := 15) (b := _) rfl rfl g15 ?_
   refine L.ret (x_call klawgrad_en55 rfl) rfl (near_ok _ _ c b _ _ _ hc hb) ?_
   rintro _ w18 ⟨rfl, hw⟩
   have hB := hB.carry hw; have hc := hc.carry hw; have ha := ha.carry hw; have hb := hb.carry hw; have bx3 := bx3.carry hw; have bx4 := bx4.carry hw; have bx5 := bx5.carry hw; have hg15 := hg15.carry hw
   refine L.gyes' (dj := 15) (b := _) rfl rfl g15 ?_
   refine L.val (x_not rfl) rfl ?_
   refine L.nil ?_
   refine thn_n ⟨rfl, ?_, ?_, fun _ => rfl⟩
   ·exact hg15
   ·repeat (first | exact jeq.refl _ _ _ | refine jeq.upd rfl ?_ | refine jeq.jk rfl rfl ?_)
  ·intro g15
   refine L.gno (dj := 15) (b := _) rfl rfl g15 rfl ?_
   refine L.gno (dj := 15) (b := _) rfl rfl g15 rfl ?_
   refine L.gno (dj := 15) (b := _) rfl rfl g15 rfl ?_
   refine L.gno (dj := 15) (b := _) rfl rfl g15 rfl ?_
   refine L.nil (thn_n ⟨rfl, Gr.refl _ _, ?_⟩)
   refine ⟨?_, fun h => h.elim⟩
   repeat (first | exact jeq.refl _ _ _ | refine jeq.upd rfl ?_ | refine jeq.jk rfl rfl ?_)
  intro J15 w15 hw j15
  have hB := hB.carry hw; have hc := hc.carry hw; have ha := ha.carry hw; have hb := hb.carry hw; have bx3 := bx3.carry hw; have bx4 := bx4.carry hw; have bx5 := bx5.carry hw
  refine L.val (x_and rfl j15) rfl ?_
  refine L.nil ?_
  refine thn_n ?_
  refine W.cond (b := _) rfl (fun g20 => ?_) (fun g20 => ?_)
  ·have h20 := g20
   exfalso
   simp only [Bool.and_eq_true, Bool.not_eq_true'] at g20
   rw [near_moves g20.1.1 g20.1.2] at g20
   exact absurd g20.2 (by simp)
  ·have h20 := g20
   refine W.skip ?_
   refine thn_n ?_
   refine W.seq ?_
   refine W.region ?_
   refine L.val (x_ldn (vs := xs) klawgrad_ag25 rfl hlc (bx3.row hlc)) rfl ?_
   refine L.val (x_ldn (vs := ys) klawgrad_ag25 rfl hla (bx4.row hla)) rfl ?_
   refine L.ret (x_call klawgrad_en55 rfl) rfl (near_ok _ _ c a _ _ _ hc ha) ?_
   rintro _ w23 ⟨rfl, hw⟩
   have hB := hB.carry hw; have hc := hc.carry hw; have ha := ha.carry hw; have hb := hb.carry hw; have bx3 := bx3.carry hw; have bx4 := bx4.carry hw; have bx5 := bx5.carry hw
   refine L.val (x_not rfl) rfl ?_
   refine L.val (x_mv (v := .bool _) rfl) rfl ?_
   refine' L.group 4 26 29 29 25 false rfl ?_ ?_ ?_
   rotate_left 1
   ·intro g25 hg25
    have h25 := (not_f g25)
    refine L.gyes' (dj := 25) (b := _) rfl rfl g25 ?_
    refine L.val (x_ldn (vs := ys) klawgrad_ag25 rfl hla (bx4.row hla)) rfl ?_
    refine L.gyes' (dj := 25) (b := _) rfl rfl g25 ?_
    refine L.val (x_ldn (vs := zs) klawgrad_ag25 rfl hlb (bx5.row hlb)) rfl ?_
    refine L.gyes' (dj := 25) (b := _) rfl rfl g25 ?_
    refine L.ret (x_call klawgrad_en49 rfl) rfl (below_ok _ _ a b _ _ _ ha hb) ?_
    rintro _ w28 ⟨rfl, hw⟩
    have hB := hB.carry hw; have hc := hc.carry hw; have ha := ha.carry hw; have hb := hb.carry hw; have bx3 := bx3.carry hw; have bx4 := bx4.carry hw; have bx5 := bx5.carry hw; have hg25 := hg25.carry hw
    refine L.gyes' (dj := 25) (b := _) rfl rfl g25 ?_
    refine L.val (x_not rfl) rfl ?_
    refine L.nil ?_
    refine thn_n ⟨rfl, ?_, ?_, fun _ => rfl⟩
    ·exact hg25
    ·repeat (first | exact jeq.refl _ _ _ | refine jeq.upd rfl ?_ | refine jeq.jk rfl rfl ?_)
   ·intro g25
    refine L.gno (dj := 25) (b := _) rfl rfl g25 rfl ?_
    refine L.gno (dj := 25) (b := _) rfl rfl g25 rfl ?_
    refine L.gno (dj := 25) (b := _) rfl rfl g25 rfl ?_
    refine L.gno (dj := 25) (b := _) rfl rfl g25 rfl ?_
    refine L.nil (thn_n ⟨rfl, Gr.refl _ _, ?_⟩)
    refine ⟨?_, fun h => h.elim⟩
    repeat (first | exact jeq.refl _ _ _ | refine jeq.upd rfl ?_ | refine jeq.jk rfl rfl ?_)
   intro J25 w25 hw j25
   have hB := hB.carry hw; have hc := hc.carry hw; have ha := ha.carry hw; have hb := hb.carry hw; have bx3 := bx3.carry hw; have bx4 := bx4.carry hw; have bx5 := bx5.carry hw
   refine L.val (x_or rfl j25) rfl ?_
   refine L.val (x_mv (v := .bool _) rfl) rfl ?_
   refine' L.group 3 32 34 34 31 false rfl ?_ ?_ ?_
   rotate_left 1
   ·intro g31 hg31
    have h31 := g31
    refine L.gyes' (dj := 31) (b := _) rfl rfl g31 ?_
    refine L.val (x_ldn (vs := xs) klawgrad_ag25 rfl hlc (bx3.row hlc)) rfl ?_
    refine L.gyes' (dj := 31) (b := _) rfl rfl g31 ?_
    refine L.val (x_ldn (vs := zs) klawgrad_ag25 rfl hlb (bx5.row hlb)) rfl ?_
    refine L.gyes' (dj := 31) (b := _) rfl rfl g31 ?_
    refine L.ret (x_call klawgrad_en55 rfl) rfl (near_ok _ _ c b _ _ _ hc hb) ?_
    rintro _ w34 ⟨rfl, hw⟩
    have hB := hB.carry hw; have hc := hc.carry hw; have ha := ha.carry hw; have hb := hb.carry hw; have bx3 := bx3.carry hw; have bx4 := bx4.carry hw; have bx5 := bx5.carry hw; have hg31 := hg31.carry hw
    refine L.nil ?_
    refine thn_n ⟨rfl, ?_, ?_, fun _ => rfl⟩
    ·exact hg31
    ·repeat (first | exact jeq.refl _ _ _ | refine jeq.upd rfl ?_ | refine jeq.jk rfl rfl ?_)
   ·intro g31
    refine L.gno (dj := 31) (b := _) rfl rfl g31 rfl ?_
    refine L.gno (dj := 31) (b := _) rfl rfl g31 rfl ?_
    refine L.gno (dj := 31) (b := _) rfl rfl g31 rfl ?_
    refine L.nil (thn_n ⟨rfl, Gr.refl _ _, ?_⟩)
    refine ⟨?_, fun h => h.elim⟩
    repeat (first | exact jeq.refl _ _ _ | refine jeq.upd rfl ?_ | refine jeq.jk rfl rfl ?_)
   intro J31 w31 hw j31
   have hB := hB.carry hw; have hc := hc.carry hw; have ha := ha.carry hw; have hb := hb.carry hw; have bx3 := bx3.carry hw; have bx4 := bx4.carry hw; have bx5 := bx5.carry hw
   refine L.val (x_or rfl j31) rfl ?_
   refine L.val (x_mv (v := .bool _) rfl) rfl ?_
   refine' L.group 1 37 37 37 36 true rfl ?_ ?_ ?_
   rotate_left 1
   ·intro g36 hg36
    have h36 := g36
    refine L.gyes' (dj := 36) (b := _) rfl rfl g36 ?_
    refine L.ret (x_call klawgrad_en56 rfl) rfl (awake13 _) ?_
    rintro _ w37 ⟨rfl, hw⟩
    have hB := hB.carry hw; have hc := hc.carry hw; have ha := ha.carry hw; have hb := hb.carry hw; have bx3 := bx3.carry hw; have bx4 := bx4.carry hw; have bx5 := bx5.carry hw; have hg36 := hg36.carry hw
    refine L.nil ?_
    refine thn_n ⟨rfl, ?_, ?_, fun _ => rfl⟩
    ·exact hg36
    ·repeat (first | exact jeq.refl _ _ _ | refine jeq.upd rfl ?_ | refine jeq.jk rfl rfl ?_)
   ·intro g36
    refine L.gno (dj := 36) (b := _) rfl rfl g36 rfl ?_
    refine L.nil (thn_n ⟨rfl, Gr.refl _ _, ?_⟩)
    refine ⟨?_, fun h => h.elim⟩
    repeat (first | exact jeq.refl _ _ _ | refine jeq.upd rfl ?_ | refine jeq.jk rfl rfl ?_)
   intro J36 w36 hw j36
   have hB := hB.carry hw; have hc := hc.carry hw; have ha := ha.carry hw; have hb := hb.carry hw; have bx3 := bx3.carry hw; have bx4 := bx4.carry hw; have bx5 := bx5.carry hw
   refine L.val (x_and rfl j36) rfl ?_
   refine L.val (x_as (v := .bool _) rfl) rfl ?_
   refine L.nil ?_
   refine thn_n ?_
   refine W.ret (fin_mk (.inr rfl) ?_)
   refine ⟨vb ?_, hB⟩
   by_cases h1 : goesS true c a = true
   · by_cases h2 : belowR a b = true
     · simp [near_moves' h1 h2]
     · simp [h2]
   · simp [h1]
theorem law_through (A B C : Nat → Prop) (a u b : Sh) (xs ys zs : List Value) (w : World) (ha : ShC A w xs a) (hu : ShC B w ys u) (hb : ShC C w zs b) :
    Ret Try.prog 18 #[.agg xs.toArray, .agg ys.toArray, .agg zs.toArray] w fun v w' => v = .bool true ∧ Bel w w' := by
  have hla := ha.len
  have hlu := hu.len
  have hlb := hb.len
  refine ret_of_W Try.func18 rfl (Nat.le_of_ble_eq_true rfl) (res1 rfl) ?_
  have hB := Gr.refl (fun _ => False) w
  refine W.seq ?_
  refine W.region ?_
  refine L.box (cs := xs) rfl rfl (fun w3 bx3 hw hz3 => ?_)
  have hB := hB.carry hw; have ha := ha.carry hw; have hu := hu.carry hw; have hb := hb.carry hw
  refine L.box (cs := ys) rfl rfl (fun w4 bx4 hw hz4 => ?_)
  have hB := hB.carry hw; have ha := ha.carry hw; have hu := hu.carry hw; have hb := hb.carry hw; have bx3 := bx3.carry hw
  refine L.box (cs := zs) rfl rfl (fun w5 bx5 hw hz5 => ?_)
  have hB := hB.carry hw; have ha := ha.carry hw; have hu := hu.carry hw; have hb := hb.carry hw; have bx3 := bx3.carry hw; have bx4 := bx4.carry hw
  refine L.val (x_as (v := .bool _) rfl) rfl ?_
  refine L.nil ?_
  refine thn_n ?_
  refine W.seq ?_
  refine W.seq ?_
  refine W.region ?_
  refine L.val (x_ldn (vs := xs) klawgrad_ag25 rfl hla (bx3.row hla)) rfl ?_
  refine L.val (x_ldn (vs := ys) klawgrad_ag25 rfl hlu (bx4.row hlu)) rfl ?_
  refine L.ret (x_call klawgrad_en49 rfl) rfl (below_ok _ _ a u _ _ _ ha hu) ?_
  rintro _ w9 ⟨rfl, hw⟩
  have hB := hB.carry hw; have ha := ha.carry hw; have hu := hu.carry hw; have hb := hb.carry hw; have bx3 := bx3.carry hw; have bx4 := bx4.carry hw; have bx5 := bx5.carry hw
  refine L.val (x_mv (v := .bool _) rfl) rfl ?_
  refine' L.group 3 11 13 13 10 true rfl ?_ ?_ ?_
  rotate_left 1
  ·intro g10 hg10
   have h10 := g10
   refine L.gyes' (dj := 10) (b := _) rfl rfl g10 ?_
   refine L.val (x_ldn (vs := ys) klawgrad_ag25 rfl hlu (bx4.row hlu)) rfl ?_
   refine L.gyes' (dj := 10) (b := _) rfl rfl g10 ?_
   refine L.val (x_ldn (vs := zs) klawgrad_ag25 rfl hlb (bx5.row hlb)) rfl ?_
   refine L.gyes' (dj := 10) (b := _) rfl rfl g10 ?_
   refine L.ret (x_call klawgrad_en57 rfl) rfl (alike_ok _ _ u b _ _ _ hu hb) ?_
   rintro _ w13 ⟨rfl, hw⟩
   have hB := hB.carry hw; have ha := ha.carry hw; have hu := hu.carry hw; have hb := hb.carry hw; have bx3 := bx3.carry hw; have bx4 := bx4.carry hw; have bx5 := bx5.carry hw; have hg10 := hg10.carry hw
   refine L.nil ?_
   refine thn_n ⟨rfl, ?_, ?_, fun _ => rfl⟩
   ·exact hg10
   ·repeat (first | exact jeq.refl _ _ _ | refine jeq.upd rfl ?_ | refine jeq.jk rfl rfl ?_)
  ·intro g10
   refine L.gno (dj := 10) (b := _) rfl rfl g10 rfl ?_
   refine L.gno (dj := 10) (b := _) rfl rfl g10 rfl ?_
   refine L.gno (dj := 10) (b := _) rfl rfl g10 rfl ?_
   refine L.nil (thn_n ⟨rfl, Gr.refl _ _, ?_⟩)
   refine ⟨?_, fun h => h.elim⟩
   repeat (first | exact jeq.refl _ _ _ | refine jeq.upd rfl ?_ | refine jeq.jk rfl rfl ?_)
  intro J10 w10 hw j10
  have hB := hB.carry hw; have ha := ha.carry hw; have hu := hu.carry hw; have hb := hb.carry hw; have bx3 := bx3.carry hw; have bx4 := bx4.carry hw; have bx5 := bx5.carry hw
  refine L.val (x_and rfl j10) rfl ?_
  refine L.val (x_mv (v := .bool _) rfl) rfl ?_
  refine' L.group 4 16 19 19 15 true rfl ?_ ?_ ?_
  rotate_left 1
  ·intro g15 hg15
   have h15 := g15
   refine L.gyes' (dj := 15) (b := _) rfl rfl g15 ?_
   refine L.val (x_ldn (vs := xs) klawgrad_ag25 rfl hla (bx3.row hla)) rfl ?_
   refine L.gyes' (dj := 15) (b := _) rfl rfl g15 ?_
   refine L.val (x_ldn (vs := zs) klawgrad_ag25 rfl hlb (bx5.row hlb)) rfl ?_
   refine L.gyes' (dj := 15) (b := _) rfl rfl g15 ?_
   refine L.ret (x_call klawgrad_en55 rfl) rfl (near_ok _ _ a b _ _ _ ha hb) ?_
   rintro _ w18 ⟨rfl, hw⟩
   have hB := hB.carry hw; have ha := ha.carry hw; have hu := hu.carry hw; have hb := hb.carry hw; have bx3 := bx3.carry hw; have bx4 := bx4.carry hw; have bx5 := bx5.carry hw; have hg15 := hg15.carry hw
   refine L.gyes' (dj := 15) (b := _) rfl rfl g15 ?_
   refine L.val (x_not rfl) rfl ?_
   refine L.nil ?_
   refine thn_n ⟨rfl, ?_, ?_, fun _ => rfl⟩
   ·exact hg15
   ·repeat (first | exact jeq.refl _ _ _ | refine jeq.upd rfl ?_ | refine jeq.jk rfl rfl ?_)
  ·intro g15
   refine L.gno (dj := 15) (b := _) rfl rfl g15 rfl ?_
   refine L.gno (dj := 15) (b := _) rfl rfl g15 rfl ?_
   refine L.gno (dj := 15) (b := _) rfl rfl g15 rfl ?_
   refine L.gno (dj := 15) (b := _) rfl rfl g15 rfl ?_
   refine L.nil (thn_n ⟨rfl, Gr.refl _ _, ?_⟩)
   refine ⟨?_, fun h => h.elim⟩
   repeat (first | exact jeq.refl _ _ _ | refine jeq.upd rfl ?_ | refine jeq.jk rfl rfl ?_)
  intro J15 w15 hw j15
  have hB := hB.carry hw; have ha := ha.carry hw; have hu := hu.carry hw; have hb := hb.carry hw; have bx3 := bx3.carry hw; have bx4 := bx4.carry hw; have bx5 := bx5.carry hw
  refine L.val (x_and rfl j15) rfl ?_
  refine L.nil ?_
  refine thn_n ?_
  refine W.cond (b := _) rfl (fun g20 => ?_) (fun g20 => ?_)
  ·have h20 := g20
   exfalso
   simp only [Bool.and_eq_true, Bool.not_eq_true'] at g20
   rw [below_alike g20.1.1 g20.1.2] at g20
   exact absurd g20.2 (by simp)
  ·have h20 := g20
   refine W.skip ?_
   refine thn_n ?_
   refine W.seq ?_
   refine W.region ?_
   refine L.val (x_ldn (vs := xs) klawgrad_ag25 rfl hla (bx3.row hla)) rfl ?_
   refine L.val (x_ldn (vs := ys) klawgrad_ag25 rfl hlu (bx4.row hlu)) rfl ?_
   refine L.ret (x_call klawgrad_en57 rfl) rfl (alike_ok _ _ a u _ _ _ ha hu) ?_
   rintro _ w23 ⟨rfl, hw⟩
   have hB := hB.carry hw; have ha := ha.carry hw; have hu := hu.carry hw; have hb := hb.carry hw; have bx3 := bx3.carry hw; have bx4 := bx4.carry hw; have bx5 := bx5.carry hw
   refine L.val (x_not rfl) rfl ?_
   refine L.val (x_mv (v := .bool _) rfl) rfl ?_
   refine' L.group 4 26 29 29 25 false rfl ?_ ?_ ?_
   rotate_left 1
   ·intro g25 hg25
    have h25 := (not_f g25)
    refine L.gyes' (dj := 25) (b := _) rfl rfl g25 ?_
    refine L.val (x_ldn (vs := ys) klawgrad_ag25 rfl hlu (bx4.row hlu)) rfl ?_
    refine L.gyes' (dj := 25) (b := _) rfl rfl g25 ?_
    refine L.val (x_ldn (vs := zs) klawgrad_ag25 rfl hlb (bx5.row hlb)) rfl ?_
    refine L.gyes' (dj := 25) (b := _) rfl rfl g25 ?_
    refine L.ret (x_call klawgrad_en49 rfl) rfl (below_ok _ _ u b _ _ _ hu hb) ?_
    rintro _ w28 ⟨rfl, hw⟩
    have hB := hB.carry hw; have ha := ha.carry hw; have hu := hu.carry hw; have hb := hb.carry hw; have bx3 := bx3.carry hw; have bx4 := bx4.carry hw; have bx5 := bx5.carry hw; have hg25 := hg25.carry hw
    refine L.gyes' (dj := 25) (b := _) rfl rfl g25 ?_
    refine L.val (x_not rfl) rfl ?_
    refine L.nil ?_
    refine thn_n ⟨rfl, ?_, ?_, fun _ => rfl⟩
    ·exact hg25
    ·repeat (first | exact jeq.refl _ _ _ | refine jeq.upd rfl ?_ | refine jeq.jk rfl rfl ?_)
   ·intro g25
    refine L.gno (dj := 25) (b := _) rfl rfl g25 rfl ?_
    refine L.gno (dj := 25) (b := _) rfl rfl g25 rfl ?_
    refine L.gno (dj := 25) (b := _) rfl rfl g25 rfl ?_
    refine L.gno (dj := 25) (b := _) rfl rfl g25 rfl ?_
    refine L.nil (thn_n ⟨rfl, Gr.refl _ _, ?_⟩)
    refine ⟨?_, fun h => h.elim⟩
    repeat (first | exact jeq.refl _ _ _ | refine jeq.upd rfl ?_ | refine jeq.jk rfl rfl ?_)
   intro J25 w25 hw j25
   have hB := hB.carry hw; have ha := ha.carry hw; have hu := hu.carry hw; have hb := hb.carry hw; have bx3 := bx3.carry hw; have bx4 := bx4.carry hw; have bx5 := bx5.carry hw
   refine L.val (x_or rfl j25) rfl ?_
   refine L.val (x_mv (v := .bool _) rfl) rfl ?_
   refine' L.group 3 32 34 34 31 false rfl ?_ ?_ ?_
   rotate_left 1
   ·intro g31 hg31
    have h31 := g31
    refine L.gyes' (dj := 31) (b := _) rfl rfl g31 ?_
    refine L.val (x_ldn (vs := xs) klawgrad_ag25 rfl hla (bx3.row hla)) rfl ?_
    refine L.gyes' (dj := 31) (b := _) rfl rfl g31 ?_
    refine L.val (x_ldn (vs := zs) klawgrad_ag25 rfl hlb (bx5.row hlb)) rfl ?_
    refine L.gyes' (dj := 31) (b := _) rfl rfl g31 ?_
    refine L.ret (x_call klawgrad_en55 rfl) rfl (near_ok _ _ a b _ _ _ ha hb) ?_
    rintro _ w34 ⟨rfl, hw⟩
    have hB := hB.carry hw; have ha := ha.carry hw; have hu := hu.carry hw; have hb := hb.carry hw; have bx3 := bx3.carry hw; have bx4 := bx4.carry hw; have bx5 := bx5.carry hw; have hg31 := hg31.carry hw
    refine L.nil ?_
    refine thn_n ⟨rfl, ?_, ?_, fun _ => rfl⟩
    ·exact hg31
    ·repeat (first | exact jeq.refl _ _ _ | refine jeq.upd rfl ?_ | refine jeq.jk rfl rfl ?_)
   ·intro g31
    refine L.gno (dj := 31) (b := _) rfl rfl g31 rfl ?_
    refine L.gno (dj := 31) (b := _) rfl rfl g31 rfl ?_
    refine L.gno (dj := 31) (b := _) rfl rfl g31 rfl ?_
    refine L.nil (thn_n ⟨rfl, Gr.refl _ _, ?_⟩)
    refine ⟨?_, fun h => h.elim⟩
    repeat (first | exact jeq.refl _ _ _ | refine jeq.upd rfl ?_ | refine jeq.jk rfl rfl ?_)
   intro J31 w31 hw j31
   have hB := hB.carry hw; have ha := ha.carry hw; have hu := hu.carry hw; have hb := hb.carry hw; have bx3 := bx3.carry hw; have bx4 := bx4.carry hw; have bx5 := bx5.carry hw
   refine L.val (x_or rfl j31) rfl ?_
   refine L.val (x_mv (v := .bool _) rfl) rfl ?_
   refine' L.group 1 37 37 37 36 true rfl ?_ ?_ ?_
   rotate_left 1
   ·intro g36 hg36
    have h36 := g36
    refine L.gyes' (dj := 36) (b := _) rfl rfl g36 ?_
    refine L.ret (x_call klawgrad_en56 rfl) rfl (awake13 _) ?_
    rintro _ w37 ⟨rfl, hw⟩
    have hB := hB.carry hw; have ha := ha.carry hw; have hu := hu.carry hw; have hb := hb.carry hw; have bx3 := bx3.carry hw; have bx4 := bx4.carry hw; have bx5 := bx5.carry hw; have hg36 := hg36.carry hw
    refine L.nil ?_
    refine thn_n ⟨rfl, ?_, ?_, fun _ => rfl⟩
    ·exact hg36
    ·repeat (first | exact jeq.refl _ _ _ | refine jeq.upd rfl ?_ | refine jeq.jk rfl rfl ?_)
   ·intro g36
    refine L.gno (dj := 36) (b := _) rfl rfl g36 rfl ?_
    refine L.nil (thn_n ⟨rfl, Gr.refl _ _, ?_⟩)
    refine ⟨?_, fun h => h.elim⟩
    repeat (first | exact jeq.refl _ _ _ | refine jeq.upd rfl ?_ | refine jeq.jk rfl rfl ?_)
   intro J36 w36 hw j36
   have hB := hB.carry hw; have ha := ha.carry hw; have hu := hu.carry hw; have hb := hb.carry hw; have bx3 := bx3.carry hw; have bx4 := bx4.carry hw; have bx5 := bx5.carry hw
   refine L.val (x_and rfl j36) rfl ?_
   refine L.val (x_as (v := .bool _) rfl) rfl ?_
   refine L.nil ?_
   refine thn_n ?_
   refine W.ret (fin_mk (.inr rfl) ?_)
   refine ⟨vb ?_, hB⟩
   by_cases h1 : goesS false a u = true
   · by_cases h2 : belowR u b = true
     · simp [alike_below h1 h2]
     · simp [h2]
   · simp [h1]
theorem law_alike (A B : Nat → Prop) (a b : Sh) (xs ys : List Value) (w : World) (ha : ShC A w xs a) (hb : ShC B w ys b) :
    Ret Try.prog 17 #[.agg xs.toArray, .agg ys.toArray] w fun v w' => v = .bool true ∧ Bel w w' := by
  have hla := ha.len
  have hlb := hb.len
  refine ret_of_W Try.func17 rfl (Nat.le_of_ble_eq_true rfl) (res1 rfl) ?_
  have hB := Gr.refl (fun _ => False) w
  refine W.seq ?_
  refine W.region ?_
  refine L.box (cs := xs) rfl rfl (fun w2 bx2 hw hz2 => ?_)
  have hB := hB.carry hw; have ha := ha.carry hw; have hb := hb.carry hw
  refine L.box (cs := ys) rfl rfl (fun w3 bx3 hw hz3 => ?_)
  have hB := hB.carry hw; have ha := ha.carry hw; have hb := hb.carry hw; have bx2 := bx2.carry hw
  refine L.val (x_as (v := .bool _) rfl) rfl ?_
  refine L.nil ?_
  refine thn_n ?_
  refine W.seq ?_
  refine W.seq ?_
  refine W.region ?_
  refine L.val (x_ldn (vs := xs) klawgrad_ag25 rfl hla (bx2.row hla)) rfl ?_
  refine L.ret (x_call klawgrad_en29 rfl) rfl (checkL _ a _ _ ha) ?_
  rintro _ w7 ⟨rfl, hw⟩
  have hB := hB.carry hw; have ha := ha.carry hw; have hb := hb.carry hw; have bx2 := bx2.carry hw; have bx3 := bx3.carry hw
  refine L.val (x_neq rfl rfl) rfl ?_
  refine L.val (x_mv (v := .bool _) rfl) rfl ?_
  refine' L.group 3 10 12 12 9 false rfl ?_ ?_ ?_
  rotate_left 1
  ·intro g9 hg9
   have h9 := dne_f g9
   refine L.gyes' (dj := 9) (b := _) rfl rfl g9 ?_
   refine L.val (x_ldn (vs := ys) klawgrad_ag25 rfl hlb (bx3.row hlb)) rfl ?_
   refine L.gyes' (dj := 9) (b := _) rfl rfl g9 ?_
   refine L.ret (x_call klawgrad_en29 rfl) rfl (checkL _ b _ _ hb) ?_
   rintro _ w11 ⟨rfl, hw⟩
   have hB := hB.carry hw; have ha := ha.carry hw; have hb := hb.carry hw; have bx2 := bx2.carry hw; have bx3 := bx3.carry hw; have hg9 := hg9.carry hw
   refine L.gyes' (dj := 9) (b := _) rfl rfl g9 ?_
   refine L.val (x_neq rfl rfl) rfl ?_
   refine L.nil ?_
   refine thn_n ⟨rfl, ?_, ?_, fun _ => rfl⟩
   ·exact hg9
   ·repeat (first | exact jeq.refl _ _ _ | refine jeq.upd rfl ?_ | refine jeq.jk rfl rfl ?_)
  ·intro g9
   refine L.gno (dj := 9) (b := _) rfl rfl g9 rfl ?_
   refine L.gno (dj := 9) (b := _) rfl rfl g9 rfl ?_
   refine L.gno (dj := 9) (b := _) rfl rfl g9 rfl ?_
   refine L.nil (thn_n ⟨rfl, Gr.refl _ _, ?_⟩)
   refine ⟨?_, fun h => h.elim⟩
   repeat (first | exact jeq.refl _ _ _ | refine jeq.upd rfl ?_ | refine jeq.jk rfl rfl ?_)
  intro J9 w9 hw j9
  have hB := hB.carry hw; have ha := ha.carry hw; have hb := hb.carry hw; have bx2 := bx2.carry hw; have bx3 := bx3.carry hw
  refine L.val (x_or rfl j9) rfl ?_
  refine L.nil ?_
  refine thn_n ?_
  refine W.cond (b := _) rfl (fun g13 => ?_) (fun g13 => ?_)
  ·have h13 := g13
   have hbad : ¬ (checkS a = 0 ∧ checkS b = 0) := fun h => by simp [h.1, h.2] at g13
   refine W.seq ?_
   refine W.region ?_
   refine L.val (x_ldn (vs := xs) klawgrad_ag25 rfl hla (bx2.row hla)) rfl ?_
   refine L.val (x_ldn (vs := ys) klawgrad_ag25 rfl hlb (bx3.row hlb)) rfl ?_
   refine L.ret (x_call klawgrad_en57 rfl) rfl (alike_ok _ _ a b _ _ _ ha hb) ?_
   rintro _ w16 ⟨rfl, hw⟩
   have hB := hB.carry hw; have ha := ha.carry hw; have hb := hb.carry hw; have bx2 := bx2.carry hw; have bx3 := bx3.carry hw
   refine L.val (x_not rfl) rfl ?_
   refine L.val (x_mv (v := .bool _) rfl) rfl ?_
   refine' L.group 4 19 22 22 18 true rfl ?_ ?_ ?_
   rotate_left 1
   ·intro g18 hg18
    have h18 := (not_t g18)
    refine L.gyes' (dj := 18) (b := _) rfl rfl g18 ?_
    refine L.val (x_ldn (vs := xs) klawgrad_ag25 rfl hla (bx2.row hla)) rfl ?_
    refine L.gyes' (dj := 18) (b := _) rfl rfl g18 ?_
    refine L.val (x_ldn (vs := ys) klawgrad_ag25 rfl hlb (bx3.row hlb)) rfl ?_
    refine L.gyes' (dj := 18) (b := _) rfl rfl g18 ?_
    refine L.ret (x_call klawgrad_en55 rfl) rfl (near_ok _ _ a b _ _ _ ha hb) ?_
    rintro _ w21 ⟨rfl, hw⟩
    have hB := hB.carry hw; have ha := ha.carry hw; have hb := hb.carry hw; have bx2 := bx2.carry hw; have bx3 := bx3.carry hw; have hg18 := hg18.carry hw
    refine L.gyes' (dj := 18) (b := _) rfl rfl g18 ?_
    refine L.val (x_not rfl) rfl ?_
    refine L.nil ?_
    refine thn_n ⟨rfl, ?_, ?_, fun _ => rfl⟩
    ·exact hg18
    ·repeat (first | exact jeq.refl _ _ _ | refine jeq.upd rfl ?_ | refine jeq.jk rfl rfl ?_)
   ·intro g18
    refine L.gno (dj := 18) (b := _) rfl rfl g18 rfl ?_
    refine L.gno (dj := 18) (b := _) rfl rfl g18 rfl ?_
    refine L.gno (dj := 18) (b := _) rfl rfl g18 rfl ?_
    refine L.gno (dj := 18) (b := _) rfl rfl g18 rfl ?_
    refine L.nil (thn_n ⟨rfl, Gr.refl _ _, ?_⟩)
    refine ⟨?_, fun h => h.elim⟩
    repeat (first | exact jeq.refl _ _ _ | refine jeq.upd rfl ?_ | refine jeq.jk rfl rfl ?_)
   intro J18 w18 hw j18
   have hB := hB.carry hw; have ha := ha.carry hw; have hb := hb.carry hw; have bx2 := bx2.carry hw; have bx3 := bx3.carry hw
   refine L.val (x_and rfl j18) rfl ?_
   refine L.val (x_mv (v := .bool _) rfl) rfl ?_
   refine' L.group 1 25 25 25 24 true rfl ?_ ?_ ?_
   rotate_left 1
   ·intro g24 hg24
    have h24 := g24
    refine L.gyes' (dj := 24) (b := _) rfl rfl g24 ?_
    refine L.ret (x_call klawgrad_en56 rfl) rfl (awake13 _) ?_
    rintro _ w25 ⟨rfl, hw⟩
    have hB := hB.carry hw; have ha := ha.carry hw; have hb := hb.carry hw; have bx2 := bx2.carry hw; have bx3 := bx3.carry hw; have hg24 := hg24.carry hw
    refine L.nil ?_
    refine thn_n ⟨rfl, ?_, ?_, fun _ => rfl⟩
    ·exact hg24
    ·repeat (first | exact jeq.refl _ _ _ | refine jeq.upd rfl ?_ | refine jeq.jk rfl rfl ?_)
   ·intro g24
    refine L.gno (dj := 24) (b := _) rfl rfl g24 rfl ?_
    refine L.nil (thn_n ⟨rfl, Gr.refl _ _, ?_⟩)
    refine ⟨?_, fun h => h.elim⟩
    repeat (first | exact jeq.refl _ _ _ | refine jeq.upd rfl ?_ | refine jeq.jk rfl rfl ?_)
   intro J24 w24 hw j24
   have hB := hB.carry hw; have ha := ha.carry hw; have hb := hb.carry hw; have bx2 := bx2.carry hw; have bx3 := bx3.carry hw
   refine L.val (x_and rfl j24) rfl ?_
   refine L.val (x_as (v := .bool _) rfl) rfl ?_
   refine L.nil ?_
   refine thn_n ?_
   refine W.ret (thn_r (fin_mk (.inr rfl) ?_))
   exact ⟨vb (by rw [goes_bad hbad, goes_bad hbad]; rfl), hB⟩
  ·have h13 := g13
   have hca : checkS a = 0 := by simp at g13; exact g13.1
   refine W.skip ?_
   refine thn_n ?_
   refine W.seq ?_
   refine W.region ?_
   refine L.val (x_ldn (vs := xs) klawgrad_ag25 rfl hla (bx2.row hla)) rfl ?_
   refine L.val (x_ldn (vs := ys) klawgrad_ag25 rfl hlb (bx3.row hlb)) rfl ?_
   refine L.ret (x_call klawgrad_en57 rfl) rfl (alike_ok _ _ a b _ _ _ ha hb) ?_
   rintro _ w29 ⟨rfl, hw⟩
   have hB := hB.carry hw; have ha := ha.carry hw; have hb := hb.carry hw; have bx2 := bx2.carry hw; have bx3 := bx3.carry hw
   refine L.val (x_as (v := .bool _) rfl) rfl ?_
   refine L.nil ?_
   refine thn_n ?_
   refine W.seq ?_
   refine W.region ?_
   refine L.val (x_ldn (vs := xs) klawgrad_ag25 rfl hla (bx2.row hla)) rfl ?_
   refine L.val (x_ldn (vs := xs) klawgrad_ag25 rfl hla (bx2.row hla)) rfl ?_
   refine L.ret (x_call klawgrad_en57 rfl) rfl (alike_ok _ _ a a _ _ _ ha ha) ?_
   rintro _ w32 ⟨rfl, hw⟩
   have hB := hB.carry hw; have ha := ha.carry hw; have hb := hb.carry hw; have bx2 := bx2.carry hw; have bx3 := bx3.carry hw
   refine L.val (x_mv (v := .bool _) rfl) rfl ?_
   refine' L.group 5 34 38 38 33 true rfl ?_ ?_ ?_
   rotate_left 1
   ·intro g33 hg33
    have h33 := g33
    refine L.gyes' (dj := 33) (b := _) rfl rfl g33 ?_
    refine L.val (x_mv (v := .bool _) rfl) rfl ?_
    refine L.gyes' (dj := 33) (b := _) rfl rfl g33 ?_
    refine L.val (x_ldn (vs := ys) klawgrad_ag25 rfl hlb (bx3.row hlb)) rfl ?_
    refine L.gyes' (dj := 33) (b := _) rfl rfl g33 ?_
    refine L.val (x_ldn (vs := xs) klawgrad_ag25 rfl hla (bx2.row hla)) rfl ?_
    refine L.gyes' (dj := 33) (b := _) rfl rfl g33 ?_
    refine L.ret (x_call klawgrad_en57 rfl) rfl (alike_ok _ _ b a _ _ _ hb ha) ?_
    rintro _ w37 ⟨rfl, hw⟩
    have hB := hB.carry hw; have ha := ha.carry hw; have hb := hb.carry hw; have bx2 := bx2.carry hw; have bx3 := bx3.carry hw; have hg33 := hg33.carry hw
    refine L.gyes' (dj := 33) (b := _) rfl rfl g33 ?_
    refine L.val (x_eqb Try.underlying4 rfl rfl) rfl ?_
    refine L.nil ?_
    refine thn_n ⟨rfl, ?_, ?_, fun _ => rfl⟩
    ·exact hg33
    ·repeat (first | exact jeq.refl _ _ _ | refine jeq.upd rfl ?_ | refine jeq.jk rfl rfl ?_)
   ·intro g33
    refine L.gno (dj := 33) (b := _) rfl rfl g33 rfl ?_
    refine L.gno (dj := 33) (b := _) rfl rfl g33 rfl ?_
    refine L.gno (dj := 33) (b := _) rfl rfl g33 rfl ?_
    refine L.gno (dj := 33) (b := _) rfl rfl g33 rfl ?_
    refine L.gno (dj := 33) (b := _) rfl rfl g33 rfl ?_
    refine L.nil (thn_n ⟨rfl, Gr.refl _ _, ?_⟩)
    refine ⟨?_, fun h => h.elim⟩
    repeat (first | exact jeq.refl _ _ _ | refine jeq.upd rfl ?_ | refine jeq.jk rfl rfl ?_)
   intro J33 w33 hw j33
   have hB := hB.carry hw; have ha := ha.carry hw; have hb := hb.carry hw; have bx2 := bx2.carry hw; have bx3 := bx3.carry hw
   refine L.val (x_and rfl j33) rfl ?_
   refine L.val (x_mv (v := .bool _) rfl) rfl ?_
   refine' L.group 12 41 52 52 40 true rfl ?_ ?_ ?_
   rotate_left 1
   ·intro g40 hg40
    have h40 := g40
    refine L.gyes' (dj := 40) (b := _) rfl rfl g40 ?_
    refine L.val (x_mv (v := .bool _) rfl) rfl ?_
    refine L.gyes' (dj := 40) (b := _) rfl rfl g40 ?_
    refine L.val (x_not rfl) rfl ?_
    refine L.gyes' (dj := 40) (b := _) rfl rfl g40 ?_
    refine L.val (x_mv (v := .bool _) rfl) rfl ?_
    refine' L.group 8 44 51 51 43 false rfl ?_ ?_ ?_
    rotate_left 1
    ·intro g43 hg43
     have h43 := (not_f g43)
     refine L.gyes' (dj := 43) (b := _) rfl rfl g43 ?_
     refine L.val (x_ldn (vs := xs) klawgrad_ag25 rfl hla (bx2.row hla)) rfl ?_
     refine L.gyes' (dj := 43) (b := _) rfl rfl g43 ?_
     refine L.val (x_ldn (vs := ys) klawgrad_ag25 rfl hlb (bx3.row hlb)) rfl ?_
     refine L.gyes' (dj := 43) (b := _) rfl rfl g43 ?_
     refine L.ret (x_call klawgrad_en55 rfl) rfl (near_ok _ _ a b _ _ _ ha hb) ?_
     rintro _ w46 ⟨rfl, hw⟩
     have hB := hB.carry hw; have ha := ha.carry hw; have hb := hb.carry hw; have bx2 := bx2.carry hw; have bx3 := bx3.carry hw; have hg40 := hg40.carry hw; have hg43 := hg43.carry hw
     refine L.gyes' (dj := 43) (b := _) rfl rfl g43 ?_
     refine L.val (x_mv (v := .bool _) rfl) rfl ?_
     refine' L.group 3 48 50 50 47 true rfl ?_ ?_ ?_
     rotate_left 1
     ·intro g47 hg47
      have h47 := g47
      refine L.gyes' (dj := 47) (b := _) rfl rfl g47 ?_
      refine L.val (x_ldn (vs := ys) klawgrad_ag25 rfl hlb (bx3.row hlb)) rfl ?_
      refine L.gyes' (dj := 47) (b := _) rfl rfl g47 ?_
      refine L.val (x_ldn (vs := xs) klawgrad_ag25 rfl hla (bx2.row hla)) rfl ?_
      refine L.gyes' (dj := 47) (b := _) rfl rfl g47 ?_
      refine L.ret (x_call klawgrad_en55 rfl) rfl (near_ok _ _ b a _ _ _ hb ha) ?_
      rintro _ w50 ⟨rfl, hw⟩
      have hB := hB.carry hw; have ha := ha.carry hw; have hb := hb.carry hw; have bx2 := bx2.carry hw; have bx3 := bx3.carry hw; have hg40 := hg40.carry hw; have hg43 := hg43.carry hw; have hg47 := hg47.carry hw
      refine L.nil ?_
      refine thn_n ⟨rfl, ?_, ?_, fun _ => rfl⟩
      ·exact hg47
      ·repeat (first | exact jeq.refl _ _ _ | refine jeq.upd rfl ?_ | refine jeq.jk rfl rfl ?_)
     ·intro g47
      refine L.gno (dj := 47) (b := _) rfl rfl g47 rfl ?_
      refine L.gno (dj := 47) (b := _) rfl rfl g47 rfl ?_
      refine L.gno (dj := 47) (b := _) rfl rfl g47 rfl ?_
      refine L.nil (thn_n ⟨rfl, Gr.refl _ _, ?_⟩)
      refine ⟨?_, fun h => h.elim⟩
      repeat (first | exact jeq.refl _ _ _ | refine jeq.upd rfl ?_ | refine jeq.jk rfl rfl ?_)
     intro J47 w47 hw j47
     have hB := hB.carry hw; have ha := ha.carry hw; have hb := hb.carry hw; have bx2 := bx2.carry hw; have bx3 := bx3.carry hw; have hg40 := hg40.carry hw; have hg43 := hg43.carry hw
     refine L.gyes' (dj := 43) (b := _) rfl rfl g43 ?_
     refine L.val (x_and rfl j47) rfl ?_
     refine L.nil ?_
     refine thn_n ⟨rfl, ?_, ?_, fun _ => rfl⟩
     ·exact hg43
     ·repeat (first | exact jeq.refl _ _ _ | refine jeq.upd rfl ?_ | refine jeq.jk rfl rfl ?_)
    ·intro g43
     refine L.gno (dj := 43) (b := _) rfl rfl g43 rfl ?_
     refine L.gno (dj := 43) (b := _) rfl rfl g43 rfl ?_
     refine L.gno (dj := 43) (b := _) rfl rfl g43 rfl ?_
     refine L.gno (dj := 43) (b := _) rfl rfl g43 rfl ?_
     refine L.gun (dj := 47) rfl rfl rfl ?_
     refine L.gun (dj := 47) rfl rfl rfl ?_
     refine L.gun (dj := 47) rfl rfl rfl ?_
     refine L.gno (dj := 43) (b := _) rfl rfl g43 rfl ?_
     refine L.nil (thn_n ⟨rfl, Gr.refl _ _, ?_⟩)
     refine ⟨?_, fun h => h.elim⟩
     repeat (first | exact jeq.refl _ _ _ | refine jeq.upd rfl ?_ | refine jeq.jk rfl rfl ?_)
    intro J43 w43 hw j43
    have hB := hB.carry hw; have ha := ha.carry hw; have hb := hb.carry hw; have bx2 := bx2.carry hw; have bx3 := bx3.carry hw; have hg40 := hg40.carry hw
    refine L.gyes' (dj := 40) (b := _) rfl rfl g40 ?_
    refine L.val (x_or rfl j43) rfl ?_
    refine L.nil ?_
    refine thn_n ⟨rfl, ?_, ?_, fun _ => rfl⟩
    ·exact hg40
    ·repeat (first | exact jeq.refl _ _ _ | refine jeq.upd rfl ?_ | refine jeq.jk rfl rfl ?_)
   ·intro g40
    refine L.gno (dj := 40) (b := _) rfl rfl g40 rfl ?_
    refine L.gno (dj := 40) (b := _) rfl rfl g40 rfl ?_
    refine L.gno (dj := 40) (b := _) rfl rfl g40 rfl ?_
    refine L.gun (dj := 43) rfl rfl rfl ?_
    refine L.gun (dj := 43) rfl rfl rfl ?_
    refine L.gun (dj := 43) rfl rfl rfl ?_
    refine L.gun (dj := 43) rfl rfl rfl ?_
    refine L.gun (dj := 47) rfl rfl rfl ?_
    refine L.gun (dj := 47) rfl rfl rfl ?_
    refine L.gun (dj := 47) rfl rfl rfl ?_
    refine L.gun (dj := 43) rfl rfl rfl ?_
    refine L.gno (dj := 40) (b := _) rfl rfl g40 rfl ?_
    refine L.nil (thn_n ⟨rfl, Gr.refl _ _, ?_⟩)
    refine ⟨?_, fun h => h.elim⟩
    repeat (first | exact jeq.refl _ _ _ | refine jeq.upd rfl ?_ | refine jeq.jk rfl rfl ?_)
   intro J40 w40 hw j40
   have hB := hB.carry hw; have ha := ha.carry hw; have hb := hb.carry hw; have bx2 := bx2.carry hw; have bx3 := bx3.carry hw
   refine L.val (x_and rfl j40) rfl ?_
   refine L.val (x_mv (v := .bool _) rfl) rfl ?_
   refine' L.group 9 55 63 63 54 true rfl ?_ ?_ ?_
   rotate_left 1
   ·intro g54 hg54
    have h54 := g54
    refine L.gyes' (dj := 54) (b := _) rfl rfl g54 ?_
    refine L.val (x_ldn (vs := xs) klawgrad_ag25 rfl hla (bx2.row hla)) rfl ?_
    refine L.gyes' (dj := 54) (b := _) rfl rfl g54 ?_
    refine L.val (x_ldn (vs := ys) klawgrad_ag25 rfl hlb (bx3.row hlb)) rfl ?_
    refine L.gyes' (dj := 54) (b := _) rfl rfl g54 ?_
    refine L.ret (x_call klawgrad_en49 rfl) rfl (below_ok _ _ a b _ _ _ ha hb) ?_
    rintro _ w57 ⟨rfl, hw⟩
    have hB := hB.carry hw; have ha := ha.carry hw; have hb := hb.carry hw; have bx2 := bx2.carry hw; have bx3 := bx3.carry hw; have hg54 := hg54.carry hw
    refine L.gyes' (dj := 54) (b := _) rfl rfl g54 ?_
    refine L.val (x_not rfl) rfl ?_
    refine L.gyes' (dj := 54) (b := _) rfl rfl g54 ?_
    refine L.val (x_mv (v := .bool _) rfl) rfl ?_
    refine' L.group 3 60 62 62 59 false rfl ?_ ?_ ?_
    rotate_left 1
    ·intro g59 hg59
     have h59 := (not_f g59)
     refine L.gyes' (dj := 59) (b := _) rfl rfl g59 ?_
     refine L.val (x_ldn (vs := xs) klawgrad_ag25 rfl hla (bx2.row hla)) rfl ?_
     refine L.gyes' (dj := 59) (b := _) rfl rfl g59 ?_
     refine L.val (x_ldn (vs := ys) klawgrad_ag25 rfl hlb (bx3.row hlb)) rfl ?_
     refine L.gyes' (dj := 59) (b := _) rfl rfl g59 ?_
     refine L.ret (x_call klawgrad_en55 rfl) rfl (near_ok _ _ a b _ _ _ ha hb) ?_
     rintro _ w62 ⟨rfl, hw⟩
     have hB := hB.carry hw; have ha := ha.carry hw; have hb := hb.carry hw; have bx2 := bx2.carry hw; have bx3 := bx3.carry hw; have hg54 := hg54.carry hw; have hg59 := hg59.carry hw
     refine L.nil ?_
     refine thn_n ⟨rfl, ?_, ?_, fun _ => rfl⟩
     ·exact hg59
     ·repeat (first | exact jeq.refl _ _ _ | refine jeq.upd rfl ?_ | refine jeq.jk rfl rfl ?_)
    ·intro g59
     refine L.gno (dj := 59) (b := _) rfl rfl g59 rfl ?_
     refine L.gno (dj := 59) (b := _) rfl rfl g59 rfl ?_
     refine L.gno (dj := 59) (b := _) rfl rfl g59 rfl ?_
     refine L.nil (thn_n ⟨rfl, Gr.refl _ _, ?_⟩)
     refine ⟨?_, fun h => h.elim⟩
     repeat (first | exact jeq.refl _ _ _ | refine jeq.upd rfl ?_ | refine jeq.jk rfl rfl ?_)
    intro J59 w59 hw j59
    have hB := hB.carry hw; have ha := ha.carry hw; have hb := hb.carry hw; have bx2 := bx2.carry hw; have bx3 := bx3.carry hw; have hg54 := hg54.carry hw
    refine L.gyes' (dj := 54) (b := _) rfl rfl g54 ?_
    refine L.val (x_or rfl j59) rfl ?_
    refine L.nil ?_
    refine thn_n ⟨rfl, ?_, ?_, fun _ => rfl⟩
    ·exact hg54
    ·repeat (first | exact jeq.refl _ _ _ | refine jeq.upd rfl ?_ | refine jeq.jk rfl rfl ?_)
   ·intro g54
    refine L.gno (dj := 54) (b := _) rfl rfl g54 rfl ?_
    refine L.gno (dj := 54) (b := _) rfl rfl g54 rfl ?_
    refine L.gno (dj := 54) (b := _) rfl rfl g54 rfl ?_
    refine L.gno (dj := 54) (b := _) rfl rfl g54 rfl ?_
    refine L.gno (dj := 54) (b := _) rfl rfl g54 rfl ?_
    refine L.gun (dj := 59) rfl rfl rfl ?_
    refine L.gun (dj := 59) rfl rfl rfl ?_
    refine L.gun (dj := 59) rfl rfl rfl ?_
    refine L.gno (dj := 54) (b := _) rfl rfl g54 rfl ?_
    refine L.nil (thn_n ⟨rfl, Gr.refl _ _, ?_⟩)
    refine ⟨?_, fun h => h.elim⟩
    repeat (first | exact jeq.refl _ _ _ | refine jeq.upd rfl ?_ | refine jeq.jk rfl rfl ?_)
   intro J54 w54 hw j54
   have hB := hB.carry hw; have ha := ha.carry hw; have hb := hb.carry hw; have bx2 := bx2.carry hw; have bx3 := bx3.carry hw
   refine L.val (x_and rfl j54) rfl ?_
   refine L.val (x_mv (v := .bool _) rfl) rfl ?_
   refine' L.group 1 66 66 66 65 true rfl ?_ ?_ ?_
   rotate_left 1
   ·intro g65 hg65
    have h65 := g65
    refine L.gyes' (dj := 65) (b := _) rfl rfl g65 ?_
    refine L.ret (x_call klawgrad_en56 rfl) rfl (awake13 _) ?_
    rintro _ w66 ⟨rfl, hw⟩
    have hB := hB.carry hw; have ha := ha.carry hw; have hb := hb.carry hw; have bx2 := bx2.carry hw; have bx3 := bx3.carry hw; have hg65 := hg65.carry hw
    refine L.nil ?_
    refine thn_n ⟨rfl, ?_, ?_, fun _ => rfl⟩
    ·exact hg65
    ·repeat (first | exact jeq.refl _ _ _ | refine jeq.upd rfl ?_ | refine jeq.jk rfl rfl ?_)
   ·intro g65
    refine L.gno (dj := 65) (b := _) rfl rfl g65 rfl ?_
    refine L.nil (thn_n ⟨rfl, Gr.refl _ _, ?_⟩)
    refine ⟨?_, fun h => h.elim⟩
    repeat (first | exact jeq.refl _ _ _ | refine jeq.upd rfl ?_ | refine jeq.jk rfl rfl ?_)
   intro J65 w65 hw j65
   have hB := hB.carry hw; have ha := ha.carry hw; have hb := hb.carry hw; have bx2 := bx2.carry hw; have bx3 := bx3.carry hw
   refine L.val (x_and rfl j65) rfl ?_
   refine L.val (x_as (v := .bool _) rfl) rfl ?_
   refine L.nil ?_
   refine thn_n ?_
   refine W.ret (fin_mk (.inr rfl) ?_)
   refine ⟨vb ?_, hB⟩
   rw [alike_self hca, alike_comm (a := b) (b := a)]
   by_cases h1 : goesS false a b = true
   · simp [h1, alike_near h1, alike_near (alike_turn2 h1)]
   · by_cases h2 : belowR a b = true
     · simp [h1, h2, below_near h2]
     · simp [h1, h2]
end Go.Gx
