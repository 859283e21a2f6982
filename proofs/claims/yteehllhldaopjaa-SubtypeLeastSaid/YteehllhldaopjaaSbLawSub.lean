/- The laws SubtypeOrder, SubtypeLeast, SubtypeGreatest. Conditions: none. -/
import Derived.Test.YteehllhldaopjaaSbAwake12
import Derived.Test.YteehllhldaopjaaSbDrawD
namespace Go.Gx
open Go.Proofs
theorem klawsub_ag25 : aggT Try.prog 25 5 = true := by kernel_rfl
theorem klawsub_en29 : Go.Proofs.Enters Try.prog 29 := Go.Proofs.enters_of Try.func29 (by kernel_rfl) rfl
theorem klawsub_en41 : Go.Proofs.Enters Try.prog 41 := Go.Proofs.enters_of Try.func41 (by kernel_rfl) rfl
theorem klawsub_en48 : Go.Proofs.Enters Try.prog 48 := Go.Proofs.enters_of Try.func48 (by kernel_rfl) rfl
theorem klawsub_en49 : Go.Proofs.Enters Try.prog 49 := Go.Proofs.enters_of Try.func49 (by kernel_rfl) rfl
theorem klawsub_en50 : Go.Proofs.Enters Try.prog 50 := Go.Proofs.enters_of Try.func50 (by kernel_rfl) rfl
theorem klawsub_en51 : Go.Proofs.Enters Try.prog 51 := Go.Proofs.enters_of Try.func51 (by kernel_rfl) rfl
theorem klawsub_en52 : Go.Proofs.Enters Try.prog 52 := Go.Proofs.enters_of Try.func52 (by kernel_rfl) rfl
theorem klawsub_zr25 : (Try.prog.info? 25).bind (·.zero) = some (Value.agg [Value.int .i64 0, S [], S [], Value.slice none 0 0, Value.slice none 0 0].toArray) := by kernel_rfl
def smallS (a b : Sh) : Bool := decide (checkS a = 0) && decide (checkS b = 0) && decide (sizeS a ≤ 200) && decide (sizeS b ≤ 200)
theorem small_ok (A B : Nat → Prop) (a b : Sh) (xs ys : List Value) (w : World) (ha : ShC A w xs a) (hb : ShC B w ys b) :
    Ret Try.prog 51 #[.agg xs.toArray, .agg ys.toArray] w fun v w' => v = .bool (smallS a b) ∧ Bel w w' := by
  have hla := ha.len
  have hlb := hb.len
  refine ret_of_W Try.func51 rfl (Nat.le_of_ble_eq_true rfl) (res1 rfl) ?_
  have hB := Gr.refl (fun _ => False) w
  refine W.seq ?_
  refine W.region ?_
  refine L.box (cs := xs) rfl rfl (fun w2 bx2 hw hz2 => ?_)
  have hB := hB.carry hw; have ha := ha.carry hw; have hb := hb.carry hw
  refine L.box (cs := ys) rfl rfl (fun w3 bx3 hw hz3 => ?_)
  have hB := hB.carry hw; have ha := ha.carry hw; have hb := hb.carry hw; have bx2 := bx2.carry hw
  refine L.val (x_as (v := .bool _) rfl) rfl ?_
  refine L.nil ?_
  refine thn_n ?_
  refine W.seq ?_
  refine W.region ?_
  refine L.val (x_ldn (vs := xs) klawsub_ag25 rfl hla (bx2.row hla)) rfl ?_
  refine L.ret (x_call klawsub_en29 rfl) rfl (checkL A a _ _ ha) ?_
  rintro _ w6 ⟨rfl, hw⟩
  have hB := hB.carry hw; have ha := ha.carry hw; have hb := hb.carry hw; have bx2 := bx2.carry hw; have bx3 := bx3.carry hw
  refine L.val (x_eql rfl rfl) rfl ?_
  refine L.val (x_mv (v := .bool _) rfl) rfl ?_
  refine' L.group 3 9 11 11 8 true rfl ?_ ?_ ?_
  rotate_left 1
  ·intro g8 hg8
   have h8 := of_decide_eq_true g8
   refine L.gyes' (dj := 8) (b := _) rfl rfl g8 ?_
   refine L.val (x_ldn (vs := ys) klawsub_ag25 rfl hlb (bx3.row hlb)) rfl ?_
   refine L.gyes' (dj := 8) (b := _) rfl rfl g8 ?_
   refine L.ret (x_call klawsub_en29 rfl) rfl (checkL B b _ _ hb) ?_
   rintro _ w10 ⟨rfl, hw⟩
   have hB := hB.carry hw; have ha := ha.carry hw; have hb := hb.carry hw; have bx2 := bx2.carry hw; have bx3 := bx3.carry hw; have hg8 := hg8.carry hw
   refine L.gyes' (dj := 8) (b := _) rfl rfl g8 ?_
   refine L.val (x_eql rfl rfl) rfl ?_
   refine L.nil ?_
   refine thn_n ⟨rfl, ?_, ?_, fun _ => rfl⟩
   ·exact hg8
   ·repeat (first | exact jeq.refl _ _ _ | refine jeq.upd rfl ?_ | refine jeq.jk rfl rfl ?_)
  ·intro g8
   refine L.gno (dj := 8) (b := _) rfl rfl g8 rfl ?_
   refine L.gno (dj := 8) (b := _) rfl rfl g8 rfl ?_
   refine L.gno (dj := 8) (b := _) rfl rfl g8 rfl ?_
   refine L.nil (thn_n ⟨rfl, Gr.refl _ _, ?_⟩)
   refine ⟨?_, fun h => h.elim⟩
   repeat (first | exact jeq.refl _ _ _ | refine jeq.upd rfl ?_ | refine jeq.jk rfl rfl ?_)
  intro J8 w8 hw j8
  have hB := hB.carry hw; have ha := ha.carry hw; have hb := hb.carry hw; have bx2 := bx2.carry hw; have bx3 := bx3.carry hw
  refine L.val (x_and rfl j8) rfl ?_
  refine L.val (x_mv (v := .bool _) rfl) rfl ?_
  refine' L.group 3 14 16 16 13 true rfl ?_ ?_ ?_
  rotate_left 1
  ·intro g13 hg13
   have h13 := g13
   refine L.gyes' (dj := 13) (b := _) rfl rfl g13 ?_
   refine L.val (x_ldn (vs := xs) klawsub_ag25 rfl hla (bx2.row hla)) rfl ?_
   refine L.gyes' (dj := 13) (b := _) rfl rfl g13 ?_
   refine L.ret (x_call klawsub_en41 rfl) rfl (sizeL_ok A a _ _ ha) ?_
   rintro _ w15 ⟨rfl, hw⟩
   have hB := hB.carry hw; have ha := ha.carry hw; have hb := hb.carry hw; have bx2 := bx2.carry hw; have bx3 := bx3.carry hw; have hg13 := hg13.carry hw
   refine L.gyes' (dj := 13) (b := _) rfl rfl g13 ?_
   refine L.val (x_leq rfl rfl) rfl ?_
   refine L.nil ?_
   refine thn_n ⟨rfl, ?_, ?_, fun _ => rfl⟩
   ·exact hg13
   ·repeat (first | exact jeq.refl _ _ _ | refine jeq.upd rfl ?_ | refine jeq.jk rfl rfl ?_)
  ·intro g13
   refine L.gno (dj := 13) (b := _) rfl rfl g13 rfl ?_
   refine L.gno (dj := 13) (b := _) rfl rfl g13 rfl ?_
   refine L.gno (dj := 13) (b := _) rfl rfl g13 rfl ?_
   refine L.nil (thn_n ⟨rfl, Gr.refl _ _, ?_⟩)
   refine ⟨?_, fun h => h.elim⟩
   repeat (first | exact jeq.refl _ _ _ | refine jeq.upd rfl ?_ | refine jeq.jk rfl rfl ?_)
  intro J13 w13 hw j13
  have hB := hB.carry hw; have ha := ha.carry hw; have hb := hb.carry hw; have bx2 := bx2.carry hw; have bx3 := bx3.carry hw
  refine L.val (x_and rfl j13) rfl ?_
  refine L.val (x_mv (v := .bool _) rfl) rfl ?_
  refine' L.group 3 19 21 21 18 true rfl ?_ ?_ ?_
  rotate_left 1
  ·intro g18 hg18
   have h18 := g18
   refine L.gyes' (dj := 18) (b := _) rfl rfl g18 ?_
   refine L.val (x_ldn (vs := ys) klawsub_ag25 rfl hlb (bx3.row hlb)) rfl ?_
   refine L.gyes' (dj := 18) (b := _) rfl rfl g18 ?_
   refine L.ret (x_call klawsub_en41 rfl) rfl (sizeL_ok B b _ _ hb) ?_
   rintro _ w20 ⟨rfl, hw⟩
   have hB := hB.carry hw; have ha := ha.carry hw; have hb := hb.carry hw; have bx2 := bx2.carry hw; have bx3 := bx3.carry hw; have hg18 := hg18.carry hw
   refine L.gyes' (dj := 18) (b := _) rfl rfl g18 ?_
   refine L.val (x_leq rfl rfl) rfl ?_
   refine L.nil ?_
   refine thn_n ⟨rfl, ?_, ?_, fun _ => rfl⟩
   ·exact hg18
   ·repeat (first | exact jeq.refl _ _ _ | refine jeq.upd rfl ?_ | refine jeq.jk rfl rfl ?_)
  ·intro g18
   refine L.gno (dj := 18) (b := _) rfl rfl g18 rfl ?_
   refine L.gno (dj := 18) (b := _) rfl rfl g18 rfl ?_
   refine L.gno (dj := 18) (b := _) rfl rfl g18 rfl ?_
   refine L.nil (thn_n ⟨rfl, Gr.refl _ _, ?_⟩)
   refine ⟨?_, fun h => h.elim⟩
   repeat (first | exact jeq.refl _ _ _ | refine jeq.upd rfl ?_ | refine jeq.jk rfl rfl ?_)
  intro J18 w18 hw j18
  have hB := hB.carry hw; have ha := ha.carry hw; have hb := hb.carry hw; have bx2 := bx2.carry hw; have bx3 := bx3.carry hw
  refine L.val (x_and rfl j18) rfl ?_
  refine L.val (x_as (v := .bool _) rfl) rfl ?_
  refine L.nil ?_
  refine thn_n ?_
  refine W.ret (fin_mk (.inr rfl) ?_)
  exact ⟨rfl, hB⟩
theorem small_open {a b : Sh} (h : smallS a b = true) : a.size ≤ 200 ∧ b.size ≤ 200 := by
  unfold smallS at h
  simp only [Bool.and_eq_true, decide_eq_true_eq] at h
  obtain ⟨⟨⟨h1, h2⟩, h3⟩, h4⟩ := h
  unfold sizeS at h3 h4
  rw [if_pos (check_zero h1).1] at h3
  rw [if_pos (check_zero h2).1] at h4
  omega
theorem law_least (A0 B0 C0 : Nat → Prop) (a b c : Sh) (xs ys zs : List Value) (w : World) (ha0 : ShC A0 w xs a) (hb0 : ShC B0 w ys b) (hc0 : ShC C0 w zs c) :
    Ret Try.prog 12 #[.agg xs.toArray, .agg ys.toArray, .agg zs.toArray] w fun v w' => v = .bool true ∧ Bel w w' := by
  obtain ⟨A, ha, hA⟩ : ∃ A1 : Nat → Prop, ShC A1 w xs a ∧ (∀ k, w.heap.size ≤ k → A1 k) := ⟨_, ha0.up, fun _ => .inr⟩
  obtain ⟨B, hb, hB1⟩ : ∃ A1 : Nat → Prop, ShC A1 w ys b ∧ (∀ k, w.heap.size ≤ k → A1 k) := ⟨_, hb0.up, fun _ => .inr⟩
  obtain ⟨C, hc, hC⟩ : ∃ A1 : Nat → Prop, ShC A1 w zs c ∧ (∀ k, w.heap.size ≤ k → A1 k) := ⟨_, hc0.up, fun _ => .inr⟩
  clear ha0 hb0 hc0
  have hla := ha.len
  have hlb := hb.len
  have hlc := hc.len
  refine ret_of_W Try.func12 rfl (Nat.le_of_ble_eq_true rfl) (res1 rfl) ?_
  have hB := Gr.refl (fun _ => False) w
  refine W.seq ?_
  refine W.region ?_
  refine L.box (cs := xs) rfl rfl (fun w3 bx3 hw hz3 => ?_)
  have hB := hB.carry hw; have ha := ha.carry hw; have hb := hb.carry hw; have hc := hc.carry hw
  refine L.box (cs := ys) rfl rfl (fun w4 bx4 hw hz4 => ?_)
  have hB := hB.carry hw; have ha := ha.carry hw; have hb := hb.carry hw; have hc := hc.carry hw; have bx3 := bx3.carry hw
  refine L.box (cs := zs) rfl rfl (fun w5 bx5 hw hz5 => ?_)
  have hB := hB.carry hw; have ha := ha.carry hw; have hb := hb.carry hw; have hc := hc.carry hw; have bx3 := bx3.carry hw; have bx4 := bx4.carry hw
  refine L.val (x_as (v := .bool _) rfl) rfl ?_
  refine L.nil ?_
  refine thn_n ?_
  refine W.seq ?_
  refine W.region ?_
  refine L.val (x_ldn (vs := xs) klawsub_ag25 rfl hla (bx3.row hla)) rfl ?_
  refine L.val (x_ldn (vs := ys) klawsub_ag25 rfl hlb (bx4.row hlb)) rfl ?_
  refine L.ret (x_call klawsub_en48 rfl) rfl (join_ok _ _ a b _ _ _ ha hb) ?_
  rintro _ w12 ⟨cs12, rfl, hj, hw⟩
  have hB := hB.carry hw; have ha := ha.carry hw; have hb := hb.carry hw; have hc := hc.carry hw; have bx3 := bx3.carry hw; have bx4 := bx4.carry hw; have bx5 := bx5.carry hw
  have hlj := hj.len
  have hj := hj.up
  have hsz12 := hB.size
  have hx3 := bx3.lt
  have hx4 := bx4.lt
  have hx5 := bx5.lt
  refine L.val (x_mv (v := _) rfl) rfl ?_
  refine L.val (x_ext (v := _) rfl rfl) rfl ?_
  refine L.val (x_ext (v := .bool _) rfl rfl) rfl ?_
  refine L.alloc (cs := [Value.int .i64 0, S [], S [], Value.slice none 0 0, Value.slice none 0 0]) klawsub_zr25 rfl rfl (fun w7 bx7 hw hz7 => ?_)
  have hB := hB.carry hw; have ha := ha.carry hw; have hb := hb.carry hw; have hc := hc.carry hw; have bx3 := bx3.carry hw; have bx4 := bx4.carry hw; have bx5 := bx5.carry hw; have hj := hj.carry hw
  refine L.setRow klawsub_ag25 rfl rfl bx7 rfl hlj hj.one (fun wl12 bx7 hw hzl12 => ?_)
  have hsz := hB.size
  have hB := hB.set hw (by omega); have ha := ha.carryR hw (fun j e => hA j (by have e : j = _ := e; omega)); have hb := hb.carryR hw (fun j e => hB1 j (by have e : j = _ := e; omega)); have hc := hc.carryR hw (fun j e => hC j (by have e : j = _ := e; omega)); have bx3 := bx3.carryR hw (by omega); have bx4 := bx4.carryR hw (by omega); have bx5 := bx5.carryR hw (by omega); have hj := hj.carryR hw (fun j e => .inr (by have e : j = _ := e; omega))
  refine L.val (x_as (v := .bool _) rfl) rfl ?_
  refine L.nil ?_
  refine thn_n ?_
  refine W.seq ?_
  refine W.seq ?_
  refine W.region ?_
  refine L.val (x_mv (v := .bool _) rfl) rfl ?_
  refine L.val (x_mv (v := .bool _) rfl) rfl ?_
  refine' L.group 10 17 26 26 16 true rfl ?_ ?_ ?_
  rotate_left 1
  ·intro g16 hg16
   have h16 := g16
   refine L.gyes' (dj := 16) (b := _) rfl rfl g16 ?_
   refine L.val (x_ldn (vs := xs) klawsub_ag25 rfl hla (bx3.row hla)) rfl ?_
   refine L.gyes' (dj := 16) (b := _) rfl rfl g16 ?_
   refine L.val (x_ldn (vs := cs12) klawsub_ag25 rfl hlj (bx7.row hlj)) rfl ?_
   refine L.gyes' (dj := 16) (b := _) rfl rfl g16 ?_
   refine L.ret (x_call klawsub_en49 rfl) rfl (below_ok _ _ a _ _ _ _ ha hj) ?_
   rintro _ w19 ⟨rfl, hw⟩
   have hB := hB.carry hw; have ha := ha.carry hw; have hb := hb.carry hw; have hc := hc.carry hw; have bx3 := bx3.carry hw; have bx4 := bx4.carry hw; have bx5 := bx5.carry hw; have hj := hj.carry hw; have bx7 := bx7.carry hw; have hg16 := hg16.carry hw
   refine L.gyes' (dj := 16) (b := _) rfl rfl g16 ?_
   refine L.val (x_not rfl) rfl ?_
   refine L.gyes' (dj := 16) (b := _) rfl rfl g16 ?_
   refine L.val (x_mv (v := .bool _) rfl) rfl ?_
   refine' L.group 4 22 25 25 21 false rfl ?_ ?_ ?_
   rotate_left 1
   ·intro g21 hg21
    have h21 := (not_f g21)
    refine L.gyes' (dj := 21) (b := _) rfl rfl g21 ?_
    refine L.val (x_ldn (vs := ys) klawsub_ag25 rfl hlb (bx4.row hlb)) rfl ?_
    refine L.gyes' (dj := 21) (b := _) rfl rfl g21 ?_
    refine L.val (x_ldn (vs := cs12) klawsub_ag25 rfl hlj (bx7.row hlj)) rfl ?_
    refine L.gyes' (dj := 21) (b := _) rfl rfl g21 ?_
    refine L.ret (x_call klawsub_en49 rfl) rfl (below_ok _ _ b _ _ _ _ hb hj) ?_
    rintro _ w24 ⟨rfl, hw⟩
    have hB := hB.carry hw; have ha := ha.carry hw; have hb := hb.carry hw; have hc := hc.carry hw; have bx3 := bx3.carry hw; have bx4 := bx4.carry hw; have bx5 := bx5.carry hw; have hj := hj.carry hw; have bx7 := bx7.carry hw; have hg16 := hg16.carry hw; have hg21 := hg21.carry hw
    refine L.gyes' (dj := 21) (b := _) rfl rfl g21 ?_
    refine L.val (x_not rfl) rfl ?_
    refine L.nil ?_
    refine thn_n ⟨rfl, ?_, ?_, fun _ => rfl⟩
    ·exact hg21
    ·repeat (first | exact jeq.refl _ _ _ | refine jeq.upd rfl ?_ | refine jeq.jk rfl rfl ?_)
   ·intro g21
    refine L.gno (dj := 21) (b := _) rfl rfl g21 rfl ?_
    refine L.gno (dj := 21) (b := _) rfl rfl g21 rfl ?_
    refine L.gno (dj := 21) (b := _) rfl rfl g21 rfl ?_
    refine L.gno (dj := 21) (b := _) rfl rfl g21 rfl ?_
    refine L.nil (thn_n ⟨rfl, Gr.refl _ _, ?_⟩)
    refine ⟨?_, fun h => h.elim⟩
    repeat (first | exact jeq.refl _ _ _ | refine jeq.upd rfl ?_ | refine jeq.jk rfl rfl ?_)
   intro J21 w21 hw j21
   have hB := hB.carry hw; have ha := ha.carry hw; have hb := hb.carry hw; have hc := hc.carry hw; have bx3 := bx3.carry hw; have bx4 := bx4.carry hw; have bx5 := bx5.carry hw; have hj := hj.carry hw; have bx7 := bx7.carry hw; have hg16 := hg16.carry hw
   refine L.gyes' (dj := 16) (b := _) rfl rfl g16 ?_
   refine L.val (x_or rfl j21) rfl ?_
   refine L.nil ?_
   refine thn_n ⟨rfl, ?_, ?_, fun _ => rfl⟩
   ·exact hg16
   ·repeat (first | exact jeq.refl _ _ _ | refine jeq.upd rfl ?_ | refine jeq.jk rfl rfl ?_)
  ·intro g16
   refine L.gno (dj := 16) (b := _) rfl rfl g16 rfl ?_
   refine L.gno (dj := 16) (b := _) rfl rfl g16 rfl ?_
   refine L.gno (dj := 16) (b := _) rfl rfl g16 rfl ?_
   refine L.gno (dj := 16) (b := _) rfl rfl g16 rfl ?_
   refine L.gno (dj := 16) (b := _) rfl rfl g16 rfl ?_
   refine L.gun (dj := 21) rfl rfl rfl ?_
   refine L.gun (dj := 21) rfl rfl rfl ?_
   refine L.gun (dj := 21) rfl rfl rfl ?_
   refine L.gun (dj := 21) rfl rfl rfl ?_
   refine L.gno (dj := 16) (b := _) rfl rfl g16 rfl ?_
   refine L.nil (thn_n ⟨rfl, Gr.refl _ _, ?_⟩)
   refine ⟨?_, fun h => h.elim⟩
   repeat (first | exact jeq.refl _ _ _ | refine jeq.upd rfl ?_ | refine jeq.jk rfl rfl ?_)
  intro J16 w16 hw j16
  have hB := hB.carry hw; have ha := ha.carry hw; have hb := hb.carry hw; have hc := hc.carry hw; have bx3 := bx3.carry hw; have bx4 := bx4.carry hw; have bx5 := bx5.carry hw; have hj := hj.carry hw; have bx7 := bx7.carry hw
  refine L.val (x_and rfl j16) rfl ?_
  refine L.nil ?_
  refine thn_n ?_
  refine W.cond (b := _) rfl (fun g27 => ?_) (fun g27 => ?_)
  ·have h27 := g27
   exfalso
   have hbd : (jmS true a b).2 = true → belowR a (jmS true a b).1 = true ∧ belowR b (jmS true a b).1 = true := jm_bounds
   by_cases e1 : (jmS true a b).2 = true
   · simp [e1, hbd e1] at g27
   · simp [e1] at g27
  ·have h27 := g27
   refine W.skip ?_
   refine thn_n ?_
   refine W.seq ?_
   refine W.seq ?_
   refine W.region ?_
   refine L.val (x_ldn (vs := xs) klawsub_ag25 rfl hla (bx3.row hla)) rfl ?_
   refine L.val (x_ldn (vs := zs) klawsub_ag25 rfl hlc (bx5.row hlc)) rfl ?_
   refine L.ret (x_call klawsub_en49 rfl) rfl (below_ok _ _ a c _ _ _ ha hc) ?_
   rintro _ w30 ⟨rfl, hw⟩
   have hB := hB.carry hw; have ha := ha.carry hw; have hb := hb.carry hw; have hc := hc.carry hw; have bx3 := bx3.carry hw; have bx4 := bx4.carry hw; have bx5 := bx5.carry hw; have hj := hj.carry hw; have bx7 := bx7.carry hw
   refine L.val (x_not rfl) rfl ?_
   refine L.val (x_mv (v := .bool _) rfl) rfl ?_
   refine' L.group 4 33 36 36 32 false rfl ?_ ?_ ?_
   rotate_left 1
   ·intro g32 hg32
    have h32 := (not_f g32)
    refine L.gyes' (dj := 32) (b := _) rfl rfl g32 ?_
    refine L.val (x_ldn (vs := ys) klawsub_ag25 rfl hlb (bx4.row hlb)) rfl ?_
    refine L.gyes' (dj := 32) (b := _) rfl rfl g32 ?_
    refine L.val (x_ldn (vs := zs) klawsub_ag25 rfl hlc (bx5.row hlc)) rfl ?_
    refine L.gyes' (dj := 32) (b := _) rfl rfl g32 ?_
    refine L.ret (x_call klawsub_en49 rfl) rfl (below_ok _ _ b c _ _ _ hb hc) ?_
    rintro _ w35 ⟨rfl, hw⟩
    have hB := hB.carry hw; have ha := ha.carry hw; have hb := hb.carry hw; have hc := hc.carry hw; have bx3 := bx3.carry hw; have bx4 := bx4.carry hw; have bx5 := bx5.carry hw; have hj := hj.carry hw; have bx7 := bx7.carry hw; have hg32 := hg32.carry hw
    refine L.gyes' (dj := 32) (b := _) rfl rfl g32 ?_
    refine L.val (x_not rfl) rfl ?_
    refine L.nil ?_
    refine thn_n ⟨rfl, ?_, ?_, fun _ => rfl⟩
    ·exact hg32
    ·repeat (first | exact jeq.refl _ _ _ | refine jeq.upd rfl ?_ | refine jeq.jk rfl rfl ?_)
   ·intro g32
    refine L.gno (dj := 32) (b := _) rfl rfl g32 rfl ?_
    refine L.gno (dj := 32) (b := _) rfl rfl g32 rfl ?_
    refine L.gno (dj := 32) (b := _) rfl rfl g32 rfl ?_
    refine L.gno (dj := 32) (b := _) rfl rfl g32 rfl ?_
    refine L.nil (thn_n ⟨rfl, Gr.refl _ _, ?_⟩)
    refine ⟨?_, fun h => h.elim⟩
    repeat (first | exact jeq.refl _ _ _ | refine jeq.upd rfl ?_ | refine jeq.jk rfl rfl ?_)
   intro J32 w32 hw j32
   have hB := hB.carry hw; have ha := ha.carry hw; have hb := hb.carry hw; have hc := hc.carry hw; have bx3 := bx3.carry hw; have bx4 := bx4.carry hw; have bx5 := bx5.carry hw; have hj := hj.carry hw; have bx7 := bx7.carry hw
   refine L.val (x_or rfl j32) rfl ?_
   refine L.nil ?_
   refine thn_n ?_
   refine W.cond (b := _) rfl (fun g37 => ?_) (fun g37 => ?_)
   ·have h37 := g37
    refine W.seq ?_
    refine W.region ?_
    refine L.ret (x_call klawsub_en50 rfl) rfl (awake12 _) ?_
    rintro _ w38 ⟨rfl, hw⟩
    have hB := hB.carry hw; have ha := ha.carry hw; have hb := hb.carry hw; have hc := hc.carry hw; have bx3 := bx3.carry hw; have bx4 := bx4.carry hw; have bx5 := bx5.carry hw; have hj := hj.carry hw; have bx7 := bx7.carry hw
    refine L.val (x_as (v := .bool _) rfl) rfl ?_
    refine L.nil ?_
    refine thn_n ?_
    refine W.ret (thn_r (fin_mk (.inr rfl) ?_))
    exact ⟨rfl, hB⟩
   ·have h37 := g37
    have hac : belowR a c = true := by simp at g37; exact g37.1
    have hbc : belowR b c = true := by simp at g37; exact g37.2
    refine W.skip ?_
    refine thn_n ?_
    refine W.seq ?_
    refine W.region ?_
    refine L.val (x_mv (v := .bool _) rfl) rfl ?_
    refine L.val (x_mv (v := .bool _) rfl) rfl ?_
    refine' L.group 4 41 44 44 40 false rfl ?_ ?_ ?_
    rotate_left 1
    ·intro g40 hg40
     have h40 := g40
     refine L.gyes' (dj := 40) (b := _) rfl rfl g40 ?_
     refine L.val (x_ldn (vs := xs) klawsub_ag25 rfl hla (bx3.row hla)) rfl ?_
     refine L.gyes' (dj := 40) (b := _) rfl rfl g40 ?_
     refine L.val (x_ldn (vs := ys) klawsub_ag25 rfl hlb (bx4.row hlb)) rfl ?_
     refine L.gyes' (dj := 40) (b := _) rfl rfl g40 ?_
     refine L.ret (x_call klawsub_en51 rfl) rfl (small_ok _ _ a b _ _ _ ha hb) ?_
     rintro _ w43 ⟨rfl, hw⟩
     have hB := hB.carry hw; have ha := ha.carry hw; have hb := hb.carry hw; have hc := hc.carry hw; have bx3 := bx3.carry hw; have bx4 := bx4.carry hw; have bx5 := bx5.carry hw; have hj := hj.carry hw; have bx7 := bx7.carry hw; have hg40 := hg40.carry hw
     refine L.gyes' (dj := 40) (b := _) rfl rfl g40 ?_
     refine L.val (x_not rfl) rfl ?_
     refine L.nil ?_
     refine thn_n ⟨rfl, ?_, ?_, fun _ => rfl⟩
     ·exact hg40
     ·repeat (first | exact jeq.refl _ _ _ | refine jeq.upd rfl ?_ | refine jeq.jk rfl rfl ?_)
    ·intro g40
     refine L.gno (dj := 40) (b := _) rfl rfl g40 rfl ?_
     refine L.gno (dj := 40) (b := _) rfl rfl g40 rfl ?_
     refine L.gno (dj := 40) (b := _) rfl rfl g40 rfl ?_
     refine L.gno (dj := 40) (b := _) rfl rfl g40 rfl ?_
     refine L.nil (thn_n ⟨rfl, Gr.refl _ _, ?_⟩)
     refine ⟨?_, fun h => h.elim⟩
     repeat (first | exact jeq.refl _ _ _ | refine jeq.upd rfl ?_ | refine jeq.jk rfl rfl ?_)
    intro J40 w40 hw j40
    have hB := hB.carry hw; have ha := ha.carry hw; have hb := hb.carry hw; have hc := hc.carry hw; have bx3 := bx3.carry hw; have bx4 := bx4.carry hw; have bx5 := bx5.carry hw; have hj := hj.carry hw; have bx7 := bx7.carry hw
    refine L.val (x_or rfl j40) rfl ?_
    refine L.val (x_mv (v := .bool _) rfl) rfl ?_
    refine' L.group 7 47 53 53 46 true rfl ?_ ?_ ?_
    rotate_left 1
    ·intro g46 hg46
     have h46 := g46
     refine L.gyes' (dj := 46) (b := _) rfl rfl g46 ?_
     refine L.val (x_mv (v := .bool _) rfl) rfl ?_
     refine L.gyes' (dj := 46) (b := _) rfl rfl g46 ?_
     refine L.val (x_not rfl) rfl ?_
     refine L.gyes' (dj := 46) (b := _) rfl rfl g46 ?_
     refine L.val (x_mv (v := .bool _) rfl) rfl ?_
     refine' L.group 3 50 52 52 49 false rfl ?_ ?_ ?_
     rotate_left 1
     ·intro g49 hg49
      have h49 := (not_f g49)
      refine L.gyes' (dj := 49) (b := _) rfl rfl g49 ?_
      refine L.val (x_ldn (vs := cs12) klawsub_ag25 rfl hlj (bx7.row hlj)) rfl ?_
      refine L.gyes' (dj := 49) (b := _) rfl rfl g49 ?_
      refine L.val (x_ldn (vs := zs) klawsub_ag25 rfl hlc (bx5.row hlc)) rfl ?_
      refine L.gyes' (dj := 49) (b := _) rfl rfl g49 ?_
      refine L.ret (x_call klawsub_en49 rfl) rfl (below_ok _ _ _ c _ _ _ hj hc) ?_
      rintro _ w52 ⟨rfl, hw⟩
      have hB := hB.carry hw; have ha := ha.carry hw; have hb := hb.carry hw; have hc := hc.carry hw; have bx3 := bx3.carry hw; have bx4 := bx4.carry hw; have bx5 := bx5.carry hw; have hj := hj.carry hw; have bx7 := bx7.carry hw; have hg46 := hg46.carry hw; have hg49 := hg49.carry hw
      refine L.nil ?_
      refine thn_n ⟨rfl, ?_, ?_, fun _ => rfl⟩
      ·exact hg49
      ·repeat (first | exact jeq.refl _ _ _ | refine jeq.upd rfl ?_ | refine jeq.jk rfl rfl ?_)
     ·intro g49
      refine L.gno (dj := 49) (b := _) rfl rfl g49 rfl ?_
      refine L.gno (dj := 49) (b := _) rfl rfl g49 rfl ?_
      refine L.gno (dj := 49) (b := _) rfl rfl g49 rfl ?_
      refine L.nil (thn_n ⟨rfl, Gr.refl _ _, ?_⟩)
      refine ⟨?_, fun h => h.elim⟩
      repeat (first | exact jeq.refl _ _ _ | refine jeq.upd rfl ?_ | refine jeq.jk rfl rfl ?_)
     intro J49 w49 hw j49
     have hB := hB.carry hw; have ha := ha.carry hw; have hb := hb.carry hw; have hc := hc.carry hw; have bx3 := bx3.carry hw; have bx4 := bx4.carry hw; have bx5 := bx5.carry hw; have hj := hj.carry hw; have bx7 := bx7.carry hw; have hg46 := hg46.carry hw
     refine L.gyes' (dj := 46) (b := _) rfl rfl g46 ?_
     refine L.val (x_or rfl j49) rfl ?_
     refine L.nil ?_
     refine thn_n ⟨rfl, ?_, ?_, fun _ => rfl⟩
     ·exact hg46
     ·repeat (first | exact jeq.refl _ _ _ | refine jeq.upd rfl ?_ | refine jeq.jk rfl rfl ?_)
    ·intro g46
     refine L.gno (dj := 46) (b := _) rfl rfl g46 rfl ?_
     refine L.gno (dj := 46) (b := _) rfl rfl g46 rfl ?_
     refine L.gno (dj := 46) (b := _) rfl rfl g46 rfl ?_
     refine L.gun (dj := 49) rfl rfl rfl ?_
     refine L.gun (dj := 49) rfl rfl rfl ?_
     refine L.gun (dj := 49) rfl rfl rfl ?_
     refine L.gno (dj := 46) (b := _) rfl rfl g46 rfl ?_
     refine L.nil (thn_n ⟨rfl, Gr.refl _ _, ?_⟩)
     refine ⟨?_, fun h => h.elim⟩
     repeat (first | exact jeq.refl _ _ _ | refine jeq.upd rfl ?_ | refine jeq.jk rfl rfl ?_)
    intro J46 w46 hw j46
    have hB := hB.carry hw; have ha := ha.carry hw; have hb := hb.carry hw; have hc := hc.carry hw; have bx3 := bx3.carry hw; have bx4 := bx4.carry hw; have bx5 := bx5.carry hw; have hj := hj.carry hw; have bx7 := bx7.carry hw
    refine L.val (x_and rfl j46) rfl ?_
    refine L.val (x_mv (v := .bool _) rfl) rfl ?_
    refine' L.group 1 56 56 56 55 true rfl ?_ ?_ ?_
    rotate_left 1
    ·intro g55 hg55
     have h55 := g55
     refine L.gyes' (dj := 55) (b := _) rfl rfl g55 ?_
     refine L.ret (x_call klawsub_en50 rfl) rfl (awake12 _) ?_
     rintro _ w56 ⟨rfl, hw⟩
     have hB := hB.carry hw; have ha := ha.carry hw; have hb := hb.carry hw; have hc := hc.carry hw; have bx3 := bx3.carry hw; have bx4 := bx4.carry hw; have bx5 := bx5.carry hw; have hj := hj.carry hw; have bx7 := bx7.carry hw; have hg55 := hg55.carry hw
     refine L.nil ?_
     refine thn_n ⟨rfl, ?_, ?_, fun _ => rfl⟩
     ·exact hg55
     ·repeat (first | exact jeq.refl _ _ _ | refine jeq.upd rfl ?_ | refine jeq.jk rfl rfl ?_)
    ·intro g55
     refine L.gno (dj := 55) (b := _) rfl rfl g55 rfl ?_
     refine L.nil (thn_n ⟨rfl, Gr.refl _ _, ?_⟩)
     refine ⟨?_, fun h => h.elim⟩
     repeat (first | exact jeq.refl _ _ _ | refine jeq.upd rfl ?_ | refine jeq.jk rfl rfl ?_)
    intro J55 w55 hw j55
    have hB := hB.carry hw; have ha := ha.carry hw; have hb := hb.carry hw; have hc := hc.carry hw; have bx3 := bx3.carry hw; have bx4 := bx4.carry hw; have bx5 := bx5.carry hw; have hj := hj.carry hw; have bx7 := bx7.carry hw
    refine L.val (x_and rfl j55) rfl ?_
    refine L.val (x_as (v := .bool _) rfl) rfl ?_
    refine L.nil ?_
    refine thn_n ?_
    refine W.ret (fin_mk (.inr rfl) ?_)
    refine ⟨vb ?_, hB⟩
    obtain ⟨l1, l2, -⟩ := jm_least (up := true) (a := a) (b := b) (c := c) hac hbc
    have l1 : (jmS true a b).2 = true → belowR (jmS true a b).1 c = true := l1
    by_cases e1 : (jmS true a b).2 = true
    · simp [e1, l1 e1]
    · have e2 : smallS a b = false := by
        cases hs : smallS a b
        · rfl
        · exact absurd (l2 (small_open hs).1 (small_open hs).2) e1
      simp [e1, e2]
theorem law_greatest (A0 B0 C0 : Nat → Prop) (a b c : Sh) (xs ys zs : List Value) (w : World) (ha0 : ShC A0 w xs a) (hb0 : ShC B0 w ys b) (hc0 : ShC C0 w zs c) :
    Ret Try.prog 13 #[.agg xs.toArray, .agg ys.toArray, .agg zs.toArray] w fun v w' => v = .bool true ∧ Bel w w' := by
  obtain ⟨A, ha, hA⟩ : ∃ A1 : Nat → Prop, ShC A1 w xs a ∧ (∀ k, w.heap.size ≤ k → A1 k) := ⟨_, ha0.up, fun _ => .inr⟩
  obtain ⟨B, hb, hB1⟩ : ∃ A1 : Nat → Prop, ShC A1 w ys b ∧ (∀ k, w.heap.size ≤ k → A1 k) := ⟨_, hb0.up, fun _ => .inr⟩
  obtain ⟨C, hc, hC⟩ : ∃ A1 : Nat → Prop, ShC A1 w zs c ∧ (∀ k, w.heap.size ≤ k → A1 k) := ⟨_, hc0.up, fun _ => .inr⟩
  clear ha0 hb0 hc0
  have hla := ha.len
  have hlb := hb.len
  have hlc := hc.len
  refine ret_of_W Try.func13 rfl (Nat.le_of_ble_eq_true rfl) (res1 rfl) ?_
  have hB := Gr.refl (fun _ => False) w
  refine W.seq ?_
  refine W.region ?_
  refine L.box (cs := xs) rfl rfl (fun w3 bx3 hw hz3 => ?_)
  have hB := hB.carry hw; have ha := ha.carry hw; have hb := hb.carry hw; have hc := hc.carry hw
  refine L.box (cs := ys) rfl rfl (fun w4 bx4 hw hz4 => ?_)
  have hB := hB.carry hw; have ha := ha.carry hw; have hb := hb.carry hw; have hc := hc.carry hw; have bx3 := bx3.carry hw
  refine L.box (cs := zs) rfl rfl (fun w5 bx5 hw hz5 => ?_)
  have hB := hB.carry hw; have ha := ha.carry hw; have hb := hb.carry hw; have hc := hc.carry hw; have bx3 := bx3.carry hw; have bx4 := bx4.carry hw
  refine L.val (x_as (v := .bool _) rfl) rfl ?_
  refine L.nil ?_
  refine thn_n ?_
  refine W.seq ?_
  refine W.region ?_
  refine L.val (x_ldn (vs := xs) klawsub_ag25 rfl hla (bx3.row hla)) rfl ?_
  refine L.val (x_ldn (vs := ys) klawsub_ag25 rfl hlb (bx4.row hlb)) rfl ?_
  refine L.ret (x_call klawsub_en52 rfl) rfl (meet_okJ _ _ a b _ _ _ ha hb) ?_
  rintro _ w12 ⟨cs12, rfl, hj, hw⟩
  have hB := hB.carry hw; have ha := ha.carry hw; have hb := hb.carry hw; have hc := hc.carry hw; have bx3 := bx3.carry hw; have bx4 := bx4.carry hw; have bx5 := bx5.carry hw
  have hlj := hj.len
  have hj := hj.up
  have hsz12 := hB.size
  have hx3 := bx3.lt
  have hx4 := bx4.lt
  have hx5 := bx5.lt
  refine L.val (x_mv (v := _) rfl) rfl ?_
  refine L.val (x_ext (v := _) rfl rfl) rfl ?_
  refine L.val (x_ext (v := .bool _) rfl rfl) rfl ?_
  refine L.alloc (cs := [Value.int .i64 0, S [], S [], Value.slice none 0 0, Value.slice none 0 0]) klawsub_zr25 rfl rfl (fun w7 bx7 hw hz7 => ?_)
  have hB := hB.carry hw; have ha := ha.carry hw; have hb := hb.carry hw; have hc := hc.carry hw; have bx3 := bx3.carry hw; have bx4 := bx4.carry hw; have bx5 := bx5.carry hw; have hj := hj.carry hw
  refine L.setRow klawsub_ag25 rfl rfl bx7 rfl hlj hj.one (fun wl12 bx7 hw hzl12 => ?_)
  have hsz := hB.size
  have hB := hB.set hw (by omega); have ha := ha.carryR hw (fun j e => hA j (by have e : j = _ := e; omega)); have hb := hb.carryR hw (fun j e => hB1 j (by have e : j = _ := e; omega)); have hc := hc.carryR hw (fun j e => hC j (by have e : j = _ := e; omega)); have bx3 := bx3.carryR hw (by omega); have bx4 := bx4.carryR hw (by omega); have bx5 := bx5.carryR hw (by omega); have hj := hj.carryR hw (fun j e => .inr (by have e : j = _ := e; omega))
  refine L.val (x_as (v := .bool _) rfl) rfl ?_
  refine L.nil ?_
  refine thn_n ?_
  refine W.seq ?_
  refine W.seq ?_
  refine W.region ?_
  refine L.val (x_mv (v := .bool _) rfl) rfl ?_
  refine L.val (x_mv (v := .bool _) rfl) rfl ?_
  refine' L.group 10 17 26 26 16 true rfl ?_ ?_ ?_
  rotate_left 1
  ·intro g16 hg16
   have h16 := g16
   refine L.gyes' (dj := 16) (b := _) rfl rfl g16 ?_
   refine L.val (x_ldn (vs := cs12) klawsub_ag25 rfl hlj (bx7.row hlj)) rfl ?_
   refine L.gyes' (dj := 16) (b := _) rfl rfl g16 ?_
   refine L.val (x_ldn (vs := xs) klawsub_ag25 rfl hla (bx3.row hla)) rfl ?_
   refine L.gyes' (dj := 16) (b := _) rfl rfl g16 ?_
   refine L.ret (x_call klawsub_en49 rfl) rfl (below_ok _ _ _ a _ _ _ hj ha) ?_
   rintro _ w19 ⟨rfl, hw⟩
   have hB := hB.carry hw; have ha := ha.carry hw; have hb := hb.carry hw; have hc := hc.carry hw; have bx3 := bx3.carry hw; have bx4 := bx4.carry hw; have bx5 := bx5.carry hw; have hj := hj.carry hw; have bx7 := bx7.carry hw; have hg16 := hg16.carry hw
   refine L.gyes' (dj := 16) (b := _) rfl rfl g16 ?_
   refine L.val (x_not rfl) rfl ?_
   refine L.gyes' (dj := 16) (b := _) rfl rfl g16 ?_
   refine L.val (x_mv (v := .bool _) rfl) rfl ?_
   refine' L.group 4 22 25 25 21 false rfl ?_ ?_ ?_
   rotate_left 1
   ·intro g21 hg21
    have h21 := (not_f g21)
    refine L.gyes' (dj := 21) (b := _) rfl rfl g21 ?_
    refine L.val (x_ldn (vs := cs12) klawsub_ag25 rfl hlj (bx7.row hlj)) rfl ?_
    refine L.gyes' (dj := 21) (b := _) rfl rfl g21 ?_
    refine L.val (x_ldn (vs := ys) klawsub_ag25 rfl hlb (bx4.row hlb)) rfl ?_
    refine L.gyes' (dj := 21) (b := _) rfl rfl g21 ?_
    refine L.ret (x_call klawsub_en49 rfl) rfl (below_ok _ _ _ b _ _ _ hj hb) ?_
    rintro _ w24 ⟨rfl, hw⟩
    have hB := hB.carry hw; have ha := ha.carry hw; have hb := hb.carry hw; have hc := hc.carry hw; have bx3 := bx3.carry hw; have bx4 := bx4.carry hw; have bx5 := bx5.carry hw; have hj := hj.carry hw; have bx7 := bx7.carry hw; have hg16 := hg16.carry hw; have hg21 := hg21.carry hw
    refine L.gyes' (dj := 21) (b := _) rfl rfl g21 ?_
    refine L.val (x_not rfl) rfl ?_
    refine L.nil ?_
    refine thn_n ⟨rfl, ?_, ?_, fun _ => rfl⟩
    ·exact hg21
    ·repeat (first | exact jeq.refl _ _ _ | refine jeq.upd rfl ?_ | refine jeq.jk rfl rfl ?_)
   ·intro g21
    refine L.gno (dj := 21) (b := _) rfl rfl g21 rfl ?_
    refine L.gno (dj := 21) (b := _) rfl rfl g21 rfl ?_
    refine L.gno (dj := 21) (b := _) rfl rfl g21 rfl ?_
    refine L.gno (dj := 21) (b := _) rfl rfl g21 rfl ?_
    refine L.nil (thn_n ⟨rfl, Gr.refl _ _, ?_⟩)
    refine ⟨?_, fun h => h.elim⟩
    repeat (first | exact jeq.refl _ _ _ | refine jeq.upd rfl ?_ | refine jeq.jk rfl rfl ?_)
   intro J21 w21 hw j21
   have hB := hB.carry hw; have ha := ha.carry hw; have hb := hb.carry hw; have hc := hc.carry hw; have bx3 := bx3.carry hw; have bx4 := bx4.carry hw; have bx5 := bx5.carry hw; have hj := hj.carry hw; have bx7 := bx7.carry hw; have hg16 := hg16.carry hw
   refine L.gyes' (dj := 16) (b := _) rfl rfl g16 ?_
   refine L.val (x_or rfl j21) rfl ?_
   refine L.nil ?_
   refine thn_n ⟨rfl, ?_, ?_, fun _ => rfl⟩
   ·exact hg16
   ·repeat (first | exact jeq.refl _ _ _ | refine jeq.upd rfl ?_ | refine jeq.jk rfl rfl ?_)
  ·intro g16
   refine L.gno (dj := 16) (b := _) rfl rfl g16 rfl ?_
   refine L.gno (dj := 16) (b := _) rfl rfl g16 rfl ?_
   refine L.gno (dj := 16) (b := _) rfl rfl g16 rfl ?_
   refine L.gno (dj := 16) (b := _) rfl rfl g16 rfl ?_
   refine L.gno (dj := 16) (b := _) rfl rfl g16 rfl ?_
   refine L.gun (dj := 21) rfl rfl rfl ?_
   refine L.gun (dj := 21) rfl rfl rfl ?_
   refine L.gun (dj := 21) rfl rfl rfl ?_
   refine L.gun (dj := 21) rfl rfl rfl ?_
   refine L.gno (dj := 16) (b := _) rfl rfl g16 rfl ?_
   refine L.nil (thn_n ⟨rfl, Gr.refl _ _, ?_⟩)
   refine ⟨?_, fun h => h.elim⟩
   repeat (first | exact jeq.refl _ _ _ | refine jeq.upd rfl ?_ | refine jeq.jk rfl rfl ?_)
  intro J16 w16 hw j16
  have hB := hB.carry hw; have ha := ha.carry hw; have hb := hb.carry hw; have hc := hc.carry hw; have bx3 := bx3.carry hw; have bx4 := bx4.carry hw; have bx5 := bx5.carry hw; have hj := hj.carry hw; have bx7 := bx7.carry hw
  refine L.val (x_and rfl j16) rfl ?_
  refine L.nil ?_
  refine thn_n ?_
  refine W.cond (b := _) rfl (fun g27 => ?_) (fun g27 => ?_)
  ·have h27 := g27
   exfalso
   have hbd : (jmS false a b).2 = true → belowR (jmS false a b).1 a = true ∧ belowR (jmS false a b).1 b = true := jm_bounds
   by_cases e1 : (jmS false a b).2 = true
   · simp [e1, hbd e1] at g27
   · simp [e1] at g27
  ·have h27 := g27
   refine W.skip ?_
   refine thn_n ?_
   refine W.seq ?_
   refine W.seq ?_
   refine W.region ?_
   refine L.val (x_ldn (vs := zs) klawsub_ag25 rfl hlc (bx5.row hlc)) rfl ?_
   refine L.val (x_ldn (vs := xs) klawsub_ag25 rfl hla (bx3.row hla)) rfl ?_
   refine L.ret (x_call klawsub_en49 rfl) rfl (below_ok _ _ c a _ _ _ hc ha) ?_
   rintro _ w30 ⟨rfl, hw⟩
   have hB := hB.carry hw; have ha := ha.carry hw; have hb := hb.carry hw; have hc := hc.carry hw; have bx3 := bx3.carry hw; have bx4 := bx4.carry hw; have bx5 := bx5.carry hw; have hj := hj.carry hw; have bx7 := bx7.carry hw
   refine L.val (x_not rfl) rfl ?_
   refine L.val (x_mv (v := .bool _) rfl) rfl ?_
   refine' L.group 4 33 36 36 32 false rfl ?_ ?_ ?_
   rotate_left 1
   ·intro g32 hg32
    have h32 := (not_f g32)
    refine L.gyes' (dj := 32) (b := _) rfl rfl g32 ?_
    refine L.val (x_ldn (vs := zs) klawsub_ag25 rfl hlc (bx5.row hlc)) rfl ?_
    refine L.gyes' (dj := 32) (b := _) rfl rfl g32 ?_
    refine L.val (x_ldn (vs := ys) klawsub_ag25 rfl hlb (bx4.row hlb)) rfl ?_
    refine L.gyes' (dj := 32) (b := _) rfl rfl g32 ?_
    refine L.ret (x_call klawsub_en49 rfl) rfl (below_ok _ _ c b _ _ _ hc hb) ?_
    rintro _ w35 ⟨rfl, hw⟩
    have hB := hB.carry hw; have ha := ha.carry hw; have hb := hb.carry hw; have hc := hc.carry hw; have bx3 := bx3.carry hw; have bx4 := bx4.carry hw; have bx5 := bx5.carry hw; have hj := hj.carry hw; have bx7 := bx7.carry hw; have hg32 := hg32.carry hw
    refine L.gyes' (dj := 32) (b := _) rfl rfl g32 ?_
    refine L.val (x_not rfl) rfl ?_
    refine L.nil ?_
    refine thn_n ⟨rfl, ?_, ?_, fun _ => rfl⟩
    ·exact hg32
    ·repeat (first | exact jeq.refl _ _ _ | refine jeq.upd rfl ?_ | refine jeq.jk rfl rfl ?_)
   ·intro g32
    refine L.gno (dj := 32) (b := _) rfl rfl g32 rfl ?_
    refine L.gno (dj := 32) (b := _) rfl rfl g32 rfl ?_
    refine L.gno (dj := 32) (b := _) rfl rfl g32 rfl ?_
    refine L.gno (dj := 32) (b := _) rfl rfl g32 rfl ?_
    refine L.nil (thn_n ⟨rfl, Gr.refl _ _, ?_⟩)
    refine ⟨?_, fun h => h.elim⟩
    repeat (first | exact jeq.refl _ _ _ | refine jeq.upd rfl ?_ | refine jeq.jk rfl rfl ?_)
   intro J32 w32 hw j32
   have hB := hB.carry hw; have ha := ha.carry hw; have hb := hb.carry hw; have hc := hc.carry hw; have bx3 := bx3.carry hw; have bx4 := bx4.carry hw; have bx5 := bx5.carry hw; have hj := hj.carry hw; have bx7 := bx7.carry hw
   refine L.val (x_or rfl j32) rfl ?_
   refine L.nil ?_
   refine thn_n ?_
   refine W.cond (b := _) rfl (fun g37 => ?_) (fun g37 => ?_)
   ·have h37 := g37
    refine W.seq ?_
    refine W.region ?_
    refine L.ret (x_call klawsub_en50 rfl) rfl (awake12 _) ?_
    rintro _ w38 ⟨rfl, hw⟩
    have hB := hB.carry hw; have ha := ha.carry hw; have hb := hb.carry hw; have hc := hc.carry hw; have bx3 := bx3.carry hw; have bx4 := bx4.carry hw; have bx5 := bx5.carry hw; have hj := hj.carry hw; have bx7 := bx7.carry hw
    refine L.val (x_as (v := .bool _) rfl) rfl ?_
    refine L.nil ?_
    refine thn_n ?_
    refine W.ret (thn_r (fin_mk (.inr rfl) ?_))
    exact ⟨rfl, hB⟩
   ·have h37 := g37
    have hac : belowR c a = true := by simp at g37; exact g37.1
    have hbc : belowR c b = true := by simp at g37; exact g37.2
    refine W.skip ?_
    refine thn_n ?_
    refine W.seq ?_
    refine W.region ?_
    refine L.val (x_mv (v := .bool _) rfl) rfl ?_
    refine L.val (x_mv (v := .bool _) rfl) rfl ?_
    refine' L.group 4 41 44 44 40 false rfl ?_ ?_ ?_
    rotate_left 1
    ·intro g40 hg40
     have h40 := g40
     refine L.gyes' (dj := 40) (b := _) rfl rfl g40 ?_
     refine L.val (x_ldn (vs := xs) klawsub_ag25 rfl hla (bx3.row hla)) rfl ?_
     refine L.gyes' (dj := 40) (b := _) rfl rfl g40 ?_
     refine L.val (x_ldn (vs := ys) klawsub_ag25 rfl hlb (bx4.row hlb)) rfl ?_
     refine L.gyes' (dj := 40) (b := _) rfl rfl g40 ?_
     refine L.ret (x_call klawsub_en51 rfl) rfl (small_ok _ _ a b _ _ _ ha hb) ?_
     rintro _ w43 ⟨rfl, hw⟩
     have hB := hB.carry hw; have ha := ha.carry hw; have hb := hb.carry hw; have hc := hc.carry hw; have bx3 := bx3.carry hw; have bx4 := bx4.carry hw; have bx5 := bx5.carry hw; have hj := hj.carry hw; have bx7 := bx7.carry hw; have hg40 := hg40.carry hw
     refine L.gyes' (dj := 40) (b := _) rfl rfl g40 ?_
     refine L.val (x_not rfl) rfl ?_
     refine L.nil ?_
     refine thn_n ⟨rfl, ?_, ?_, fun _ => rfl⟩
     ·exact hg40
     ·repeat (first | exact jeq.refl _ _ _ | refine jeq.upd rfl ?_ | refine jeq.jk rfl rfl ?_)
    ·intro g40
     refine L.gno (dj := 40) (b := _) rfl rfl g40 rfl ?_
     refine L.gno (dj := 40) (b := _) rfl rfl g40 rfl ?_
     refine L.gno (dj := 40) (b := _) rfl rfl g40 rfl ?_
     refine L.gno (dj := 40) (b := _) rfl rfl g40 rfl ?_
     refine L.nil (thn_n ⟨rfl, Gr.refl _ _, ?_⟩)
     refine ⟨?_, fun h => h.elim⟩
     repeat (first | exact jeq.refl _ _ _ | refine jeq.upd rfl ?_ | refine jeq.jk rfl rfl ?_)
    intro J40 w40 hw j40
    have hB := hB.carry hw; have ha := ha.carry hw; have hb := hb.carry hw; have hc := hc.carry hw; have bx3 := bx3.carry hw; have bx4 := bx4.carry hw; have bx5 := bx5.carry hw; have hj := hj.carry hw; have bx7 := bx7.carry hw
    refine L.val (x_or rfl j40) rfl ?_
    refine L.val (x_mv (v := .bool _) rfl) rfl ?_
    refine' L.group 7 47 53 53 46 true rfl ?_ ?_ ?_
    rotate_left 1
    ·intro g46 hg46
     have h46 := g46
     refine L.gyes' (dj := 46) (b := _) rfl rfl g46 ?_
     refine L.val (x_mv (v := .bool _) rfl) rfl ?_
     refine L.gyes' (dj := 46) (b := _) rfl rfl g46 ?_
     refine L.val (x_not rfl) rfl ?_
     refine L.gyes' (dj := 46) (b := _) rfl rfl g46 ?_
     refine L.val (x_mv (v := .bool _) rfl) rfl ?_
     refine' L.group 3 50 52 52 49 false rfl ?_ ?_ ?_
     rotate_left 1
     ·intro g49 hg49
      have h49 := (not_f g49)
      refine L.gyes' (dj := 49) (b := _) rfl rfl g49 ?_
      refine L.val (x_ldn (vs := zs) klawsub_ag25 rfl hlc (bx5.row hlc)) rfl ?_
      refine L.gyes' (dj := 49) (b := _) rfl rfl g49 ?_
      refine L.val (x_ldn (vs := cs12) klawsub_ag25 rfl hlj (bx7.row hlj)) rfl ?_
      refine L.gyes' (dj := 49) (b := _) rfl rfl g49 ?_
      refine L.ret (x_call klawsub_en49 rfl) rfl (below_ok _ _ c _ _ _ _ hc hj) ?_
      rintro _ w52 ⟨rfl, hw⟩
      have hB := hB.carry hw; have ha := ha.carry hw; have hb := hb.carry hw; have hc := hc.carry hw; have bx3 := bx3.carry hw; have bx4 := bx4.carry hw; have bx5 := bx5.carry hw; have hj := hj.carry hw; have bx7 := bx7.carry hw; have hg46 := hg46.carry hw; have hg49 := hg49.carry hw
      refine L.nil ?_
      refine thn_n ⟨rfl, ?_, ?_, fun _ => rfl⟩
      ·exact hg49
      ·repeat (first | exact jeq.refl _ _ _ | refine jeq.upd rfl ?_ | refine jeq.jk rfl rfl ?_)
     ·intro g49
      refine L.gno (dj := 49) (b := _) rfl rfl g49 rfl ?_
      refine L.gno (dj := 49) (b := _) rfl rfl g49 rfl ?_
      refine L.gno (dj := 49) (b := _) rfl rfl g49 rfl ?_
      refine L.nil (thn_n ⟨rfl, Gr.refl _ _, ?_⟩)
      refine ⟨?_, fun h => h.elim⟩
      repeat (first | exact jeq.refl _ _ _ | refine jeq.upd rfl ?_ | refine jeq.jk rfl rfl ?_)
     intro J49 w49 hw j49
     have hB := hB.carry hw; have ha := ha.carry hw; have hb := hb.carry hw; have hc := hc.carry hw; have bx3 := bx3.carry hw; have bx4 := bx4.carry hw; have bx5 := bx5.carry hw; have hj := hj.carry hw; have bx7 := bx7.carry hw; have hg46 := hg46.carry hw
     refine L.gyes' (dj := 46) (b := _) rfl rfl g46 ?_
     refine L.val (x_or rfl j49) rfl ?_
     refine L.nil ?_
     refine thn_n ⟨rfl, ?_, ?_, fun _ => rfl⟩
     ·exact hg46
     ·repeat (first | exact jeq.refl _ _ _ | refine jeq.upd rfl ?_ | refine jeq.jk rfl rfl ?_)
    ·intro g46
     refine L.gno (dj := 46) (b := _) rfl rfl g46 rfl ?_
     refine L.gno (dj := 46) (b := _) rfl rfl g46 rfl ?_
     refine L.gno (dj := 46) (b := _) rfl rfl g46 rfl ?_
     refine L.gun (dj := 49) rfl rfl rfl ?_
     refine L.gun (dj := 49) rfl rfl rfl ?_
     refine L.gun (dj := 49) rfl rfl rfl ?_
     refine L.gno (dj := 46) (b := _) rfl rfl g46 rfl ?_
     refine L.nil (thn_n ⟨rfl, Gr.refl _ _, ?_⟩)
     refine ⟨?_, fun h => h.elim⟩
     repeat (first | exact jeq.refl _ _ _ | refine jeq.upd rfl ?_ | refine jeq.jk rfl rfl ?_)
    intro J46 w46 hw j46
    have hB := hB.carry hw; have ha := ha.carry hw; have hb := hb.carry hw; have hc := hc.carry hw; have bx3 := bx3.carry hw; have bx4 := bx4.carry hw; have bx5 := bx5.carry hw; have hj := hj.carry hw; have bx7 := bx7.carry hw
    refine L.val (x_and rfl j46) rfl ?_
    refine L.val (x_mv (v := .bool _) rfl) rfl ?_
    refine' L.group 1 56 56 56 55 true rfl ?_ ?_ ?_
    rotate_left 1
    ·intro g55 hg55
     have h55 := g55
     refine L.gyes' (dj := 55) (b := _) rfl rfl g55 ?_
     refine L.ret (x_call klawsub_en50 rfl) rfl (awake12 _) ?_
     rintro _ w56 ⟨rfl, hw⟩
     have hB := hB.carry hw; have ha := ha.carry hw; have hb := hb.carry hw; have hc := hc.carry hw; have bx3 := bx3.carry hw; have bx4 := bx4.carry hw; have bx5 := bx5.carry hw; have hj := hj.carry hw; have bx7 := bx7.carry hw; have hg55 := hg55.carry hw
     refine L.nil ?_
     refine thn_n ⟨rfl, ?_, ?_, fun _ => rfl⟩
     ·exact hg55
     ·repeat (first | exact jeq.refl _ _ _ | refine jeq.upd rfl ?_ | refine jeq.jk rfl rfl ?_)
    ·intro g55
     refine L.gno (dj := 55) (b := _) rfl rfl g55 rfl ?_
     refine L.nil (thn_n ⟨rfl, Gr.refl _ _, ?_⟩)
     refine ⟨?_, fun h => h.elim⟩
     repeat (first | exact jeq.refl _ _ _ | refine jeq.upd rfl ?_ | refine jeq.jk rfl rfl ?_)
    intro J55 w55 hw j55
    have hB := hB.carry hw; have ha := ha.carry hw; have hb := hb.carry hw; have hc := hc.carry hw; have bx3 := bx3.carry hw; have bx4 := bx4.carry hw; have bx5 := bx5.carry hw; have hj := hj.carry hw; have bx7 := bx7.carry hw
    refine L.val (x_and rfl j55) rfl ?_
    refine L.val (x_as (v := .bool _) rfl) rfl ?_
    refine L.nil ?_
    refine thn_n ?_
    refine W.ret (fin_mk (.inr rfl) ?_)
    refine ⟨vb ?_, hB⟩
    obtain ⟨l1, l2, -⟩ := jm_least (up := false) (a := a) (b := b) (c := c) hac hbc
    have l1 : (jmS false a b).2 = true → belowR c (jmS false a b).1 = true := l1
    by_cases e1 : (jmS false a b).2 = true
    · simp [e1, l1 e1]
    · have e2 : smallS a b = false := by
        cases hs : smallS a b
        · rfl
        · exact absurd (l2 (small_open hs).1 (small_open hs).2) e1
      simp [e1, e2]
end Go.Gx
