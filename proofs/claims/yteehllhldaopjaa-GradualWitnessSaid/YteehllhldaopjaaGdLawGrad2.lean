/- The laws GradualWitness and GradualPlain. Conditions: none. -/
import Derived.Test.YteehllhldaopjaaGdAwake13
import Derived.Test.YteehllhldaopjaaGdBelow
import Derived.Test.YteehllhldaopjaaGdLaw13
import Derived.Test.YteehllhldaopjaaGdFree
namespace Go.Gx
open Go.Proofs
theorem klawgrad2_ag25 : aggT Try.prog 25 5 = true := by kernel_rfl
theorem klawgrad2_en41 : Go.Proofs.Enters Try.prog 41 := Go.Proofs.enters_of Try.func41 (by kernel_rfl) rfl
theorem klawgrad2_en49 : Go.Proofs.Enters Try.prog 49 := Go.Proofs.enters_of Try.func49 (by kernel_rfl) rfl
theorem klawgrad2_en53 : Go.Proofs.Enters Try.prog 53 := Go.Proofs.enters_of Try.func53 (by kernel_rfl) rfl
theorem klawgrad2_en55 : Go.Proofs.Enters Try.prog 55 := Go.Proofs.enters_of Try.func55 (by kernel_rfl) rfl
theorem klawgrad2_en56 : Go.Proofs.Enters Try.prog 56 := Go.Proofs.enters_of Try.func56 (by kernel_rfl) rfl
theorem klawgrad2_en57 : Go.Proofs.Enters Try.prog 57 := Go.Proofs.enters_of Try.func57 (by kernel_rfl) rfl
theorem klawgrad2_en58 : Go.Proofs.Enters Try.prog 58 := Go.Proofs.enters_of Try.func58 (by kernel_rfl) rfl
theorem klawgrad2_en59 : Go.Proofs.Enters Try.prog 59 := Go.Proofs.enters_of Try.func59 (by kernel_rfl) rfl
theorem klawgrad2_en60 : Go.Proofs.Enters Try.prog 60 := Go.Proofs.enters_of Try.func60 (by kernel_rfl) rfl
theorem klawgrad2_mixed : Try.prog.follows .mixedOrders = true := by kernel_rfl
theorem klawgrad2_zr25 : (Try.prog.info? 25).bind (·.zero) = some (Value.agg [Value.int .i64 0, S [], S [], Value.slice none 0 0, Value.slice none 0 0].toArray) := by kernel_rfl
theorem law_plain (A B : Nat → Prop) (a b : Sh) (xs ys : List Value) (w : World) (ha : ShC A w xs a) (hb : ShC B w ys b) :
    Ret Try.prog 22 #[.agg xs.toArray, .agg ys.toArray] w fun v w' => v = .bool true ∧ Bel w w' := by
  have hla := ha.len
  have hlb := hb.len
  refine ret_of_W Try.func22 rfl (Nat.le_of_ble_eq_true rfl) (res1 rfl) ?_
  have hB := Gr.refl (fun _ => False) w
  refine W.seq ?_
  refine W.region ?_
  refine L.box (cs := xs) rfl rfl (fun w2 bx2 hw hz2 => ?_)
  have hB := hB.carry hw; have ha := ha.carry hw; have hb := hb.carry hw
  refine L.box (cs := ys) rfl rfl (fun w3 bx3 hw hz3 => ?_)
  have hB := hB.carry hw; have ha := ha.carry hw; have hb := hb.carry hw; have bx2 := bx2.carry hw
  refine L.val (x_as (v := .bool _) rfl) rfl ?_
  refine L.nil ?_
  refine thn_n ?_
  refine W.seq ?_
  refine W.seq ?_
  refine W.region ?_
  refine L.val (x_ldn (vs := xs) klawgrad2_ag25 rfl hla (bx2.row hla)) rfl ?_
  refine L.ret (x_call klawgrad2_en60 rfl) rfl (plain_okG _ a _ _ ha) ?_
  rintro _ w6 ⟨rfl, hw⟩
  have hB := hB.carry hw; have ha := ha.carry hw; have hb := hb.carry hw; have bx2 := bx2.carry hw; have bx3 := bx3.carry hw
  refine L.val (x_not rfl) rfl ?_
  refine L.val (x_mv (v := .bool _) rfl) rfl ?_
  refine' L.group 3 9 11 11 8 false rfl ?_ ?_ ?_
  rotate_left 1
  ·intro g8 hg8
   have h8 := (not_f g8)
   refine L.gyes' (dj := 8) (b := _) rfl rfl g8 ?_
   refine L.val (x_ldn (vs := ys) klawgrad2_ag25 rfl hlb (bx3.row hlb)) rfl ?_
   refine L.gyes' (dj := 8) (b := _) rfl rfl g8 ?_
   refine L.ret (x_call klawgrad2_en60 rfl) rfl (plain_okG _ b _ _ hb) ?_
   rintro _ w10 ⟨rfl, hw⟩
   have hB := hB.carry hw; have ha := ha.carry hw; have hb := hb.carry hw; have bx2 := bx2.carry hw; have bx3 := bx3.carry hw; have hg8 := hg8.carry hw
   refine L.gyes' (dj := 8) (b := _) rfl rfl g8 ?_
   refine L.val (x_not rfl) rfl ?_
   refine L.nil ?_
   refine thn_n ⟨rfl, ?_, ?_, fun _ => rfl⟩
   ·exact hg8
   ·repeat (first | exact jeq.refl _ _ _ | refine jeq.upd rfl ?_ | refine jeq.jk rfl rfl ?_)
  ·intro g8
   refine L.gno (dj := 8) (b := _) rfl rfl g8 rfl ?_
   refine L.gno (dj := 8) (b := _) rfl rfl g8 rfl ?_
   refine L.gno (dj := 8) (b := _) rfl rfl g8 rfl ?_
   refine L.nil (thn_n ⟨rfl, Gr.refl _ _, ?_⟩)
   refine ⟨?_, fun h => h.elim⟩
   repeat (first | exact jeq.refl _ _ _ | refine jeq.upd rfl ?_ | refine jeq.jk rfl rfl ?_)
  intro J8 w8 hw j8
  have hB := hB.carry hw; have ha := ha.carry hw; have hb := hb.carry hw; have bx2 := bx2.carry hw; have bx3 := bx3.carry hw
  refine L.val (x_or rfl j8) rfl ?_
  refine L.nil ?_
  refine thn_n ?_
  refine W.cond (b := _) rfl (fun g12 => ?_) (fun g12 => ?_)
  ·have h12 := g12
   refine W.seq ?_
   refine W.region ?_
   refine L.ret (x_call klawgrad2_en56 rfl) rfl (awake13 _) ?_
   rintro _ w13 ⟨rfl, hw⟩
   have hB := hB.carry hw; have ha := ha.carry hw; have hb := hb.carry hw; have bx2 := bx2.carry hw; have bx3 := bx3.carry hw
   refine L.val (x_as (v := .bool _) rfl) rfl ?_
   refine L.nil ?_
   refine thn_n ?_
   refine W.ret (thn_r (fin_mk (.inr rfl) ?_))
   exact ⟨rfl, hB⟩
  ·have h12 := g12
   have hpa : (decide (checkS a = 0) && a.allB notAny) = true := by simp only [Bool.or_eq_false_iff, Bool.not_eq_false'] at g12; exact g12.1
   have hpb : (decide (checkS b = 0) && b.allB notAny) = true := by simp only [Bool.or_eq_false_iff, Bool.not_eq_false'] at g12; exact g12.2
   refine W.skip ?_
   refine thn_n ?_
   refine W.seq ?_
   refine W.drawF 20 klawgrad2_mixed (fun wF14 hB0 => ?_)
   refine LAC.takeN (i := 0) rfl (by kernel_rfl) (by kernel_rfl) (by kernel_rfl) (by kernel_rfl) (fun w hw => x_ldn (vs := xs) klawgrad2_ag25 rfl hla (hw.keepRow hla (bx2.row hla))) rfl ?_
   refine LAC.takeN (i := 1) rfl (by kernel_rfl) (by kernel_rfl) (by kernel_rfl) (by kernel_rfl) (fun w hw => x_ldn (vs := ys) klawgrad2_ag25 rfl hlb (hw.keepRow hlb (bx3.row hlb))) rfl ?_
   refine LAC.takeN (i := 3) rfl (by kernel_rfl) (by kernel_rfl) (by kernel_rfl) (by kernel_rfl) (fun w hw => x_ldn (vs := xs) klawgrad2_ag25 rfl hla (hw.keepRow hla (bx2.row hla))) rfl ?_
   refine LAC.takeN (i := 4) rfl (by kernel_rfl) (by kernel_rfl) (by kernel_rfl) (by kernel_rfl) (fun w hw => x_ldn (vs := ys) klawgrad2_ag25 rfl hlb (hw.keepRow hlb (bx3.row hlb))) rfl ?_
   refine LAC.step (rs := [2]) (fun _ => hB0) (by kernel_rfl) (by simp) ⟨⟨_, rfl, ?_⟩, trivial⟩
   refine L.ret (x_call klawgrad2_en55 rfl) rfl (near_ok _ _ a b _ _ _ (ha.carry hB0) (hb.carry hB0)) ?_
   rintro _ w16 ⟨rfl, hw⟩
   have hB0 := hB0.carry hw
   refine L.nil ?_
   refine thn_n ?_
   refine LAC.step (rs := [5]) (fun _ => hB0) (by kernel_rfl) (by simp) ⟨⟨_, rfl, ?_⟩, trivial⟩
   refine L.ret (x_call klawgrad2_en49 rfl) rfl (below_ok _ _ a b _ _ _ (ha.carry hB0) (hb.carry hB0)) ?_
   rintro _ w19 ⟨rfl, hw⟩
   have hB0 := hB0.carry hw
   refine L.nil ?_
   refine thn_n ?_
   refine LAC.takeN (i := 6) rfl (by kernel_rfl) (by kernel_rfl) (by kernel_rfl) (by kernel_rfl) (fun w hw => x_eqb Try.underlying4 rfl rfl) rfl ?_
   refine LAC.takeN (i := 7) rfl (by kernel_rfl) (by kernel_rfl) (by kernel_rfl) (by kernel_rfl) (fun w hw => x_mv (v := .bool _) rfl) rfl ?_
   refine LAC.split (dj := 21) (b := _) rfl (fun g21 => ?_) (fun g21 => ?_)
   ·have h21 := g21
    refine LAC.takeG (i := 8) rfl (by kernel_rfl) (by kernel_rfl) (by kernel_rfl) (by kernel_rfl) (dj := 21) (b := _) rfl rfl g21 (fun w hw => x_ldn (vs := xs) klawgrad2_ag25 rfl hla (hw.keepRow hla (bx2.row hla))) rfl ?_
    refine LAC.takeG (i := 9) rfl (by kernel_rfl) (by kernel_rfl) (by kernel_rfl) (by kernel_rfl) (dj := 21) (b := _) rfl rfl g21 (fun w hw => x_ldn (vs := ys) klawgrad2_ag25 rfl hlb (hw.keepRow hlb (bx3.row hlb))) rfl ?_
    refine LAC.takeG (i := 11) rfl (by kernel_rfl) (by kernel_rfl) (by kernel_rfl) (by kernel_rfl) (dj := 21) (b := _) rfl rfl g21 (fun w hw => x_ldn (vs := xs) klawgrad2_ag25 rfl hla (hw.keepRow hla (bx2.row hla))) rfl ?_
    refine LAC.takeG (i := 12) rfl (by kernel_rfl) (by kernel_rfl) (by kernel_rfl) (by kernel_rfl) (dj := 21) (b := _) rfl rfl g21 (fun w hw => x_ldn (vs := ys) klawgrad2_ag25 rfl hlb (hw.keepRow hlb (bx3.row hlb))) rfl ?_
    refine LAC.step (rs := [10]) (fun _ => hB0) (by kernel_rfl) (by simp) ⟨⟨_, rfl, ?_⟩, trivial⟩
    refine L.gyes' (dj := 21) (b := _) rfl rfl g21 ?_
    refine L.ret (x_call klawgrad2_en57 rfl) rfl (alike_ok _ _ a b _ _ _ (ha.carry hB0) (hb.carry hB0)) ?_
    rintro _ w24 ⟨rfl, hw⟩
    have hB0 := hB0.carry hw
    refine L.nil ?_
    refine thn_n ?_
    refine LAC.step (rs := [13]) (fun _ => hB0) (by kernel_rfl) (by simp) ⟨⟨_, rfl, ?_⟩, trivial⟩
    refine L.gyes' (dj := 21) (b := _) rfl rfl g21 ?_
    refine L.ret (x_call klawgrad2_en53 rfl) rfl (same_ok _ _ a b _ _ _ (ha.carry hB0) (hb.carry hB0)) ?_
    rintro _ w27 ⟨rfl, hw⟩
    have hB0 := hB0.carry hw
    refine L.nil ?_
    refine thn_n ?_
    refine LAC.takeG (i := 14) rfl (by kernel_rfl) (by kernel_rfl) (by kernel_rfl) (by kernel_rfl) (dj := 21) (b := _) rfl rfl g21 (fun w hw => x_eqb Try.underlying4 rfl rfl) rfl ?_
    refine LAC.takeN (i := 15) rfl (by kernel_rfl) (by kernel_rfl) (by kernel_rfl) (by kernel_rfl) (fun w hw => x_pick_t (v := .bool _) (congrArg Value.bool g21) rfl) rfl ?_
    refine LAC.takeN (i := 16) rfl (by kernel_rfl) (by kernel_rfl) (by kernel_rfl) (by kernel_rfl) (fun w hw => x_mv (v := .bool _) rfl) rfl ?_
    refine LAC.split (dj := 30) (b := _) rfl (fun g30 => ?_) (fun g30 => ?_)
    ·have h30 := g30
     refine LAC.step (rs := [17]) (fun _ => hB0) (by kernel_rfl) (by simp) ⟨⟨_, rfl, ?_⟩, trivial⟩
     refine L.gyes' (dj := 30) (b := _) rfl rfl g30 ?_
     refine L.ret (x_call klawgrad2_en56 rfl) rfl (awake13 _) ?_
     rintro _ w31 ⟨rfl, hw⟩
     have hB0 := hB0.carry hw
     refine L.nil ?_
     refine thn_n ?_
     refine LAC.takeN (i := 18) rfl (by kernel_rfl) (by kernel_rfl) (by kernel_rfl) (by kernel_rfl) (fun w hw => x_pick_t (v := .bool _) (congrArg Value.bool g30) rfl) rfl ?_
     refine LAC.takeN (i := 19) rfl (by kernel_rfl) (by kernel_rfl) (by kernel_rfl) (by kernel_rfl) (fun w hw => x_as (v := .bool _) rfl) rfl ?_
     refine LAC.doneF (by kernel_rfl) hB0 ?_
     have hB := hB.carry hB0; have ha := ha.carry hB0; have hb := hb.carry hB0; have bx2 := bx2.carry hB0; have bx3 := bx3.carry hB0
     refine thn_n ?_
     refine W.ret (fin_mk (.inr rfl) ?_)
     exact ⟨rfl, hB⟩
    ·have h30 := g30
     rw [alike_plain hpa hpb] at g30; simp at g30
   ·have h21 := g21
    rw [near_plain hpa hpb] at g21; simp at g21
theorem law_witness (A0 B0 : Nat → Prop) (a b : Sh) (xs ys : List Value) (w : World) (ha0 : ShC A0 w xs a) (hb0 : ShC B0 w ys b) :
    Ret Try.prog 19 #[.agg xs.toArray, .agg ys.toArray] w fun v w' => v = .bool true ∧ Bel w w' := by
  obtain ⟨A, ha, hA⟩ : ∃ A : Nat → Prop, ShC A w xs a ∧ (∀ k, w.heap.size ≤ k → A k) := ⟨_, ha0.up, fun _ => .inr⟩
  obtain ⟨B, hb, hBu⟩ : ∃ B : Nat → Prop, ShC B w ys b ∧ (∀ k, w.heap.size ≤ k → B k) := ⟨_, hb0.up, fun _ => .inr⟩
  clear ha0 hb0
  have hla := ha.len
  have hlb := hb.len
  refine ret_of_W Try.func19 rfl (Nat.le_of_ble_eq_true rfl) (res1 rfl) ?_
  have hB := Gr.refl (fun _ => False) w
  refine W.seq ?_
  refine W.region ?_
  refine L.box (cs := xs) rfl rfl (fun w2 bx2 hw hz2 => ?_)
  have hB := hB.carry hw; have ha := ha.carry hw; have hb := hb.carry hw
  refine L.box (cs := ys) rfl rfl (fun w3 bx3 hw hz3 => ?_)
  have hB := hB.carry hw; have ha := ha.carry hw; have hb := hb.carry hw; have bx2 := bx2.carry hw
  refine L.val (x_as (v := .bool _) rfl) rfl ?_
  refine L.nil ?_
  refine thn_n ?_
  refine W.seq ?_
  refine W.region ?_
  refine L.val (x_ldn (vs := xs) klawgrad2_ag25 rfl hla (bx2.row hla)) rfl ?_
  refine L.val (x_ldn (vs := ys) klawgrad2_ag25 rfl hlb (bx3.row hlb)) rfl ?_
  refine L.ret (x_call klawgrad2_en58 rfl) rfl (between_ok _ _ a b _ _ _ ha hb) ?_
  rintro _ w12 ⟨cs12, rfl, hu, hw⟩
  have hB := hB.carry hw; have ha := ha.carry hw; have hb := hb.carry hw; have bx2 := bx2.carry hw; have bx3 := bx3.carry hw
  have hlu := hu.len
  have hu := hu.up
  have hsz12 := hB.size
  have hx2 := bx2.lt
  have hx3 := bx3.lt
  refine L.val (x_mv (v := _) rfl) rfl ?_
  refine L.val (x_ext (v := _) rfl rfl) rfl ?_
  refine L.val (x_ext (v := .bool _) rfl rfl) rfl ?_
  refine L.alloc (cs := [Value.int .i64 0, S [], S [], Value.slice none 0 0, Value.slice none 0 0]) klawgrad2_zr25 rfl rfl (fun w5 bx5 hw hz5 => ?_)
  have hB := hB.carry hw; have ha := ha.carry hw; have hb := hb.carry hw; have bx2 := bx2.carry hw; have bx3 := bx3.carry hw; have hu := hu.carry hw
  refine L.setRow klawgrad2_ag25 rfl rfl bx5 rfl hlu hu.one (fun wl11 bx5 hw hzl11 => ?_)
  have hsz := hB.size
  have hB := hB.set hw (by omega); have ha := ha.carryR hw (fun j e => hA j (by have e : j = _ := e; omega)); have hb := hb.carryR hw (fun j e => hBu j (by have e : j = _ := e; omega)); have bx2 := bx2.carryR hw (by omega); have bx3 := bx3.carryR hw (by omega); have hu := hu.carryR hw (fun j e => .inr (by have e : j = _ := e; omega))
  refine L.val (x_as (v := .bool _) rfl) rfl ?_
  refine L.nil ?_
  refine thn_n ?_
  refine W.seq ?_
  refine W.region ?_
  refine L.val (x_ldn (vs := xs) klawgrad2_ag25 rfl hla (bx2.row hla)) rfl ?_
  refine L.val (x_ldn (vs := ys) klawgrad2_ag25 rfl hlb (bx3.row hlb)) rfl ?_
  refine L.ret (x_call klawgrad2_en59 rfl) rfl (beside_ok _ _ a b _ _ _ ha hb) ?_
  rintro _ w18 ⟨cs18, rfl, hv, hw⟩
  have hB := hB.carry hw; have ha := ha.carry hw; have hb := hb.carry hw; have bx2 := bx2.carry hw; have bx3 := bx3.carry hw; have hu := hu.carry hw; have bx5 := bx5.carry hw
  have hlv := hv.len
  have hv := hv.up
  have hsz18 := hB.size
  have hx5 := bx5.lt
  have hx2b := bx2.lt
  have hx3b := bx3.lt
  refine L.val (x_mv (v := _) rfl) rfl ?_
  refine L.val (x_ext (v := _) rfl rfl) rfl ?_
  refine L.val (x_ext (v := .bool _) rfl rfl) rfl ?_
  refine L.alloc (cs := [Value.int .i64 0, S [], S [], Value.slice none 0 0, Value.slice none 0 0]) klawgrad2_zr25 rfl rfl (fun w7 bx7 hw hz7 => ?_)
  have hB := hB.carry hw; have ha := ha.carry hw; have hb := hb.carry hw; have bx2 := bx2.carry hw; have bx3 := bx3.carry hw; have hu := hu.carry hw; have bx5 := bx5.carry hw; have hv := hv.carry hw
  refine L.setRow klawgrad2_ag25 rfl rfl bx7 rfl hlv hv.one (fun wl20 bx7 hw hzl20 => ?_)
  have hsz := hB.size
  have hB := hB.set hw (by omega); have ha := ha.carryR hw (fun j e => hA j (by have e : j = _ := e; omega)); have hb := hb.carryR hw (fun j e => hBu j (by have e : j = _ := e; omega)); have bx2 := bx2.carryR hw (by omega); have bx3 := bx3.carryR hw (by omega); have hu := hu.carryR hw (fun j e => .inr (by have e : j = _ := e; omega)); have bx5 := bx5.carryR hw (by omega); have hv := hv.carryR hw (fun j e => .inr (by have e : j = _ := e; omega))
  refine L.val (x_as (v := .bool _) rfl) rfl ?_
  refine L.nil ?_
  refine thn_n ?_
  refine W.seq ?_
  refine W.seq ?_
  refine W.region ?_
  refine L.val (x_mv (v := .bool _) rfl) rfl ?_
  refine L.val (x_mv (v := .bool _) rfl) rfl ?_
  refine' L.group 10 23 32 32 22 true rfl ?_ ?_ ?_
  rotate_left 1
  ·intro g22 hg22
   have h22 := g22
   refine L.gyes' (dj := 22) (b := _) rfl rfl g22 ?_
   refine L.val (x_ldn (vs := xs) klawgrad2_ag25 rfl hla (bx2.row hla)) rfl ?_
   refine L.gyes' (dj := 22) (b := _) rfl rfl g22 ?_
   refine L.val (x_ldn (vs := cs12) klawgrad2_ag25 rfl hlu (bx5.row hlu)) rfl ?_
   refine L.gyes' (dj := 22) (b := _) rfl rfl g22 ?_
   refine L.ret (x_call klawgrad2_en49 rfl) rfl (below_ok _ _ a _ _ _ _ ha hu) ?_
   rintro _ w25 ⟨rfl, hw⟩
   have hB := hB.carry hw; have ha := ha.carry hw; have hb := hb.carry hw; have bx2 := bx2.carry hw; have bx3 := bx3.carry hw; have hu := hu.carry hw; have bx5 := bx5.carry hw; have hv := hv.carry hw; have bx7 := bx7.carry hw; have hg22 := hg22.carry hw
   refine L.gyes' (dj := 22) (b := _) rfl rfl g22 ?_
   refine L.val (x_not rfl) rfl ?_
   refine L.gyes' (dj := 22) (b := _) rfl rfl g22 ?_
   refine L.val (x_mv (v := .bool _) rfl) rfl ?_
   refine' L.group 4 28 31 31 27 false rfl ?_ ?_ ?_
   rotate_left 1
   ·intro g27 hg27
    have h27 := (not_f g27)
    refine L.gyes' (dj := 27) (b := _) rfl rfl g27 ?_
    refine L.val (x_ldn (vs := cs12) klawgrad2_ag25 rfl hlu (bx5.row hlu)) rfl ?_
    refine L.gyes' (dj := 27) (b := _) rfl rfl g27 ?_
    refine L.val (x_ldn (vs := ys) klawgrad2_ag25 rfl hlb (bx3.row hlb)) rfl ?_
    refine L.gyes' (dj := 27) (b := _) rfl rfl g27 ?_
    refine L.ret (x_call klawgrad2_en57 rfl) rfl (alike_ok _ _ _ b _ _ _ hu hb) ?_
    rintro _ w30 ⟨rfl, hw⟩
    have hB := hB.carry hw; have ha := ha.carry hw; have hb := hb.carry hw; have bx2 := bx2.carry hw; have bx3 := bx3.carry hw; have hu := hu.carry hw; have bx5 := bx5.carry hw; have hv := hv.carry hw; have bx7 := bx7.carry hw; have hg22 := hg22.carry hw; have hg27 := hg27.carry hw
    refine L.gyes' (dj := 27) (b := _) rfl rfl g27 ?_
    refine L.val (x_not rfl) rfl ?_
    refine L.nil ?_
    refine thn_n ⟨rfl, ?_, ?_, fun _ => rfl⟩
    ·exact hg27
    ·repeat (first | exact jeq.refl _ _ _ | refine jeq.upd rfl ?_ | refine jeq.jk rfl rfl ?_)
   ·intro g27
    refine L.gno (dj := 27) (b := _) rfl rfl g27 rfl ?_
    refine L.gno (dj := 27) (b := _) rfl rfl g27 rfl ?_
    refine L.gno (dj := 27) (b := _) rfl rfl g27 rfl ?_
    refine L.gno (dj := 27) (b := _) rfl rfl g27 rfl ?_
    refine L.nil (thn_n ⟨rfl, Gr.refl _ _, ?_⟩)
    refine ⟨?_, fun h => h.elim⟩
    repeat (first | exact jeq.refl _ _ _ | refine jeq.upd rfl ?_ | refine jeq.jk rfl rfl ?_)
   intro J27 w27 hw j27
   have hB := hB.carry hw; have ha := ha.carry hw; have hb := hb.carry hw; have bx2 := bx2.carry hw; have bx3 := bx3.carry hw; have hu := hu.carry hw; have bx5 := bx5.carry hw; have hv := hv.carry hw; have bx7 := bx7.carry hw; have hg22 := hg22.carry hw
   refine L.gyes' (dj := 22) (b := _) rfl rfl g22 ?_
   refine L.val (x_or rfl j27) rfl ?_
   refine L.nil ?_
   refine thn_n ⟨rfl, ?_, ?_, fun _ => rfl⟩
   ·exact hg22
   ·repeat (first | exact jeq.refl _ _ _ | refine jeq.upd rfl ?_ | refine jeq.jk rfl rfl ?_)
  ·intro g22
   refine L.gno (dj := 22) (b := _) rfl rfl g22 rfl ?_
   refine L.gno (dj := 22) (b := _) rfl rfl g22 rfl ?_
   refine L.gno (dj := 22) (b := _) rfl rfl g22 rfl ?_
   refine L.gno (dj := 22) (b := _) rfl rfl g22 rfl ?_
   refine L.gno (dj := 22) (b := _) rfl rfl g22 rfl ?_
   refine L.gun (dj := 27) rfl rfl rfl ?_
   refine L.gun (dj := 27) rfl rfl rfl ?_
   refine L.gun (dj := 27) rfl rfl rfl ?_
   refine L.gun (dj := 27) rfl rfl rfl ?_
   refine L.gno (dj := 22) (b := _) rfl rfl g22 rfl ?_
   refine L.nil (thn_n ⟨rfl, Gr.refl _ _, ?_⟩)
   refine ⟨?_, fun h => h.elim⟩
   repeat (first | exact jeq.refl _ _ _ | refine jeq.upd rfl ?_ | refine jeq.jk rfl rfl ?_)
  intro J22 w22 hw j22
  have hB := hB.carry hw; have ha := ha.carry hw; have hb := hb.carry hw; have bx2 := bx2.carry hw; have bx3 := bx3.carry hw; have hu := hu.carry hw; have bx5 := bx5.carry hw; have hv := hv.carry hw; have bx7 := bx7.carry hw
  refine L.val (x_and rfl j22) rfl ?_
  refine L.val (x_mv (v := .bool _) rfl) rfl ?_
  refine' L.group 13 35 47 47 34 false rfl ?_ ?_ ?_
  rotate_left 1
  ·intro g34 hg34
   have h34 := g34
   refine L.gyes' (dj := 34) (b := _) rfl rfl g34 ?_
   refine L.val (x_mv (v := .bool _) rfl) rfl ?_
   refine L.gyes' (dj := 34) (b := _) rfl rfl g34 ?_
   refine L.val (x_mv (v := .bool _) rfl) rfl ?_
   refine' L.group 10 37 46 46 36 true rfl ?_ ?_ ?_
   rotate_left 1
   ·intro g36 hg36
    have h36 := g36
    refine L.gyes' (dj := 36) (b := _) rfl rfl g36 ?_
    refine L.val (x_ldn (vs := cs18) klawgrad2_ag25 rfl hlv (bx7.row hlv)) rfl ?_
    refine L.gyes' (dj := 36) (b := _) rfl rfl g36 ?_
    refine L.val (x_ldn (vs := xs) klawgrad2_ag25 rfl hla (bx2.row hla)) rfl ?_
    refine L.gyes' (dj := 36) (b := _) rfl rfl g36 ?_
    refine L.ret (x_call klawgrad2_en57 rfl) rfl (alike_ok _ _ _ a _ _ _ hv ha) ?_
    rintro _ w39 ⟨rfl, hw⟩
    have hB := hB.carry hw; have ha := ha.carry hw; have hb := hb.carry hw; have bx2 := bx2.carry hw; have bx3 := bx3.carry hw; have hu := hu.carry hw; have bx5 := bx5.carry hw; have hv := hv.carry hw; have bx7 := bx7.carry hw; have hg34 := hg34.carry hw; have hg36 := hg36.carry hw
    refine L.gyes' (dj := 36) (b := _) rfl rfl g36 ?_
    refine L.val (x_not rfl) rfl ?_
    refine L.gyes' (dj := 36) (b := _) rfl rfl g36 ?_
    refine L.val (x_mv (v := .bool _) rfl) rfl ?_
    refine' L.group 4 42 45 45 41 false rfl ?_ ?_ ?_
    rotate_left 1
    ·intro g41 hg41
     have h41 := (not_f g41)
     refine L.gyes' (dj := 41) (b := _) rfl rfl g41 ?_
     refine L.val (x_ldn (vs := cs18) klawgrad2_ag25 rfl hlv (bx7.row hlv)) rfl ?_
     refine L.gyes' (dj := 41) (b := _) rfl rfl g41 ?_
     refine L.val (x_ldn (vs := ys) klawgrad2_ag25 rfl hlb (bx3.row hlb)) rfl ?_
     refine L.gyes' (dj := 41) (b := _) rfl rfl g41 ?_
     refine L.ret (x_call klawgrad2_en49 rfl) rfl (below_ok _ _ _ b _ _ _ hv hb) ?_
     rintro _ w44 ⟨rfl, hw⟩
     have hB := hB.carry hw; have ha := ha.carry hw; have hb := hb.carry hw; have bx2 := bx2.carry hw; have bx3 := bx3.carry hw; have hu := hu.carry hw; have bx5 := bx5.carry hw; have hv := hv.carry hw; have bx7 := bx7.carry hw; have hg34 := hg34.carry hw; have hg36 := hg36.carry hw; have hg41 := hg41.carry hw
     refine L.gyes' (dj := 41) (b := _) rfl rfl g41 ?_
     refine L.val (x_not rfl) rfl ?_
     refine L.nil ?_
     refine thn_n ⟨rfl, ?_, ?_, fun _ => rfl⟩
     ·exact hg41
     ·repeat (first | exact jeq.refl _ _ _ | refine jeq.upd rfl ?_ | refine jeq.jk rfl rfl ?_)
    ·intro g41
     refine L.gno (dj := 41) (b := _) rfl rfl g41 rfl ?_
     refine L.gno (dj := 41) (b := _) rfl rfl g41 rfl ?_
     refine L.gno (dj := 41) (b := _) rfl rfl g41 rfl ?_
     refine L.gno (dj := 41) (b := _) rfl rfl g41 rfl ?_
     refine L.nil (thn_n ⟨rfl, Gr.refl _ _, ?_⟩)
     refine ⟨?_, fun h => h.elim⟩
     repeat (first | exact jeq.refl _ _ _ | refine jeq.upd rfl ?_ | refine jeq.jk rfl rfl ?_)
    intro J41 w41 hw j41
    have hB := hB.carry hw; have ha := ha.carry hw; have hb := hb.carry hw; have bx2 := bx2.carry hw; have bx3 := bx3.carry hw; have hu := hu.carry hw; have bx5 := bx5.carry hw; have hv := hv.carry hw; have bx7 := bx7.carry hw; have hg34 := hg34.carry hw; have hg36 := hg36.carry hw
    refine L.gyes' (dj := 36) (b := _) rfl rfl g36 ?_
    refine L.val (x_or rfl j41) rfl ?_
    refine L.nil ?_
    refine thn_n ⟨rfl, ?_, ?_, fun _ => rfl⟩
    ·exact hg36
    ·repeat (first | exact jeq.refl _ _ _ | refine jeq.upd rfl ?_ | refine jeq.jk rfl rfl ?_)
   ·intro g36
    refine L.gno (dj := 36) (b := _) rfl rfl g36 rfl ?_
    refine L.gno (dj := 36) (b := _) rfl rfl g36 rfl ?_
    refine L.gno (dj := 36) (b := _) rfl rfl g36 rfl ?_
    refine L.gno (dj := 36) (b := _) rfl rfl g36 rfl ?_
    refine L.gno (dj := 36) (b := _) rfl rfl g36 rfl ?_
    refine L.gun (dj := 41) rfl rfl rfl ?_
    refine L.gun (dj := 41) rfl rfl rfl ?_
    refine L.gun (dj := 41) rfl rfl rfl ?_
    refine L.gun (dj := 41) rfl rfl rfl ?_
    refine L.gno (dj := 36) (b := _) rfl rfl g36 rfl ?_
    refine L.nil (thn_n ⟨rfl, Gr.refl _ _, ?_⟩)
    refine ⟨?_, fun h => h.elim⟩
    repeat (first | exact jeq.refl _ _ _ | refine jeq.upd rfl ?_ | refine jeq.jk rfl rfl ?_)
   intro J36 w36 hw j36
   have hB := hB.carry hw; have ha := ha.carry hw; have hb := hb.carry hw; have bx2 := bx2.carry hw; have bx3 := bx3.carry hw; have hu := hu.carry hw; have bx5 := bx5.carry hw; have hv := hv.carry hw; have bx7 := bx7.carry hw; have hg34 := hg34.carry hw
   refine L.gyes' (dj := 34) (b := _) rfl rfl g34 ?_
   refine L.val (x_and rfl j36) rfl ?_
   refine L.nil ?_
   refine thn_n ⟨rfl, ?_, ?_, fun _ => rfl⟩
   ·exact hg34
   ·repeat (first | exact jeq.refl _ _ _ | refine jeq.upd rfl ?_ | refine jeq.jk rfl rfl ?_)
  ·intro g34
   refine L.gno (dj := 34) (b := _) rfl rfl g34 rfl ?_
   refine L.gno (dj := 34) (b := _) rfl rfl g34 rfl ?_
   refine L.gun (dj := 36) rfl rfl rfl ?_
   refine L.gun (dj := 36) rfl rfl rfl ?_
   refine L.gun (dj := 36) rfl rfl rfl ?_
   refine L.gun (dj := 36) rfl rfl rfl ?_
   refine L.gun (dj := 36) rfl rfl rfl ?_
   refine L.gun (dj := 41) rfl rfl rfl ?_
   refine L.gun (dj := 41) rfl rfl rfl ?_
   refine L.gun (dj := 41) rfl rfl rfl ?_
   refine L.gun (dj := 41) rfl rfl rfl ?_
   refine L.gun (dj := 36) rfl rfl rfl ?_
   refine L.gno (dj := 34) (b := _) rfl rfl g34 rfl ?_
   refine L.nil (thn_n ⟨rfl, Gr.refl _ _, ?_⟩)
   refine ⟨?_, fun h => h.elim⟩
   repeat (first | exact jeq.refl _ _ _ | refine jeq.upd rfl ?_ | refine jeq.jk rfl rfl ?_)
  intro J34 w34 hw j34
  have hB := hB.carry hw; have ha := ha.carry hw; have hb := hb.carry hw; have bx2 := bx2.carry hw; have bx3 := bx3.carry hw; have hu := hu.carry hw; have bx5 := bx5.carry hw; have hv := hv.carry hw; have bx7 := bx7.carry hw
  refine L.val (x_or rfl j34) rfl ?_
  refine L.nil ?_
  refine thn_n ?_
  refine W.cond (b := _) rfl (fun g48 => ?_) (fun g48 => ?_)
  ·have h48 := g48
   exfalso
   have h1 : (madeS true a b).2 = true → belowR a (madeS true a b).1 = true ∧ goesS false (madeS true a b).1 b = true := made_up
   have h2 : (madeS false a b).2 = true → goesS false (madeS false a b).1 a = true ∧ belowR (madeS false a b).1 b = true := made_down
   by_cases e1 : (madeS true a b).2 = true
   · by_cases e2 : (madeS false a b).2 = true
     · simp [e1, e2, h1 e1, h2 e2] at g48
     · simp [e1, e2, h1 e1] at g48
   · by_cases e2 : (madeS false a b).2 = true
     · simp [e1, e2, h2 e2] at g48
     · simp [e1, e2] at g48
  ·have h48 := g48
   refine W.skip ?_
   refine thn_n ?_
   refine W.seq ?_
   refine W.seq ?_
   refine W.region ?_
   refine L.val (x_ldn (vs := xs) klawgrad2_ag25 rfl hla (bx2.row hla)) rfl ?_
   refine L.val (x_ldn (vs := ys) klawgrad2_ag25 rfl hlb (bx3.row hlb)) rfl ?_
   refine L.ret (x_call klawgrad2_en55 rfl) rfl (near_ok _ _ a b _ _ _ ha hb) ?_
   rintro _ w51 ⟨rfl, hw⟩
   have hB := hB.carry hw; have ha := ha.carry hw; have hb := hb.carry hw; have bx2 := bx2.carry hw; have bx3 := bx3.carry hw; have hu := hu.carry hw; have bx5 := bx5.carry hw; have hv := hv.carry hw; have bx7 := bx7.carry hw
   refine L.val (x_not rfl) rfl ?_
   refine L.nil ?_
   refine thn_n ?_
   refine W.cond (b := _) rfl (fun g52 => ?_) (fun g52 => ?_)
   ·have h52 := (not_t g52)
    refine W.seq ?_
    refine W.region ?_
    refine L.val (x_mv (v := .bool _) rfl) rfl ?_
    refine L.val (x_not rfl) rfl ?_
    refine L.val (x_mv (v := .bool _) rfl) rfl ?_
    refine' L.group0 2 56 57 57 55 true rfl ?_ ?_ ?_
    rotate_left 1
    ·intro g55
     have h55 := (not_t g55)
     refine L.gyes' (dj := 55) (b := _) rfl rfl g55 ?_
     refine L.val (x_mv (v := .bool _) rfl) rfl ?_
     refine L.gyes' (dj := 55) (b := _) rfl rfl g55 ?_
     refine L.val (x_not rfl) rfl ?_
     refine L.nil ?_
     refine thn_n ⟨rfl, rfl, ?_, rfl⟩
     repeat (first | exact jeq.refl _ _ _ | refine jeq.upd rfl ?_ | refine jeq.jk rfl rfl ?_)
    ·intro g55
     refine L.gno (dj := 55) (b := _) rfl rfl g55 rfl ?_
     refine L.gno (dj := 55) (b := _) rfl rfl g55 rfl ?_
     refine L.nil (thn_n ⟨rfl, rfl, ?_⟩)
     repeat (first | exact jeq.refl _ _ _ | refine jeq.upd rfl ?_ | refine jeq.jk rfl rfl ?_)
    intro J55 j55
    refine L.val (x_and rfl j55) rfl ?_
    refine L.val (x_mv (v := .bool _) rfl) rfl ?_
    refine' L.group 1 60 60 60 59 true rfl ?_ ?_ ?_
    rotate_left 1
    ·intro g59 hg59
     have h59 := g59
     refine L.gyes' (dj := 59) (b := _) rfl rfl g59 ?_
     refine L.ret (x_call klawgrad2_en56 rfl) rfl (awake13 _) ?_
     rintro _ w60 ⟨rfl, hw⟩
     have hB := hB.carry hw; have ha := ha.carry hw; have hb := hb.carry hw; have bx2 := bx2.carry hw; have bx3 := bx3.carry hw; have hu := hu.carry hw; have bx5 := bx5.carry hw; have hv := hv.carry hw; have bx7 := bx7.carry hw; have hg59 := hg59.carry hw
     refine L.nil ?_
     refine thn_n ⟨rfl, ?_, ?_, fun _ => rfl⟩
     ·exact hg59
     ·repeat (first | exact jeq.refl _ _ _ | refine jeq.upd rfl ?_ | refine jeq.jk rfl rfl ?_)
    ·intro g59
     refine L.gno (dj := 59) (b := _) rfl rfl g59 rfl ?_
     refine L.nil (thn_n ⟨rfl, Gr.refl _ _, ?_⟩)
     refine ⟨?_, fun h => h.elim⟩
     repeat (first | exact jeq.refl _ _ _ | refine jeq.upd rfl ?_ | refine jeq.jk rfl rfl ?_)
    intro J59 w59 hw j59
    have hB := hB.carry hw; have ha := ha.carry hw; have hb := hb.carry hw; have bx2 := bx2.carry hw; have bx3 := bx3.carry hw; have hu := hu.carry hw; have bx5 := bx5.carry hw; have hv := hv.carry hw; have bx7 := bx7.carry hw
    refine L.val (x_and rfl j59) rfl ?_
    refine L.val (x_as (v := .bool _) rfl) rfl ?_
    refine L.nil ?_
    refine thn_n ?_
    refine W.ret (thn_r (fin_mk (.inr rfl) ?_))
    exact ⟨vb (by rw [made_not (up := true) h52, made_not (up := false) h52]; rfl), hB⟩
   ·have h52 := (not_f g52)
    refine W.skip ?_
    refine thn_n ?_
    refine W.seq ?_
    refine W.region ?_
    refine L.val (x_mv (v := .bool _) rfl) rfl ?_
    refine L.val (x_mv (v := .bool _) rfl) rfl ?_
    refine' L.group0 1 64 64 64 63 true rfl ?_ ?_ ?_
    rotate_left 1
    ·intro g63
     have h63 := g63
     refine L.gyes' (dj := 63) (b := _) rfl rfl g63 ?_
     refine L.val (x_mv (v := .bool _) rfl) rfl ?_
     refine L.nil ?_
     refine thn_n ⟨rfl, rfl, ?_, rfl⟩
     repeat (first | exact jeq.refl _ _ _ | refine jeq.upd rfl ?_ | refine jeq.jk rfl rfl ?_)
    ·intro g63
     refine L.gno (dj := 63) (b := _) rfl rfl g63 rfl ?_
     refine L.nil (thn_n ⟨rfl, rfl, ?_⟩)
     repeat (first | exact jeq.refl _ _ _ | refine jeq.upd rfl ?_ | refine jeq.jk rfl rfl ?_)
    intro J63 j63
    refine L.val (x_and rfl j63) rfl ?_
    refine L.val (x_mv (v := .bool _) rfl) rfl ?_
    refine' L.group 3 67 69 69 66 false rfl ?_ ?_ ?_
    rotate_left 1
    ·intro g66 hg66
     have h66 := g66
     refine L.gyes' (dj := 66) (b := _) rfl rfl g66 ?_
     refine L.val (x_ldn (vs := xs) klawgrad2_ag25 rfl hla (bx2.row hla)) rfl ?_
     refine L.gyes' (dj := 66) (b := _) rfl rfl g66 ?_
     refine L.ret (x_call klawgrad2_en41 rfl) rfl (sizeL_ok _ a _ _ ha) ?_
     rintro _ w68 ⟨rfl, hw⟩
     have hB := hB.carry hw; have ha := ha.carry hw; have hb := hb.carry hw; have bx2 := bx2.carry hw; have bx3 := bx3.carry hw; have hu := hu.carry hw; have bx5 := bx5.carry hw; have hv := hv.carry hw; have bx7 := bx7.carry hw; have hg66 := hg66.carry hw
     refine L.gyes' (dj := 66) (b := _) rfl rfl g66 ?_
     refine L.val (x_gtr rfl rfl) rfl ?_
     refine L.nil ?_
     refine thn_n ⟨rfl, ?_, ?_, fun _ => rfl⟩
     ·exact hg66
     ·repeat (first | exact jeq.refl _ _ _ | refine jeq.upd rfl ?_ | refine jeq.jk rfl rfl ?_)
    ·intro g66
     refine L.gno (dj := 66) (b := _) rfl rfl g66 rfl ?_
     refine L.gno (dj := 66) (b := _) rfl rfl g66 rfl ?_
     refine L.gno (dj := 66) (b := _) rfl rfl g66 rfl ?_
     refine L.nil (thn_n ⟨rfl, Gr.refl _ _, ?_⟩)
     refine ⟨?_, fun h => h.elim⟩
     repeat (first | exact jeq.refl _ _ _ | refine jeq.upd rfl ?_ | refine jeq.jk rfl rfl ?_)
    intro J66 w66 hw j66
    have hB := hB.carry hw; have ha := ha.carry hw; have hb := hb.carry hw; have bx2 := bx2.carry hw; have bx3 := bx3.carry hw; have hu := hu.carry hw; have bx5 := bx5.carry hw; have hv := hv.carry hw; have bx7 := bx7.carry hw
    refine L.val (x_or rfl j66) rfl ?_
    refine L.val (x_mv (v := .bool _) rfl) rfl ?_
    refine' L.group 3 72 74 74 71 false rfl ?_ ?_ ?_
    rotate_left 1
    ·intro g71 hg71
     have h71 := g71
     refine L.gyes' (dj := 71) (b := _) rfl rfl g71 ?_
     refine L.val (x_ldn (vs := ys) klawgrad2_ag25 rfl hlb (bx3.row hlb)) rfl ?_
     refine L.gyes' (dj := 71) (b := _) rfl rfl g71 ?_
     refine L.ret (x_call klawgrad2_en41 rfl) rfl (sizeL_ok _ b _ _ hb) ?_
     rintro _ w73 ⟨rfl, hw⟩
     have hB := hB.carry hw; have ha := ha.carry hw; have hb := hb.carry hw; have bx2 := bx2.carry hw; have bx3 := bx3.carry hw; have hu := hu.carry hw; have bx5 := bx5.carry hw; have hv := hv.carry hw; have bx7 := bx7.carry hw; have hg71 := hg71.carry hw
     refine L.gyes' (dj := 71) (b := _) rfl rfl g71 ?_
     refine L.val (x_gtr rfl rfl) rfl ?_
     refine L.nil ?_
     refine thn_n ⟨rfl, ?_, ?_, fun _ => rfl⟩
     ·exact hg71
     ·repeat (first | exact jeq.refl _ _ _ | refine jeq.upd rfl ?_ | refine jeq.jk rfl rfl ?_)
    ·intro g71
     refine L.gno (dj := 71) (b := _) rfl rfl g71 rfl ?_
     refine L.gno (dj := 71) (b := _) rfl rfl g71 rfl ?_
     refine L.gno (dj := 71) (b := _) rfl rfl g71 rfl ?_
     refine L.nil (thn_n ⟨rfl, Gr.refl _ _, ?_⟩)
     refine ⟨?_, fun h => h.elim⟩
     repeat (first | exact jeq.refl _ _ _ | refine jeq.upd rfl ?_ | refine jeq.jk rfl rfl ?_)
    intro J71 w71 hw j71
    have hB := hB.carry hw; have ha := ha.carry hw; have hb := hb.carry hw; have bx2 := bx2.carry hw; have bx3 := bx3.carry hw; have hu := hu.carry hw; have bx5 := bx5.carry hw; have hv := hv.carry hw; have bx7 := bx7.carry hw
    refine L.val (x_or rfl j71) rfl ?_
    refine L.val (x_mv (v := .bool _) rfl) rfl ?_
    refine' L.group 1 77 77 77 76 true rfl ?_ ?_ ?_
    rotate_left 1
    ·intro g76 hg76
     have h76 := g76
     refine L.gyes' (dj := 76) (b := _) rfl rfl g76 ?_
     refine L.ret (x_call klawgrad2_en56 rfl) rfl (awake13 _) ?_
     rintro _ w77 ⟨rfl, hw⟩
     have hB := hB.carry hw; have ha := ha.carry hw; have hb := hb.carry hw; have bx2 := bx2.carry hw; have bx3 := bx3.carry hw; have hu := hu.carry hw; have bx5 := bx5.carry hw; have hv := hv.carry hw; have bx7 := bx7.carry hw; have hg76 := hg76.carry hw
     refine L.nil ?_
     refine thn_n ⟨rfl, ?_, ?_, fun _ => rfl⟩
     ·exact hg76
     ·repeat (first | exact jeq.refl _ _ _ | refine jeq.upd rfl ?_ | refine jeq.jk rfl rfl ?_)
    ·intro g76
     refine L.gno (dj := 76) (b := _) rfl rfl g76 rfl ?_
     refine L.nil (thn_n ⟨rfl, Gr.refl _ _, ?_⟩)
     refine ⟨?_, fun h => h.elim⟩
     repeat (first | exact jeq.refl _ _ _ | refine jeq.upd rfl ?_ | refine jeq.jk rfl rfl ?_)
    intro J76 w76 hw j76
    have hB := hB.carry hw; have ha := ha.carry hw; have hb := hb.carry hw; have bx2 := bx2.carry hw; have bx3 := bx3.carry hw; have hu := hu.carry hw; have bx5 := bx5.carry hw; have hv := hv.carry hw; have bx7 := bx7.carry hw
    refine L.val (x_and rfl j76) rfl ?_
    refine L.val (x_as (v := .bool _) rfl) rfl ?_
    refine L.nil ?_
    refine thn_n ?_
    refine W.ret (fin_mk (.inr rfl) ?_)
    refine ⟨vb ?_, hB⟩
    have hn : goesS true a b = true := h52
    obtain ⟨ca, cb, -⟩ := near_iff.1 hn
    have sa : sizeS a = a.size := by unfold sizeS; rw [if_pos (check_zero ca).1]
    have sb : sizeS b = b.size := by unfold sizeS; rw [if_pos (check_zero cb).1]
    rw [sa, sb]
    by_cases h1 : a.size ≤ 200
    · by_cases h2 : b.size ≤ 200
      · rw [made_small hn h1 h2, made_small hn h1 h2]; rfl
      · simp; omega
    · simp; omega
end Go.Gx
