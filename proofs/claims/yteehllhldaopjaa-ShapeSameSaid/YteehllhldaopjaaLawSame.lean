/- The law ShapeSame. Conditions: none. -/
import Derived.Test.YteehllhldaopjaaAwake
import Derived.Test.YteehllhldaopjaaSame
import Derived.Test.YteehllhldaopjaaPerm
import Derived.Test.YteehllhldaopjaaFree
namespace Go.Gx
open Go.Proofs
theorem klawsame_ag25 : aggT Try.prog 25 5 = true := by kernel_rfl
theorem klawsame_en27 : Go.Proofs.Enters Try.prog 27 := Go.Proofs.enters_of Try.func27 (by kernel_rfl) rfl
theorem klawsame_en29 : Go.Proofs.Enters Try.prog 29 := Go.Proofs.enters_of Try.func29 (by kernel_rfl) rfl
theorem klawsame_en33 : Go.Proofs.Enters Try.prog 33 := Go.Proofs.enters_of Try.func33 (by kernel_rfl) rfl
theorem klawsame_en41 : Go.Proofs.Enters Try.prog 41 := Go.Proofs.enters_of Try.func41 (by kernel_rfl) rfl
theorem klawsame_en42 : Go.Proofs.Enters Try.prog 42 := Go.Proofs.enters_of Try.func42 (by kernel_rfl) rfl
theorem klawsame_en44 : Go.Proofs.Enters Try.prog 44 := Go.Proofs.enters_of Try.func44 (by kernel_rfl) rfl
theorem klawsame_en46 : Go.Proofs.Enters Try.prog 46 := Go.Proofs.enters_of Try.func46 (by kernel_rfl) rfl
theorem klawsame_en53 : Go.Proofs.Enters Try.prog 53 := Go.Proofs.enters_of Try.func53 (by kernel_rfl) rfl
theorem klawsame_mixed : Try.prog.follows .mixedOrders = true := by kernel_rfl
theorem klawsame_zr25 : (Try.prog.info? 25).bind (·.zero) = some (Value.agg [Value.int .i64 0, S [], S [], Value.slice none 0 0, Value.slice none 0 0].toArray) := by kernel_rfl

theorem same_eq {a b : Sh} (ha : checkS a = 0) (hb : checkS b = 0) : sameS a b = eqS a.sort b.sort := by unfold sameS; simp [ha, hb]
theorem sort_eqS {a : Sh} (h : checkS a = 0) : sortS a = a.sort := by unfold sortS; rw [if_pos h]
theorem eqS_comm (a b : Sh) : eqS a b = eqS b a := by unfold eqS; rw [Bool.eq_iff_iff]; simp; exact ⟨Eq.symm, Eq.symm⟩
theorem show_sorted {a : Sh} (h : checkS a = 0) : showS (sortS a) = .tuple #[S a.sort.text, .int .i64 0] := by
  unfold showS; rw [sort_eqS h, if_pos (check_sort h)]
theorem law_same (A0 B0 C0 : Nat → Prop) (a b c : Sh) (xs ys zs : List Value) (w : World) (ha : ShC A0 w xs a) (hb : ShC B0 w ys b) (hc : ShC C0 w zs c) :
    Ret Try.prog 15 #[.agg xs.toArray, .agg ys.toArray, .agg zs.toArray] w fun v w' => v = .bool true ∧ Bel w w' := by
  have hla := ha.len
  have hlb := hb.len
  have hlc := hc.len
  obtain ⟨A, ha, hA⟩ : ∃ A1 : Nat → Prop, ShC A1 w xs a ∧ (∀ k, w.heap.size ≤ k → A1 k) := ⟨_, ha.up, fun _ => .inr⟩
  obtain ⟨B, hb, hB1⟩ : ∃ A1 : Nat → Prop, ShC A1 w ys b ∧ (∀ k, w.heap.size ≤ k → A1 k) := ⟨_, hb.up, fun _ => .inr⟩
  obtain ⟨C, hc, hC⟩ : ∃ A1 : Nat → Prop, ShC A1 w zs c ∧ (∀ k, w.heap.size ≤ k → A1 k) := ⟨_, hc.up, fun _ => .inr⟩
  refine ret_of_W Try.func15 rfl (Nat.le_of_ble_eq_true rfl) (res1 rfl) ?_
  have hB := Gr.refl (fun _ => False) w
  refine W.seq ?_
  refine W.region ?_
  refine L.box (cs := xs) rfl rfl (fun w3 bx3 hw hz3 => ?_)
  have hB := hB.carry hw; have ha := ha.carry hw; have hb := hb.carry hw; have hc := hc.carry hw
  refine L.box (cs := ys) rfl rfl (fun w4 bx4 hw hz4 => ?_)
  have hB := hB.carry hw; have ha := ha.carry hw; have hb := hb.carry hw; have hc := hc.carry hw; have bx3 := bx3.carry hw
  refine L.box (cs := zs) rfl rfl (fun w5 bx5 hw hz5 => ?_)
  have hB := hB.carry hw; have ha := ha.carry hw; have hb := hb.carry hw; have hc := hc.carry hw; have bx3 := bx3.carry hw; have bx4 := bx4.carry hw
  refine L.val (x_as (v := .bool _) rfl) rfl ?_
  refine L.nil ?_
  refine thn_n ?_
  refine W.seq ?_
  refine W.seq ?_
  refine W.region ?_
  refine L.val (x_ldn (vs := xs) klawsame_ag25 rfl hla (bx3.row hla)) rfl ?_
  refine L.ret (x_call klawsame_en29 rfl) rfl (checkL _ a _ _ ha) ?_
  rintro _ w13 ⟨rfl, hw⟩
  have hB := hB.carry hw; have ha := ha.carry hw; have hb := hb.carry hw; have hc := hc.carry hw; have bx3 := bx3.carry hw; have bx4 := bx4.carry hw; have bx5 := bx5.carry hw
  refine L.val (x_neq rfl rfl) rfl ?_
  refine L.val (x_mv (v := .bool _) rfl) rfl ?_
  refine' L.group 3 16 18 18 15 false rfl ?_ ?_ ?_
  rotate_left 1
  ·intro g15 hg15
   have h15 := dne_f g15
   refine L.gyes' (dj := 15) (b := _) rfl rfl g15 ?_
   refine L.val (x_ldn (vs := ys) klawsame_ag25 rfl hlb (bx4.row hlb)) rfl ?_
   refine L.gyes' (dj := 15) (b := _) rfl rfl g15 ?_
   refine L.ret (x_call klawsame_en29 rfl) rfl (checkL _ b _ _ hb) ?_
   rintro _ w17 ⟨rfl, hw⟩
   have hB := hB.carry hw; have ha := ha.carry hw; have hb := hb.carry hw; have hc := hc.carry hw; have bx3 := bx3.carry hw; have bx4 := bx4.carry hw; have bx5 := bx5.carry hw; have hg15 := hg15.carry hw
   refine L.gyes' (dj := 15) (b := _) rfl rfl g15 ?_
   refine L.val (x_neq rfl rfl) rfl ?_
   refine L.nil ?_
   refine thn_n ⟨rfl, ?_, ?_, fun _ => rfl⟩
   ·exact hg15
   ·repeat (first | exact jeq.refl _ _ _ | refine jeq.upd rfl ?_ | refine jeq.jk rfl rfl ?_)
  ·intro g15
   refine L.gno (dj := 15) (b := _) rfl rfl g15 rfl ?_
   refine L.gno (dj := 15) (b := _) rfl rfl g15 rfl ?_
   refine L.gno (dj := 15) (b := _) rfl rfl g15 rfl ?_
   refine L.nil (thn_n ⟨rfl, Gr.refl _ _, ?_⟩)
   refine ⟨?_, fun h => h.elim⟩
   repeat (first | exact jeq.refl _ _ _ | refine jeq.upd rfl ?_ | refine jeq.jk rfl rfl ?_)
  intro J15 w15 hw j15
  have hB := hB.carry hw; have ha := ha.carry hw; have hb := hb.carry hw; have hc := hc.carry hw; have bx3 := bx3.carry hw; have bx4 := bx4.carry hw; have bx5 := bx5.carry hw
  refine L.val (x_or rfl j15) rfl ?_
  refine L.val (x_mv (v := .bool _) rfl) rfl ?_
  refine' L.group 3 21 23 23 20 false rfl ?_ ?_ ?_
  rotate_left 1
  ·intro g20 hg20
   have h20 := g20
   refine L.gyes' (dj := 20) (b := _) rfl rfl g20 ?_
   refine L.val (x_ldn (vs := zs) klawsame_ag25 rfl hlc (bx5.row hlc)) rfl ?_
   refine L.gyes' (dj := 20) (b := _) rfl rfl g20 ?_
   refine L.ret (x_call klawsame_en29 rfl) rfl (checkL _ c _ _ hc) ?_
   rintro _ w22 ⟨rfl, hw⟩
   have hB := hB.carry hw; have ha := ha.carry hw; have hb := hb.carry hw; have hc := hc.carry hw; have bx3 := bx3.carry hw; have bx4 := bx4.carry hw; have bx5 := bx5.carry hw; have hg20 := hg20.carry hw
   refine L.gyes' (dj := 20) (b := _) rfl rfl g20 ?_
   refine L.val (x_neq rfl rfl) rfl ?_
   refine L.nil ?_
   refine thn_n ⟨rfl, ?_, ?_, fun _ => rfl⟩
   ·exact hg20
   ·repeat (first | exact jeq.refl _ _ _ | refine jeq.upd rfl ?_ | refine jeq.jk rfl rfl ?_)
  ·intro g20
   refine L.gno (dj := 20) (b := _) rfl rfl g20 rfl ?_
   refine L.gno (dj := 20) (b := _) rfl rfl g20 rfl ?_
   refine L.gno (dj := 20) (b := _) rfl rfl g20 rfl ?_
   refine L.nil (thn_n ⟨rfl, Gr.refl _ _, ?_⟩)
   refine ⟨?_, fun h => h.elim⟩
   repeat (first | exact jeq.refl _ _ _ | refine jeq.upd rfl ?_ | refine jeq.jk rfl rfl ?_)
  intro J20 w20 hw j20
  have hB := hB.carry hw; have ha := ha.carry hw; have hb := hb.carry hw; have hc := hc.carry hw; have bx3 := bx3.carry hw; have bx4 := bx4.carry hw; have bx5 := bx5.carry hw
  refine L.val (x_or rfl j20) rfl ?_
  refine L.nil ?_
  refine thn_n ?_
  refine W.cond (b := _) rfl (fun g24 => ?_) (fun g24 => ?_)
  ·have h24 := g24
   refine W.seq ?_
   refine W.region ?_
   refine L.ret (x_call klawsame_en44 rfl) rfl (awake07 _) ?_
   rintro _ w25 ⟨rfl, hw⟩
   have hB := hB.carry hw; have ha := ha.carry hw; have hb := hb.carry hw; have hc := hc.carry hw; have bx3 := bx3.carry hw; have bx4 := bx4.carry hw; have bx5 := bx5.carry hw
   refine L.val (x_as (v := .bool _) rfl) rfl ?_
   refine L.nil ?_
   refine thn_n ?_
   refine W.ret (thn_r (fin_mk (.inr rfl) ?_))
   exact ⟨rfl, hB⟩
  ·have h24 := g24
   have hca : checkS a = 0 := by simp at h24; exact h24.1.1
   have hcb : checkS b = 0 := by simp at h24; exact h24.1.2
   have hcc : checkS c = 0 := by simp at h24; exact h24.2
   have hcx : checkS a.sort = 0 := check_sort hca
   refine W.skip ?_
   refine thn_n ?_
   refine W.seq ?_
   refine W.region ?_
   refine L.val (x_ldn (vs := xs) klawsame_ag25 rfl hla (bx3.row hla)) rfl ?_
   refine L.ret (x_call klawsame_en33 rfl) rfl (sort_okL _ a _ _ ha) ?_
   rintro _ w27 ⟨cs27, rfl, hx, hw⟩
   have hB := hB.carry hw; have ha := ha.carry hw; have hb := hb.carry hw; have hc := hc.carry hw; have bx3 := bx3.carry hw; have bx4 := bx4.carry hw; have bx5 := bx5.carry hw
   rw [sort_eqS hca] at hx
   have hlx := hx.len
   have hx := hx.up
   have hz27 := hB.size
   have hx3 := bx3.lt
   have hx4 := bx4.lt
   have hx5 := bx5.lt
   refine L.alloc (cs := [Value.int .i64 0, S [], S [], Value.slice none 0 0, Value.slice none 0 0]) klawsame_zr25 rfl rfl (fun w7 bx7 hw hz7 => ?_)
   have hB := hB.carry hw; have ha := ha.carry hw; have hb := hb.carry hw; have hc := hc.carry hw; have bx3 := bx3.carry hw; have bx4 := bx4.carry hw; have bx5 := bx5.carry hw; have hx := hx.carry hw
   refine L.setRow klawsame_ag25 rfl rfl bx7 rfl hlx hx.one (fun wl23 bx7 hw hzl23 => ?_)
   have hsz := hB.size
   have hB := hB.set hw (by omega); have ha := ha.carryR hw (fun j e => hA j (by have e : j = _ := e; omega)); have hb := hb.carryR hw (fun j e => hB1 j (by have e : j = _ := e; omega)); have hc := hc.carryR hw (fun j e => hC j (by have e : j = _ := e; omega)); have bx3 := bx3.carryR hw (by omega); have bx4 := bx4.carryR hw (by omega); have bx5 := bx5.carryR hw (by omega); have hx := hx.carryR hw (fun j e => .inr (by have e : j = _ := e; omega))
   refine L.nil ?_
   refine thn_n ?_
   refine W.seq ?_
   refine W.seq ?_
   refine W.drawF 31 klawsame_mixed (fun wF28 hB0 => ?_)
   refine LAC.takeN (i := 0) rfl (by kernel_rfl) (by kernel_rfl) (by kernel_rfl) (by kernel_rfl) (fun w hw => x_ldn (vs := xs) klawsame_ag25 rfl hla (hw.keepRow hla (bx3.row hla))) rfl ?_
   refine LAC.takeN (i := 1) rfl (by kernel_rfl) (by kernel_rfl) (by kernel_rfl) (by kernel_rfl) (fun w hw => x_ldn (vs := xs) klawsame_ag25 rfl hla (hw.keepRow hla (bx3.row hla))) rfl ?_
   refine LAC.step (rs := [2]) (fun _ => hB0) (by kernel_rfl) (by simp) ⟨⟨_, rfl, ?_⟩, trivial⟩
   refine L.ret (x_call klawsame_en53 rfl) rfl (same_ok _ _ a a _ _ _ (ha.carry hB0) (ha.carry hB0)) ?_
   rintro _ w30 ⟨rfl, hw⟩
   have hB0 := hB0.carry hw
   refine L.nil ?_
   refine thn_n ?_
   refine LAC.takeN (i := 3) rfl (by kernel_rfl) (by kernel_rfl) (by kernel_rfl) (by kernel_rfl) (fun w hw => x_not rfl) rfl ?_
   refine LAC.takeN (i := 4) rfl (by kernel_rfl) (by kernel_rfl) (by kernel_rfl) (by kernel_rfl) (fun w hw => x_mv (v := .bool _) rfl) rfl ?_
   refine LAC.split (dj := 32) (b := _) rfl (fun g32 => ?_) (fun g32 => ?_)
   ·have h32 := (not_t g32)
    rw [same_eq hca hca, eqS_t rfl] at g32; cases g32
   ·have h32 := (not_f g32)
    refine LAC.takeG (i := 5) rfl (by kernel_rfl) (by kernel_rfl) (by kernel_rfl) (by kernel_rfl) (dj := 32) (b := _) rfl rfl g32 (fun w hw => x_ldn (vs := xs) klawsame_ag25 rfl hla (hw.keepRow hla (bx3.row hla))) rfl ?_
    refine LAC.takeG (i := 6) rfl (by kernel_rfl) (by kernel_rfl) (by kernel_rfl) (by kernel_rfl) (dj := 32) (b := _) rfl rfl g32 (fun w hw => x_ldn (vs := cs27) klawsame_ag25 rfl hlx (hw.keepRow hlx (bx7.row hlx))) rfl ?_
    refine LAC.step (rs := [7]) (fun _ => hB0) (by kernel_rfl) (by simp) ⟨⟨_, rfl, ?_⟩, trivial⟩
    refine L.gyes' (dj := 32) (b := _) rfl rfl g32 ?_
    refine L.ret (x_call klawsame_en53 rfl) rfl (same_ok _ _ a a.sort _ _ _ (ha.carry hB0) (hx.carry hB0)) ?_
    rintro _ w35 ⟨rfl, hw⟩
    have hB0 := hB0.carry hw
    refine L.nil ?_
    refine thn_n ?_
    refine LAC.takeG (i := 8) rfl (by kernel_rfl) (by kernel_rfl) (by kernel_rfl) (by kernel_rfl) (dj := 32) (b := _) rfl rfl g32 (fun w hw => x_not rfl) rfl ?_
    refine LAC.takeN (i := 9) rfl (by kernel_rfl) (by kernel_rfl) (by kernel_rfl) (by kernel_rfl) (fun w hw => x_pick_f (v := .bool _) (by rw [← g32]; rfl) rfl) rfl ?_
    refine LAC.takeN (i := 10) rfl (by kernel_rfl) (by kernel_rfl) (by kernel_rfl) (by kernel_rfl) (fun w hw => x_mv (v := .bool _) rfl) rfl ?_
    refine LAC.split (dj := 38) (b := _) rfl (fun g38 => ?_) (fun g38 => ?_)
    ·have h38 := (not_t g38)
     rw [same_eq hca hcx, sort_stays hca, eqS_t rfl] at g38; cases g38
    ·have h38 := (not_f g38)
     refine LAC.takeG (i := 11) rfl (by kernel_rfl) (by kernel_rfl) (by kernel_rfl) (by kernel_rfl) (dj := 38) (b := _) rfl rfl g38 (fun w hw => x_ldn (vs := cs27) klawsame_ag25 rfl hlx (hw.keepRow hlx (bx7.row hlx))) rfl ?_
     refine LAC.takeG (i := 13) rfl (by kernel_rfl) (by kernel_rfl) (by kernel_rfl) (by kernel_rfl) (dj := 38) (b := _) rfl rfl g38 (fun w hw => x_ldn (vs := cs27) klawsame_ag25 rfl hlx (hw.keepRow hlx (bx7.row hlx))) rfl ?_
     refine LAC.step (rs := [12]) (fun _ => hB0) (by kernel_rfl) (by simp) ⟨⟨_, rfl, ?_⟩, trivial⟩
     refine L.gyes' (dj := 38) (b := _) rfl rfl g38 ?_
     refine L.ret (x_call klawsame_en33 rfl) rfl (sort_okL _ a.sort _ _ (hx.carry hB0)) ?_
     rintro _ w40 ⟨cs40, rfl, h40, hw⟩
     have hB0 := hB0.carry hw
     refine L.nil ?_
     refine thn_n ?_
     refine LAC.step (rs := [14]) (fun _ => hB0) (by kernel_rfl) (by simp) ⟨⟨_, rfl, ?_⟩, trivial⟩
     refine L.gyes' (dj := 38) (b := _) rfl rfl g38 ?_
     refine L.ret (x_call klawsame_en27 rfl) rfl (equal07 _ _ _ (Nat.lt_succ_self _) _ _ _ _ _ h40 (hx.carry hB0)) ?_
     rintro _ w42 ⟨rfl, hw⟩
     have hB0 := hB0.carry hw
     refine L.nil ?_
     refine thn_n ?_
     refine LAC.takeG (i := 15) rfl (by kernel_rfl) (by kernel_rfl) (by kernel_rfl) (by kernel_rfl) (dj := 38) (b := _) rfl rfl g38 (fun w hw => x_not rfl) rfl ?_
     refine LAC.takeN (i := 16) rfl (by kernel_rfl) (by kernel_rfl) (by kernel_rfl) (by kernel_rfl) (fun w hw => x_pick_f (v := .bool _) (by rw [← g38]; rfl) rfl) rfl ?_
     refine LAC.takeN (i := 17) rfl (by kernel_rfl) (by kernel_rfl) (by kernel_rfl) (by kernel_rfl) (fun w hw => x_mv (v := .bool _) rfl) rfl ?_
     refine LAC.split (dj := 45) (b := _) rfl (fun g45 => ?_) (fun g45 => ?_)
     ·have h45 := (not_t g45)
      rw [sort_eqS hcx, sort_stays hca, eqS_t rfl] at g45; cases g45
     ·have h45 := (not_f g45)
      refine LAC.takeG (i := 18) rfl (by kernel_rfl) (by kernel_rfl) (by kernel_rfl) (by kernel_rfl) (dj := 45) (b := _) rfl rfl g45 (fun w hw => x_ldn (vs := cs27) klawsame_ag25 rfl hlx (hw.keepRow hlx (bx7.row hlx))) rfl ?_
      refine LAC.takeG (i := 20) rfl (by kernel_rfl) (by kernel_rfl) (by kernel_rfl) (by kernel_rfl) (dj := 45) (b := _) rfl rfl g45 (fun w hw => x_ldn (vs := xs) klawsame_ag25 rfl hla (hw.keepRow hla (bx3.row hla))) rfl ?_
      refine LAC.step (rs := [19]) (fun _ => hB0) (by kernel_rfl) (by simp) ⟨⟨_, rfl, ?_⟩, trivial⟩
      refine L.gyes' (dj := 45) (b := _) rfl rfl g45 ?_
      refine L.ret (x_call klawsame_en41 rfl) rfl (sizeL_ok _ a.sort _ _ (hx.carry hB0)) ?_
      rintro _ w47 ⟨rfl, hw⟩
      have hB0 := hB0.carry hw
      refine L.nil ?_
      refine thn_n ?_
      refine LAC.step (rs := [21]) (fun _ => hB0) (by kernel_rfl) (by simp) ⟨⟨_, rfl, ?_⟩, trivial⟩
      refine L.gyes' (dj := 45) (b := _) rfl rfl g45 ?_
      refine L.ret (x_call klawsame_en41 rfl) rfl (sizeL_ok _ a _ _ (ha.carry hB0)) ?_
      rintro _ w49 ⟨rfl, hw⟩
      have hB0 := hB0.carry hw
      refine L.nil ?_
      refine thn_n ?_
      refine LAC.takeG (i := 22) rfl (by kernel_rfl) (by kernel_rfl) (by kernel_rfl) (by kernel_rfl) (dj := 45) (b := _) rfl rfl g45 (fun w hw => x_neq rfl rfl) rfl ?_
      refine LAC.takeN (i := 23) rfl (by kernel_rfl) (by kernel_rfl) (by kernel_rfl) (by kernel_rfl) (fun w hw => x_pick_f (v := .bool _) (by rw [← g45]; rfl) rfl) rfl ?_
      refine LAC.takeN (i := 24) rfl (by kernel_rfl) (by kernel_rfl) (by kernel_rfl) (by kernel_rfl) (fun w hw => x_mv (v := .bool _) rfl) rfl ?_
      refine LAC.split (dj := 52) (b := _) rfl (fun g52 => ?_) (fun g52 => ?_)
      ·have h52 := dne_t g52
       simp [sizeS, Sh.sort_size a (check_zero hca).2.2] at g52
      ·have h52 := dne_f g52
       refine LAC.takeG (i := 25) rfl (by kernel_rfl) (by kernel_rfl) (by kernel_rfl) (by kernel_rfl) (dj := 52) (b := _) rfl rfl g52 (fun w hw => x_ldn (vs := cs27) klawsame_ag25 rfl hlx (hw.keepRow hlx (bx7.row hlx))) rfl ?_
       refine LAC.takeG (i := 27) rfl (by kernel_rfl) (by kernel_rfl) (by kernel_rfl) (by kernel_rfl) (dj := 52) (b := _) rfl rfl g52 (fun w hw => x_ldn (vs := xs) klawsame_ag25 rfl hla (hw.keepRow hla (bx3.row hla))) rfl ?_
       refine LAC.step (rs := [26]) (fun _ => hB0) (by kernel_rfl) (by simp) ⟨⟨_, rfl, ?_⟩, trivial⟩
       refine L.gyes' (dj := 52) (b := _) rfl rfl g52 ?_
       refine L.ret (x_call klawsame_en42 rfl) rfl (deepL_ok _ a.sort _ _ (hx.carry hB0)) ?_
       rintro _ w54 ⟨rfl, hw⟩
       have hB0 := hB0.carry hw
       refine L.nil ?_
       refine thn_n ?_
       refine LAC.step (rs := [28]) (fun _ => hB0) (by kernel_rfl) (by simp) ⟨⟨_, rfl, ?_⟩, trivial⟩
       refine L.gyes' (dj := 52) (b := _) rfl rfl g52 ?_
       refine L.ret (x_call klawsame_en42 rfl) rfl (deepL_ok _ a _ _ (ha.carry hB0)) ?_
       rintro _ w56 ⟨rfl, hw⟩
       have hB0 := hB0.carry hw
       refine L.nil ?_
       refine thn_n ?_
       refine LAC.takeG (i := 29) rfl (by kernel_rfl) (by kernel_rfl) (by kernel_rfl) (by kernel_rfl) (dj := 52) (b := _) rfl rfl g52 (fun w hw => x_neq rfl rfl) rfl ?_
       refine LAC.takeN (i := 30) rfl (by kernel_rfl) (by kernel_rfl) (by kernel_rfl) (by kernel_rfl) (fun w hw => x_pick_f (v := .bool _) (by rw [← g52]; rfl) rfl) rfl ?_
       refine LAC.doneF (by kernel_rfl) hB0 ?_
       have hB := hB.carry hB0; have ha := ha.carry hB0; have hb := hb.carry hB0; have hc := hc.carry hB0; have bx3 := bx3.carry hB0; have bx4 := bx4.carry hB0; have bx5 := bx5.carry hB0; have hx := hx.carry hB0; have bx7 := bx7.carry hB0
       refine thn_n ?_
       refine W.cond (b := _) rfl (fun g57 => ?_) (fun g57 => ?_)
       ·have h57 := dne_t g57
        simp [deepS, Sh.sort_size a (check_zero hca).2.2, Sh.sort_deep a (check_zero hca).2.2] at g57
       ·have h57 := dne_f g57
        refine W.skip ?_
        refine thn_n ?_
        refine W.seq ?_
        refine W.seq ?_
        refine W.drawF 23 klawsame_mixed (fun wF59 hB0 => ?_)
        refine LAC.takeN (i := 0) rfl (by kernel_rfl) (by kernel_rfl) (by kernel_rfl) (by kernel_rfl) (fun w hw => x_ldn (vs := xs) klawsame_ag25 rfl hla (hw.keepRow hla (bx3.row hla))) rfl ?_
        refine LAC.takeN (i := 1) rfl (by kernel_rfl) (by kernel_rfl) (by kernel_rfl) (by kernel_rfl) (fun w hw => x_ldn (vs := ys) klawsame_ag25 rfl hlb (hw.keepRow hlb (bx4.row hlb))) rfl ?_
        refine LAC.takeN (i := 3) rfl (by kernel_rfl) (by kernel_rfl) (by kernel_rfl) (by kernel_rfl) (fun w hw => x_ldn (vs := ys) klawsame_ag25 rfl hlb (hw.keepRow hlb (bx4.row hlb))) rfl ?_
        refine LAC.takeN (i := 4) rfl (by kernel_rfl) (by kernel_rfl) (by kernel_rfl) (by kernel_rfl) (fun w hw => x_ldn (vs := xs) klawsame_ag25 rfl hla (hw.keepRow hla (bx3.row hla))) rfl ?_
        refine LAC.step (rs := [2]) (fun _ => hB0) (by kernel_rfl) (by simp) ⟨⟨_, rfl, ?_⟩, trivial⟩
        refine L.ret (x_call klawsame_en53 rfl) rfl (same_ok _ _ a b _ _ _ (ha.carry hB0) (hb.carry hB0)) ?_
        rintro _ w61 ⟨rfl, hw⟩
        have hB0 := hB0.carry hw
        refine L.nil ?_
        refine thn_n ?_
        refine LAC.step (rs := [5]) (fun _ => hB0) (by kernel_rfl) (by simp) ⟨⟨_, rfl, ?_⟩, trivial⟩
        refine L.ret (x_call klawsame_en53 rfl) rfl (same_ok _ _ b a _ _ _ (hb.carry hB0) (ha.carry hB0)) ?_
        rintro _ w64 ⟨rfl, hw⟩
        have hB0 := hB0.carry hw
        refine L.nil ?_
        refine thn_n ?_
        refine LAC.takeN (i := 6) rfl (by kernel_rfl) (by kernel_rfl) (by kernel_rfl) (by kernel_rfl) (fun w hw => x_neb Try.underlying4 rfl rfl) rfl ?_
        refine LAC.takeN (i := 7) rfl (by kernel_rfl) (by kernel_rfl) (by kernel_rfl) (by kernel_rfl) (fun w hw => x_mv (v := .bool _) rfl) rfl ?_
        refine LAC.split (dj := 66) (b := _) rfl (fun g66 => ?_) (fun g66 => ?_)
        ·have h66 := g66
         rw [same_eq hca hcb, same_eq hcb hca, eqS_comm] at g66; simp at g66
        ·have h66 := g66
         refine LAC.takeG (i := 8) rfl (by kernel_rfl) (by kernel_rfl) (by kernel_rfl) (by kernel_rfl) (dj := 66) (b := _) rfl rfl g66 (fun w hw => x_ldn (vs := xs) klawsame_ag25 rfl hla (hw.keepRow hla (bx3.row hla))) rfl ?_
         refine LAC.takeG (i := 9) rfl (by kernel_rfl) (by kernel_rfl) (by kernel_rfl) (by kernel_rfl) (dj := 66) (b := _) rfl rfl g66 (fun w hw => x_ldn (vs := ys) klawsame_ag25 rfl hlb (hw.keepRow hlb (bx4.row hlb))) rfl ?_
         refine LAC.step (rs := [10]) (fun _ => hB0) (by kernel_rfl) (by simp) ⟨⟨_, rfl, ?_⟩, trivial⟩
         refine L.gyes' (dj := 66) (b := _) rfl rfl g66 ?_
         refine L.ret (x_call klawsame_en53 rfl) rfl (same_ok _ _ a b _ _ _ (ha.carry hB0) (hb.carry hB0)) ?_
         rintro _ w69 ⟨rfl, hw⟩
         have hB0 := hB0.carry hw
         refine L.nil ?_
         refine thn_n ?_
         refine LAC.takeG (i := 11) rfl (by kernel_rfl) (by kernel_rfl) (by kernel_rfl) (by kernel_rfl) (dj := 66) (b := _) rfl rfl g66 (fun w hw => x_mv (v := .bool _) rfl) rfl ?_
         refine LAC.split (dj := 70) (b := _) rfl (fun g70 => ?_) (fun g70 => ?_)
         ·have h70 := g70
          refine LAC.takeG (i := 12) rfl (by kernel_rfl) (by kernel_rfl) (by kernel_rfl) (by kernel_rfl) (dj := 70) (b := _) rfl rfl g70 (fun w hw => x_ldn (vs := ys) klawsame_ag25 rfl hlb (hw.keepRow hlb (bx4.row hlb))) rfl ?_
          refine LAC.takeG (i := 13) rfl (by kernel_rfl) (by kernel_rfl) (by kernel_rfl) (by kernel_rfl) (dj := 70) (b := _) rfl rfl g70 (fun w hw => x_ldn (vs := zs) klawsame_ag25 rfl hlc (hw.keepRow hlc (bx5.row hlc))) rfl ?_
          refine LAC.step (rs := [14]) (fun _ => hB0) (by kernel_rfl) (by simp) ⟨⟨_, rfl, ?_⟩, trivial⟩
          refine L.gyes' (dj := 70) (b := _) rfl rfl g70 ?_
          refine L.ret (x_call klawsame_en53 rfl) rfl (same_ok _ _ b c _ _ _ (hb.carry hB0) (hc.carry hB0)) ?_
          rintro _ w73 ⟨rfl, hw⟩
          have hB0 := hB0.carry hw
          refine L.nil ?_
          refine thn_n ?_
          refine LAC.takeG (i := 15) rfl (by kernel_rfl) (by kernel_rfl) (by kernel_rfl) (by kernel_rfl) (dj := 66) (b := _) rfl rfl g66 (fun w hw => x_pick_t (v := .bool _) (by rw [← g70]; rfl) rfl) rfl ?_
          refine LAC.takeG (i := 16) rfl (by kernel_rfl) (by kernel_rfl) (by kernel_rfl) (by kernel_rfl) (dj := 66) (b := _) rfl rfl g66 (fun w hw => x_mv (v := .bool _) rfl) rfl ?_
          refine LAC.split (dj := 75) (b := _) rfl (fun g75 => ?_) (fun g75 => ?_)
          ·have h75 := g75
           refine LAC.takeG (i := 17) rfl (by kernel_rfl) (by kernel_rfl) (by kernel_rfl) (by kernel_rfl) (dj := 75) (b := _) rfl rfl g75 (fun w hw => x_ldn (vs := xs) klawsame_ag25 rfl hla (hw.keepRow hla (bx3.row hla))) rfl ?_
           refine LAC.takeG (i := 18) rfl (by kernel_rfl) (by kernel_rfl) (by kernel_rfl) (by kernel_rfl) (dj := 75) (b := _) rfl rfl g75 (fun w hw => x_ldn (vs := zs) klawsame_ag25 rfl hlc (hw.keepRow hlc (bx5.row hlc))) rfl ?_
           refine LAC.step (rs := [19]) (fun _ => hB0) (by kernel_rfl) (by simp) ⟨⟨_, rfl, ?_⟩, trivial⟩
           refine L.gyes' (dj := 75) (b := _) rfl rfl g75 ?_
           refine L.ret (x_call klawsame_en53 rfl) rfl (same_ok _ _ a c _ _ _ (ha.carry hB0) (hc.carry hB0)) ?_
           rintro _ w78 ⟨rfl, hw⟩
           have hB0 := hB0.carry hw
           refine L.nil ?_
           refine thn_n ?_
           refine LAC.takeG (i := 20) rfl (by kernel_rfl) (by kernel_rfl) (by kernel_rfl) (by kernel_rfl) (dj := 75) (b := _) rfl rfl g75 (fun w hw => x_not rfl) rfl ?_
           refine LAC.takeG (i := 21) rfl (by kernel_rfl) (by kernel_rfl) (by kernel_rfl) (by kernel_rfl) (dj := 66) (b := _) rfl rfl g66 (fun w hw => x_pick_t (v := .bool _) (by rw [← g75]; rfl) rfl) rfl ?_
           refine LAC.takeN (i := 22) rfl (by kernel_rfl) (by kernel_rfl) (by kernel_rfl) (by kernel_rfl) (fun w hw => x_pick_f (v := .bool _) (by rw [← g66]; rfl) rfl) rfl ?_
           refine LAC.doneF (by kernel_rfl) hB0 ?_
           have hB := hB.carry hB0; have ha := ha.carry hB0; have hb := hb.carry hB0; have hc := hc.carry hB0; have bx3 := bx3.carry hB0; have bx4 := bx4.carry hB0; have bx5 := bx5.carry hB0; have hx := hx.carry hB0; have bx7 := bx7.carry hB0
           refine thn_n ?_
           refine W.cond (b := _) rfl (fun g79 => ?_) (fun g79 => ?_)
           ·have h79 := (not_t g79)
            have e1 := eqS_iff.1 ((same_eq hca hcb).symm.trans h70)
            have e2 := eqS_iff.1 ((same_eq hcb hcc).symm.trans h75)
            rw [same_eq hca hcc, eqS_t (e1.trans e2)] at g79; cases g79
           ·have h79 := (not_f g79)
            refine W.skip ?_
            refine thn_n ?_
            refine W.seq ?_
            refine W.region ?_
            refine L.val (x_ldn (vs := xs) klawsame_ag25 rfl hla (bx3.row hla)) rfl ?_
            refine L.ret (x_call klawsame_en33 rfl) rfl (sort_okL _ a _ _ ha) ?_
            rintro _ w84 ⟨cs84, rfl, h84, hw⟩
            have hB := hB.carry hw; have ha := ha.carry hw; have hb := hb.carry hw; have hc := hc.carry hw; have bx3 := bx3.carry hw; have bx4 := bx4.carry hw; have bx5 := bx5.carry hw; have hx := hx.carry hw; have bx7 := bx7.carry hw
            refine L.ret (x_call klawsame_en46 rfl) rfl (show_ok _ _ _ _ h84) ?_
            rintro _ w85 ⟨rfl, hw⟩
            have hB := hB.carry hw; have ha := ha.carry hw; have hb := hb.carry hw; have hc := hc.carry hw; have bx3 := bx3.carry hw; have bx4 := bx4.carry hw; have bx5 := bx5.carry hw; have hx := hx.carry hw; have bx7 := bx7.carry hw; have h84 := h84.carry hw
            rw [show_sorted hca]
            refine L.val (x_mv (v := _) rfl) rfl ?_
            refine L.val (x_ext (v := S _) rfl rfl) rfl ?_
            refine L.val (x_ext (v := .int _ _) rfl rfl) rfl ?_
            refine L.val (x_as (v := S _) rfl) rfl ?_
            refine L.val (x_as (v := .int _ _) rfl) rfl ?_
            refine L.nil ?_
            refine thn_n ?_
            refine W.seq ?_
            refine W.region ?_
            refine L.val (x_ldn (vs := ys) klawsame_ag25 rfl hlb (bx4.row hlb)) rfl ?_
            refine L.ret (x_call klawsame_en33 rfl) rfl (sort_okL _ b _ _ hb) ?_
            rintro _ w90 ⟨cs90, rfl, h90, hw⟩
            have hB := hB.carry hw; have ha := ha.carry hw; have hb := hb.carry hw; have hc := hc.carry hw; have bx3 := bx3.carry hw; have bx4 := bx4.carry hw; have bx5 := bx5.carry hw; have hx := hx.carry hw; have bx7 := bx7.carry hw
            refine L.ret (x_call klawsame_en46 rfl) rfl (show_ok _ _ _ _ h90) ?_
            rintro _ w91 ⟨rfl, hw⟩
            have hB := hB.carry hw; have ha := ha.carry hw; have hb := hb.carry hw; have hc := hc.carry hw; have bx3 := bx3.carry hw; have bx4 := bx4.carry hw; have bx5 := bx5.carry hw; have hx := hx.carry hw; have bx7 := bx7.carry hw; have h90 := h90.carry hw
            rw [show_sorted hcb]
            refine L.val (x_mv (v := _) rfl) rfl ?_
            refine L.val (x_ext (v := S _) rfl rfl) rfl ?_
            refine L.val (x_ext (v := .int _ _) rfl rfl) rfl ?_
            refine L.val (x_as (v := S _) rfl) rfl ?_
            refine L.val (x_as (v := .int _ _) rfl) rfl ?_
            refine L.nil ?_
            refine thn_n ?_
            refine W.seq ?_
            refine W.region ?_
            refine L.val (x_mv (v := .int _ _) rfl) rfl ?_
            refine L.val (x_eql rfl rfl) rfl ?_
            refine L.val (x_mv (v := .bool _) rfl) rfl ?_
            refine' L.group0 2 97 98 98 96 true rfl ?_ ?_ ?_
            rotate_left 1
            ·intro g96
             have h96 := of_decide_eq_true g96
             refine L.gyes' (dj := 96) (b := _) rfl rfl g96 ?_
             refine L.val (x_mv (v := .int _ _) rfl) rfl ?_
             refine L.gyes' (dj := 96) (b := _) rfl rfl g96 ?_
             refine L.val (x_eql rfl rfl) rfl ?_
             refine L.nil ?_
             refine thn_n ⟨rfl, rfl, ?_, rfl⟩
             repeat (first | exact jeq.refl _ _ _ | refine jeq.upd rfl ?_ | refine jeq.jk rfl rfl ?_)
            ·intro g96
             refine L.gno (dj := 96) (b := _) rfl rfl g96 rfl ?_
             refine L.gno (dj := 96) (b := _) rfl rfl g96 rfl ?_
             refine L.nil (thn_n ⟨rfl, rfl, ?_⟩)
             repeat (first | exact jeq.refl _ _ _ | refine jeq.upd rfl ?_ | refine jeq.jk rfl rfl ?_)
            intro J96 j96
            refine L.val (x_and rfl j96) rfl ?_
            refine L.val (x_mv (v := .bool _) rfl) rfl ?_
            refine' L.group 9 101 109 109 100 true rfl ?_ ?_ ?_
            rotate_left 1
            ·intro g100 hg100
             have h100 := g100
             refine L.gyes' (dj := 100) (b := _) rfl rfl g100 ?_
             refine L.val (x_ldn (vs := xs) klawsame_ag25 rfl hla (bx3.row hla)) rfl ?_
             refine L.gyes' (dj := 100) (b := _) rfl rfl g100 ?_
             refine L.val (x_ldn (vs := ys) klawsame_ag25 rfl hlb (bx4.row hlb)) rfl ?_
             refine L.gyes' (dj := 100) (b := _) rfl rfl g100 ?_
             refine L.ret (x_call klawsame_en53 rfl) rfl (same_ok _ _ a b _ _ _ ha hb) ?_
             rintro _ w103 ⟨rfl, hw⟩
             have hB := hB.carry hw; have ha := ha.carry hw; have hb := hb.carry hw; have hc := hc.carry hw; have bx3 := bx3.carry hw; have bx4 := bx4.carry hw; have bx5 := bx5.carry hw; have hx := hx.carry hw; have bx7 := bx7.carry hw; have hg100 := hg100.carry hw
             refine L.gyes' (dj := 100) (b := _) rfl rfl g100 ?_
             refine L.val (x_not rfl) rfl ?_
             refine L.gyes' (dj := 100) (b := _) rfl rfl g100 ?_
             refine L.val (x_mv (v := .bool _) rfl) rfl ?_
             refine' L.group0 3 106 108 108 105 false rfl ?_ ?_ ?_
             rotate_left 1
             ·intro g105
              have h105 := (not_f g105)
              refine L.gyes' (dj := 105) (b := _) rfl rfl g105 ?_
              refine L.val (x_mv (v := S _) rfl) rfl ?_
              refine L.gyes' (dj := 105) (b := _) rfl rfl g105 ?_
              refine L.val (x_mv (v := S _) rfl) rfl ?_
              refine L.gyes' (dj := 105) (b := _) rfl rfl g105 ?_
              refine L.val (x_eqs rfl rfl) rfl ?_
              refine L.nil ?_
              refine thn_n ⟨rfl, rfl, ?_, rfl⟩
              repeat (first | exact jeq.refl _ _ _ | refine jeq.upd rfl ?_ | refine jeq.jk rfl rfl ?_)
             ·intro g105
              refine L.gno (dj := 105) (b := _) rfl rfl g105 rfl ?_
              refine L.gno (dj := 105) (b := _) rfl rfl g105 rfl ?_
              refine L.gno (dj := 105) (b := _) rfl rfl g105 rfl ?_
              refine L.nil (thn_n ⟨rfl, rfl, ?_⟩)
              repeat (first | exact jeq.refl _ _ _ | refine jeq.upd rfl ?_ | refine jeq.jk rfl rfl ?_)
             intro J105 j105
             refine L.gyes' (dj := 100) (b := _) rfl rfl g100 ?_
             refine L.val (x_or rfl j105) rfl ?_
             refine L.nil ?_
             refine thn_n ⟨rfl, ?_, ?_, fun _ => rfl⟩
             ·exact hg100
             ·repeat (first | exact jeq.refl _ _ _ | refine jeq.upd rfl ?_ | refine jeq.jk rfl rfl ?_)
            ·intro g100
             refine L.gno (dj := 100) (b := _) rfl rfl g100 rfl ?_
             refine L.gno (dj := 100) (b := _) rfl rfl g100 rfl ?_
             refine L.gno (dj := 100) (b := _) rfl rfl g100 rfl ?_
             refine L.gno (dj := 100) (b := _) rfl rfl g100 rfl ?_
             refine L.gno (dj := 100) (b := _) rfl rfl g100 rfl ?_
             refine L.gun (dj := 105) rfl rfl rfl ?_
             refine L.gun (dj := 105) rfl rfl rfl ?_
             refine L.gun (dj := 105) rfl rfl rfl ?_
             refine L.gno (dj := 100) (b := _) rfl rfl g100 rfl ?_
             refine L.nil (thn_n ⟨rfl, Gr.refl _ _, ?_⟩)
             refine ⟨?_, fun h => h.elim⟩
             repeat (first | exact jeq.refl _ _ _ | refine jeq.upd rfl ?_ | refine jeq.jk rfl rfl ?_)
            intro J100 w100 hw j100
            have hB := hB.carry hw; have ha := ha.carry hw; have hb := hb.carry hw; have hc := hc.carry hw; have bx3 := bx3.carry hw; have bx4 := bx4.carry hw; have bx5 := bx5.carry hw; have hx := hx.carry hw; have bx7 := bx7.carry hw
            refine L.val (x_and rfl j100) rfl ?_
            refine L.val (x_mv (v := .bool _) rfl) rfl ?_
            refine' L.group 1 112 112 112 111 true rfl ?_ ?_ ?_
            rotate_left 1
            ·intro g111 hg111
             have h111 := g111
             refine L.gyes' (dj := 111) (b := _) rfl rfl g111 ?_
             refine L.ret (x_call klawsame_en44 rfl) rfl (awake07 _) ?_
             rintro _ w112 ⟨rfl, hw⟩
             have hB := hB.carry hw; have ha := ha.carry hw; have hb := hb.carry hw; have hc := hc.carry hw; have bx3 := bx3.carry hw; have bx4 := bx4.carry hw; have bx5 := bx5.carry hw; have hx := hx.carry hw; have bx7 := bx7.carry hw; have hg111 := hg111.carry hw
             refine L.nil ?_
             refine thn_n ⟨rfl, ?_, ?_, fun _ => rfl⟩
             ·exact hg111
             ·repeat (first | exact jeq.refl _ _ _ | refine jeq.upd rfl ?_ | refine jeq.jk rfl rfl ?_)
            ·intro g111
             refine L.gno (dj := 111) (b := _) rfl rfl g111 rfl ?_
             refine L.nil (thn_n ⟨rfl, Gr.refl _ _, ?_⟩)
             refine ⟨?_, fun h => h.elim⟩
             repeat (first | exact jeq.refl _ _ _ | refine jeq.upd rfl ?_ | refine jeq.jk rfl rfl ?_)
            intro J111 w111 hw j111
            have hB := hB.carry hw; have ha := ha.carry hw; have hb := hb.carry hw; have hc := hc.carry hw; have bx3 := bx3.carry hw; have bx4 := bx4.carry hw; have bx5 := bx5.carry hw; have hx := hx.carry hw; have bx7 := bx7.carry hw
            refine L.val (x_and rfl j111) rfl ?_
            refine L.val (x_as (v := .bool _) rfl) rfl ?_
            refine L.nil ?_
            refine thn_n ?_
            refine W.ret (fin_mk (.inr rfl) ?_)
            have hT : sameS a b = true → a.sort.text = b.sort.text := fun h => by rw [same_eq hca hcb] at h; rw [eqS_iff.1 h]
            refine ⟨vb ?_, hB⟩
            by_cases h : sameS a b = true
            · simp [hT h]
            · simp [h]
          ·have h75 := g75
           refine LAC.takeU (i := 17) rfl (by kernel_rfl) (by kernel_rfl) (by kernel_rfl) (by kernel_rfl) (dj := 75) (b := _) rfl rfl g75 rfl ?_
           refine LAC.takeU (i := 18) rfl (by kernel_rfl) (by kernel_rfl) (by kernel_rfl) (by kernel_rfl) (dj := 75) (b := _) rfl rfl g75 rfl ?_
           refine LAC.takeU (i := 19) rfl (by kernel_rfl) (by kernel_rfl) (by kernel_rfl) (by kernel_rfl) (dj := 75) (b := _) rfl rfl g75 rfl ?_
           refine LAC.takeU (i := 20) rfl (by kernel_rfl) (by kernel_rfl) (by kernel_rfl) (by kernel_rfl) (dj := 75) (b := _) rfl rfl g75 rfl ?_
           refine LAC.takeG (i := 21) rfl (by kernel_rfl) (by kernel_rfl) (by kernel_rfl) (by kernel_rfl) (dj := 66) (b := _) rfl rfl g66 (fun w hw => x_pick_f (v := .bool _) (by rw [← g75]; rfl) rfl) rfl ?_
           refine LAC.takeN (i := 22) rfl (by kernel_rfl) (by kernel_rfl) (by kernel_rfl) (by kernel_rfl) (fun w hw => x_pick_f (v := .bool _) (by rw [← g66]; rfl) rfl) rfl ?_
           refine LAC.doneF (by kernel_rfl) hB0 ?_
           have hB := hB.carry hB0; have ha := ha.carry hB0; have hb := hb.carry hB0; have hc := hc.carry hB0; have bx3 := bx3.carry hB0; have bx4 := bx4.carry hB0; have bx5 := bx5.carry hB0; have hx := hx.carry hB0; have bx7 := bx7.carry hB0
           refine thn_n ?_
           refine W.cond (b := false) rfl (fun h => nomatch h) (fun _ => ?_)
           refine W.skip ?_
           refine thn_n ?_
           refine W.seq ?_
           refine W.region ?_
           refine L.val (x_ldn (vs := xs) klawsame_ag25 rfl hla (bx3.row hla)) rfl ?_
           refine L.ret (x_call klawsame_en33 rfl) rfl (sort_okL _ a _ _ ha) ?_
           rintro _ w84 ⟨cs84, rfl, h84, hw⟩
           have hB := hB.carry hw; have ha := ha.carry hw; have hb := hb.carry hw; have hc := hc.carry hw; have bx3 := bx3.carry hw; have bx4 := bx4.carry hw; have bx5 := bx5.carry hw; have hx := hx.carry hw; have bx7 := bx7.carry hw
           refine L.ret (x_call klawsame_en46 rfl) rfl (show_ok _ _ _ _ h84) ?_
           rintro _ w85 ⟨rfl, hw⟩
           have hB := hB.carry hw; have ha := ha.carry hw; have hb := hb.carry hw; have hc := hc.carry hw; have bx3 := bx3.carry hw; have bx4 := bx4.carry hw; have bx5 := bx5.carry hw; have hx := hx.carry hw; have bx7 := bx7.carry hw; have h84 := h84.carry hw
           rw [show_sorted hca]
           refine L.val (x_mv (v := _) rfl) rfl ?_
           refine L.val (x_ext (v := S _) rfl rfl) rfl ?_
           refine L.val (x_ext (v := .int _ _) rfl rfl) rfl ?_
           refine L.val (x_as (v := S _) rfl) rfl ?_
           refine L.val (x_as (v := .int _ _) rfl) rfl ?_
           refine L.nil ?_
           refine thn_n ?_
           refine W.seq ?_
           refine W.region ?_
           refine L.val (x_ldn (vs := ys) klawsame_ag25 rfl hlb (bx4.row hlb)) rfl ?_
           refine L.ret (x_call klawsame_en33 rfl) rfl (sort_okL _ b _ _ hb) ?_
           rintro _ w90 ⟨cs90, rfl, h90, hw⟩
           have hB := hB.carry hw; have ha := ha.carry hw; have hb := hb.carry hw; have hc := hc.carry hw; have bx3 := bx3.carry hw; have bx4 := bx4.carry hw; have bx5 := bx5.carry hw; have hx := hx.carry hw; have bx7 := bx7.carry hw
           refine L.ret (x_call klawsame_en46 rfl) rfl (show_ok _ _ _ _ h90) ?_
           rintro _ w91 ⟨rfl, hw⟩
           have hB := hB.carry hw; have ha := ha.carry hw; have hb := hb.carry hw; have hc := hc.carry hw; have bx3 := bx3.carry hw; have bx4 := bx4.carry hw; have bx5 := bx5.carry hw; have hx := hx.carry hw; have bx7 := bx7.carry hw; have h90 := h90.carry hw
           rw [show_sorted hcb]
           refine L.val (x_mv (v := _) rfl) rfl ?_
           refine L.val (x_ext (v := S _) rfl rfl) rfl ?_
           refine L.val (x_ext (v := .int _ _) rfl rfl) rfl ?_
           refine L.val (x_as (v := S _) rfl) rfl ?_
           refine L.val (x_as (v := .int _ _) rfl) rfl ?_
           refine L.nil ?_
           refine thn_n ?_
           refine W.seq ?_
           refine W.region ?_
           refine L.val (x_mv (v := .int _ _) rfl) rfl ?_
           refine L.val (x_eql rfl rfl) rfl ?_
           refine L.val (x_mv (v := .bool _) rfl) rfl ?_
           refine' L.group0 2 97 98 98 96 true rfl ?_ ?_ ?_
           rotate_left 1
           ·intro g96
            have h96 := of_decide_eq_true g96
            refine L.gyes' (dj := 96) (b := _) rfl rfl g96 ?_
            refine L.val (x_mv (v := .int _ _) rfl) rfl ?_
            refine L.gyes' (dj := 96) (b := _) rfl rfl g96 ?_
            refine L.val (x_eql rfl rfl) rfl ?_
            refine L.nil ?_
            refine thn_n ⟨rfl, rfl, ?_, rfl⟩
            repeat (first | exact jeq.refl _ _ _ | refine jeq.upd rfl ?_ | refine jeq.jk rfl rfl ?_)
           ·intro g96
            refine L.gno (dj := 96) (b := _) rfl rfl g96 rfl ?_
            refine L.gno (dj := 96) (b := _) rfl rfl g96 rfl ?_
            refine L.nil (thn_n ⟨rfl, rfl, ?_⟩)
            repeat (first | exact jeq.refl _ _ _ | refine jeq.upd rfl ?_ | refine jeq.jk rfl rfl ?_)
           intro J96 j96
           refine L.val (x_and rfl j96) rfl ?_
           refine L.val (x_mv (v := .bool _) rfl) rfl ?_
           refine' L.group 9 101 109 109 100 true rfl ?_ ?_ ?_
           rotate_left 1
           ·intro g100 hg100
            have h100 := g100
            refine L.gyes' (dj := 100) (b := _) rfl rfl g100 ?_
            refine L.val (x_ldn (vs := xs) klawsame_ag25 rfl hla (bx3.row hla)) rfl ?_
            refine L.gyes' (dj := 100) (b := _) rfl rfl g100 ?_
            refine L.val (x_ldn (vs := ys) klawsame_ag25 rfl hlb (bx4.row hlb)) rfl ?_
            refine L.gyes' (dj := 100) (b := _) rfl rfl g100 ?_
            refine L.ret (x_call klawsame_en53 rfl) rfl (same_ok _ _ a b _ _ _ ha hb) ?_
            rintro _ w103 ⟨rfl, hw⟩
            have hB := hB.carry hw; have ha := ha.carry hw; have hb := hb.carry hw; have hc := hc.carry hw; have bx3 := bx3.carry hw; have bx4 := bx4.carry hw; have bx5 := bx5.carry hw; have hx := hx.carry hw; have bx7 := bx7.carry hw; have hg100 := hg100.carry hw
            refine L.gyes' (dj := 100) (b := _) rfl rfl g100 ?_
            refine L.val (x_not rfl) rfl ?_
            refine L.gyes' (dj := 100) (b := _) rfl rfl g100 ?_
            refine L.val (x_mv (v := .bool _) rfl) rfl ?_
            refine' L.group0 3 106 108 108 105 false rfl ?_ ?_ ?_
            rotate_left 1
            ·intro g105
             have h105 := (not_f g105)
             refine L.gyes' (dj := 105) (b := _) rfl rfl g105 ?_
             refine L.val (x_mv (v := S _) rfl) rfl ?_
             refine L.gyes' (dj := 105) (b := _) rfl rfl g105 ?_
             refine L.val (x_mv (v := S _) rfl) rfl ?_
             refine L.gyes' (dj := 105) (b := _) rfl rfl g105 ?_
             refine L.val (x_eqs rfl rfl) rfl ?_
             refine L.nil ?_
             refine thn_n ⟨rfl, rfl, ?_, rfl⟩
             repeat (first | exact jeq.refl _ _ _ | refine jeq.upd rfl ?_ | refine jeq.jk rfl rfl ?_)
            ·intro g105
             refine L.gno (dj := 105) (b := _) rfl rfl g105 rfl ?_
             refine L.gno (dj := 105) (b := _) rfl rfl g105 rfl ?_
             refine L.gno (dj := 105) (b := _) rfl rfl g105 rfl ?_
             refine L.nil (thn_n ⟨rfl, rfl, ?_⟩)
             repeat (first | exact jeq.refl _ _ _ | refine jeq.upd rfl ?_ | refine jeq.jk rfl rfl ?_)
            intro J105 j105
            refine L.gyes' (dj := 100) (b := _) rfl rfl g100 ?_
            refine L.val (x_or rfl j105) rfl ?_
            refine L.nil ?_
            refine thn_n ⟨rfl, ?_, ?_, fun _ => rfl⟩
            ·exact hg100
            ·repeat (first | exact jeq.refl _ _ _ | refine jeq.upd rfl ?_ | refine jeq.jk rfl rfl ?_)
           ·intro g100
            refine L.gno (dj := 100) (b := _) rfl rfl g100 rfl ?_
            refine L.gno (dj := 100) (b := _) rfl rfl g100 rfl ?_
            refine L.gno (dj := 100) (b := _) rfl rfl g100 rfl ?_
            refine L.gno (dj := 100) (b := _) rfl rfl g100 rfl ?_
            refine L.gno (dj := 100) (b := _) rfl rfl g100 rfl ?_
            refine L.gun (dj := 105) rfl rfl rfl ?_
            refine L.gun (dj := 105) rfl rfl rfl ?_
            refine L.gun (dj := 105) rfl rfl rfl ?_
            refine L.gno (dj := 100) (b := _) rfl rfl g100 rfl ?_
            refine L.nil (thn_n ⟨rfl, Gr.refl _ _, ?_⟩)
            refine ⟨?_, fun h => h.elim⟩
            repeat (first | exact jeq.refl _ _ _ | refine jeq.upd rfl ?_ | refine jeq.jk rfl rfl ?_)
           intro J100 w100 hw j100
           have hB := hB.carry hw; have ha := ha.carry hw; have hb := hb.carry hw; have hc := hc.carry hw; have bx3 := bx3.carry hw; have bx4 := bx4.carry hw; have bx5 := bx5.carry hw; have hx := hx.carry hw; have bx7 := bx7.carry hw
           refine L.val (x_and rfl j100) rfl ?_
           refine L.val (x_mv (v := .bool _) rfl) rfl ?_
           refine' L.group 1 112 112 112 111 true rfl ?_ ?_ ?_
           rotate_left 1
           ·intro g111 hg111
            have h111 := g111
            refine L.gyes' (dj := 111) (b := _) rfl rfl g111 ?_
            refine L.ret (x_call klawsame_en44 rfl) rfl (awake07 _) ?_
            rintro _ w112 ⟨rfl, hw⟩
            have hB := hB.carry hw; have ha := ha.carry hw; have hb := hb.carry hw; have hc := hc.carry hw; have bx3 := bx3.carry hw; have bx4 := bx4.carry hw; have bx5 := bx5.carry hw; have hx := hx.carry hw; have bx7 := bx7.carry hw; have hg111 := hg111.carry hw
            refine L.nil ?_
            refine thn_n ⟨rfl, ?_, ?_, fun _ => rfl⟩
            ·exact hg111
            ·repeat (first | exact jeq.refl _ _ _ | refine jeq.upd rfl ?_ | refine jeq.jk rfl rfl ?_)
           ·intro g111
            refine L.gno (dj := 111) (b := _) rfl rfl g111 rfl ?_
            refine L.nil (thn_n ⟨rfl, Gr.refl _ _, ?_⟩)
            refine ⟨?_, fun h => h.elim⟩
            repeat (first | exact jeq.refl _ _ _ | refine jeq.upd rfl ?_ | refine jeq.jk rfl rfl ?_)
           intro J111 w111 hw j111
           have hB := hB.carry hw; have ha := ha.carry hw; have hb := hb.carry hw; have hc := hc.carry hw; have bx3 := bx3.carry hw; have bx4 := bx4.carry hw; have bx5 := bx5.carry hw; have hx := hx.carry hw; have bx7 := bx7.carry hw
           refine L.val (x_and rfl j111) rfl ?_
           refine L.val (x_as (v := .bool _) rfl) rfl ?_
           refine L.nil ?_
           refine thn_n ?_
           refine W.ret (fin_mk (.inr rfl) ?_)
           have hT : sameS a b = true → a.sort.text = b.sort.text := fun h => by rw [same_eq hca hcb] at h; rw [eqS_iff.1 h]
           refine ⟨vb ?_, hB⟩
           by_cases h : sameS a b = true
           · simp [hT h]
           · simp [h]
         ·have h70 := g70
          refine LAC.takeU (i := 12) rfl (by kernel_rfl) (by kernel_rfl) (by kernel_rfl) (by kernel_rfl) (dj := 70) (b := _) rfl rfl g70 rfl ?_
          refine LAC.takeU (i := 13) rfl (by kernel_rfl) (by kernel_rfl) (by kernel_rfl) (by kernel_rfl) (dj := 70) (b := _) rfl rfl g70 rfl ?_
          refine LAC.takeU (i := 14) rfl (by kernel_rfl) (by kernel_rfl) (by kernel_rfl) (by kernel_rfl) (dj := 70) (b := _) rfl rfl g70 rfl ?_
          refine LAC.takeG (i := 15) rfl (by kernel_rfl) (by kernel_rfl) (by kernel_rfl) (by kernel_rfl) (dj := 66) (b := _) rfl rfl g66 (fun w hw => x_pick_f (v := .bool _) (by rw [← g70]; rfl) rfl) rfl ?_
          refine LAC.takeG (i := 16) rfl (by kernel_rfl) (by kernel_rfl) (by kernel_rfl) (by kernel_rfl) (dj := 66) (b := _) rfl rfl g66 (fun w hw => x_mv (v := .bool _) rfl) rfl ?_
          refine LAC.takeU (i := 17) rfl (by kernel_rfl) (by kernel_rfl) (by kernel_rfl) (by kernel_rfl) (dj := 75) (b := _) rfl rfl rfl rfl ?_
          refine LAC.takeU (i := 18) rfl (by kernel_rfl) (by kernel_rfl) (by kernel_rfl) (by kernel_rfl) (dj := 75) (b := _) rfl rfl rfl rfl ?_
          refine LAC.takeU (i := 19) rfl (by kernel_rfl) (by kernel_rfl) (by kernel_rfl) (by kernel_rfl) (dj := 75) (b := _) rfl rfl rfl rfl ?_
          refine LAC.takeU (i := 20) rfl (by kernel_rfl) (by kernel_rfl) (by kernel_rfl) (by kernel_rfl) (dj := 75) (b := _) rfl rfl rfl rfl ?_
          refine LAC.takeG (i := 21) rfl (by kernel_rfl) (by kernel_rfl) (by kernel_rfl) (by kernel_rfl) (dj := 66) (b := _) rfl rfl g66 (fun w hw => x_pick_f (v := .bool _) rfl rfl) rfl ?_
          refine LAC.takeN (i := 22) rfl (by kernel_rfl) (by kernel_rfl) (by kernel_rfl) (by kernel_rfl) (fun w hw => x_pick_f (v := .bool _) (by rw [← g66]; rfl) rfl) rfl ?_
          refine LAC.doneF (by kernel_rfl) hB0 ?_
          have hB := hB.carry hB0; have ha := ha.carry hB0; have hb := hb.carry hB0; have hc := hc.carry hB0; have bx3 := bx3.carry hB0; have bx4 := bx4.carry hB0; have bx5 := bx5.carry hB0; have hx := hx.carry hB0; have bx7 := bx7.carry hB0
          refine thn_n ?_
          refine W.cond (b := _) rfl (fun g80 => ?_) (fun g80 => ?_)
          ·have h80 := g80
           cases g80
          ·have h80 := g80
           refine W.skip ?_
           refine thn_n ?_
           refine W.seq ?_
           refine W.region ?_
           refine L.val (x_ldn (vs := xs) klawsame_ag25 rfl hla (bx3.row hla)) rfl ?_
           refine L.ret (x_call klawsame_en33 rfl) rfl (sort_okL _ a _ _ ha) ?_
           rintro _ w84 ⟨cs84, rfl, h84, hw⟩
           have hB := hB.carry hw; have ha := ha.carry hw; have hb := hb.carry hw; have hc := hc.carry hw; have bx3 := bx3.carry hw; have bx4 := bx4.carry hw; have bx5 := bx5.carry hw; have hx := hx.carry hw; have bx7 := bx7.carry hw
           refine L.ret (x_call klawsame_en46 rfl) rfl (show_ok _ _ _ _ h84) ?_
           rintro _ w85 ⟨rfl, hw⟩
           have hB := hB.carry hw; have ha := ha.carry hw; have hb := hb.carry hw; have hc := hc.carry hw; have bx3 := bx3.carry hw; have bx4 := bx4.carry hw; have bx5 := bx5.carry hw; have hx := hx.carry hw; have bx7 := bx7.carry hw; have h84 := h84.carry hw
           rw [show_sorted hca]
           refine L.val (x_mv (v := _) rfl) rfl ?_
           refine L.val (x_ext (v := S _) rfl rfl) rfl ?_
           refine L.val (x_ext (v := .int _ _) rfl rfl) rfl ?_
           refine L.val (x_as (v := S _) rfl) rfl ?_
           refine L.val (x_as (v := .int _ _) rfl) rfl ?_
           refine L.nil ?_
           refine thn_n ?_
           refine W.seq ?_
           refine W.region ?_
           refine L.val (x_ldn (vs := ys) klawsame_ag25 rfl hlb (bx4.row hlb)) rfl ?_
           refine L.ret (x_call klawsame_en33 rfl) rfl (sort_okL _ b _ _ hb) ?_
           rintro _ w90 ⟨cs90, rfl, h90, hw⟩
           have hB := hB.carry hw; have ha := ha.carry hw; have hb := hb.carry hw; have hc := hc.carry hw; have bx3 := bx3.carry hw; have bx4 := bx4.carry hw; have bx5 := bx5.carry hw; have hx := hx.carry hw; have bx7 := bx7.carry hw
           refine L.ret (x_call klawsame_en46 rfl) rfl (show_ok _ _ _ _ h90) ?_
           rintro _ w91 ⟨rfl, hw⟩
           have hB := hB.carry hw; have ha := ha.carry hw; have hb := hb.carry hw; have hc := hc.carry hw; have bx3 := bx3.carry hw; have bx4 := bx4.carry hw; have bx5 := bx5.carry hw; have hx := hx.carry hw; have bx7 := bx7.carry hw; have h90 := h90.carry hw
           rw [show_sorted hcb]
           refine L.val (x_mv (v := _) rfl) rfl ?_
           refine L.val (x_ext (v := S _) rfl rfl) rfl ?_
           refine L.val (x_ext (v := .int _ _) rfl rfl) rfl ?_
           refine L.val (x_as (v := S _) rfl) rfl ?_
           refine L.val (x_as (v := .int _ _) rfl) rfl ?_
           refine L.nil ?_
           refine thn_n ?_
           refine W.seq ?_
           refine W.region ?_
           refine L.val (x_mv (v := .int _ _) rfl) rfl ?_
           refine L.val (x_eql rfl rfl) rfl ?_
           refine L.val (x_mv (v := .bool _) rfl) rfl ?_
           refine' L.group0 2 97 98 98 96 true rfl ?_ ?_ ?_
           rotate_left 1
           ·intro g96
            have h96 := of_decide_eq_true g96
            refine L.gyes' (dj := 96) (b := _) rfl rfl g96 ?_
            refine L.val (x_mv (v := .int _ _) rfl) rfl ?_
            refine L.gyes' (dj := 96) (b := _) rfl rfl g96 ?_
            refine L.val (x_eql rfl rfl) rfl ?_
            refine L.nil ?_
            refine thn_n ⟨rfl, rfl, ?_, rfl⟩
            repeat (first | exact jeq.refl _ _ _ | refine jeq.upd rfl ?_ | refine jeq.jk rfl rfl ?_)
           ·intro g96
            refine L.gno (dj := 96) (b := _) rfl rfl g96 rfl ?_
            refine L.gno (dj := 96) (b := _) rfl rfl g96 rfl ?_
            refine L.nil (thn_n ⟨rfl, rfl, ?_⟩)
            repeat (first | exact jeq.refl _ _ _ | refine jeq.upd rfl ?_ | refine jeq.jk rfl rfl ?_)
           intro J96 j96
           refine L.val (x_and rfl j96) rfl ?_
           refine L.val (x_mv (v := .bool _) rfl) rfl ?_
           refine' L.group 9 101 109 109 100 true rfl ?_ ?_ ?_
           rotate_left 1
           ·intro g100 hg100
            have h100 := g100
            refine L.gyes' (dj := 100) (b := _) rfl rfl g100 ?_
            refine L.val (x_ldn (vs := xs) klawsame_ag25 rfl hla (bx3.row hla)) rfl ?_
            refine L.gyes' (dj := 100) (b := _) rfl rfl g100 ?_
            refine L.val (x_ldn (vs := ys) klawsame_ag25 rfl hlb (bx4.row hlb)) rfl ?_
            refine L.gyes' (dj := 100) (b := _) rfl rfl g100 ?_
            refine L.ret (x_call klawsame_en53 rfl) rfl (same_ok _ _ a b _ _ _ ha hb) ?_
            rintro _ w103 ⟨rfl, hw⟩
            have hB := hB.carry hw; have ha := ha.carry hw; have hb := hb.carry hw; have hc := hc.carry hw; have bx3 := bx3.carry hw; have bx4 := bx4.carry hw; have bx5 := bx5.carry hw; have hx := hx.carry hw; have bx7 := bx7.carry hw; have hg100 := hg100.carry hw
            refine L.gyes' (dj := 100) (b := _) rfl rfl g100 ?_
            refine L.val (x_not rfl) rfl ?_
            refine L.gyes' (dj := 100) (b := _) rfl rfl g100 ?_
            refine L.val (x_mv (v := .bool _) rfl) rfl ?_
            refine' L.group0 3 106 108 108 105 false rfl ?_ ?_ ?_
            rotate_left 1
            ·intro g105
             have h105 := (not_f g105)
             refine L.gyes' (dj := 105) (b := _) rfl rfl g105 ?_
             refine L.val (x_mv (v := S _) rfl) rfl ?_
             refine L.gyes' (dj := 105) (b := _) rfl rfl g105 ?_
             refine L.val (x_mv (v := S _) rfl) rfl ?_
             refine L.gyes' (dj := 105) (b := _) rfl rfl g105 ?_
             refine L.val (x_eqs rfl rfl) rfl ?_
             refine L.nil ?_
             refine thn_n ⟨rfl, rfl, ?_, rfl⟩
             repeat (first | exact jeq.refl _ _ _ | refine jeq.upd rfl ?_ | refine jeq.jk rfl rfl ?_)
            ·intro g105
             refine L.gno (dj := 105) (b := _) rfl rfl g105 rfl ?_
             refine L.gno (dj := 105) (b := _) rfl rfl g105 rfl ?_
             refine L.gno (dj := 105) (b := _) rfl rfl g105 rfl ?_
             refine L.nil (thn_n ⟨rfl, rfl, ?_⟩)
             repeat (first | exact jeq.refl _ _ _ | refine jeq.upd rfl ?_ | refine jeq.jk rfl rfl ?_)
            intro J105 j105
            refine L.gyes' (dj := 100) (b := _) rfl rfl g100 ?_
            refine L.val (x_or rfl j105) rfl ?_
            refine L.nil ?_
            refine thn_n ⟨rfl, ?_, ?_, fun _ => rfl⟩
            ·exact hg100
            ·repeat (first | exact jeq.refl _ _ _ | refine jeq.upd rfl ?_ | refine jeq.jk rfl rfl ?_)
           ·intro g100
            refine L.gno (dj := 100) (b := _) rfl rfl g100 rfl ?_
            refine L.gno (dj := 100) (b := _) rfl rfl g100 rfl ?_
            refine L.gno (dj := 100) (b := _) rfl rfl g100 rfl ?_
            refine L.gno (dj := 100) (b := _) rfl rfl g100 rfl ?_
            refine L.gno (dj := 100) (b := _) rfl rfl g100 rfl ?_
            refine L.gun (dj := 105) rfl rfl rfl ?_
            refine L.gun (dj := 105) rfl rfl rfl ?_
            refine L.gun (dj := 105) rfl rfl rfl ?_
            refine L.gno (dj := 100) (b := _) rfl rfl g100 rfl ?_
            refine L.nil (thn_n ⟨rfl, Gr.refl _ _, ?_⟩)
            refine ⟨?_, fun h => h.elim⟩
            repeat (first | exact jeq.refl _ _ _ | refine jeq.upd rfl ?_ | refine jeq.jk rfl rfl ?_)
           intro J100 w100 hw j100
           have hB := hB.carry hw; have ha := ha.carry hw; have hb := hb.carry hw; have hc := hc.carry hw; have bx3 := bx3.carry hw; have bx4 := bx4.carry hw; have bx5 := bx5.carry hw; have hx := hx.carry hw; have bx7 := bx7.carry hw
           refine L.val (x_and rfl j100) rfl ?_
           refine L.val (x_mv (v := .bool _) rfl) rfl ?_
           refine' L.group 1 112 112 112 111 true rfl ?_ ?_ ?_
           rotate_left 1
           ·intro g111 hg111
            have h111 := g111
            refine L.gyes' (dj := 111) (b := _) rfl rfl g111 ?_
            refine L.ret (x_call klawsame_en44 rfl) rfl (awake07 _) ?_
            rintro _ w112 ⟨rfl, hw⟩
            have hB := hB.carry hw; have ha := ha.carry hw; have hb := hb.carry hw; have hc := hc.carry hw; have bx3 := bx3.carry hw; have bx4 := bx4.carry hw; have bx5 := bx5.carry hw; have hx := hx.carry hw; have bx7 := bx7.carry hw; have hg111 := hg111.carry hw
            refine L.nil ?_
            refine thn_n ⟨rfl, ?_, ?_, fun _ => rfl⟩
            ·exact hg111
            ·repeat (first | exact jeq.refl _ _ _ | refine jeq.upd rfl ?_ | refine jeq.jk rfl rfl ?_)
           ·intro g111
            refine L.gno (dj := 111) (b := _) rfl rfl g111 rfl ?_
            refine L.nil (thn_n ⟨rfl, Gr.refl _ _, ?_⟩)
            refine ⟨?_, fun h => h.elim⟩
            repeat (first | exact jeq.refl _ _ _ | refine jeq.upd rfl ?_ | refine jeq.jk rfl rfl ?_)
           intro J111 w111 hw j111
           have hB := hB.carry hw; have ha := ha.carry hw; have hb := hb.carry hw; have hc := hc.carry hw; have bx3 := bx3.carry hw; have bx4 := bx4.carry hw; have bx5 := bx5.carry hw; have hx := hx.carry hw; have bx7 := bx7.carry hw
           refine L.val (x_and rfl j111) rfl ?_
           refine L.val (x_as (v := .bool _) rfl) rfl ?_
           refine L.nil ?_
           refine thn_n ?_
           refine W.ret (fin_mk (.inr rfl) ?_)
           have hT : sameS a b = true → a.sort.text = b.sort.text := fun h => by rw [same_eq hca hcb] at h; rw [eqS_iff.1 h]
           refine ⟨vb ?_, hB⟩
           by_cases h : sameS a b = true
           · simp [hT h]
           · simp [h]
end Go.Gx

