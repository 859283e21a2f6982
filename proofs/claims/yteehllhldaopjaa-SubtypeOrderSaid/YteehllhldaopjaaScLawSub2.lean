/- The laws SubtypeOrder and SubtypeBoth. Conditions: none. -/
import Derived.Test.YteehllhldaopjaaScAwake12
namespace Go.Gx
open Go.Proofs
theorem klawsub2_ag25 : aggT Try.prog 25 5 = true := by kernel_rfl
theorem klawsub2_en27 : Go.Proofs.Enters Try.prog 27 := Go.Proofs.enters_of Try.func27 (by kernel_rfl) rfl
theorem klawsub2_en29 : Go.Proofs.Enters Try.prog 29 := Go.Proofs.enters_of Try.func29 (by kernel_rfl) rfl
theorem klawsub2_en33 : Go.Proofs.Enters Try.prog 33 := Go.Proofs.enters_of Try.func33 (by kernel_rfl) rfl
theorem klawsub2_en48 : Go.Proofs.Enters Try.prog 48 := Go.Proofs.enters_of Try.func48 (by kernel_rfl) rfl
theorem klawsub2_en49 : Go.Proofs.Enters Try.prog 49 := Go.Proofs.enters_of Try.func49 (by kernel_rfl) rfl
theorem klawsub2_en50 : Go.Proofs.Enters Try.prog 50 := Go.Proofs.enters_of Try.func50 (by kernel_rfl) rfl
theorem klawsub2_en52 : Go.Proofs.Enters Try.prog 52 := Go.Proofs.enters_of Try.func52 (by kernel_rfl) rfl
theorem klawsub2_en53 : Go.Proofs.Enters Try.prog 53 := Go.Proofs.enters_of Try.func53 (by kernel_rfl) rfl
theorem klawsub2_mixed : Try.prog.follows .mixedOrders = true := by kernel_rfl
theorem klawsub2_zr25 : (Try.prog.info? 25).bind (·.zero) = some (Value.agg [Value.int .i64 0, S [], S [], Value.slice none 0 0, Value.slice none 0 0].toArray) := by kernel_rfl
theorem law_order (A0 B0 C0 : Nat → Prop) (a b c : Sh) (xs ys zs : List Value) (w : World) (ha : ShC A0 w xs a) (hb : ShC B0 w ys b) (hc : ShC C0 w zs c) :
    Ret Try.prog 20 #[.agg xs.toArray, .agg ys.toArray, .agg zs.toArray] w fun v w' => v = .bool true ∧ Bel w w' := by
  have hla := ha.len
  have hlb := hb.len
  have hlc := hc.len
  refine ret_of_W Try.func20 rfl (Nat.le_of_ble_eq_true rfl) (res1 rfl) ?_
  have hB := Gr.refl (fun _ => False) w
  refine W.seq ?_
  refine W.region ?_
  refine L.box (cs := xs) rfl rfl (fun w3 bx3 hw hz3 => ?_)
  have hB := hB.carry hw; have ha := ha.carry hw; have hb := hb.carry hw; have hc := hc.carry hw
  refine L.box (cs := ys) rfl rfl (fun w4 bx4 hw hz4 => ?_)
  have hB := hB.carry hw; have ha := ha.carry hw; have hb := hb.carry hw; have hc := hc.carry hw; have bx3 := bx3.carry hw
  refine L.box (cs := zs) rfl rfl (fun w5 bx5 hw hz5 => ?_)
  have hB := hB.carry hw; have ha := ha.carry hw; have hb := hb.carry hw; have hc := hc.carry hw; have bx3 := bx3.carry hw; have bx4 := bx4.carry hw
  refine L.val (x_as (v := .bool _) rfl) rfl ?_
  refine L.nil ?_
  refine thn_n ?_
  refine W.seq ?_
  refine W.seq ?_
  refine W.region ?_
  refine L.val (x_ldn (vs := xs) klawsub2_ag25 rfl hla (bx3.row hla)) rfl ?_
  refine L.ret (x_call klawsub2_en29 rfl) rfl (checkL _ a _ _ ha) ?_
  rintro _ w8 ⟨rfl, hw⟩
  have hB := hB.carry hw; have ha := ha.carry hw; have hb := hb.carry hw; have hc := hc.carry hw; have bx3 := bx3.carry hw; have bx4 := bx4.carry hw; have bx5 := bx5.carry hw
  refine L.val (x_neq rfl rfl) rfl ?_
  refine L.val (x_mv (v := .bool _) rfl) rfl ?_
  refine' L.group 3 11 13 13 10 false rfl ?_ ?_ ?_
  rotate_left 1
  ·intro g10 hg10
   have h10 := dne_f g10
   refine L.gyes' (dj := 10) (b := _) rfl rfl g10 ?_
   refine L.val (x_ldn (vs := ys) klawsub2_ag25 rfl hlb (bx4.row hlb)) rfl ?_
   refine L.gyes' (dj := 10) (b := _) rfl rfl g10 ?_
   refine L.ret (x_call klawsub2_en29 rfl) rfl (checkL _ b _ _ hb) ?_
   rintro _ w12 ⟨rfl, hw⟩
   have hB := hB.carry hw; have ha := ha.carry hw; have hb := hb.carry hw; have hc := hc.carry hw; have bx3 := bx3.carry hw; have bx4 := bx4.carry hw; have bx5 := bx5.carry hw; have hg10 := hg10.carry hw
   refine L.gyes' (dj := 10) (b := _) rfl rfl g10 ?_
   refine L.val (x_neq rfl rfl) rfl ?_
   refine L.nil ?_
   refine thn_n ⟨rfl, ?_, ?_, fun _ => rfl⟩
   ·exact hg10
   ·repeat (first | exact jeq.refl _ _ _ | refine jeq.upd rfl ?_ | refine jeq.jk rfl rfl ?_)
  ·intro g10
   refine L.gno (dj := 10) (b := _) rfl rfl g10 rfl ?_
   refine L.gno (dj := 10) (b := _) rfl rfl g10 rfl ?_
   refine L.gno (dj := 10) (b := _) rfl rfl g10 rfl ?_
   refine L.nil (thn_n ⟨rfl, Gr.refl _ _, ?_⟩)
   refine ⟨?_, fun h => h.elim⟩
   repeat (first | exact jeq.refl _ _ _ | refine jeq.upd rfl ?_ | refine jeq.jk rfl rfl ?_)
  intro J10 w10 hw j10
  have hB := hB.carry hw; have ha := ha.carry hw; have hb := hb.carry hw; have hc := hc.carry hw; have bx3 := bx3.carry hw; have bx4 := bx4.carry hw; have bx5 := bx5.carry hw
  refine L.val (x_or rfl j10) rfl ?_
  refine L.val (x_mv (v := .bool _) rfl) rfl ?_
  refine' L.group 3 16 18 18 15 false rfl ?_ ?_ ?_
  rotate_left 1
  ·intro g15 hg15
   have h15 := g15
   refine L.gyes' (dj := 15) (b := _) rfl rfl g15 ?_
   refine L.val (x_ldn (vs := zs) klawsub2_ag25 rfl hlc (bx5.row hlc)) rfl ?_
   refine L.gyes' (dj := 15) (b := _) rfl rfl g15 ?_
   refine L.ret (x_call klawsub2_en29 rfl) rfl (checkL _ c _ _ hc) ?_
   rintro _ w17 ⟨rfl, hw⟩
   have hB := hB.carry hw; have ha := ha.carry hw; have hb := hb.carry hw; have hc := hc.carry hw; have bx3 := bx3.carry hw; have bx4 := bx4.carry hw; have bx5 := bx5.carry hw; have hg15 := hg15.carry hw
   refine L.gyes' (dj := 15) (b := _) rfl rfl g15 ?_
   refine L.val (x_neq rfl rfl) rfl ?_
   refine L.nil ?_
   refine thn_n ⟨rfl, ?_, ?_, fun _ => rfl⟩
   ·exact hg15
   ·repeat (first | exact jeq.refl _ _ _ | refine jeq.upd rfl ?_ | refine jeq.jk rfl rfl ?_)
  ·intro g15
   refine L.gno (dj := 15) (b := _) rfl rfl g15 rfl ?_
   refine L.gno (dj := 15) (b := _) rfl rfl g15 rfl ?_
   refine L.gno (dj := 15) (b := _) rfl rfl g15 rfl ?_
   refine L.nil (thn_n ⟨rfl, Gr.refl _ _, ?_⟩)
   refine ⟨?_, fun h => h.elim⟩
   repeat (first | exact jeq.refl _ _ _ | refine jeq.upd rfl ?_ | refine jeq.jk rfl rfl ?_)
  intro J15 w15 hw j15
  have hB := hB.carry hw; have ha := ha.carry hw; have hb := hb.carry hw; have hc := hc.carry hw; have bx3 := bx3.carry hw; have bx4 := bx4.carry hw; have bx5 := bx5.carry hw
  refine L.val (x_or rfl j15) rfl ?_
  refine L.nil ?_
  refine thn_n ?_
  refine W.cond (b := _) rfl (fun g19 => ?_) (fun g19 => ?_)
  ·have h19 := g19
   refine W.seq ?_
   refine W.region ?_
   refine L.ret (x_call klawsub2_en50 rfl) rfl (awake12 _) ?_
   rintro _ w20 ⟨rfl, hw⟩
   have hB := hB.carry hw; have ha := ha.carry hw; have hb := hb.carry hw; have hc := hc.carry hw; have bx3 := bx3.carry hw; have bx4 := bx4.carry hw; have bx5 := bx5.carry hw
   refine L.val (x_as (v := .bool _) rfl) rfl ?_
   refine L.nil ?_
   refine thn_n ?_
   refine W.ret (thn_r (fin_mk (.inr rfl) ?_))
   exact ⟨rfl, hB⟩
  ·have h19 := g19
   have hca : checkS a = 0 := by simp at g19; exact g19.1.1
   have hcb : checkS b = 0 := by simp at g19; exact g19.1.2
   have hcc : checkS c = 0 := by simp at g19; exact g19.2
   refine W.skip ?_
   refine thn_n ?_
   refine W.seq ?_
   refine W.seq ?_
   refine W.drawF 27 klawsub2_mixed (fun wF21 hB0 => ?_)
   refine LAC.takeN (i := 0) rfl (by kernel_rfl) (by kernel_rfl) (by kernel_rfl) (by kernel_rfl) (fun w hw => x_ldn (vs := xs) klawsub2_ag25 rfl hla (hw.keepRow hla (bx3.row hla))) rfl ?_
   refine LAC.takeN (i := 1) rfl (by kernel_rfl) (by kernel_rfl) (by kernel_rfl) (by kernel_rfl) (fun w hw => x_ldn (vs := xs) klawsub2_ag25 rfl hla (hw.keepRow hla (bx3.row hla))) rfl ?_
   refine LAC.step (rs := [2]) (fun _ => hB0) (by kernel_rfl) (by simp) ⟨⟨_, rfl, ?_⟩, trivial⟩
   refine L.ret (x_call klawsub2_en49 rfl) rfl (below_ok _ _ a a _ _ _ (ha.carry hB0) (ha.carry hB0)) ?_
   rintro _ w23 ⟨rfl, hw⟩
   have hB0 := hB0.carry hw
   refine L.nil ?_
   refine thn_n ?_
   refine LAC.takeN (i := 3) rfl (by kernel_rfl) (by kernel_rfl) (by kernel_rfl) (by kernel_rfl) (fun w hw => x_not rfl) rfl ?_
   refine LAC.takeN (i := 4) rfl (by kernel_rfl) (by kernel_rfl) (by kernel_rfl) (by kernel_rfl) (fun w hw => x_mv (v := .bool _) rfl) rfl ?_
   refine LAC.split (dj := 25) (b := _) rfl (fun g25 => ?_) (fun g25 => ?_)
   ·have h25 := (not_t g25)
    rw [below_self hca] at g25; cases g25
   ·have h25 := (not_f g25)
    refine LAC.takeG (i := 5) rfl (by kernel_rfl) (by kernel_rfl) (by kernel_rfl) (by kernel_rfl) (dj := 25) (b := _) rfl rfl g25 (fun w hw => x_ldn (vs := xs) klawsub2_ag25 rfl hla (hw.keepRow hla (bx3.row hla))) rfl ?_
    refine LAC.takeG (i := 6) rfl (by kernel_rfl) (by kernel_rfl) (by kernel_rfl) (by kernel_rfl) (dj := 25) (b := _) rfl rfl g25 (fun w hw => x_ldn (vs := xs) klawsub2_ag25 rfl hla (hw.keepRow hla (bx3.row hla))) rfl ?_
    refine LAC.step (rs := [7]) (fun _ => hB0) (by kernel_rfl) (by simp) ⟨⟨_, rfl, ?_⟩, trivial⟩
    refine L.gyes' (dj := 25) (b := _) rfl rfl g25 ?_
    refine L.ret (x_call klawsub2_en33 rfl) rfl (sort_okL _ a _ _ (ha.carry hB0)) ?_
    rintro _ w28 ⟨cs28, rfl, h28, hw⟩
    have hB0 := hB0.carry hw
    rw [sort_eqJ hca] at h28
    refine L.nil ?_
    refine thn_n ?_
    refine LAC.step (rs := [8]) (fun _ => hB0) (by kernel_rfl) (by simp) ⟨⟨_, rfl, ?_⟩, trivial⟩
    refine L.gyes' (dj := 25) (b := _) rfl rfl g25 ?_
    refine L.ret (x_call klawsub2_en49 rfl) rfl (below_ok _ _ a a.sort _ _ _ (ha.carry hB0) h28) ?_
    rintro _ w29 ⟨rfl, hw⟩
    have hB0 := hB0.carry hw; have h28 := h28.carry hw
    refine L.nil ?_
    refine thn_n ?_
    refine LAC.takeG (i := 9) rfl (by kernel_rfl) (by kernel_rfl) (by kernel_rfl) (by kernel_rfl) (dj := 25) (b := _) rfl rfl g25 (fun w hw => x_not rfl) rfl ?_
    refine LAC.takeN (i := 10) rfl (by kernel_rfl) (by kernel_rfl) (by kernel_rfl) (by kernel_rfl) (fun w hw => x_pick_f (v := .bool _) (congrArg Value.bool g25) rfl) rfl ?_
    refine LAC.takeN (i := 11) rfl (by kernel_rfl) (by kernel_rfl) (by kernel_rfl) (by kernel_rfl) (fun w hw => x_mv (v := .bool _) rfl) rfl ?_
    refine LAC.split (dj := 32) (b := _) rfl (fun g32 => ?_) (fun g32 => ?_)
    ·have h32 := (not_t g32)
     rw [below_sort hca] at g32; cases g32
    ·have h32 := (not_f g32)
     refine LAC.takeG (i := 12) rfl (by kernel_rfl) (by kernel_rfl) (by kernel_rfl) (by kernel_rfl) (dj := 32) (b := _) rfl rfl g32 (fun w hw => x_ldn (vs := xs) klawsub2_ag25 rfl hla (hw.keepRow hla (bx3.row hla))) rfl ?_
     refine LAC.takeG (i := 13) rfl (by kernel_rfl) (by kernel_rfl) (by kernel_rfl) (by kernel_rfl) (dj := 32) (b := _) rfl rfl g32 (fun w hw => x_ldn (vs := ys) klawsub2_ag25 rfl hlb (hw.keepRow hlb (bx4.row hlb))) rfl ?_
     refine LAC.step (rs := [14]) (fun _ => hB0) (by kernel_rfl) (by simp) ⟨⟨_, rfl, ?_⟩, trivial⟩
     refine L.gyes' (dj := 32) (b := _) rfl rfl g32 ?_
     refine L.ret (x_call klawsub2_en49 rfl) rfl (below_ok _ _ a b _ _ _ (ha.carry hB0) (hb.carry hB0)) ?_
     rintro _ w35 ⟨rfl, hw⟩
     have hB0 := hB0.carry hw; have h28 := h28.carry hw
     refine L.nil ?_
     refine thn_n ?_
     refine LAC.takeG (i := 15) rfl (by kernel_rfl) (by kernel_rfl) (by kernel_rfl) (by kernel_rfl) (dj := 32) (b := _) rfl rfl g32 (fun w hw => x_mv (v := .bool _) rfl) rfl ?_
     refine LAC.split (dj := 36) (b := _) rfl (fun g36 => ?_) (fun g36 => ?_)
     ·have h36 := g36
      refine LAC.takeG (i := 16) rfl (by kernel_rfl) (by kernel_rfl) (by kernel_rfl) (by kernel_rfl) (dj := 36) (b := _) rfl rfl g36 (fun w hw => x_ldn (vs := ys) klawsub2_ag25 rfl hlb (hw.keepRow hlb (bx4.row hlb))) rfl ?_
      refine LAC.takeG (i := 17) rfl (by kernel_rfl) (by kernel_rfl) (by kernel_rfl) (by kernel_rfl) (dj := 36) (b := _) rfl rfl g36 (fun w hw => x_ldn (vs := zs) klawsub2_ag25 rfl hlc (hw.keepRow hlc (bx5.row hlc))) rfl ?_
      refine LAC.step (rs := [18]) (fun _ => hB0) (by kernel_rfl) (by simp) ⟨⟨_, rfl, ?_⟩, trivial⟩
      refine L.gyes' (dj := 36) (b := _) rfl rfl g36 ?_
      refine L.ret (x_call klawsub2_en49 rfl) rfl (below_ok _ _ b c _ _ _ (hb.carry hB0) (hc.carry hB0)) ?_
      rintro _ w39 ⟨rfl, hw⟩
      have hB0 := hB0.carry hw; have h28 := h28.carry hw
      refine L.nil ?_
      refine thn_n ?_
      refine LAC.takeG (i := 19) rfl (by kernel_rfl) (by kernel_rfl) (by kernel_rfl) (by kernel_rfl) (dj := 32) (b := _) rfl rfl g32 (fun w hw => x_pick_t (v := .bool _) (congrArg Value.bool g36) rfl) rfl ?_
      refine LAC.takeG (i := 20) rfl (by kernel_rfl) (by kernel_rfl) (by kernel_rfl) (by kernel_rfl) (dj := 32) (b := _) rfl rfl g32 (fun w hw => x_mv (v := .bool _) rfl) rfl ?_
      refine LAC.split (dj := 41) (b := _) rfl (fun g41 => ?_) (fun g41 => ?_)
      ·have h41 := g41
       have hac : belowR a c = true := below_trans g36 g41
       refine LAC.takeG (i := 21) rfl (by kernel_rfl) (by kernel_rfl) (by kernel_rfl) (by kernel_rfl) (dj := 41) (b := _) rfl rfl g41 (fun w hw => x_ldn (vs := xs) klawsub2_ag25 rfl hla (hw.keepRow hla (bx3.row hla))) rfl ?_
       refine LAC.takeG (i := 22) rfl (by kernel_rfl) (by kernel_rfl) (by kernel_rfl) (by kernel_rfl) (dj := 41) (b := _) rfl rfl g41 (fun w hw => x_ldn (vs := zs) klawsub2_ag25 rfl hlc (hw.keepRow hlc (bx5.row hlc))) rfl ?_
       refine LAC.step (rs := [23]) (fun _ => hB0) (by kernel_rfl) (by simp) ⟨⟨_, rfl, ?_⟩, trivial⟩
       refine L.gyes' (dj := 41) (b := _) rfl rfl g41 ?_
       refine L.ret (x_call klawsub2_en49 rfl) rfl (below_ok _ _ a c _ _ _ (ha.carry hB0) (hc.carry hB0)) ?_
       rintro _ w44 ⟨rfl, hw⟩
       have hB0 := hB0.carry hw; have h28 := h28.carry hw
       refine L.nil ?_
       refine thn_n ?_
       refine LAC.takeG (i := 24) rfl (by kernel_rfl) (by kernel_rfl) (by kernel_rfl) (by kernel_rfl) (dj := 41) (b := _) rfl rfl g41 (fun w hw => x_not rfl) rfl ?_
       refine LAC.takeG (i := 25) rfl (by kernel_rfl) (by kernel_rfl) (by kernel_rfl) (by kernel_rfl) (dj := 32) (b := _) rfl rfl g32 (fun w hw => x_pick_t (v := .bool _) (congrArg Value.bool g41) rfl) rfl ?_
       refine LAC.takeN (i := 26) rfl (by kernel_rfl) (by kernel_rfl) (by kernel_rfl) (by kernel_rfl) (fun w hw => x_pick_f (v := .bool _) (congrArg Value.bool g32) rfl) rfl ?_
       refine LAC.doneF (by kernel_rfl) hB0 ?_
       have hB := hB.carry hB0; have ha := ha.carry hB0; have hb := hb.carry hB0; have hc := hc.carry hB0; have bx3 := bx3.carry hB0; have bx4 := bx4.carry hB0; have bx5 := bx5.carry hB0
       refine thn_n ?_
       refine W.cond (b := _) rfl (fun g45 => ?_) (fun g45 => ?_)
       ·have h45 := (not_t g45)
        rw [hac] at g45; cases g45
       ·have h45 := (not_f g45)
        refine W.skip ?_
        refine thn_n ?_
        refine W.seq ?_
        refine W.drawF 16 klawsub2_mixed (fun wF48 hB0 => ?_)
        refine LAC.takeN (i := 0) rfl (by kernel_rfl) (by kernel_rfl) (by kernel_rfl) (by kernel_rfl) (fun w hw => x_ldn (vs := xs) klawsub2_ag25 rfl hla (hw.keepRow hla (bx3.row hla))) rfl ?_
        refine LAC.takeN (i := 1) rfl (by kernel_rfl) (by kernel_rfl) (by kernel_rfl) (by kernel_rfl) (fun w hw => x_ldn (vs := ys) klawsub2_ag25 rfl hlb (hw.keepRow hlb (bx4.row hlb))) rfl ?_
        refine LAC.takeN (i := 8) rfl (by kernel_rfl) (by kernel_rfl) (by kernel_rfl) (by kernel_rfl) (fun w hw => x_ldn (vs := xs) klawsub2_ag25 rfl hla (hw.keepRow hla (bx3.row hla))) rfl ?_
        refine LAC.takeN (i := 9) rfl (by kernel_rfl) (by kernel_rfl) (by kernel_rfl) (by kernel_rfl) (fun w hw => x_ldn (vs := ys) klawsub2_ag25 rfl hlb (hw.keepRow hlb (bx4.row hlb))) rfl ?_
        refine LAC.step (rs := [2]) (fun _ => hB0) (by kernel_rfl) (by simp) ⟨⟨_, rfl, ?_⟩, trivial⟩
        refine L.ret (x_call klawsub2_en49 rfl) rfl (below_ok _ _ a b _ _ _ (ha.carry hB0) (hb.carry hB0)) ?_
        rintro _ w50 ⟨rfl, hw⟩
        have hB0 := hB0.carry hw
        refine L.nil ?_
        refine thn_n ?_
        refine LAC.takeN (i := 3) rfl (by kernel_rfl) (by kernel_rfl) (by kernel_rfl) (by kernel_rfl) (fun w hw => x_mv (v := .bool _) rfl) rfl ?_
        refine LAC.split (dj := 51) (b := _) rfl (fun g51 => ?_) (fun g51 => ?_)
        ·have h51 := g51
         refine LAC.takeG (i := 4) rfl (by kernel_rfl) (by kernel_rfl) (by kernel_rfl) (by kernel_rfl) (dj := 51) (b := _) rfl rfl g51 (fun w hw => x_ldn (vs := ys) klawsub2_ag25 rfl hlb (hw.keepRow hlb (bx4.row hlb))) rfl ?_
         refine LAC.takeG (i := 5) rfl (by kernel_rfl) (by kernel_rfl) (by kernel_rfl) (by kernel_rfl) (dj := 51) (b := _) rfl rfl g51 (fun w hw => x_ldn (vs := xs) klawsub2_ag25 rfl hla (hw.keepRow hla (bx3.row hla))) rfl ?_
         refine LAC.step (rs := [6]) (fun _ => hB0) (by kernel_rfl) (by simp) ⟨⟨_, rfl, ?_⟩, trivial⟩
         refine L.gyes' (dj := 51) (b := _) rfl rfl g51 ?_
         refine L.ret (x_call klawsub2_en49 rfl) rfl (below_ok _ _ b a _ _ _ (hb.carry hB0) (ha.carry hB0)) ?_
         rintro _ w54 ⟨rfl, hw⟩
         have hB0 := hB0.carry hw
         refine L.nil ?_
         refine thn_n ?_
         refine LAC.takeN (i := 7) rfl (by kernel_rfl) (by kernel_rfl) (by kernel_rfl) (by kernel_rfl) (fun w hw => x_pick_t (v := .bool _) (congrArg Value.bool g51) rfl) rfl ?_
         refine LAC.step (rs := [10]) (fun _ => hB0) (by kernel_rfl) (by simp) ⟨⟨_, rfl, ?_⟩, trivial⟩
         refine L.ret (x_call klawsub2_en53 rfl) rfl (same_ok _ _ a b _ _ _ (ha.carry hB0) (hb.carry hB0)) ?_
         rintro _ w58 ⟨rfl, hw⟩
         have hB0 := hB0.carry hw
         refine L.nil ?_
         refine thn_n ?_
         refine LAC.takeN (i := 11) rfl (by kernel_rfl) (by kernel_rfl) (by kernel_rfl) (by kernel_rfl) (fun w hw => x_eqb Try.underlying4 rfl rfl) rfl ?_
         refine LAC.takeN (i := 12) rfl (by kernel_rfl) (by kernel_rfl) (by kernel_rfl) (by kernel_rfl) (fun w hw => x_mv (v := .bool _) rfl) rfl ?_
         refine LAC.split (dj := 60) (b := _) rfl (fun g60 => ?_) (fun g60 => ?_)
         ·have h60 := g60
          refine LAC.step (rs := [13]) (fun _ => hB0) (by kernel_rfl) (by simp) ⟨⟨_, rfl, ?_⟩, trivial⟩
          refine L.gyes' (dj := 60) (b := _) rfl rfl g60 ?_
          refine L.ret (x_call klawsub2_en50 rfl) rfl (awake12 _) ?_
          rintro _ w61 ⟨rfl, hw⟩
          have hB0 := hB0.carry hw
          refine L.nil ?_
          refine thn_n ?_
          refine LAC.takeN (i := 14) rfl (by kernel_rfl) (by kernel_rfl) (by kernel_rfl) (by kernel_rfl) (fun w hw => x_pick_t (v := .bool _) (congrArg Value.bool g60) rfl) rfl ?_
          refine LAC.takeN (i := 15) rfl (by kernel_rfl) (by kernel_rfl) (by kernel_rfl) (by kernel_rfl) (fun w hw => x_as (v := .bool _) rfl) rfl ?_
          refine LAC.doneF (by kernel_rfl) hB0 ?_
          have hB := hB.carry hB0; have ha := ha.carry hB0; have hb := hb.carry hB0; have hc := hc.carry hB0; have bx3 := bx3.carry hB0; have bx4 := bx4.carry hB0; have bx5 := bx5.carry hB0
          refine thn_n ?_
          refine W.ret (fin_mk (.inr rfl) ?_)
          exact ⟨rfl, hB⟩
         ·have h60 := g60
          rw [same_below hca hcb] at g60
          rw [g51] at g60
          simp at g60
        ·have h51 := g51
         refine LAC.takeU (i := 4) rfl (by kernel_rfl) (by kernel_rfl) (by kernel_rfl) (by kernel_rfl) (dj := 51) (b := _) rfl rfl g51 rfl ?_
         refine LAC.takeU (i := 5) rfl (by kernel_rfl) (by kernel_rfl) (by kernel_rfl) (by kernel_rfl) (dj := 51) (b := _) rfl rfl g51 rfl ?_
         refine LAC.takeU (i := 6) rfl (by kernel_rfl) (by kernel_rfl) (by kernel_rfl) (by kernel_rfl) (dj := 51) (b := _) rfl rfl g51 rfl ?_
         refine LAC.takeN (i := 7) rfl (by kernel_rfl) (by kernel_rfl) (by kernel_rfl) (by kernel_rfl) (fun w hw => x_pick_f (v := .bool _) (congrArg Value.bool g51) rfl) rfl ?_
         refine LAC.step (rs := [10]) (fun _ => hB0) (by kernel_rfl) (by simp) ⟨⟨_, rfl, ?_⟩, trivial⟩
         refine L.ret (x_call klawsub2_en53 rfl) rfl (same_ok _ _ a b _ _ _ (ha.carry hB0) (hb.carry hB0)) ?_
         rintro _ w58 ⟨rfl, hw⟩
         have hB0 := hB0.carry hw
         refine L.nil ?_
         refine thn_n ?_
         refine LAC.takeN (i := 11) rfl (by kernel_rfl) (by kernel_rfl) (by kernel_rfl) (by kernel_rfl) (fun w hw => x_eqb Try.underlying4 rfl rfl) rfl ?_
         refine LAC.takeN (i := 12) rfl (by kernel_rfl) (by kernel_rfl) (by kernel_rfl) (by kernel_rfl) (fun w hw => x_mv (v := .bool _) rfl) rfl ?_
         refine LAC.split (dj := 60) (b := _) rfl (fun g60 => ?_) (fun g60 => ?_)
         ·have h60 := g60
          refine LAC.step (rs := [13]) (fun _ => hB0) (by kernel_rfl) (by simp) ⟨⟨_, rfl, ?_⟩, trivial⟩
          refine L.gyes' (dj := 60) (b := _) rfl rfl g60 ?_
          refine L.ret (x_call klawsub2_en50 rfl) rfl (awake12 _) ?_
          rintro _ w61 ⟨rfl, hw⟩
          have hB0 := hB0.carry hw
          refine L.nil ?_
          refine thn_n ?_
          refine LAC.takeN (i := 14) rfl (by kernel_rfl) (by kernel_rfl) (by kernel_rfl) (by kernel_rfl) (fun w hw => x_pick_t (v := .bool _) (congrArg Value.bool g60) rfl) rfl ?_
          refine LAC.takeN (i := 15) rfl (by kernel_rfl) (by kernel_rfl) (by kernel_rfl) (by kernel_rfl) (fun w hw => x_as (v := .bool _) rfl) rfl ?_
          refine LAC.doneF (by kernel_rfl) hB0 ?_
          have hB := hB.carry hB0; have ha := ha.carry hB0; have hb := hb.carry hB0; have hc := hc.carry hB0; have bx3 := bx3.carry hB0; have bx4 := bx4.carry hB0; have bx5 := bx5.carry hB0
          refine thn_n ?_
          refine W.ret (fin_mk (.inr rfl) ?_)
          exact ⟨rfl, hB⟩
         ·have h60 := g60
          rw [same_below hca hcb] at g60
          rw [g51] at g60
          simp at g60
      ·have h41 := g41
       refine LAC.takeU (i := 21) rfl (by kernel_rfl) (by kernel_rfl) (by kernel_rfl) (by kernel_rfl) (dj := 41) (b := _) rfl rfl g41 rfl ?_
       refine LAC.takeU (i := 22) rfl (by kernel_rfl) (by kernel_rfl) (by kernel_rfl) (by kernel_rfl) (dj := 41) (b := _) rfl rfl g41 rfl ?_
       refine LAC.takeU (i := 23) rfl (by kernel_rfl) (by kernel_rfl) (by kernel_rfl) (by kernel_rfl) (dj := 41) (b := _) rfl rfl g41 rfl ?_
       refine LAC.takeU (i := 24) rfl (by kernel_rfl) (by kernel_rfl) (by kernel_rfl) (by kernel_rfl) (dj := 41) (b := _) rfl rfl g41 rfl ?_
       refine LAC.takeG (i := 25) rfl (by kernel_rfl) (by kernel_rfl) (by kernel_rfl) (by kernel_rfl) (dj := 32) (b := _) rfl rfl g32 (fun w hw => x_pick_f (v := .bool _) (congrArg Value.bool g41) rfl) rfl ?_
       refine LAC.takeN (i := 26) rfl (by kernel_rfl) (by kernel_rfl) (by kernel_rfl) (by kernel_rfl) (fun w hw => x_pick_f (v := .bool _) (congrArg Value.bool g32) rfl) rfl ?_
       refine LAC.doneF (by kernel_rfl) hB0 ?_
       have hB := hB.carry hB0; have ha := ha.carry hB0; have hb := hb.carry hB0; have hc := hc.carry hB0; have bx3 := bx3.carry hB0; have bx4 := bx4.carry hB0; have bx5 := bx5.carry hB0
       refine thn_n ?_
       refine W.cond (b := false) rfl (fun h => nomatch h) (fun _ => ?_)
       refine W.skip ?_
       refine thn_n ?_
       refine W.seq ?_
       refine W.drawF 16 klawsub2_mixed (fun wF48 hB0 => ?_)
       refine LAC.takeN (i := 0) rfl (by kernel_rfl) (by kernel_rfl) (by kernel_rfl) (by kernel_rfl) (fun w hw => x_ldn (vs := xs) klawsub2_ag25 rfl hla (hw.keepRow hla (bx3.row hla))) rfl ?_
       refine LAC.takeN (i := 1) rfl (by kernel_rfl) (by kernel_rfl) (by kernel_rfl) (by kernel_rfl) (fun w hw => x_ldn (vs := ys) klawsub2_ag25 rfl hlb (hw.keepRow hlb (bx4.row hlb))) rfl ?_
       refine LAC.takeN (i := 8) rfl (by kernel_rfl) (by kernel_rfl) (by kernel_rfl) (by kernel_rfl) (fun w hw => x_ldn (vs := xs) klawsub2_ag25 rfl hla (hw.keepRow hla (bx3.row hla))) rfl ?_
       refine LAC.takeN (i := 9) rfl (by kernel_rfl) (by kernel_rfl) (by kernel_rfl) (by kernel_rfl) (fun w hw => x_ldn (vs := ys) klawsub2_ag25 rfl hlb (hw.keepRow hlb (bx4.row hlb))) rfl ?_
       refine LAC.step (rs := [2]) (fun _ => hB0) (by kernel_rfl) (by simp) ⟨⟨_, rfl, ?_⟩, trivial⟩
       refine L.ret (x_call klawsub2_en49 rfl) rfl (below_ok _ _ a b _ _ _ (ha.carry hB0) (hb.carry hB0)) ?_
       rintro _ w50 ⟨rfl, hw⟩
       have hB0 := hB0.carry hw
       refine L.nil ?_
       refine thn_n ?_
       refine LAC.takeN (i := 3) rfl (by kernel_rfl) (by kernel_rfl) (by kernel_rfl) (by kernel_rfl) (fun w hw => x_mv (v := .bool _) rfl) rfl ?_
       refine LAC.split (dj := 51) (b := _) rfl (fun g51 => ?_) (fun g51 => ?_)
       ·have h51 := g51
        refine LAC.takeG (i := 4) rfl (by kernel_rfl) (by kernel_rfl) (by kernel_rfl) (by kernel_rfl) (dj := 51) (b := _) rfl rfl g51 (fun w hw => x_ldn (vs := ys) klawsub2_ag25 rfl hlb (hw.keepRow hlb (bx4.row hlb))) rfl ?_
        refine LAC.takeG (i := 5) rfl (by kernel_rfl) (by kernel_rfl) (by kernel_rfl) (by kernel_rfl) (dj := 51) (b := _) rfl rfl g51 (fun w hw => x_ldn (vs := xs) klawsub2_ag25 rfl hla (hw.keepRow hla (bx3.row hla))) rfl ?_
        refine LAC.step (rs := [6]) (fun _ => hB0) (by kernel_rfl) (by simp) ⟨⟨_, rfl, ?_⟩, trivial⟩
        refine L.gyes' (dj := 51) (b := _) rfl rfl g51 ?_
        refine L.ret (x_call klawsub2_en49 rfl) rfl (below_ok _ _ b a _ _ _ (hb.carry hB0) (ha.carry hB0)) ?_
        rintro _ w54 ⟨rfl, hw⟩
        have hB0 := hB0.carry hw
        refine L.nil ?_
        refine thn_n ?_
        refine LAC.takeN (i := 7) rfl (by kernel_rfl) (by kernel_rfl) (by kernel_rfl) (by kernel_rfl) (fun w hw => x_pick_t (v := .bool _) (congrArg Value.bool g51) rfl) rfl ?_
        refine LAC.step (rs := [10]) (fun _ => hB0) (by kernel_rfl) (by simp) ⟨⟨_, rfl, ?_⟩, trivial⟩
        refine L.ret (x_call klawsub2_en53 rfl) rfl (same_ok _ _ a b _ _ _ (ha.carry hB0) (hb.carry hB0)) ?_
        rintro _ w58 ⟨rfl, hw⟩
        have hB0 := hB0.carry hw
        refine L.nil ?_
        refine thn_n ?_
        refine LAC.takeN (i := 11) rfl (by kernel_rfl) (by kernel_rfl) (by kernel_rfl) (by kernel_rfl) (fun w hw => x_eqb Try.underlying4 rfl rfl) rfl ?_
        refine LAC.takeN (i := 12) rfl (by kernel_rfl) (by kernel_rfl) (by kernel_rfl) (by kernel_rfl) (fun w hw => x_mv (v := .bool _) rfl) rfl ?_
        refine LAC.split (dj := 60) (b := _) rfl (fun g60 => ?_) (fun g60 => ?_)
        ·have h60 := g60
         refine LAC.step (rs := [13]) (fun _ => hB0) (by kernel_rfl) (by simp) ⟨⟨_, rfl, ?_⟩, trivial⟩
         refine L.gyes' (dj := 60) (b := _) rfl rfl g60 ?_
         refine L.ret (x_call klawsub2_en50 rfl) rfl (awake12 _) ?_
         rintro _ w61 ⟨rfl, hw⟩
         have hB0 := hB0.carry hw
         refine L.nil ?_
         refine thn_n ?_
         refine LAC.takeN (i := 14) rfl (by kernel_rfl) (by kernel_rfl) (by kernel_rfl) (by kernel_rfl) (fun w hw => x_pick_t (v := .bool _) (congrArg Value.bool g60) rfl) rfl ?_
         refine LAC.takeN (i := 15) rfl (by kernel_rfl) (by kernel_rfl) (by kernel_rfl) (by kernel_rfl) (fun w hw => x_as (v := .bool _) rfl) rfl ?_
         refine LAC.doneF (by kernel_rfl) hB0 ?_
         have hB := hB.carry hB0; have ha := ha.carry hB0; have hb := hb.carry hB0; have hc := hc.carry hB0; have bx3 := bx3.carry hB0; have bx4 := bx4.carry hB0; have bx5 := bx5.carry hB0
         refine thn_n ?_
         refine W.ret (fin_mk (.inr rfl) ?_)
         exact ⟨rfl, hB⟩
        ·have h60 := g60
         rw [same_below hca hcb] at g60
         rw [g51] at g60
         simp at g60
       ·have h51 := g51
        refine LAC.takeU (i := 4) rfl (by kernel_rfl) (by kernel_rfl) (by kernel_rfl) (by kernel_rfl) (dj := 51) (b := _) rfl rfl g51 rfl ?_
        refine LAC.takeU (i := 5) rfl (by kernel_rfl) (by kernel_rfl) (by kernel_rfl) (by kernel_rfl) (dj := 51) (b := _) rfl rfl g51 rfl ?_
        refine LAC.takeU (i := 6) rfl (by kernel_rfl) (by kernel_rfl) (by kernel_rfl) (by kernel_rfl) (dj := 51) (b := _) rfl rfl g51 rfl ?_
        refine LAC.takeN (i := 7) rfl (by kernel_rfl) (by kernel_rfl) (by kernel_rfl) (by kernel_rfl) (fun w hw => x_pick_f (v := .bool _) (congrArg Value.bool g51) rfl) rfl ?_
        refine LAC.step (rs := [10]) (fun _ => hB0) (by kernel_rfl) (by simp) ⟨⟨_, rfl, ?_⟩, trivial⟩
        refine L.ret (x_call klawsub2_en53 rfl) rfl (same_ok _ _ a b _ _ _ (ha.carry hB0) (hb.carry hB0)) ?_
        rintro _ w58 ⟨rfl, hw⟩
        have hB0 := hB0.carry hw
        refine L.nil ?_
        refine thn_n ?_
        refine LAC.takeN (i := 11) rfl (by kernel_rfl) (by kernel_rfl) (by kernel_rfl) (by kernel_rfl) (fun w hw => x_eqb Try.underlying4 rfl rfl) rfl ?_
        refine LAC.takeN (i := 12) rfl (by kernel_rfl) (by kernel_rfl) (by kernel_rfl) (by kernel_rfl) (fun w hw => x_mv (v := .bool _) rfl) rfl ?_
        refine LAC.split (dj := 60) (b := _) rfl (fun g60 => ?_) (fun g60 => ?_)
        ·have h60 := g60
         refine LAC.step (rs := [13]) (fun _ => hB0) (by kernel_rfl) (by simp) ⟨⟨_, rfl, ?_⟩, trivial⟩
         refine L.gyes' (dj := 60) (b := _) rfl rfl g60 ?_
         refine L.ret (x_call klawsub2_en50 rfl) rfl (awake12 _) ?_
         rintro _ w61 ⟨rfl, hw⟩
         have hB0 := hB0.carry hw
         refine L.nil ?_
         refine thn_n ?_
         refine LAC.takeN (i := 14) rfl (by kernel_rfl) (by kernel_rfl) (by kernel_rfl) (by kernel_rfl) (fun w hw => x_pick_t (v := .bool _) (congrArg Value.bool g60) rfl) rfl ?_
         refine LAC.takeN (i := 15) rfl (by kernel_rfl) (by kernel_rfl) (by kernel_rfl) (by kernel_rfl) (fun w hw => x_as (v := .bool _) rfl) rfl ?_
         refine LAC.doneF (by kernel_rfl) hB0 ?_
         have hB := hB.carry hB0; have ha := ha.carry hB0; have hb := hb.carry hB0; have hc := hc.carry hB0; have bx3 := bx3.carry hB0; have bx4 := bx4.carry hB0; have bx5 := bx5.carry hB0
         refine thn_n ?_
         refine W.ret (fin_mk (.inr rfl) ?_)
         exact ⟨rfl, hB⟩
        ·have h60 := g60
         rw [same_below hca hcb] at g60
         rw [g51] at g60
         simp at g60
     ·have h36 := g36
      refine LAC.takeU (i := 16) rfl (by kernel_rfl) (by kernel_rfl) (by kernel_rfl) (by kernel_rfl) (dj := 36) (b := _) rfl rfl g36 rfl ?_
      refine LAC.takeU (i := 17) rfl (by kernel_rfl) (by kernel_rfl) (by kernel_rfl) (by kernel_rfl) (dj := 36) (b := _) rfl rfl g36 rfl ?_
      refine LAC.takeU (i := 18) rfl (by kernel_rfl) (by kernel_rfl) (by kernel_rfl) (by kernel_rfl) (dj := 36) (b := _) rfl rfl g36 rfl ?_
      refine LAC.takeG (i := 19) rfl (by kernel_rfl) (by kernel_rfl) (by kernel_rfl) (by kernel_rfl) (dj := 32) (b := _) rfl rfl g32 (fun w hw => x_pick_f (v := .bool _) (congrArg Value.bool g36) rfl) rfl ?_
      refine LAC.takeG (i := 20) rfl (by kernel_rfl) (by kernel_rfl) (by kernel_rfl) (by kernel_rfl) (dj := 32) (b := _) rfl rfl g32 (fun w hw => x_mv (v := .bool _) rfl) rfl ?_
      refine LAC.takeU (i := 21) rfl (by kernel_rfl) (by kernel_rfl) (by kernel_rfl) (by kernel_rfl) (dj := 41) (b := _) rfl rfl rfl rfl ?_
      refine LAC.takeU (i := 22) rfl (by kernel_rfl) (by kernel_rfl) (by kernel_rfl) (by kernel_rfl) (dj := 41) (b := _) rfl rfl rfl rfl ?_
      refine LAC.takeU (i := 23) rfl (by kernel_rfl) (by kernel_rfl) (by kernel_rfl) (by kernel_rfl) (dj := 41) (b := _) rfl rfl rfl rfl ?_
      refine LAC.takeU (i := 24) rfl (by kernel_rfl) (by kernel_rfl) (by kernel_rfl) (by kernel_rfl) (dj := 41) (b := _) rfl rfl rfl rfl ?_
      refine LAC.takeG (i := 25) rfl (by kernel_rfl) (by kernel_rfl) (by kernel_rfl) (by kernel_rfl) (dj := 32) (b := _) rfl rfl g32 (fun w hw => x_pick_f (v := .bool _) rfl rfl) rfl ?_
      refine LAC.takeN (i := 26) rfl (by kernel_rfl) (by kernel_rfl) (by kernel_rfl) (by kernel_rfl) (fun w hw => x_pick_f (v := .bool _) (congrArg Value.bool g32) rfl) rfl ?_
      refine LAC.doneF (by kernel_rfl) hB0 ?_
      have hB := hB.carry hB0; have ha := ha.carry hB0; have hb := hb.carry hB0; have hc := hc.carry hB0; have bx3 := bx3.carry hB0; have bx4 := bx4.carry hB0; have bx5 := bx5.carry hB0
      refine thn_n ?_
      refine W.cond (b := _) rfl (fun g46 => ?_) (fun g46 => ?_)
      ·have h46 := g46
       cases g46
      ·have h46 := g46
       refine W.skip ?_
       refine thn_n ?_
       refine W.seq ?_
       refine W.drawF 16 klawsub2_mixed (fun wF48 hB0 => ?_)
       refine LAC.takeN (i := 0) rfl (by kernel_rfl) (by kernel_rfl) (by kernel_rfl) (by kernel_rfl) (fun w hw => x_ldn (vs := xs) klawsub2_ag25 rfl hla (hw.keepRow hla (bx3.row hla))) rfl ?_
       refine LAC.takeN (i := 1) rfl (by kernel_rfl) (by kernel_rfl) (by kernel_rfl) (by kernel_rfl) (fun w hw => x_ldn (vs := ys) klawsub2_ag25 rfl hlb (hw.keepRow hlb (bx4.row hlb))) rfl ?_
       refine LAC.takeN (i := 8) rfl (by kernel_rfl) (by kernel_rfl) (by kernel_rfl) (by kernel_rfl) (fun w hw => x_ldn (vs := xs) klawsub2_ag25 rfl hla (hw.keepRow hla (bx3.row hla))) rfl ?_
       refine LAC.takeN (i := 9) rfl (by kernel_rfl) (by kernel_rfl) (by kernel_rfl) (by kernel_rfl) (fun w hw => x_ldn (vs := ys) klawsub2_ag25 rfl hlb (hw.keepRow hlb (bx4.row hlb))) rfl ?_
       refine LAC.step (rs := [2]) (fun _ => hB0) (by kernel_rfl) (by simp) ⟨⟨_, rfl, ?_⟩, trivial⟩
       refine L.ret (x_call klawsub2_en49 rfl) rfl (below_ok _ _ a b _ _ _ (ha.carry hB0) (hb.carry hB0)) ?_
       rintro _ w50 ⟨rfl, hw⟩
       have hB0 := hB0.carry hw
       refine L.nil ?_
       refine thn_n ?_
       refine LAC.takeN (i := 3) rfl (by kernel_rfl) (by kernel_rfl) (by kernel_rfl) (by kernel_rfl) (fun w hw => x_mv (v := .bool _) rfl) rfl ?_
       refine LAC.split (dj := 51) (b := _) rfl (fun g51 => ?_) (fun g51 => ?_)
       ·have h51 := g51
        refine LAC.takeG (i := 4) rfl (by kernel_rfl) (by kernel_rfl) (by kernel_rfl) (by kernel_rfl) (dj := 51) (b := _) rfl rfl g51 (fun w hw => x_ldn (vs := ys) klawsub2_ag25 rfl hlb (hw.keepRow hlb (bx4.row hlb))) rfl ?_
        refine LAC.takeG (i := 5) rfl (by kernel_rfl) (by kernel_rfl) (by kernel_rfl) (by kernel_rfl) (dj := 51) (b := _) rfl rfl g51 (fun w hw => x_ldn (vs := xs) klawsub2_ag25 rfl hla (hw.keepRow hla (bx3.row hla))) rfl ?_
        refine LAC.step (rs := [6]) (fun _ => hB0) (by kernel_rfl) (by simp) ⟨⟨_, rfl, ?_⟩, trivial⟩
        refine L.gyes' (dj := 51) (b := _) rfl rfl g51 ?_
        refine L.ret (x_call klawsub2_en49 rfl) rfl (below_ok _ _ b a _ _ _ (hb.carry hB0) (ha.carry hB0)) ?_
        rintro _ w54 ⟨rfl, hw⟩
        have hB0 := hB0.carry hw
        refine L.nil ?_
        refine thn_n ?_
        refine LAC.takeN (i := 7) rfl (by kernel_rfl) (by kernel_rfl) (by kernel_rfl) (by kernel_rfl) (fun w hw => x_pick_t (v := .bool _) (congrArg Value.bool g51) rfl) rfl ?_
        refine LAC.step (rs := [10]) (fun _ => hB0) (by kernel_rfl) (by simp) ⟨⟨_, rfl, ?_⟩, trivial⟩
        refine L.ret (x_call klawsub2_en53 rfl) rfl (same_ok _ _ a b _ _ _ (ha.carry hB0) (hb.carry hB0)) ?_
        rintro _ w58 ⟨rfl, hw⟩
        have hB0 := hB0.carry hw
        refine L.nil ?_
        refine thn_n ?_
        refine LAC.takeN (i := 11) rfl (by kernel_rfl) (by kernel_rfl) (by kernel_rfl) (by kernel_rfl) (fun w hw => x_eqb Try.underlying4 rfl rfl) rfl ?_
        refine LAC.takeN (i := 12) rfl (by kernel_rfl) (by kernel_rfl) (by kernel_rfl) (by kernel_rfl) (fun w hw => x_mv (v := .bool _) rfl) rfl ?_
        refine LAC.split (dj := 60) (b := _) rfl (fun g60 => ?_) (fun g60 => ?_)
        ·have h60 := g60
         refine LAC.step (rs := [13]) (fun _ => hB0) (by kernel_rfl) (by simp) ⟨⟨_, rfl, ?_⟩, trivial⟩
         refine L.gyes' (dj := 60) (b := _) rfl rfl g60 ?_
         refine L.ret (x_call klawsub2_en50 rfl) rfl (awake12 _) ?_
         rintro _ w61 ⟨rfl, hw⟩
         have hB0 := hB0.carry hw
         refine L.nil ?_
         refine thn_n ?_
         refine LAC.takeN (i := 14) rfl (by kernel_rfl) (by kernel_rfl) (by kernel_rfl) (by kernel_rfl) (fun w hw => x_pick_t (v := .bool _) (congrArg Value.bool g60) rfl) rfl ?_
         refine LAC.takeN (i := 15) rfl (by kernel_rfl) (by kernel_rfl) (by kernel_rfl) (by kernel_rfl) (fun w hw => x_as (v := .bool _) rfl) rfl ?_
         refine LAC.doneF (by kernel_rfl) hB0 ?_
         have hB := hB.carry hB0; have ha := ha.carry hB0; have hb := hb.carry hB0; have hc := hc.carry hB0; have bx3 := bx3.carry hB0; have bx4 := bx4.carry hB0; have bx5 := bx5.carry hB0
         refine thn_n ?_
         refine W.ret (fin_mk (.inr rfl) ?_)
         exact ⟨rfl, hB⟩
        ·have h60 := g60
         rw [same_below hca hcb] at g60
         rw [g51] at g60
         simp at g60
       ·have h51 := g51
        refine LAC.takeU (i := 4) rfl (by kernel_rfl) (by kernel_rfl) (by kernel_rfl) (by kernel_rfl) (dj := 51) (b := _) rfl rfl g51 rfl ?_
        refine LAC.takeU (i := 5) rfl (by kernel_rfl) (by kernel_rfl) (by kernel_rfl) (by kernel_rfl) (dj := 51) (b := _) rfl rfl g51 rfl ?_
        refine LAC.takeU (i := 6) rfl (by kernel_rfl) (by kernel_rfl) (by kernel_rfl) (by kernel_rfl) (dj := 51) (b := _) rfl rfl g51 rfl ?_
        refine LAC.takeN (i := 7) rfl (by kernel_rfl) (by kernel_rfl) (by kernel_rfl) (by kernel_rfl) (fun w hw => x_pick_f (v := .bool _) (congrArg Value.bool g51) rfl) rfl ?_
        refine LAC.step (rs := [10]) (fun _ => hB0) (by kernel_rfl) (by simp) ⟨⟨_, rfl, ?_⟩, trivial⟩
        refine L.ret (x_call klawsub2_en53 rfl) rfl (same_ok _ _ a b _ _ _ (ha.carry hB0) (hb.carry hB0)) ?_
        rintro _ w58 ⟨rfl, hw⟩
        have hB0 := hB0.carry hw
        refine L.nil ?_
        refine thn_n ?_
        refine LAC.takeN (i := 11) rfl (by kernel_rfl) (by kernel_rfl) (by kernel_rfl) (by kernel_rfl) (fun w hw => x_eqb Try.underlying4 rfl rfl) rfl ?_
        refine LAC.takeN (i := 12) rfl (by kernel_rfl) (by kernel_rfl) (by kernel_rfl) (by kernel_rfl) (fun w hw => x_mv (v := .bool _) rfl) rfl ?_
        refine LAC.split (dj := 60) (b := _) rfl (fun g60 => ?_) (fun g60 => ?_)
        ·have h60 := g60
         refine LAC.step (rs := [13]) (fun _ => hB0) (by kernel_rfl) (by simp) ⟨⟨_, rfl, ?_⟩, trivial⟩
         refine L.gyes' (dj := 60) (b := _) rfl rfl g60 ?_
         refine L.ret (x_call klawsub2_en50 rfl) rfl (awake12 _) ?_
         rintro _ w61 ⟨rfl, hw⟩
         have hB0 := hB0.carry hw
         refine L.nil ?_
         refine thn_n ?_
         refine LAC.takeN (i := 14) rfl (by kernel_rfl) (by kernel_rfl) (by kernel_rfl) (by kernel_rfl) (fun w hw => x_pick_t (v := .bool _) (congrArg Value.bool g60) rfl) rfl ?_
         refine LAC.takeN (i := 15) rfl (by kernel_rfl) (by kernel_rfl) (by kernel_rfl) (by kernel_rfl) (fun w hw => x_as (v := .bool _) rfl) rfl ?_
         refine LAC.doneF (by kernel_rfl) hB0 ?_
         have hB := hB.carry hB0; have ha := ha.carry hB0; have hb := hb.carry hB0; have hc := hc.carry hB0; have bx3 := bx3.carry hB0; have bx4 := bx4.carry hB0; have bx5 := bx5.carry hB0
         refine thn_n ?_
         refine W.ret (fin_mk (.inr rfl) ?_)
         exact ⟨rfl, hB⟩
        ·have h60 := g60
         rw [same_below hca hcb] at g60
         rw [g51] at g60
         simp at g60
theorem law_both (A0 B0 : Nat → Prop) (a b : Sh) (xs ys : List Value) (w : World) (ha0 : ShC A0 w xs a) (hb0 : ShC B0 w ys b) :
    Ret Try.prog 21 #[.agg xs.toArray, .agg ys.toArray] w fun v w' => v = .bool true ∧ Bel w w' := by
  obtain ⟨A, ha, hA⟩ : ∃ A1 : Nat → Prop, ShC A1 w xs a ∧ (∀ k, w.heap.size ≤ k → A1 k) := ⟨_, ha0.up, fun _ => .inr⟩
  obtain ⟨B, hb, hB1⟩ : ∃ A1 : Nat → Prop, ShC A1 w ys b ∧ (∀ k, w.heap.size ≤ k → A1 k) := ⟨_, hb0.up, fun _ => .inr⟩
  clear ha0 hb0
  have hla := ha.len
  have hlb := hb.len
  refine ret_of_W Try.func21 rfl (Nat.le_of_ble_eq_true rfl) (res1 rfl) ?_
  have hB := Gr.refl (fun _ => False) w
  refine W.seq ?_
  refine W.region ?_
  refine L.box (cs := xs) rfl rfl (fun w2 bx2 hw hz2 => ?_)
  have hB := hB.carry hw; have ha := ha.carry hw; have hb := hb.carry hw
  refine L.box (cs := ys) rfl rfl (fun w3 bx3 hw hz3 => ?_)
  have hB := hB.carry hw; have ha := ha.carry hw; have hb := hb.carry hw; have bx2 := bx2.carry hw
  refine L.val (x_as (v := .bool _) rfl) rfl ?_
  refine L.nil ?_
  refine thn_n ?_
  refine W.seq ?_
  refine W.seq ?_
  refine W.region ?_
  refine L.val (x_ldn (vs := xs) klawsub2_ag25 rfl hla (bx2.row hla)) rfl ?_
  refine L.ret (x_call klawsub2_en29 rfl) rfl (checkL _ a _ _ ha) ?_
  rintro _ w19 ⟨rfl, hw⟩
  have hB := hB.carry hw; have ha := ha.carry hw; have hb := hb.carry hw; have bx2 := bx2.carry hw; have bx3 := bx3.carry hw
  refine L.val (x_neq rfl rfl) rfl ?_
  refine L.val (x_mv (v := .bool _) rfl) rfl ?_
  refine' L.group 3 22 24 24 21 false rfl ?_ ?_ ?_
  rotate_left 1
  ·intro g21 hg21
   have h21 := dne_f g21
   refine L.gyes' (dj := 21) (b := _) rfl rfl g21 ?_
   refine L.val (x_ldn (vs := ys) klawsub2_ag25 rfl hlb (bx3.row hlb)) rfl ?_
   refine L.gyes' (dj := 21) (b := _) rfl rfl g21 ?_
   refine L.ret (x_call klawsub2_en29 rfl) rfl (checkL _ b _ _ hb) ?_
   rintro _ w23 ⟨rfl, hw⟩
   have hB := hB.carry hw; have ha := ha.carry hw; have hb := hb.carry hw; have bx2 := bx2.carry hw; have bx3 := bx3.carry hw; have hg21 := hg21.carry hw
   refine L.gyes' (dj := 21) (b := _) rfl rfl g21 ?_
   refine L.val (x_neq rfl rfl) rfl ?_
   refine L.nil ?_
   refine thn_n ⟨rfl, ?_, ?_, fun _ => rfl⟩
   ·exact hg21
   ·repeat (first | exact jeq.refl _ _ _ | refine jeq.upd rfl ?_ | refine jeq.jk rfl rfl ?_)
  ·intro g21
   refine L.gno (dj := 21) (b := _) rfl rfl g21 rfl ?_
   refine L.gno (dj := 21) (b := _) rfl rfl g21 rfl ?_
   refine L.gno (dj := 21) (b := _) rfl rfl g21 rfl ?_
   refine L.nil (thn_n ⟨rfl, Gr.refl _ _, ?_⟩)
   refine ⟨?_, fun h => h.elim⟩
   repeat (first | exact jeq.refl _ _ _ | refine jeq.upd rfl ?_ | refine jeq.jk rfl rfl ?_)
  intro J21 w21 hw j21
  have hB := hB.carry hw; have ha := ha.carry hw; have hb := hb.carry hw; have bx2 := bx2.carry hw; have bx3 := bx3.carry hw
  refine L.val (x_or rfl j21) rfl ?_
  refine L.nil ?_
  refine thn_n ?_
  refine W.cond (b := _) rfl (fun g25 => ?_) (fun g25 => ?_)
  ·have h25 := g25
   refine W.seq ?_
   refine W.region ?_
   refine L.ret (x_call klawsub2_en50 rfl) rfl (awake12 _) ?_
   rintro _ w26 ⟨rfl, hw⟩
   have hB := hB.carry hw; have ha := ha.carry hw; have hb := hb.carry hw; have bx2 := bx2.carry hw; have bx3 := bx3.carry hw
   refine L.val (x_as (v := .bool _) rfl) rfl ?_
   refine L.nil ?_
   refine thn_n ?_
   refine W.ret (thn_r (fin_mk (.inr rfl) ?_))
   exact ⟨rfl, hB⟩
  ·have h25 := g25
   have hca : checkS a = 0 := by simp at g25; exact g25.1
   have hcb : checkS b = 0 := by simp at g25; exact g25.2
   have hfa := fit_of hca
   have hfb := fit_of hcb
   refine W.skip ?_
   refine thn_n ?_
   refine W.seq ?_
   refine W.region ?_
   refine L.val (x_ldn (vs := xs) klawsub2_ag25 rfl hla (bx2.row hla)) rfl ?_
   refine L.val (x_ldn (vs := ys) klawsub2_ag25 rfl hlb (bx3.row hlb)) rfl ?_
   refine L.ret (x_call klawsub2_en48 rfl) rfl (join_ok _ _ a b _ _ _ ha hb) ?_
   rintro _ w30 ⟨cs30, rfl, h5, hw⟩
   have hB := hB.carry hw; have ha := ha.carry hw; have hb := hb.carry hw; have bx2 := bx2.carry hw; have bx3 := bx3.carry hw
   have hl5 := h5.len
   have h5 := h5.up
   have hsz30 := hB.size
   have hx2 := bx2.lt
   have hx3 := bx3.lt
   refine L.val (x_mv (v := _) rfl) rfl ?_
   refine L.val (x_ext (v := _) rfl rfl) rfl ?_
   refine L.val (x_ext (v := .bool _) rfl rfl) rfl ?_
   refine L.alloc (cs := [Value.int .i64 0, S [], S [], Value.slice none 0 0, Value.slice none 0 0]) klawsub2_zr25 rfl rfl (fun w5 bx5 hw hz5 => ?_)
   have hB := hB.carry hw; have ha := ha.carry hw; have hb := hb.carry hw; have bx2 := bx2.carry hw; have bx3 := bx3.carry hw; have h5 := h5.carry hw
   refine L.setRow klawsub2_ag25 rfl rfl bx5 rfl hl5 h5.one (fun wl21 bx5 hw hzl21 => ?_)
   have hsz := hB.size
   have hB := hB.set hw (by omega); have ha := ha.carryR hw (fun j e => hA j (by have e : j = _ := e; omega)); have hb := hb.carryR hw (fun j e => hB1 j (by have e : j = _ := e; omega)); have bx2 := bx2.carryR hw (by omega); have bx3 := bx3.carryR hw (by omega); have h5 := h5.carryR hw (fun j e => .inr (by have e : j = _ := e; omega))
   refine L.val (x_as (v := .bool _) rfl) rfl ?_
   refine L.nil ?_
   refine thn_n ?_
   refine W.seq ?_
   refine W.region ?_
   refine L.val (x_ldn (vs := ys) klawsub2_ag25 rfl hlb (bx3.row hlb)) rfl ?_
   refine L.val (x_ldn (vs := xs) klawsub2_ag25 rfl hla (bx2.row hla)) rfl ?_
   refine L.ret (x_call klawsub2_en48 rfl) rfl (join_ok _ _ b a _ _ _ hb ha) ?_
   rintro _ w36 ⟨cs36, rfl, h7, hw⟩
   have hB := hB.carry hw; have ha := ha.carry hw; have hb := hb.carry hw; have bx2 := bx2.carry hw; have bx3 := bx3.carry hw; have h5 := h5.carry hw; have bx5 := bx5.carry hw
   rw [show jmS true b a = jmS true a b from jm_comm] at h7 ⊢
   have hl7 := h7.len
   have h7 := h7.up
   have hsz36 := hB.size
   have hsw36 := hw.size
   have hx5 := bx5.lt
   refine L.val (x_mv (v := _) rfl) rfl ?_
   refine L.val (x_ext (v := _) rfl rfl) rfl ?_
   refine L.val (x_ext (v := .bool _) rfl rfl) rfl ?_
   refine L.alloc (cs := [Value.int .i64 0, S [], S [], Value.slice none 0 0, Value.slice none 0 0]) klawsub2_zr25 rfl rfl (fun w7 bx7 hw hz7 => ?_)
   have hB := hB.carry hw; have ha := ha.carry hw; have hb := hb.carry hw; have bx2 := bx2.carry hw; have bx3 := bx3.carry hw; have h5 := h5.carry hw; have bx5 := bx5.carry hw; have h7 := h7.carry hw
   refine L.setRow klawsub2_ag25 rfl rfl bx7 rfl hl7 h7.one (fun wl30 bx7 hw hzl30 => ?_)
   have hsz := hB.size
   have hB := hB.set hw (by omega); have ha := ha.carryR hw (fun j e => hA j (by have e : j = _ := e; omega)); have hb := hb.carryR hw (fun j e => hB1 j (by have e : j = _ := e; omega)); have bx2 := bx2.carryR hw (by omega); have bx3 := bx3.carryR hw (by omega); have h5 := h5.carryR hw (fun j e => .inr (by have e : j = _ := e; omega)); have bx5 := bx5.carryR hw (by omega); have h7 := h7.carryR hw (fun j e => .inr (by have e : j = _ := e; omega))
   refine L.val (x_as (v := .bool _) rfl) rfl ?_
   refine L.nil ?_
   refine thn_n ?_
   refine W.seq ?_
   refine W.region ?_
   refine L.val (x_ldn (vs := xs) klawsub2_ag25 rfl hla (bx2.row hla)) rfl ?_
   refine L.val (x_ldn (vs := ys) klawsub2_ag25 rfl hlb (bx3.row hlb)) rfl ?_
   refine L.ret (x_call klawsub2_en52 rfl) rfl (meet_okJ _ _ a b _ _ _ ha hb) ?_
   rintro _ w42 ⟨cs42, rfl, h9, hw⟩
   have hB := hB.carry hw; have ha := ha.carry hw; have hb := hb.carry hw; have bx2 := bx2.carry hw; have bx3 := bx3.carry hw; have h5 := h5.carry hw; have bx5 := bx5.carry hw; have h7 := h7.carry hw; have bx7 := bx7.carry hw
   have hl9 := h9.len
   have h9 := h9.up
   have hsz42 := hB.size
   have hsw42 := hw.size
   have hx7 := bx7.lt
   refine L.val (x_mv (v := _) rfl) rfl ?_
   refine L.val (x_ext (v := _) rfl rfl) rfl ?_
   refine L.val (x_ext (v := .bool _) rfl rfl) rfl ?_
   refine L.alloc (cs := [Value.int .i64 0, S [], S [], Value.slice none 0 0, Value.slice none 0 0]) klawsub2_zr25 rfl rfl (fun w9 bx9 hw hz9 => ?_)
   have hB := hB.carry hw; have ha := ha.carry hw; have hb := hb.carry hw; have bx2 := bx2.carry hw; have bx3 := bx3.carry hw; have h5 := h5.carry hw; have bx5 := bx5.carry hw; have h7 := h7.carry hw; have bx7 := bx7.carry hw; have h9 := h9.carry hw
   refine L.setRow klawsub2_ag25 rfl rfl bx9 rfl hl9 h9.one (fun wl39 bx9 hw hzl39 => ?_)
   have hsz := hB.size
   have hB := hB.set hw (by omega); have ha := ha.carryR hw (fun j e => hA j (by have e : j = _ := e; omega)); have hb := hb.carryR hw (fun j e => hB1 j (by have e : j = _ := e; omega)); have bx2 := bx2.carryR hw (by omega); have bx3 := bx3.carryR hw (by omega); have h5 := h5.carryR hw (fun j e => .inr (by have e : j = _ := e; omega)); have bx5 := bx5.carryR hw (by omega); have h7 := h7.carryR hw (fun j e => .inr (by have e : j = _ := e; omega)); have bx7 := bx7.carryR hw (by omega); have h9 := h9.carryR hw (fun j e => .inr (by have e : j = _ := e; omega))
   refine L.val (x_as (v := .bool _) rfl) rfl ?_
   refine L.nil ?_
   refine thn_n ?_
   refine W.seq ?_
   refine W.region ?_
   refine L.val (x_ldn (vs := ys) klawsub2_ag25 rfl hlb (bx3.row hlb)) rfl ?_
   refine L.val (x_ldn (vs := xs) klawsub2_ag25 rfl hla (bx2.row hla)) rfl ?_
   refine L.ret (x_call klawsub2_en52 rfl) rfl (meet_okJ _ _ b a _ _ _ hb ha) ?_
   rintro _ w48 ⟨cs48, rfl, h11, hw⟩
   have hB := hB.carry hw; have ha := ha.carry hw; have hb := hb.carry hw; have bx2 := bx2.carry hw; have bx3 := bx3.carry hw; have h5 := h5.carry hw; have bx5 := bx5.carry hw; have h7 := h7.carry hw; have bx7 := bx7.carry hw; have h9 := h9.carry hw; have bx9 := bx9.carry hw
   rw [show jmS false b a = jmS false a b from jm_comm] at h11 ⊢
   have hl11 := h11.len
   have h11 := h11.up
   have hsz48 := hB.size
   have hsw48 := hw.size
   have hx9 := bx9.lt
   refine L.val (x_mv (v := _) rfl) rfl ?_
   refine L.val (x_ext (v := _) rfl rfl) rfl ?_
   refine L.val (x_ext (v := .bool _) rfl rfl) rfl ?_
   refine L.alloc (cs := [Value.int .i64 0, S [], S [], Value.slice none 0 0, Value.slice none 0 0]) klawsub2_zr25 rfl rfl (fun w11 bx11 hw hz11 => ?_)
   have hB := hB.carry hw; have ha := ha.carry hw; have hb := hb.carry hw; have bx2 := bx2.carry hw; have bx3 := bx3.carry hw; have h5 := h5.carry hw; have bx5 := bx5.carry hw; have h7 := h7.carry hw; have bx7 := bx7.carry hw; have h9 := h9.carry hw; have bx9 := bx9.carry hw; have h11 := h11.carry hw
   refine L.setRow klawsub2_ag25 rfl rfl bx11 rfl hl11 h11.one (fun wl48 bx11 hw hzl48 => ?_)
   have hsz := hB.size
   have hB := hB.set hw (by omega); have ha := ha.carryR hw (fun j e => hA j (by have e : j = _ := e; omega)); have hb := hb.carryR hw (fun j e => hB1 j (by have e : j = _ := e; omega)); have bx2 := bx2.carryR hw (by omega); have bx3 := bx3.carryR hw (by omega); have h5 := h5.carryR hw (fun j e => .inr (by have e : j = _ := e; omega)); have bx5 := bx5.carryR hw (by omega); have h7 := h7.carryR hw (fun j e => .inr (by have e : j = _ := e; omega)); have bx7 := bx7.carryR hw (by omega); have h9 := h9.carryR hw (fun j e => .inr (by have e : j = _ := e; omega)); have bx9 := bx9.carryR hw (by omega); have h11 := h11.carryR hw (fun j e => .inr (by have e : j = _ := e; omega))
   refine L.val (x_as (v := .bool _) rfl) rfl ?_
   refine L.nil ?_
   refine thn_n ?_
   refine W.seq ?_
   refine W.region ?_
   refine L.val (x_ldn (vs := xs) klawsub2_ag25 rfl hla (bx2.row hla)) rfl ?_
   refine L.val (x_ldn (vs := xs) klawsub2_ag25 rfl hla (bx2.row hla)) rfl ?_
   refine L.ret (x_call klawsub2_en48 rfl) rfl (join_ok _ _ a a _ _ _ ha ha) ?_
   rintro _ w54 ⟨cs54, rfl, h13, hw⟩
   have hB := hB.carry hw; have ha := ha.carry hw; have hb := hb.carry hw; have bx2 := bx2.carry hw; have bx3 := bx3.carry hw; have h5 := h5.carry hw; have bx5 := bx5.carry hw; have h7 := h7.carry hw; have bx7 := bx7.carry hw; have h9 := h9.carry hw; have bx9 := bx9.carry hw; have h11 := h11.carry hw; have bx11 := bx11.carry hw
   rw [jm_self (up := true) hca] at h13 ⊢
   have hl13 := h13.len
   have h13 := h13.up
   have hsz54 := hB.size
   have hsw54 := hw.size
   have hx11 := bx11.lt
   refine L.val (x_mv (v := _) rfl) rfl ?_
   refine L.val (x_ext (v := _) rfl rfl) rfl ?_
   refine L.val (x_ext (v := .bool _) rfl rfl) rfl ?_
   refine L.alloc (cs := [Value.int .i64 0, S [], S [], Value.slice none 0 0, Value.slice none 0 0]) klawsub2_zr25 rfl rfl (fun w13 bx13 hw hz13 => ?_)
   have hB := hB.carry hw; have ha := ha.carry hw; have hb := hb.carry hw; have bx2 := bx2.carry hw; have bx3 := bx3.carry hw; have h5 := h5.carry hw; have bx5 := bx5.carry hw; have h7 := h7.carry hw; have bx7 := bx7.carry hw; have h9 := h9.carry hw; have bx9 := bx9.carry hw; have h11 := h11.carry hw; have bx11 := bx11.carry hw; have h13 := h13.carry hw
   refine L.setRow klawsub2_ag25 rfl rfl bx13 rfl hl13 h13.one (fun wl57 bx13 hw hzl57 => ?_)
   have hsz := hB.size
   have hB := hB.set hw (by omega); have ha := ha.carryR hw (fun j e => hA j (by have e : j = _ := e; omega)); have hb := hb.carryR hw (fun j e => hB1 j (by have e : j = _ := e; omega)); have bx2 := bx2.carryR hw (by omega); have bx3 := bx3.carryR hw (by omega); have h5 := h5.carryR hw (fun j e => .inr (by have e : j = _ := e; omega)); have bx5 := bx5.carryR hw (by omega); have h7 := h7.carryR hw (fun j e => .inr (by have e : j = _ := e; omega)); have bx7 := bx7.carryR hw (by omega); have h9 := h9.carryR hw (fun j e => .inr (by have e : j = _ := e; omega)); have bx9 := bx9.carryR hw (by omega); have h11 := h11.carryR hw (fun j e => .inr (by have e : j = _ := e; omega)); have bx11 := bx11.carryR hw (by omega); have h13 := h13.carryR hw (fun j e => .inr (by have e : j = _ := e; omega))
   refine L.val (x_as (v := .bool _) rfl) rfl ?_
   refine L.nil ?_
   refine thn_n ?_
   refine W.seq ?_
   refine W.region ?_
   refine L.val (x_ldn (vs := xs) klawsub2_ag25 rfl hla (bx2.row hla)) rfl ?_
   refine L.val (x_ldn (vs := xs) klawsub2_ag25 rfl hla (bx2.row hla)) rfl ?_
   refine L.ret (x_call klawsub2_en52 rfl) rfl (meet_okJ _ _ a a _ _ _ ha ha) ?_
   rintro _ w60 ⟨cs60, rfl, h15, hw⟩
   have hB := hB.carry hw; have ha := ha.carry hw; have hb := hb.carry hw; have bx2 := bx2.carry hw; have bx3 := bx3.carry hw; have h5 := h5.carry hw; have bx5 := bx5.carry hw; have h7 := h7.carry hw; have bx7 := bx7.carry hw; have h9 := h9.carry hw; have bx9 := bx9.carry hw; have h11 := h11.carry hw; have bx11 := bx11.carry hw; have h13 := h13.carry hw; have bx13 := bx13.carry hw
   rw [jm_self (up := false) hca] at h15 ⊢
   have hl15 := h15.len
   have h15 := h15.up
   have hsz60 := hB.size
   have hsw60 := hw.size
   have hx13 := bx13.lt
   refine L.val (x_mv (v := _) rfl) rfl ?_
   refine L.val (x_ext (v := _) rfl rfl) rfl ?_
   refine L.val (x_ext (v := .bool _) rfl rfl) rfl ?_
   refine L.alloc (cs := [Value.int .i64 0, S [], S [], Value.slice none 0 0, Value.slice none 0 0]) klawsub2_zr25 rfl rfl (fun w15 bx15 hw hz15 => ?_)
   have hB := hB.carry hw; have ha := ha.carry hw; have hb := hb.carry hw; have bx2 := bx2.carry hw; have bx3 := bx3.carry hw; have h5 := h5.carry hw; have bx5 := bx5.carry hw; have h7 := h7.carry hw; have bx7 := bx7.carry hw; have h9 := h9.carry hw; have bx9 := bx9.carry hw; have h11 := h11.carry hw; have bx11 := bx11.carry hw; have h13 := h13.carry hw; have bx13 := bx13.carry hw; have h15 := h15.carry hw
   refine L.setRow klawsub2_ag25 rfl rfl bx15 rfl hl15 h15.one (fun wl66 bx15 hw hzl66 => ?_)
   have hsz := hB.size
   have hB := hB.set hw (by omega); have ha := ha.carryR hw (fun j e => hA j (by have e : j = _ := e; omega)); have hb := hb.carryR hw (fun j e => hB1 j (by have e : j = _ := e; omega)); have bx2 := bx2.carryR hw (by omega); have bx3 := bx3.carryR hw (by omega); have h5 := h5.carryR hw (fun j e => .inr (by have e : j = _ := e; omega)); have bx5 := bx5.carryR hw (by omega); have h7 := h7.carryR hw (fun j e => .inr (by have e : j = _ := e; omega)); have bx7 := bx7.carryR hw (by omega); have h9 := h9.carryR hw (fun j e => .inr (by have e : j = _ := e; omega)); have bx9 := bx9.carryR hw (by omega); have h11 := h11.carryR hw (fun j e => .inr (by have e : j = _ := e; omega)); have bx11 := bx11.carryR hw (by omega); have h13 := h13.carryR hw (fun j e => .inr (by have e : j = _ := e; omega)); have bx13 := bx13.carryR hw (by omega); have h15 := h15.carryR hw (fun j e => .inr (by have e : j = _ := e; omega))
   refine L.val (x_as (v := .bool _) rfl) rfl ?_
   refine L.nil ?_
   refine thn_n ?_
   refine W.seq ?_
   refine W.seq ?_
   refine W.drawF 41 klawsub2_mixed (fun wF63 hB0 => ?_)
   refine LAC.takeN (i := 0) rfl (by kernel_rfl) (by kernel_rfl) (by kernel_rfl) (by kernel_rfl) (fun w hw => x_mv (v := .bool _) rfl) rfl ?_
   refine LAC.takeN (i := 1) rfl (by kernel_rfl) (by kernel_rfl) (by kernel_rfl) (by kernel_rfl) (fun w hw => x_mv (v := .bool _) rfl) rfl ?_
   refine LAC.takeN (i := 2) rfl (by kernel_rfl) (by kernel_rfl) (by kernel_rfl) (by kernel_rfl) (fun w hw => x_neb Try.underlying4 rfl rfl) rfl ?_
   refine LAC.takeN (i := 3) rfl (by kernel_rfl) (by kernel_rfl) (by kernel_rfl) (by kernel_rfl) (fun w hw => x_mv (v := .bool _) rfl) rfl ?_
   refine LAC.split (dj := 66) (b := _) rfl (fun g66 => ?_) (fun g66 => ?_)
   ·have h66 := g66
    simp at g66
   ·have h66 := g66
    refine LAC.takeG (i := 4) rfl (by kernel_rfl) (by kernel_rfl) (by kernel_rfl) (by kernel_rfl) (dj := 66) (b := _) rfl rfl g66 (fun w hw => x_mv (v := .bool _) rfl) rfl ?_
    refine LAC.takeG (i := 5) rfl (by kernel_rfl) (by kernel_rfl) (by kernel_rfl) (by kernel_rfl) (dj := 66) (b := _) rfl rfl g66 (fun w hw => x_mv (v := .bool _) rfl) rfl ?_
    refine LAC.takeG (i := 6) rfl (by kernel_rfl) (by kernel_rfl) (by kernel_rfl) (by kernel_rfl) (dj := 66) (b := _) rfl rfl g66 (fun w hw => x_neb Try.underlying4 rfl rfl) rfl ?_
    refine LAC.takeN (i := 7) rfl (by kernel_rfl) (by kernel_rfl) (by kernel_rfl) (by kernel_rfl) (fun w hw => x_pick_f (v := .bool _) (congrArg Value.bool g66) rfl) rfl ?_
    refine LAC.takeN (i := 8) rfl (by kernel_rfl) (by kernel_rfl) (by kernel_rfl) (by kernel_rfl) (fun w hw => x_mv (v := .bool _) rfl) rfl ?_
    refine LAC.split (dj := 71) (b := _) rfl (fun g71 => ?_) (fun g71 => ?_)
    ·have h71 := g71
     simp at g71
    ·have h71 := g71
     refine LAC.takeG (i := 9) rfl (by kernel_rfl) (by kernel_rfl) (by kernel_rfl) (by kernel_rfl) (dj := 71) (b := _) rfl rfl g71 (fun w hw => x_mv (v := .bool _) rfl) rfl ?_
     refine LAC.takeG (i := 10) rfl (by kernel_rfl) (by kernel_rfl) (by kernel_rfl) (by kernel_rfl) (dj := 71) (b := _) rfl rfl g71 (fun w hw => x_not rfl) rfl ?_
     refine LAC.takeN (i := 11) rfl (by kernel_rfl) (by kernel_rfl) (by kernel_rfl) (by kernel_rfl) (fun w hw => x_pick_f (v := .bool _) (congrArg Value.bool g71) rfl) rfl ?_
     refine LAC.takeN (i := 12) rfl (by kernel_rfl) (by kernel_rfl) (by kernel_rfl) (by kernel_rfl) (fun w hw => x_mv (v := .bool _) rfl) rfl ?_
     refine LAC.split (dj := 75) (b := _) rfl (fun g75 => ?_) (fun g75 => ?_)
     ·have h75 := (not_t g75)
      simp at g75
     ·have h75 := (not_f g75)
      refine LAC.takeG (i := 13) rfl (by kernel_rfl) (by kernel_rfl) (by kernel_rfl) (by kernel_rfl) (dj := 75) (b := _) rfl rfl g75 (fun w hw => x_mv (v := .bool _) rfl) rfl ?_
      refine LAC.takeG (i := 14) rfl (by kernel_rfl) (by kernel_rfl) (by kernel_rfl) (by kernel_rfl) (dj := 75) (b := _) rfl rfl g75 (fun w hw => x_not rfl) rfl ?_
      refine LAC.takeN (i := 15) rfl (by kernel_rfl) (by kernel_rfl) (by kernel_rfl) (by kernel_rfl) (fun w hw => x_pick_f (v := .bool _) (congrArg Value.bool g75) rfl) rfl ?_
      refine LAC.takeN (i := 16) rfl (by kernel_rfl) (by kernel_rfl) (by kernel_rfl) (by kernel_rfl) (fun w hw => x_mv (v := .bool _) rfl) rfl ?_
      refine LAC.split (dj := 79) (b := _) rfl (fun g79 => ?_) (fun g79 => ?_)
      ·have h79 := (not_t g79)
       simp at g79
      ·have h79 := (not_f g79)
       refine LAC.takeG (i := 17) rfl (by kernel_rfl) (by kernel_rfl) (by kernel_rfl) (by kernel_rfl) (dj := 79) (b := _) rfl rfl g79 (fun w hw => x_ldn (vs := cs30) klawsub2_ag25 rfl hl5 (hw.keepRow hl5 (bx5.row hl5))) rfl ?_
       refine LAC.takeG (i := 18) rfl (by kernel_rfl) (by kernel_rfl) (by kernel_rfl) (by kernel_rfl) (dj := 79) (b := _) rfl rfl g79 (fun w hw => x_ldn (vs := cs36) klawsub2_ag25 rfl hl7 (hw.keepRow hl7 (bx7.row hl7))) rfl ?_
       refine LAC.step (rs := [19]) (fun _ => hB0) (by kernel_rfl) (by simp) ⟨⟨_, rfl, ?_⟩, trivial⟩
       refine L.gyes' (dj := 79) (b := _) rfl rfl g79 ?_
       refine L.ret (x_call klawsub2_en27 rfl) rfl (equal07 _ _ _ (Nat.lt_succ_self _) _ _ _ _ _ (h5.carry hB0) (h7.carry hB0)) ?_
       rintro _ w82 ⟨rfl, hw⟩
       have hB0 := hB0.carry hw
       refine L.nil ?_
       refine thn_n ?_
       refine LAC.takeG (i := 20) rfl (by kernel_rfl) (by kernel_rfl) (by kernel_rfl) (by kernel_rfl) (dj := 79) (b := _) rfl rfl g79 (fun w hw => x_not rfl) rfl ?_
       refine LAC.takeN (i := 21) rfl (by kernel_rfl) (by kernel_rfl) (by kernel_rfl) (by kernel_rfl) (fun w hw => x_pick_f (v := .bool _) (congrArg Value.bool g79) rfl) rfl ?_
       refine LAC.takeN (i := 22) rfl (by kernel_rfl) (by kernel_rfl) (by kernel_rfl) (by kernel_rfl) (fun w hw => x_mv (v := .bool _) rfl) rfl ?_
       refine LAC.split (dj := 85) (b := _) rfl (fun g85 => ?_) (fun g85 => ?_)
       ·have h85 := (not_t g85)
        rw [eqS_t rfl] at g85; cases g85
       ·have h85 := (not_f g85)
        refine LAC.takeG (i := 23) rfl (by kernel_rfl) (by kernel_rfl) (by kernel_rfl) (by kernel_rfl) (dj := 85) (b := _) rfl rfl g85 (fun w hw => x_ldn (vs := cs42) klawsub2_ag25 rfl hl9 (hw.keepRow hl9 (bx9.row hl9))) rfl ?_
        refine LAC.takeG (i := 24) rfl (by kernel_rfl) (by kernel_rfl) (by kernel_rfl) (by kernel_rfl) (dj := 85) (b := _) rfl rfl g85 (fun w hw => x_ldn (vs := cs48) klawsub2_ag25 rfl hl11 (hw.keepRow hl11 (bx11.row hl11))) rfl ?_
        refine LAC.step (rs := [25]) (fun _ => hB0) (by kernel_rfl) (by simp) ⟨⟨_, rfl, ?_⟩, trivial⟩
        refine L.gyes' (dj := 85) (b := _) rfl rfl g85 ?_
        refine L.ret (x_call klawsub2_en27 rfl) rfl (equal07 _ _ _ (Nat.lt_succ_self _) _ _ _ _ _ (h9.carry hB0) (h11.carry hB0)) ?_
        rintro _ w88 ⟨rfl, hw⟩
        have hB0 := hB0.carry hw
        refine L.nil ?_
        refine thn_n ?_
        refine LAC.takeG (i := 26) rfl (by kernel_rfl) (by kernel_rfl) (by kernel_rfl) (by kernel_rfl) (dj := 85) (b := _) rfl rfl g85 (fun w hw => x_not rfl) rfl ?_
        refine LAC.takeN (i := 27) rfl (by kernel_rfl) (by kernel_rfl) (by kernel_rfl) (by kernel_rfl) (fun w hw => x_pick_f (v := .bool _) (congrArg Value.bool g85) rfl) rfl ?_
        refine LAC.takeN (i := 28) rfl (by kernel_rfl) (by kernel_rfl) (by kernel_rfl) (by kernel_rfl) (fun w hw => x_mv (v := .bool _) rfl) rfl ?_
        refine LAC.split (dj := 91) (b := _) rfl (fun g91 => ?_) (fun g91 => ?_)
        ·have h91 := (not_t g91)
         rw [eqS_t rfl] at g91; cases g91
        ·have h91 := (not_f g91)
         refine LAC.takeG (i := 29) rfl (by kernel_rfl) (by kernel_rfl) (by kernel_rfl) (by kernel_rfl) (dj := 91) (b := _) rfl rfl g91 (fun w hw => x_ldn (vs := cs54) klawsub2_ag25 rfl hl13 (hw.keepRow hl13 (bx13.row hl13))) rfl ?_
         refine LAC.takeG (i := 30) rfl (by kernel_rfl) (by kernel_rfl) (by kernel_rfl) (by kernel_rfl) (dj := 91) (b := _) rfl rfl g91 (fun w hw => x_ldn (vs := xs) klawsub2_ag25 rfl hla (hw.keepRow hla (bx2.row hla))) rfl ?_
         refine LAC.step (rs := [31]) (fun _ => hB0) (by kernel_rfl) (by simp) ⟨⟨_, rfl, ?_⟩, trivial⟩
         refine L.gyes' (dj := 91) (b := _) rfl rfl g91 ?_
         refine L.ret (x_call klawsub2_en33 rfl) rfl (sort_okL _ a _ _ (ha.carry hB0)) ?_
         rintro _ w94 ⟨cs94, rfl, h94, hw⟩
         have hB0 := hB0.carry hw
         rw [sort_eqJ hca] at h94
         refine L.nil ?_
         refine thn_n ?_
         refine LAC.step (rs := [32]) (fun _ => hB0) (by kernel_rfl) (by simp) ⟨⟨_, rfl, ?_⟩, trivial⟩
         refine L.gyes' (dj := 91) (b := _) rfl rfl g91 ?_
         refine L.ret (x_call klawsub2_en27 rfl) rfl (equal07 _ _ _ (Nat.lt_succ_self _) _ _ _ _ _ (h13.carry hB0) h94) ?_
         rintro _ w95 ⟨rfl, hw⟩
         have hB0 := hB0.carry hw; have h94 := h94.carry hw
         refine L.nil ?_
         refine thn_n ?_
         refine LAC.takeG (i := 33) rfl (by kernel_rfl) (by kernel_rfl) (by kernel_rfl) (by kernel_rfl) (dj := 91) (b := _) rfl rfl g91 (fun w hw => x_not rfl) rfl ?_
         refine LAC.takeN (i := 34) rfl (by kernel_rfl) (by kernel_rfl) (by kernel_rfl) (by kernel_rfl) (fun w hw => x_pick_f (v := .bool _) (congrArg Value.bool g91) rfl) rfl ?_
         refine LAC.takeN (i := 35) rfl (by kernel_rfl) (by kernel_rfl) (by kernel_rfl) (by kernel_rfl) (fun w hw => x_mv (v := .bool _) rfl) rfl ?_
         refine LAC.split (dj := 98) (b := _) rfl (fun g98 => ?_) (fun g98 => ?_)
         ·have h98 := (not_t g98)
          rw [eqS_t rfl] at g98; cases g98
         ·have h98 := (not_f g98)
          refine LAC.takeG (i := 36) rfl (by kernel_rfl) (by kernel_rfl) (by kernel_rfl) (by kernel_rfl) (dj := 98) (b := _) rfl rfl g98 (fun w hw => x_ldn (vs := cs60) klawsub2_ag25 rfl hl15 (hw.keepRow hl15 (bx15.row hl15))) rfl ?_
          refine LAC.takeG (i := 37) rfl (by kernel_rfl) (by kernel_rfl) (by kernel_rfl) (by kernel_rfl) (dj := 98) (b := _) rfl rfl g98 (fun w hw => x_ldn (vs := cs54) klawsub2_ag25 rfl hl13 (hw.keepRow hl13 (bx13.row hl13))) rfl ?_
          refine LAC.step (rs := [38]) (fun _ => hB0) (by kernel_rfl) (by simp) ⟨⟨_, rfl, ?_⟩, trivial⟩
          refine L.gyes' (dj := 98) (b := _) rfl rfl g98 ?_
          refine L.ret (x_call klawsub2_en27 rfl) rfl (equal07 _ _ _ (Nat.lt_succ_self _) _ _ _ _ _ (h15.carry hB0) (h13.carry hB0)) ?_
          rintro _ w101 ⟨rfl, hw⟩
          have hB0 := hB0.carry hw; have h94 := h94.carry hw
          refine L.nil ?_
          refine thn_n ?_
          refine LAC.takeG (i := 39) rfl (by kernel_rfl) (by kernel_rfl) (by kernel_rfl) (by kernel_rfl) (dj := 98) (b := _) rfl rfl g98 (fun w hw => x_not rfl) rfl ?_
          refine LAC.takeN (i := 40) rfl (by kernel_rfl) (by kernel_rfl) (by kernel_rfl) (by kernel_rfl) (fun w hw => x_pick_f (v := .bool _) (congrArg Value.bool g98) rfl) rfl ?_
          refine LAC.doneF (by kernel_rfl) hB0 ?_
          have hB := hB.carry hB0; have ha := ha.carry hB0; have hb := hb.carry hB0; have bx2 := bx2.carry hB0; have bx3 := bx3.carry hB0; have h5 := h5.carry hB0; have bx5 := bx5.carry hB0; have h7 := h7.carry hB0; have bx7 := bx7.carry hB0; have h9 := h9.carry hB0; have bx9 := bx9.carry hB0; have h11 := h11.carry hB0; have bx11 := bx11.carry hB0; have h13 := h13.carry hB0; have bx13 := bx13.carry hB0; have h15 := h15.carry hB0; have bx15 := bx15.carry hB0
          refine thn_n ?_
          refine W.cond (b := _) rfl (fun g102 => ?_) (fun g102 => ?_)
          ·have h102 := (not_t g102)
           rw [eqS_t rfl] at g102; cases g102
          ·have h102 := (not_f g102)
           refine W.skip ?_
           refine thn_n ?_
           refine W.seq ?_
           refine W.region ?_
           refine L.val (x_ldn (vs := xs) klawsub2_ag25 rfl hla (bx2.row hla)) rfl ?_
           refine L.val (x_ldn (vs := ys) klawsub2_ag25 rfl hlb (bx3.row hlb)) rfl ?_
           refine L.ret (x_call klawsub2_en49 rfl) rfl (below_ok _ _ a b _ _ _ ha hb) ?_
           rintro _ w106 ⟨rfl, hw⟩
           have hB := hB.carry hw; have ha := ha.carry hw; have hb := hb.carry hw; have bx2 := bx2.carry hw; have bx3 := bx3.carry hw; have h5 := h5.carry hw; have bx5 := bx5.carry hw; have h7 := h7.carry hw; have bx7 := bx7.carry hw; have h9 := h9.carry hw; have bx9 := bx9.carry hw; have h11 := h11.carry hw; have bx11 := bx11.carry hw; have h13 := h13.carry hw; have bx13 := bx13.carry hw; have h15 := h15.carry hw; have bx15 := bx15.carry hw
           refine L.val (x_as (v := .bool _) rfl) rfl ?_
           refine L.nil ?_
           refine thn_n ?_
           refine W.seq ?_
           refine W.region ?_
           refine L.val (x_mv (v := .bool _) rfl) rfl ?_
           refine L.val (x_mv (v := .bool _) rfl) rfl ?_
           refine L.val (x_mv (v := .bool _) rfl) rfl ?_
           refine' L.group 3 110 112 112 109 true rfl ?_ ?_ ?_
           rotate_left 1
           ·intro g109 hg109
            have h109 := g109
            refine L.gyes' (dj := 109) (b := _) rfl rfl g109 ?_
            refine L.val (x_ldn (vs := cs30) klawsub2_ag25 rfl hl5 (bx5.row hl5)) rfl ?_
            refine L.gyes' (dj := 109) (b := _) rfl rfl g109 ?_
            refine L.val (x_ldn (vs := ys) klawsub2_ag25 rfl hlb (bx3.row hlb)) rfl ?_
            refine L.gyes' (dj := 109) (b := _) rfl rfl g109 ?_
            refine L.ret (x_call klawsub2_en53 rfl) rfl (same_ok _ _ _ b _ _ _ h5 hb) ?_
            rintro _ w112 ⟨rfl, hw⟩
            have hB := hB.carry hw; have ha := ha.carry hw; have hb := hb.carry hw; have bx2 := bx2.carry hw; have bx3 := bx3.carry hw; have h5 := h5.carry hw; have bx5 := bx5.carry hw; have h7 := h7.carry hw; have bx7 := bx7.carry hw; have h9 := h9.carry hw; have bx9 := bx9.carry hw; have h11 := h11.carry hw; have bx11 := bx11.carry hw; have h13 := h13.carry hw; have bx13 := bx13.carry hw; have h15 := h15.carry hw; have bx15 := bx15.carry hw; have hg109 := hg109.carry hw
            refine L.nil ?_
            refine thn_n ⟨rfl, ?_, ?_, fun _ => rfl⟩
            ·exact hg109
            ·repeat (first | exact jeq.refl _ _ _ | refine jeq.upd rfl ?_ | refine jeq.jk rfl rfl ?_)
           ·intro g109
            refine L.gno (dj := 109) (b := _) rfl rfl g109 rfl ?_
            refine L.gno (dj := 109) (b := _) rfl rfl g109 rfl ?_
            refine L.gno (dj := 109) (b := _) rfl rfl g109 rfl ?_
            refine L.nil (thn_n ⟨rfl, Gr.refl _ _, ?_⟩)
            refine ⟨?_, fun h => h.elim⟩
            repeat (first | exact jeq.refl _ _ _ | refine jeq.upd rfl ?_ | refine jeq.jk rfl rfl ?_)
           intro J109 w109 hw j109
           have hB := hB.carry hw; have ha := ha.carry hw; have hb := hb.carry hw; have bx2 := bx2.carry hw; have bx3 := bx3.carry hw; have h5 := h5.carry hw; have bx5 := bx5.carry hw; have h7 := h7.carry hw; have bx7 := bx7.carry hw; have h9 := h9.carry hw; have bx9 := bx9.carry hw; have h11 := h11.carry hw; have bx11 := bx11.carry hw; have h13 := h13.carry hw; have bx13 := bx13.carry hw; have h15 := h15.carry hw; have bx15 := bx15.carry hw
           refine L.val (x_and rfl j109) rfl ?_
           refine L.val (x_eqb Try.underlying4 rfl rfl) rfl ?_
           refine L.val (x_mv (v := .bool _) rfl) rfl ?_
           refine' L.group 8 116 123 123 115 true rfl ?_ ?_ ?_
           rotate_left 1
           ·intro g115 hg115
            have h115 := g115
            refine L.gyes' (dj := 115) (b := _) rfl rfl g115 ?_
            refine L.val (x_mv (v := .bool _) rfl) rfl ?_
            refine L.gyes' (dj := 115) (b := _) rfl rfl g115 ?_
            refine L.val (x_mv (v := .bool _) rfl) rfl ?_
            refine L.gyes' (dj := 115) (b := _) rfl rfl g115 ?_
            refine L.val (x_mv (v := .bool _) rfl) rfl ?_
            refine' L.group 3 119 121 121 118 true rfl ?_ ?_ ?_
            rotate_left 1
            ·intro g118 hg118
             have h118 := g118
             refine L.gyes' (dj := 118) (b := _) rfl rfl g118 ?_
             refine L.val (x_ldn (vs := cs42) klawsub2_ag25 rfl hl9 (bx9.row hl9)) rfl ?_
             refine L.gyes' (dj := 118) (b := _) rfl rfl g118 ?_
             refine L.val (x_ldn (vs := xs) klawsub2_ag25 rfl hla (bx2.row hla)) rfl ?_
             refine L.gyes' (dj := 118) (b := _) rfl rfl g118 ?_
             refine L.ret (x_call klawsub2_en53 rfl) rfl (same_ok _ _ _ a _ _ _ h9 ha) ?_
             rintro _ w121 ⟨rfl, hw⟩
             have hB := hB.carry hw; have ha := ha.carry hw; have hb := hb.carry hw; have bx2 := bx2.carry hw; have bx3 := bx3.carry hw; have h5 := h5.carry hw; have bx5 := bx5.carry hw; have h7 := h7.carry hw; have bx7 := bx7.carry hw; have h9 := h9.carry hw; have bx9 := bx9.carry hw; have h11 := h11.carry hw; have bx11 := bx11.carry hw; have h13 := h13.carry hw; have bx13 := bx13.carry hw; have h15 := h15.carry hw; have bx15 := bx15.carry hw; have hg115 := hg115.carry hw; have hg118 := hg118.carry hw
             refine L.nil ?_
             refine thn_n ⟨rfl, ?_, ?_, fun _ => rfl⟩
             ·exact hg118
             ·repeat (first | exact jeq.refl _ _ _ | refine jeq.upd rfl ?_ | refine jeq.jk rfl rfl ?_)
            ·intro g118
             refine L.gno (dj := 118) (b := _) rfl rfl g118 rfl ?_
             refine L.gno (dj := 118) (b := _) rfl rfl g118 rfl ?_
             refine L.gno (dj := 118) (b := _) rfl rfl g118 rfl ?_
             refine L.nil (thn_n ⟨rfl, Gr.refl _ _, ?_⟩)
             refine ⟨?_, fun h => h.elim⟩
             repeat (first | exact jeq.refl _ _ _ | refine jeq.upd rfl ?_ | refine jeq.jk rfl rfl ?_)
            intro J118 w118 hw j118
            have hB := hB.carry hw; have ha := ha.carry hw; have hb := hb.carry hw; have bx2 := bx2.carry hw; have bx3 := bx3.carry hw; have h5 := h5.carry hw; have bx5 := bx5.carry hw; have h7 := h7.carry hw; have bx7 := bx7.carry hw; have h9 := h9.carry hw; have bx9 := bx9.carry hw; have h11 := h11.carry hw; have bx11 := bx11.carry hw; have h13 := h13.carry hw; have bx13 := bx13.carry hw; have h15 := h15.carry hw; have bx15 := bx15.carry hw; have hg115 := hg115.carry hw
            refine L.gyes' (dj := 115) (b := _) rfl rfl g115 ?_
            refine L.val (x_and rfl j118) rfl ?_
            refine L.gyes' (dj := 115) (b := _) rfl rfl g115 ?_
            refine L.val (x_eqb Try.underlying4 rfl rfl) rfl ?_
            refine L.nil ?_
            refine thn_n ⟨rfl, ?_, ?_, fun _ => rfl⟩
            ·exact hg115
            ·repeat (first | exact jeq.refl _ _ _ | refine jeq.upd rfl ?_ | refine jeq.jk rfl rfl ?_)
           ·intro g115
            refine L.gno (dj := 115) (b := _) rfl rfl g115 rfl ?_
            refine L.gno (dj := 115) (b := _) rfl rfl g115 rfl ?_
            refine L.gno (dj := 115) (b := _) rfl rfl g115 rfl ?_
            refine L.gun (dj := 118) rfl rfl rfl ?_
            refine L.gun (dj := 118) rfl rfl rfl ?_
            refine L.gun (dj := 118) rfl rfl rfl ?_
            refine L.gno (dj := 115) (b := _) rfl rfl g115 rfl ?_
            refine L.gno (dj := 115) (b := _) rfl rfl g115 rfl ?_
            refine L.nil (thn_n ⟨rfl, Gr.refl _ _, ?_⟩)
            refine ⟨?_, fun h => h.elim⟩
            repeat (first | exact jeq.refl _ _ _ | refine jeq.upd rfl ?_ | refine jeq.jk rfl rfl ?_)
           intro J115 w115 hw j115
           have hB := hB.carry hw; have ha := ha.carry hw; have hb := hb.carry hw; have bx2 := bx2.carry hw; have bx3 := bx3.carry hw; have h5 := h5.carry hw; have bx5 := bx5.carry hw; have h7 := h7.carry hw; have bx7 := bx7.carry hw; have h9 := h9.carry hw; have bx9 := bx9.carry hw; have h11 := h11.carry hw; have bx11 := bx11.carry hw; have h13 := h13.carry hw; have bx13 := bx13.carry hw; have h15 := h15.carry hw; have bx15 := bx15.carry hw
           refine L.val (x_and rfl j115) rfl ?_
           refine L.val (x_mv (v := .bool _) rfl) rfl ?_
           refine' L.group 1 126 126 126 125 true rfl ?_ ?_ ?_
           rotate_left 1
           ·intro g125 hg125
            have h125 := g125
            refine L.gyes' (dj := 125) (b := _) rfl rfl g125 ?_
            refine L.ret (x_call klawsub2_en50 rfl) rfl (awake12 _) ?_
            rintro _ w126 ⟨rfl, hw⟩
            have hB := hB.carry hw; have ha := ha.carry hw; have hb := hb.carry hw; have bx2 := bx2.carry hw; have bx3 := bx3.carry hw; have h5 := h5.carry hw; have bx5 := bx5.carry hw; have h7 := h7.carry hw; have bx7 := bx7.carry hw; have h9 := h9.carry hw; have bx9 := bx9.carry hw; have h11 := h11.carry hw; have bx11 := bx11.carry hw; have h13 := h13.carry hw; have bx13 := bx13.carry hw; have h15 := h15.carry hw; have bx15 := bx15.carry hw; have hg125 := hg125.carry hw
            refine L.nil ?_
            refine thn_n ⟨rfl, ?_, ?_, fun _ => rfl⟩
            ·exact hg125
            ·repeat (first | exact jeq.refl _ _ _ | refine jeq.upd rfl ?_ | refine jeq.jk rfl rfl ?_)
           ·intro g125
            refine L.gno (dj := 125) (b := _) rfl rfl g125 rfl ?_
            refine L.nil (thn_n ⟨rfl, Gr.refl _ _, ?_⟩)
            refine ⟨?_, fun h => h.elim⟩
            repeat (first | exact jeq.refl _ _ _ | refine jeq.upd rfl ?_ | refine jeq.jk rfl rfl ?_)
           intro J125 w125 hw j125
           have hB := hB.carry hw; have ha := ha.carry hw; have hb := hb.carry hw; have bx2 := bx2.carry hw; have bx3 := bx3.carry hw; have h5 := h5.carry hw; have bx5 := bx5.carry hw; have h7 := h7.carry hw; have bx7 := bx7.carry hw; have h9 := h9.carry hw; have bx9 := bx9.carry hw; have h11 := h11.carry hw; have bx11 := bx11.carry hw; have h13 := h13.carry hw; have bx13 := bx13.carry hw; have h15 := h15.carry hw; have bx15 := bx15.carry hw
           refine L.val (x_and rfl j125) rfl ?_
           refine L.val (x_as (v := .bool _) rfl) rfl ?_
           refine L.nil ?_
           refine thn_n ?_
           refine W.ret (fin_mk (.inr rfl) ?_)
           refine ⟨vb ?_, hB⟩
           have e1 : belowR a b = ((jmS true a b).2 && sameS (jmS true a b).1 b) := below_jm (up := true) hca hcb
           have e2 : belowR a b = ((jmS false a b).2 && sameS (jmS false a b).1 a) := by
             have := below_jm (up := false) hcb hca
             rw [show jmS false b a = jmS false a b from jm_comm] at this
             exact this
           rw [← e1, ← e2]; simp
end Go.Gx
