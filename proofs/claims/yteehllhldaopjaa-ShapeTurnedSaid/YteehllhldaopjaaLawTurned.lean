/- The law ShapeTurned. Conditions: none. -/
import Derived.Test.YteehllhldaopjaaAwake
import Derived.Test.YteehllhldaopjaaSame
import Derived.Test.YteehllhldaopjaaTurned
import Derived.Test.YteehllhldaopjaaFree
namespace Go.Gx
open Go.Proofs
theorem klawturned_ag25 : aggT Try.prog 25 5 = true := by kernel_rfl
theorem klawturned_en27 : Go.Proofs.Enters Try.prog 27 := Go.Proofs.enters_of Try.func27 (by kernel_rfl) rfl
theorem klawturned_en29 : Go.Proofs.Enters Try.prog 29 := Go.Proofs.enters_of Try.func29 (by kernel_rfl) rfl
theorem klawturned_en33 : Go.Proofs.Enters Try.prog 33 := Go.Proofs.enters_of Try.func33 (by kernel_rfl) rfl
theorem klawturned_en41 : Go.Proofs.Enters Try.prog 41 := Go.Proofs.enters_of Try.func41 (by kernel_rfl) rfl
theorem klawturned_en44 : Go.Proofs.Enters Try.prog 44 := Go.Proofs.enters_of Try.func44 (by kernel_rfl) rfl
theorem klawturned_en53 : Go.Proofs.Enters Try.prog 53 := Go.Proofs.enters_of Try.func53 (by kernel_rfl) rfl
theorem klawturned_en54 : Go.Proofs.Enters Try.prog 54 := Go.Proofs.enters_of Try.func54 (by kernel_rfl) rfl
theorem klawturned_mixed : Try.prog.follows .mixedOrders = true := by kernel_rfl
theorem klawturned_zr25 : (Try.prog.info? 25).bind (·.zero) = some (Value.agg [Value.int .i64 0, S [], S [], Value.slice none 0 0, Value.slice none 0 0].toArray) := by kernel_rfl

theorem same_turn {s : Sh} (h : checkS s = 0) : sameS s s.turn = true ∧ sameS s.turn s = true := by
  have h2 := check_turn h
  have h3 := Sh.sort_turn s (check_zero h).2.2
  unfold sameS
  rw [h3, eqS_t rfl]
  simp [h, h2]
theorem eq_sort_turn {s : Sh} (h : checkS s = 0) : eqS (sortS s) (sortS s.turn) = true := by
  refine eqS_t ?_
  unfold sortS
  rw [if_pos h, if_pos (check_turn h), Sh.sort_turn s (check_zero h).2.2]
theorem sizeS_turn {s : Sh} : sizeS s.turn = sizeS s := by
  unfold sizeS; rw [Sh.turn_size]
theorem law_turned (A : Nat → Prop) (s : Sh) (cs : List Value) (w : World) (hs : ShC A w cs s) : Ret Try.prog 14 #[.agg cs.toArray] w fun v w' => v = .bool true ∧ Bel w w' := by
  have hlen := hs.len
  obtain ⟨A, hs, hU⟩ : ∃ A1 : Nat → Prop, ShC A1 w cs s ∧ (∀ k, w.heap.size ≤ k → A1 k) := ⟨_, hs.up, fun _ => .inr⟩
  refine ret_of_W Try.func14 rfl (Nat.le_of_ble_eq_true rfl) (res1 rfl) ?_
  have hB := Gr.refl (fun _ => False) w
  refine W.seq ?_
  refine W.region ?_
  refine L.box (cs := cs) rfl rfl (fun w1 bx1 hw hz1 => ?_)
  have hB := hB.carry hw; have hs := hs.carry hw
  refine L.val (x_as (v := .bool _) rfl) rfl ?_
  refine L.nil ?_
  refine thn_n ?_
  refine W.seq ?_
  refine W.seq ?_
  refine W.region ?_
  refine L.val (x_ldn (vs := cs) klawturned_ag25 rfl hlen (bx1.row hlen)) rfl ?_
  refine L.ret (x_call klawturned_en29 rfl) rfl (checkL A s _ _ hs) ?_
  rintro _ w5 ⟨rfl, hw⟩
  have hB := hB.carry hw; have hs := hs.carry hw; have bx1 := bx1.carry hw
  refine L.val (x_neq rfl rfl) rfl ?_
  refine L.nil ?_
  refine thn_n ?_
  refine W.cond (b := _) rfl (fun g6 => ?_) (fun g6 => ?_)
  ·have h6 := dne_t g6
   refine W.seq ?_
   refine W.region ?_
   refine L.val (x_ldn (vs := cs) klawturned_ag25 rfl hlen (bx1.row hlen)) rfl ?_
   refine L.val (x_ldn (vs := cs) klawturned_ag25 rfl hlen (bx1.row hlen)) rfl ?_
   refine L.ret (x_call klawturned_en53 rfl) rfl (same_ok _ _ s s _ _ _ hs hs) ?_
   rintro _ w9 ⟨rfl, hw⟩
   have hB := hB.carry hw; have hs := hs.carry hw; have bx1 := bx1.carry hw
   refine L.val (x_not rfl) rfl ?_
   refine L.val (x_mv (v := .bool _) rfl) rfl ?_
   refine' L.group 1 12 12 12 11 true rfl ?_ ?_ ?_
   rotate_left 1
   ·intro g11 hg11
    have h11 := (not_t g11)
    refine L.gyes' (dj := 11) (b := _) rfl rfl g11 ?_
    refine L.ret (x_call klawturned_en44 rfl) rfl (awake07 _) ?_
    rintro _ w12 ⟨rfl, hw⟩
    have hB := hB.carry hw; have hs := hs.carry hw; have bx1 := bx1.carry hw; have hg11 := hg11.carry hw
    refine L.nil ?_
    refine thn_n ⟨rfl, ?_, ?_, fun _ => rfl⟩
    ·exact hg11
    ·repeat (first | exact jeq.refl _ _ _ | refine jeq.upd rfl ?_ | refine jeq.jk rfl rfl ?_)
   ·intro g11
    refine L.gno (dj := 11) (b := _) rfl rfl g11 rfl ?_
    refine L.nil (thn_n ⟨rfl, Gr.refl _ _, ?_⟩)
    refine ⟨?_, fun h => h.elim⟩
    repeat (first | exact jeq.refl _ _ _ | refine jeq.upd rfl ?_ | refine jeq.jk rfl rfl ?_)
   intro J11 w11 hw j11
   have hB := hB.carry hw; have hs := hs.carry hw; have bx1 := bx1.carry hw
   refine L.val (x_and rfl j11) rfl ?_
   refine L.val (x_as (v := .bool _) rfl) rfl ?_
   refine L.nil ?_
   refine thn_n ?_
   refine W.ret (thn_r (fin_mk (.inr rfl) ?_))
   exact ⟨vb (by simp [sameS, h6]), hB⟩
  ·have h6 := dne_f g6
   refine W.skip ?_
   refine thn_n ?_
   refine W.seq ?_
   refine W.region ?_
   refine L.val (x_ldn (vs := cs) klawturned_ag25 rfl hlen (bx1.row hlen)) rfl ?_
   refine L.ret (x_call klawturned_en54 rfl) rfl (turned0 _ s (Nat.lt_succ_self _) (check_zero h6).1 (check_zero h6).2.2 A _ _ hs) ?_
   rintro _ w15 ⟨cs15, rfl, ht, hw⟩
   have hB := hB.carry hw; have hs := hs.carry hw; have bx1 := bx1.carry hw
   have hst := same_turn h6
   have hlt := ht.len
   have ht := ht.up
   have hz15 := hB.size
   have hx15 := bx1.lt
   refine L.alloc (cs := [Value.int .i64 0, S [], S [], Value.slice none 0 0, Value.slice none 0 0]) klawturned_zr25 rfl rfl (fun w3 bx3 hw hz3 => ?_)
   have hB := hB.carry hw; have hs := hs.carry hw; have bx1 := bx1.carry hw; have ht := ht.carry hw
   refine L.setRow klawturned_ag25 rfl rfl bx3 rfl hlt ht.one (fun wl17 bx3 hw hzl17 => ?_)
   have hsz := hB.size
   have hB := hB.set hw (by omega); have hs := hs.carryR hw (fun k e => hU k (by have : k = _ := e; omega)); have bx1 := bx1.carryR hw (by omega); have ht := ht.carryR hw (fun j e => .inr (by have e : j = _ := e; omega))
   refine L.nil ?_
   refine thn_n ?_
   refine W.seq ?_
   refine W.drawF 26 klawturned_mixed (fun wF16 hB0 => ?_)
   refine LAC.takeN (i := 0) rfl (by kernel_rfl) (by kernel_rfl) (by kernel_rfl) (by kernel_rfl) (fun w hw => x_ldn (vs := cs) klawturned_ag25 rfl hlen (hw.keepRow hlen (bx1.row hlen))) rfl ?_
   refine LAC.takeN (i := 1) rfl (by kernel_rfl) (by kernel_rfl) (by kernel_rfl) (by kernel_rfl) (fun w hw => x_ldn (vs := cs15) klawturned_ag25 rfl hlt (hw.keepRow hlt (bx3.row hlt))) rfl ?_
   refine LAC.step (rs := [2]) (fun _ => hB0) (by kernel_rfl) (by simp) ⟨⟨_, rfl, ?_⟩, trivial⟩
   refine L.ret (x_call klawturned_en53 rfl) rfl (same_ok _ _ s s.turn _ _ _ (hs.carry hB0) (ht.carry hB0)) ?_
   rintro _ w18 ⟨rfl, hw⟩
   have hB0 := hB0.carry hw
   refine L.nil ?_
   refine thn_n ?_
   refine LAC.takeN (i := 3) rfl (by kernel_rfl) (by kernel_rfl) (by kernel_rfl) (by kernel_rfl) (fun w hw => x_mv (v := .bool _) rfl) rfl ?_
   refine LAC.split (dj := 19) (b := _) rfl (fun g19 => ?_) (fun g19 => ?_)
   ·have h19 := g19
    refine LAC.takeG (i := 4) rfl (by kernel_rfl) (by kernel_rfl) (by kernel_rfl) (by kernel_rfl) (dj := 19) (b := _) rfl rfl g19 (fun w hw => x_ldn (vs := cs15) klawturned_ag25 rfl hlt (hw.keepRow hlt (bx3.row hlt))) rfl ?_
    refine LAC.takeG (i := 5) rfl (by kernel_rfl) (by kernel_rfl) (by kernel_rfl) (by kernel_rfl) (dj := 19) (b := _) rfl rfl g19 (fun w hw => x_ldn (vs := cs) klawturned_ag25 rfl hlen (hw.keepRow hlen (bx1.row hlen))) rfl ?_
    refine LAC.step (rs := [6]) (fun _ => hB0) (by kernel_rfl) (by simp) ⟨⟨_, rfl, ?_⟩, trivial⟩
    refine L.gyes' (dj := 19) (b := _) rfl rfl g19 ?_
    refine L.ret (x_call klawturned_en53 rfl) rfl (same_ok _ _ s.turn s _ _ _ (ht.carry hB0) (hs.carry hB0)) ?_
    rintro _ w22 ⟨rfl, hw⟩
    have hB0 := hB0.carry hw
    refine L.nil ?_
    refine thn_n ?_
    refine LAC.takeN (i := 7) rfl (by kernel_rfl) (by kernel_rfl) (by kernel_rfl) (by kernel_rfl) (fun w hw => x_pick_t (v := .bool _) (by rw [← g19]; rfl) rfl) rfl ?_
    refine LAC.takeN (i := 8) rfl (by kernel_rfl) (by kernel_rfl) (by kernel_rfl) (by kernel_rfl) (fun w hw => x_mv (v := .bool _) rfl) rfl ?_
    refine LAC.split (dj := 24) (b := _) rfl (fun g24 => ?_) (fun g24 => ?_)
    ·have h24 := g24
     refine LAC.takeG (i := 9) rfl (by kernel_rfl) (by kernel_rfl) (by kernel_rfl) (by kernel_rfl) (dj := 24) (b := _) rfl rfl g24 (fun w hw => x_ldn (vs := cs) klawturned_ag25 rfl hlen (hw.keepRow hlen (bx1.row hlen))) rfl ?_
     refine LAC.takeG (i := 11) rfl (by kernel_rfl) (by kernel_rfl) (by kernel_rfl) (by kernel_rfl) (dj := 24) (b := _) rfl rfl g24 (fun w hw => x_ldn (vs := cs15) klawturned_ag25 rfl hlt (hw.keepRow hlt (bx3.row hlt))) rfl ?_
     refine LAC.step (rs := [10]) (fun _ => hB0) (by kernel_rfl) (by simp) ⟨⟨_, rfl, ?_⟩, trivial⟩
     refine L.gyes' (dj := 24) (b := _) rfl rfl g24 ?_
     refine L.ret (x_call klawturned_en33 rfl) rfl (sort_okL _ s _ _ (hs.carry hB0)) ?_
     rintro _ w26 ⟨cs26, rfl, h26, hw⟩
     have hB0 := hB0.carry hw
     try have h28 := h28.carry hw
     refine L.nil ?_
     refine thn_n ?_
     refine LAC.step (rs := [12]) (fun _ => hB0) (by kernel_rfl) (by simp) ⟨⟨_, rfl, ?_⟩, trivial⟩
     refine L.gyes' (dj := 24) (b := _) rfl rfl g24 ?_
     refine L.ret (x_call klawturned_en33 rfl) rfl (sort_okL _ s.turn _ _ (ht.carry hB0)) ?_
     rintro _ w28 ⟨cs28, rfl, h28, hw⟩
     have hB0 := hB0.carry hw
     try have h26 := h26.carry hw
     refine L.nil ?_
     refine thn_n ?_
     refine LAC.step (rs := [13]) (fun _ => hB0) (by kernel_rfl) (by simp) ⟨⟨_, rfl, ?_⟩, trivial⟩
     refine L.gyes' (dj := 24) (b := _) rfl rfl g24 ?_
     refine L.ret (x_call klawturned_en27 rfl) rfl (equal07 _ _ _ (Nat.lt_succ_self _) _ _ _ _ _ h26 h28) ?_
     rintro _ w29 ⟨rfl, hw⟩
     have hB0 := hB0.carry hw
     refine L.nil ?_
     refine thn_n ?_
     refine LAC.takeN (i := 14) rfl (by kernel_rfl) (by kernel_rfl) (by kernel_rfl) (by kernel_rfl) (fun w hw => x_pick_t (v := .bool _) (by rw [← g24]; rfl) rfl) rfl ?_
     refine LAC.takeN (i := 15) rfl (by kernel_rfl) (by kernel_rfl) (by kernel_rfl) (by kernel_rfl) (fun w hw => x_mv (v := .bool _) rfl) rfl ?_
     refine LAC.split (dj := 31) (b := _) rfl (fun g31 => ?_) (fun g31 => ?_)
     ·have h31 := g31
      refine LAC.takeG (i := 16) rfl (by kernel_rfl) (by kernel_rfl) (by kernel_rfl) (by kernel_rfl) (dj := 31) (b := _) rfl rfl g31 (fun w hw => x_ldn (vs := cs) klawturned_ag25 rfl hlen (hw.keepRow hlen (bx1.row hlen))) rfl ?_
      refine LAC.takeG (i := 18) rfl (by kernel_rfl) (by kernel_rfl) (by kernel_rfl) (by kernel_rfl) (dj := 31) (b := _) rfl rfl g31 (fun w hw => x_ldn (vs := cs15) klawturned_ag25 rfl hlt (hw.keepRow hlt (bx3.row hlt))) rfl ?_
      refine LAC.step (rs := [17]) (fun _ => hB0) (by kernel_rfl) (by simp) ⟨⟨_, rfl, ?_⟩, trivial⟩
      refine L.gyes' (dj := 31) (b := _) rfl rfl g31 ?_
      refine L.ret (x_call klawturned_en41 rfl) rfl (sizeL_ok _ s _ _ (hs.carry hB0)) ?_
      rintro _ w33 ⟨rfl, hw⟩
      have hB0 := hB0.carry hw
      refine L.nil ?_
      refine thn_n ?_
      refine LAC.step (rs := [19]) (fun _ => hB0) (by kernel_rfl) (by simp) ⟨⟨_, rfl, ?_⟩, trivial⟩
      refine L.gyes' (dj := 31) (b := _) rfl rfl g31 ?_
      refine L.ret (x_call klawturned_en41 rfl) rfl (sizeL_ok _ s.turn _ _ (ht.carry hB0)) ?_
      rintro _ w35 ⟨rfl, hw⟩
      have hB0 := hB0.carry hw
      refine L.nil ?_
      refine thn_n ?_
      refine LAC.takeG (i := 20) rfl (by kernel_rfl) (by kernel_rfl) (by kernel_rfl) (by kernel_rfl) (dj := 31) (b := _) rfl rfl g31 (fun w hw => x_eql rfl rfl) rfl ?_
      refine LAC.takeN (i := 21) rfl (by kernel_rfl) (by kernel_rfl) (by kernel_rfl) (by kernel_rfl) (fun w hw => x_pick_t (v := .bool _) (by rw [← g31]; rfl) rfl) rfl ?_
      refine LAC.takeN (i := 22) rfl (by kernel_rfl) (by kernel_rfl) (by kernel_rfl) (by kernel_rfl) (fun w hw => x_mv (v := .bool _) rfl) rfl ?_
      refine LAC.split (dj := 38) (b := _) rfl (fun g38 => ?_) (fun g38 => ?_)
      ·have h38 := of_decide_eq_true g38
       refine LAC.step (rs := [23]) (fun _ => hB0) (by kernel_rfl) (by simp) ⟨⟨_, rfl, ?_⟩, trivial⟩
       refine L.gyes' (dj := 38) (b := _) rfl rfl g38 ?_
       refine L.ret (x_call klawturned_en44 rfl) rfl (awake07 _) ?_
       rintro _ w39 ⟨rfl, hw⟩
       have hB0 := hB0.carry hw
       refine L.nil ?_
       refine thn_n ?_
       refine LAC.takeN (i := 24) rfl (by kernel_rfl) (by kernel_rfl) (by kernel_rfl) (by kernel_rfl) (fun w hw => x_pick_t (v := .bool _) (by rw [← g38]; rfl) rfl) rfl ?_
       refine LAC.takeN (i := 25) rfl (by kernel_rfl) (by kernel_rfl) (by kernel_rfl) (by kernel_rfl) (fun w hw => x_as (v := .bool _) rfl) rfl ?_
       refine LAC.doneF (by kernel_rfl) hB0 ?_
       have hB := hB.carry hB0; have hs := hs.carry hB0; have bx1 := bx1.carry hB0; have ht := ht.carry hB0; have bx3 := bx3.carry hB0
       refine thn_n ?_
       refine W.ret (fin_mk (.inr rfl) ?_)
       exact ⟨vb (by simp), hB⟩
      ·have h38 := of_decide_eq_false g38
       rw [sizeS_turn] at g38; simp at g38
     ·have h31 := g31
      rw [eq_sort_turn h6] at g31; cases g31
    ·have h24 := g24
     rw [hst.2] at g24; cases g24
   ·have h19 := g19
    rw [hst.1] at g19; cases g19
end Go.Gx

