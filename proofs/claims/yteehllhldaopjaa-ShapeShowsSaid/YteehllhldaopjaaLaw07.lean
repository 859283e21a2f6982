/- The law functions of layer 7. Conditions: none. -/
import Derived.Test.YteehllhldaopjaaAwake
namespace Go.Gx
open Go.Proofs
theorem klaw07_ag25 : aggT Try.prog 25 5 = true := by kernel_rfl
theorem klaw07_en28 : Go.Proofs.Enters Try.prog 28 := Go.Proofs.enters_of Try.func28 (by kernel_rfl) rfl
theorem klaw07_en29 : Go.Proofs.Enters Try.prog 29 := Go.Proofs.enters_of Try.func29 (by kernel_rfl) rfl
theorem klaw07_en32 : Go.Proofs.Enters Try.prog 32 := Go.Proofs.enters_of Try.func32 (by kernel_rfl) rfl
theorem klaw07_en39 : Go.Proofs.Enters Try.prog 39 := Go.Proofs.enters_of Try.func39 (by kernel_rfl) rfl
theorem klaw07_en40 : Go.Proofs.Enters Try.prog 40 := Go.Proofs.enters_of Try.func40 (by kernel_rfl) rfl
theorem klaw07_en41 : Go.Proofs.Enters Try.prog 41 := Go.Proofs.enters_of Try.func41 (by kernel_rfl) rfl
theorem klaw07_en42 : Go.Proofs.Enters Try.prog 42 := Go.Proofs.enters_of Try.func42 (by kernel_rfl) rfl
theorem klaw07_en43 : Go.Proofs.Enters Try.prog 43 := Go.Proofs.enters_of Try.func43 (by kernel_rfl) rfl
theorem klaw07_en44 : Go.Proofs.Enters Try.prog 44 := Go.Proofs.enters_of Try.func44 (by kernel_rfl) rfl
theorem klaw07_en46 : Go.Proofs.Enters Try.prog 46 := Go.Proofs.enters_of Try.func46 (by kernel_rfl) rfl
theorem klaw07_en47 : Go.Proofs.Enters Try.prog 47 := Go.Proofs.enters_of Try.func47 (by kernel_rfl) rfl
theorem klaw07_mixed : Try.prog.follows .mixedOrders = true := by kernel_rfl

theorem law_checks (A : Nat → Prop) (s : Sh) (cs : List Value) (w : World) (hs : ShC A w cs s) : Ret Try.prog 9 #[.agg cs.toArray] w fun v w' => v = .bool true ∧ Bel w w' := by
  have hlen := hs.len
  have e1 : sizeS s = min (s.size : Int) (400 + 1) := by unfold sizeS; split <;> omega
  refine ret_of_W Try.func9 rfl (Nat.le_of_ble_eq_true rfl) (res1 rfl) ?_
  have hB := Gr.refl (fun _ => False) w
  refine W.seq ?_
  refine W.region ?_
  refine L.box (cs := cs) rfl rfl (fun w1 bx1 hw hz1 => ?_)
  have hB := hB.carry hw; have hs := hs.carry hw
  refine L.val (x_as (v := .bool _) rfl) rfl ?_
  refine L.nil ?_
  refine thn_n ?_
  refine W.seq ?_
  refine W.region ?_
  refine L.val (x_ldn (vs := cs) klaw07_ag25 rfl hlen (bx1.row hlen)) rfl ?_
  refine L.ret (x_call klaw07_en28 rfl) rfl (size07 _ s (Nat.lt_succ_self _) A _ 400 _ (by decide) (by decide) hs) ?_
  rintro _ w6 ⟨rfl, hw⟩
  have hB := hB.carry hw; have hs := hs.carry hw; have bx1 := bx1.carry hw
  refine L.val (x_as (v := .int _ _) rfl) rfl ?_
  refine L.nil ?_
  refine thn_n ?_
  refine W.seq ?_
  refine W.region ?_
  refine L.val (x_as (v := .int _ _) rfl) rfl ?_
  refine L.nil ?_
  refine thn_n ?_
  refine W.seq ?_
  refine W.seq ?_
  refine W.region ?_
  refine L.val (x_mv (v := .int _ _) rfl) rfl ?_
  refine L.val (x_leq rfl rfl) rfl ?_
  refine L.nil ?_
  refine thn_n ?_
  refine W.cond (b := _) rfl (fun g8 => ?_) (fun g8 => ?_)
  ·have h8 := of_decide_eq_true g8
   have e2 : deepS s = ((s.deep : Nat) : Int) := by unfold deepS; rw [if_pos (by omega)]
   refine W.region ?_
   refine L.val (x_ldn (vs := cs) klaw07_ag25 rfl hlen (bx1.row hlen)) rfl ?_
   refine L.ret (x_call klaw07_en39 rfl) rfl (deep07 _ s (Nat.lt_succ_self _) (by omega) A _ _ hs) ?_
   rintro _ w10 ⟨rfl, hw⟩
   have hB := hB.carry hw; have hs := hs.carry hw; have bx1 := bx1.carry hw
   refine L.val (x_as (v := .int _ _) rfl) rfl ?_
   refine L.nil ?_
   refine thn_n ?_
   refine W.seq ?_
   refine W.drawB klaw07_mixed (by kernel_rfl) ?_
   refine LQ.val (fun w hw => x_ldn (vs := cs) klaw07_ag25 rfl hlen (hw.keepRow hlen (bx1.row hlen))) rfl ?_
   refine LQ.ret (fun w => x_call klaw07_en29 rfl) (fun w hw => Ret.mono (checkL _ s _ _ (hs.carry hw)) (fun _ _ h => ⟨h.1, Gr.trans hw h.2⟩)) rfl ?_
   refine LQ.val (fun w hw => x_ldn (vs := cs) klaw07_ag25 rfl hlen (hw.keepRow hlen (bx1.row hlen))) rfl ?_
   refine LQ.ret (fun w => x_call klaw07_en40 rfl) (fun w hw => Ret.mono (check07 _ s _ _ (hs.carry hw)) (fun _ _ h => ⟨h.1, Gr.trans hw h.2⟩)) rfl ?_
   refine LQ.val (fun w hw => x_eql rfl rfl) rfl ?_
   refine LQ.val (fun w hw => x_mv (v := .bool _) rfl) rfl ?_
   refine' LQ.group 4 17 20 20 16 true rfl ?_ ?_ ?_
   rotate_left 1
   ·intro g16
    have h16 := of_decide_eq_true g16
    refine LQ.gyes' (dj := 16) (b := _) rfl rfl g16 ?_
    refine LQ.val (fun w hw => x_ldn (vs := cs) klaw07_ag25 rfl hlen (hw.keepRow hlen (bx1.row hlen))) rfl ?_
    refine LQ.gyes' (dj := 16) (b := _) rfl rfl g16 ?_
    refine LQ.ret (fun w => x_call klaw07_en41 rfl) (fun w hw => Ret.mono (sizeL_ok _ s _ _ (hs.carry hw)) (fun _ _ h => ⟨h.1, Gr.trans hw h.2⟩)) rfl ?_
    refine LQ.gyes' (dj := 16) (b := _) rfl rfl g16 ?_
    refine LQ.val (fun w hw => x_mv (v := .int _ _) rfl) rfl ?_
    refine LQ.gyes' (dj := 16) (b := _) rfl rfl g16 ?_
    refine LQ.val (fun w hw => x_eql rfl rfl) rfl ?_
    refine LQ.nil ?_
    refine ⟨?_, rfl⟩
    repeat (first | exact jeq.refl _ _ _ | refine jeq.upd rfl ?_ | refine jeq.jk rfl rfl ?_)
   ·intro g16
    refine LQ.gno (dj := 16) (b := _) rfl rfl g16 rfl ?_
    refine LQ.gno (dj := 16) (b := _) rfl rfl g16 rfl ?_
    refine LQ.gno (dj := 16) (b := _) rfl rfl g16 rfl ?_
    refine LQ.gno (dj := 16) (b := _) rfl rfl g16 rfl ?_
    refine LQ.nil ?_
    repeat (first | exact jeq.refl _ _ _ | refine jeq.upd rfl ?_ | refine jeq.jk rfl rfl ?_)
   intro J16 j16
   refine LQ.val (fun w hw => x_and rfl j16) rfl ?_
   refine LQ.val (fun w hw => x_mv (v := .bool _) rfl) rfl ?_
   refine' LQ.group 4 23 26 26 22 true rfl ?_ ?_ ?_
   rotate_left 1
   ·intro g22
    have h22 := g22
    refine LQ.gyes' (dj := 22) (b := _) rfl rfl g22 ?_
    refine LQ.val (fun w hw => x_ldn (vs := cs) klaw07_ag25 rfl hlen (hw.keepRow hlen (bx1.row hlen))) rfl ?_
    refine LQ.gyes' (dj := 22) (b := _) rfl rfl g22 ?_
    refine LQ.ret (fun w => x_call klaw07_en42 rfl) (fun w hw => Ret.mono (deepL_ok _ s _ _ (hs.carry hw)) (fun _ _ h => ⟨h.1, Gr.trans hw h.2⟩)) rfl ?_
    refine LQ.gyes' (dj := 22) (b := _) rfl rfl g22 ?_
    refine LQ.val (fun w hw => x_mv (v := .int _ _) rfl) rfl ?_
    refine LQ.gyes' (dj := 22) (b := _) rfl rfl g22 ?_
    refine LQ.val (fun w hw => x_eql rfl rfl) rfl ?_
    refine LQ.nil ?_
    refine ⟨?_, rfl⟩
    repeat (first | exact jeq.refl _ _ _ | refine jeq.upd rfl ?_ | refine jeq.jk rfl rfl ?_)
   ·intro g22
    refine LQ.gno (dj := 22) (b := _) rfl rfl g22 rfl ?_
    refine LQ.gno (dj := 22) (b := _) rfl rfl g22 rfl ?_
    refine LQ.gno (dj := 22) (b := _) rfl rfl g22 rfl ?_
    refine LQ.gno (dj := 22) (b := _) rfl rfl g22 rfl ?_
    refine LQ.nil ?_
    repeat (first | exact jeq.refl _ _ _ | refine jeq.upd rfl ?_ | refine jeq.jk rfl rfl ?_)
   intro J22 j22
   refine LQ.val (fun w hw => x_and rfl j22) rfl ?_
   refine LQ.val (fun w hw => x_mv (v := .bool _) rfl) rfl ?_
   refine' LQ.group 5 29 33 33 28 true rfl ?_ ?_ ?_
   rotate_left 1
   ·intro g28
    have h28 := g28
    refine LQ.gyes' (dj := 28) (b := _) rfl rfl g28 ?_
    refine LQ.val (fun w hw => x_ldn (vs := cs) klaw07_ag25 rfl hlen (hw.keepRow hlen (bx1.row hlen))) rfl ?_
    refine LQ.gyes' (dj := 28) (b := _) rfl rfl g28 ?_
    refine LQ.ret (fun w => x_call klaw07_en32 rfl) (fun w hw => Ret.mono (closedL _ s _ _ (hs.carry hw)) (fun _ _ h => ⟨h.1, Gr.trans hw h.2⟩)) rfl ?_
    refine LQ.gyes' (dj := 28) (b := _) rfl rfl g28 ?_
    refine LQ.val (fun w hw => x_ldn (vs := cs) klaw07_ag25 rfl hlen (hw.keepRow hlen (bx1.row hlen))) rfl ?_
    refine LQ.gyes' (dj := 28) (b := _) rfl rfl g28 ?_
    refine LQ.ret (fun w => x_call klaw07_en43 rfl) (fun w hw => Ret.mono (closed07 _ s _ _ (hs.carry hw)) (fun _ _ h => ⟨h.1, Gr.trans hw h.2⟩)) rfl ?_
    refine LQ.gyes' (dj := 28) (b := _) rfl rfl g28 ?_
    refine LQ.val (fun w hw => x_eqb Try.underlying4 rfl rfl) rfl ?_
    refine LQ.nil ?_
    refine ⟨?_, rfl⟩
    repeat (first | exact jeq.refl _ _ _ | refine jeq.upd rfl ?_ | refine jeq.jk rfl rfl ?_)
   ·intro g28
    refine LQ.gno (dj := 28) (b := _) rfl rfl g28 rfl ?_
    refine LQ.gno (dj := 28) (b := _) rfl rfl g28 rfl ?_
    refine LQ.gno (dj := 28) (b := _) rfl rfl g28 rfl ?_
    refine LQ.gno (dj := 28) (b := _) rfl rfl g28 rfl ?_
    refine LQ.gno (dj := 28) (b := _) rfl rfl g28 rfl ?_
    refine LQ.nil ?_
    repeat (first | exact jeq.refl _ _ _ | refine jeq.upd rfl ?_ | refine jeq.jk rfl rfl ?_)
   intro J28 j28
   refine LQ.val (fun w hw => x_and rfl j28) rfl ?_
   refine LQ.val (fun w hw => x_mv (v := .bool _) rfl) rfl ?_
   refine' LQ.group 1 36 36 36 35 true rfl ?_ ?_ ?_
   rotate_left 1
   ·intro g35
    have h35 := g35
    refine LQ.gyes' (dj := 35) (b := _) rfl rfl g35 ?_
    refine LQ.ret (fun w => x_call klaw07_en44 rfl) (fun w hw => Ret.mono (awake07 _) (fun _ _ h => ⟨h.1, Gr.trans hw h.2⟩)) rfl ?_
    refine LQ.nil ?_
    refine ⟨?_, rfl⟩
    repeat (first | exact jeq.refl _ _ _ | refine jeq.upd rfl ?_ | refine jeq.jk rfl rfl ?_)
   ·intro g35
    refine LQ.gno (dj := 35) (b := _) rfl rfl g35 rfl ?_
    refine LQ.nil ?_
    repeat (first | exact jeq.refl _ _ _ | refine jeq.upd rfl ?_ | refine jeq.jk rfl rfl ?_)
   intro J35 j35
   refine LQ.val (fun w hw => x_and rfl j35) rfl ?_
   refine LQ.val (fun w hw => x_as (v := .bool _) rfl) rfl ?_
   refine LQ.nil ?_
   intro w11 hw
   have hB := hB.carry hw; have hs := hs.carry hw; have bx1 := bx1.carry hw
   refine thn_n ?_
   refine W.ret (fin_mk (.inr rfl) ?_)
   exact ⟨vb (by rw [e1, e2]; simp), hB⟩
  ·have h8 := dle_f g8
   have e2 : deepS s = 0 := by unfold deepS; rw [if_neg (by omega)]
   refine W.skip ?_
   refine thn_n ?_
   refine W.seq ?_
   refine W.drawB klaw07_mixed (by kernel_rfl) ?_
   refine LQ.val (fun w hw => x_ldn (vs := cs) klaw07_ag25 rfl hlen (hw.keepRow hlen (bx1.row hlen))) rfl ?_
   refine LQ.ret (fun w => x_call klaw07_en29 rfl) (fun w hw => Ret.mono (checkL _ s _ _ (hs.carry hw)) (fun _ _ h => ⟨h.1, Gr.trans hw h.2⟩)) rfl ?_
   refine LQ.val (fun w hw => x_ldn (vs := cs) klaw07_ag25 rfl hlen (hw.keepRow hlen (bx1.row hlen))) rfl ?_
   refine LQ.ret (fun w => x_call klaw07_en40 rfl) (fun w hw => Ret.mono (check07 _ s _ _ (hs.carry hw)) (fun _ _ h => ⟨h.1, Gr.trans hw h.2⟩)) rfl ?_
   refine LQ.val (fun w hw => x_eql rfl rfl) rfl ?_
   refine LQ.val (fun w hw => x_mv (v := .bool _) rfl) rfl ?_
   refine' LQ.group 4 17 20 20 16 true rfl ?_ ?_ ?_
   rotate_left 1
   ·intro g16
    have h16 := of_decide_eq_true g16
    refine LQ.gyes' (dj := 16) (b := _) rfl rfl g16 ?_
    refine LQ.val (fun w hw => x_ldn (vs := cs) klaw07_ag25 rfl hlen (hw.keepRow hlen (bx1.row hlen))) rfl ?_
    refine LQ.gyes' (dj := 16) (b := _) rfl rfl g16 ?_
    refine LQ.ret (fun w => x_call klaw07_en41 rfl) (fun w hw => Ret.mono (sizeL_ok _ s _ _ (hs.carry hw)) (fun _ _ h => ⟨h.1, Gr.trans hw h.2⟩)) rfl ?_
    refine LQ.gyes' (dj := 16) (b := _) rfl rfl g16 ?_
    refine LQ.val (fun w hw => x_mv (v := .int _ _) rfl) rfl ?_
    refine LQ.gyes' (dj := 16) (b := _) rfl rfl g16 ?_
    refine LQ.val (fun w hw => x_eql rfl rfl) rfl ?_
    refine LQ.nil ?_
    refine ⟨?_, rfl⟩
    repeat (first | exact jeq.refl _ _ _ | refine jeq.upd rfl ?_ | refine jeq.jk rfl rfl ?_)
   ·intro g16
    refine LQ.gno (dj := 16) (b := _) rfl rfl g16 rfl ?_
    refine LQ.gno (dj := 16) (b := _) rfl rfl g16 rfl ?_
    refine LQ.gno (dj := 16) (b := _) rfl rfl g16 rfl ?_
    refine LQ.gno (dj := 16) (b := _) rfl rfl g16 rfl ?_
    refine LQ.nil ?_
    repeat (first | exact jeq.refl _ _ _ | refine jeq.upd rfl ?_ | refine jeq.jk rfl rfl ?_)
   intro J16 j16
   refine LQ.val (fun w hw => x_and rfl j16) rfl ?_
   refine LQ.val (fun w hw => x_mv (v := .bool _) rfl) rfl ?_
   refine' LQ.group 4 23 26 26 22 true rfl ?_ ?_ ?_
   rotate_left 1
   ·intro g22
    have h22 := g22
    refine LQ.gyes' (dj := 22) (b := _) rfl rfl g22 ?_
    refine LQ.val (fun w hw => x_ldn (vs := cs) klaw07_ag25 rfl hlen (hw.keepRow hlen (bx1.row hlen))) rfl ?_
    refine LQ.gyes' (dj := 22) (b := _) rfl rfl g22 ?_
    refine LQ.ret (fun w => x_call klaw07_en42 rfl) (fun w hw => Ret.mono (deepL_ok _ s _ _ (hs.carry hw)) (fun _ _ h => ⟨h.1, Gr.trans hw h.2⟩)) rfl ?_
    refine LQ.gyes' (dj := 22) (b := _) rfl rfl g22 ?_
    refine LQ.val (fun w hw => x_mv (v := .int _ _) rfl) rfl ?_
    refine LQ.gyes' (dj := 22) (b := _) rfl rfl g22 ?_
    refine LQ.val (fun w hw => x_eql rfl rfl) rfl ?_
    refine LQ.nil ?_
    refine ⟨?_, rfl⟩
    repeat (first | exact jeq.refl _ _ _ | refine jeq.upd rfl ?_ | refine jeq.jk rfl rfl ?_)
   ·intro g22
    refine LQ.gno (dj := 22) (b := _) rfl rfl g22 rfl ?_
    refine LQ.gno (dj := 22) (b := _) rfl rfl g22 rfl ?_
    refine LQ.gno (dj := 22) (b := _) rfl rfl g22 rfl ?_
    refine LQ.gno (dj := 22) (b := _) rfl rfl g22 rfl ?_
    refine LQ.nil ?_
    repeat (first | exact jeq.refl _ _ _ | refine jeq.upd rfl ?_ | refine jeq.jk rfl rfl ?_)
   intro J22 j22
   refine LQ.val (fun w hw => x_and rfl j22) rfl ?_
   refine LQ.val (fun w hw => x_mv (v := .bool _) rfl) rfl ?_
   refine' LQ.group 5 29 33 33 28 true rfl ?_ ?_ ?_
   rotate_left 1
   ·intro g28
    have h28 := g28
    refine LQ.gyes' (dj := 28) (b := _) rfl rfl g28 ?_
    refine LQ.val (fun w hw => x_ldn (vs := cs) klaw07_ag25 rfl hlen (hw.keepRow hlen (bx1.row hlen))) rfl ?_
    refine LQ.gyes' (dj := 28) (b := _) rfl rfl g28 ?_
    refine LQ.ret (fun w => x_call klaw07_en32 rfl) (fun w hw => Ret.mono (closedL _ s _ _ (hs.carry hw)) (fun _ _ h => ⟨h.1, Gr.trans hw h.2⟩)) rfl ?_
    refine LQ.gyes' (dj := 28) (b := _) rfl rfl g28 ?_
    refine LQ.val (fun w hw => x_ldn (vs := cs) klaw07_ag25 rfl hlen (hw.keepRow hlen (bx1.row hlen))) rfl ?_
    refine LQ.gyes' (dj := 28) (b := _) rfl rfl g28 ?_
    refine LQ.ret (fun w => x_call klaw07_en43 rfl) (fun w hw => Ret.mono (closed07 _ s _ _ (hs.carry hw)) (fun _ _ h => ⟨h.1, Gr.trans hw h.2⟩)) rfl ?_
    refine LQ.gyes' (dj := 28) (b := _) rfl rfl g28 ?_
    refine LQ.val (fun w hw => x_eqb Try.underlying4 rfl rfl) rfl ?_
    refine LQ.nil ?_
    refine ⟨?_, rfl⟩
    repeat (first | exact jeq.refl _ _ _ | refine jeq.upd rfl ?_ | refine jeq.jk rfl rfl ?_)
   ·intro g28
    refine LQ.gno (dj := 28) (b := _) rfl rfl g28 rfl ?_
    refine LQ.gno (dj := 28) (b := _) rfl rfl g28 rfl ?_
    refine LQ.gno (dj := 28) (b := _) rfl rfl g28 rfl ?_
    refine LQ.gno (dj := 28) (b := _) rfl rfl g28 rfl ?_
    refine LQ.gno (dj := 28) (b := _) rfl rfl g28 rfl ?_
    refine LQ.nil ?_
    repeat (first | exact jeq.refl _ _ _ | refine jeq.upd rfl ?_ | refine jeq.jk rfl rfl ?_)
   intro J28 j28
   refine LQ.val (fun w hw => x_and rfl j28) rfl ?_
   refine LQ.val (fun w hw => x_mv (v := .bool _) rfl) rfl ?_
   refine' LQ.group 1 36 36 36 35 true rfl ?_ ?_ ?_
   rotate_left 1
   ·intro g35
    have h35 := g35
    refine LQ.gyes' (dj := 35) (b := _) rfl rfl g35 ?_
    refine LQ.ret (fun w => x_call klaw07_en44 rfl) (fun w hw => Ret.mono (awake07 _) (fun _ _ h => ⟨h.1, Gr.trans hw h.2⟩)) rfl ?_
    refine LQ.nil ?_
    refine ⟨?_, rfl⟩
    repeat (first | exact jeq.refl _ _ _ | refine jeq.upd rfl ?_ | refine jeq.jk rfl rfl ?_)
   ·intro g35
    refine LQ.gno (dj := 35) (b := _) rfl rfl g35 rfl ?_
    refine LQ.nil ?_
    repeat (first | exact jeq.refl _ _ _ | refine jeq.upd rfl ?_ | refine jeq.jk rfl rfl ?_)
   intro J35 j35
   refine LQ.val (fun w hw => x_and rfl j35) rfl ?_
   refine LQ.val (fun w hw => x_as (v := .bool _) rfl) rfl ?_
   refine LQ.nil ?_
   intro w11 hw
   have hB := hB.carry hw; have hs := hs.carry hw; have bx1 := bx1.carry hw
   refine thn_n ?_
   refine W.ret (fin_mk (.inr rfl) ?_)
   exact ⟨vb (by rw [e1, e2]; simp), hB⟩
theorem law_shows (A : Nat → Prop) (s : Sh) (cs : List Value) (w : World) (hs : ShC A w cs s) : Ret Try.prog 11 #[.agg cs.toArray] w fun v w' => v = .bool true ∧ Bel w w' := by
  have hlen := hs.len
  obtain ⟨t, e, ht⟩ : ∃ t e, showS s = .tuple #[S t, .int .i64 e] := by unfold showS; split; exact ⟨_, _, rfl⟩; exact ⟨_, _, rfl⟩
  refine ret_of_W Try.func11 rfl (Nat.le_of_ble_eq_true rfl) (res1 rfl) ?_
  have hB := Gr.refl (fun _ => False) w
  refine W.seq ?_
  refine W.region ?_
  refine L.box (cs := cs) rfl rfl (fun w1 bx1 hw hz1 => ?_)
  have hB := hB.carry hw; have hs := hs.carry hw
  refine L.val (x_as (v := .bool _) rfl) rfl ?_
  refine L.nil ?_
  refine thn_n ?_
  refine W.seq ?_
  refine W.region ?_
  refine L.val (x_ldn (vs := cs) klaw07_ag25 rfl hlen (bx1.row hlen)) rfl ?_
  refine L.ret (x_call klaw07_en46 rfl) rfl (show_ok _ s _ _ hs) ?_
  rintro _ w9 ⟨rfl, hw⟩
  have hB := hB.carry hw; have hs := hs.carry hw; have bx1 := bx1.carry hw
  rw [ht]
  refine L.val (x_mv (v := _) rfl) rfl ?_
  refine L.val (x_ext (v := S _) rfl rfl) rfl ?_
  refine L.val (x_ext (v := .int _ _) rfl rfl) rfl ?_
  refine L.val (x_as (v := S _) rfl) rfl ?_
  refine L.val (x_as (v := .int _ _) rfl) rfl ?_
  refine L.nil ?_
  refine thn_n ?_
  refine W.seq ?_
  refine W.region ?_
  refine L.val (x_ldn (vs := cs) klaw07_ag25 rfl hlen (bx1.row hlen)) rfl ?_
  refine L.ret (x_call klaw07_en47 rfl) rfl (show07 _ s _ _ hs) ?_
  rintro _ w14 ⟨rfl, hw⟩
  have hB := hB.carry hw; have hs := hs.carry hw; have bx1 := bx1.carry hw
  rw [ht]
  refine L.val (x_mv (v := _) rfl) rfl ?_
  refine L.val (x_ext (v := S _) rfl rfl) rfl ?_
  refine L.val (x_ext (v := .int _ _) rfl rfl) rfl ?_
  refine L.val (x_as (v := S _) rfl) rfl ?_
  refine L.val (x_as (v := .int _ _) rfl) rfl ?_
  refine L.nil ?_
  refine thn_n ?_
  refine W.seq ?_
  refine W.region ?_
  refine L.val (x_mv (v := S _) rfl) rfl ?_
  refine L.val (x_mv (v := S _) rfl) rfl ?_
  refine L.val (x_eqs rfl rfl) rfl ?_
  refine L.val (x_mv (v := .bool _) rfl) rfl ?_
  refine' L.group0 3 21 23 23 20 true rfl ?_ ?_ ?_
  rotate_left 1
  ·intro g20
   have h20 := seq_t g20
   refine L.gyes' (dj := 20) (b := _) rfl rfl g20 ?_
   refine L.val (x_mv (v := .int _ _) rfl) rfl ?_
   refine L.gyes' (dj := 20) (b := _) rfl rfl g20 ?_
   refine L.val (x_mv (v := .int _ _) rfl) rfl ?_
   refine L.gyes' (dj := 20) (b := _) rfl rfl g20 ?_
   refine L.val (x_eql rfl rfl) rfl ?_
   refine L.nil ?_
   refine thn_n ⟨rfl, rfl, ?_, rfl⟩
   repeat (first | exact jeq.refl _ _ _ | refine jeq.upd rfl ?_ | refine jeq.jk rfl rfl ?_)
  ·intro g20
   refine L.gno (dj := 20) (b := _) rfl rfl g20 rfl ?_
   refine L.gno (dj := 20) (b := _) rfl rfl g20 rfl ?_
   refine L.gno (dj := 20) (b := _) rfl rfl g20 rfl ?_
   refine L.nil (thn_n ⟨rfl, rfl, ?_⟩)
   repeat (first | exact jeq.refl _ _ _ | refine jeq.upd rfl ?_ | refine jeq.jk rfl rfl ?_)
  intro J20 j20
  refine L.val (x_and rfl j20) rfl ?_
  refine L.val (x_mv (v := .bool _) rfl) rfl ?_
  refine' L.group 1 26 26 26 25 true rfl ?_ ?_ ?_
  rotate_left 1
  ·intro g25 hg25
   have h25 := g25
   refine L.gyes' (dj := 25) (b := _) rfl rfl g25 ?_
   refine L.ret (x_call klaw07_en44 rfl) rfl (awake07 _) ?_
   rintro _ w26 ⟨rfl, hw⟩
   have hB := hB.carry hw; have hs := hs.carry hw; have bx1 := bx1.carry hw; have hg25 := hg25.carry hw
   refine L.nil ?_
   refine thn_n ⟨rfl, ?_, ?_, fun _ => rfl⟩
   ·exact hg25
   ·repeat (first | exact jeq.refl _ _ _ | refine jeq.upd rfl ?_ | refine jeq.jk rfl rfl ?_)
  ·intro g25
   refine L.gno (dj := 25) (b := _) rfl rfl g25 rfl ?_
   refine L.nil (thn_n ⟨rfl, Gr.refl _ _, ?_⟩)
   refine ⟨?_, fun h => h.elim⟩
   repeat (first | exact jeq.refl _ _ _ | refine jeq.upd rfl ?_ | refine jeq.jk rfl rfl ?_)
  intro J25 w25 hw j25
  have hB := hB.carry hw; have hs := hs.carry hw; have bx1 := bx1.carry hw
  refine L.val (x_and rfl j25) rfl ?_
  refine L.val (x_as (v := .bool _) rfl) rfl ?_
  refine L.nil ?_
  refine thn_n ?_
  refine W.ret (fin_mk (.inr rfl) ?_)
  exact ⟨vb (by simp), hB⟩
end Go.Gx

