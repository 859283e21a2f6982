/- The program's own equality of types. Conditions: none. -/
import Derived.Test.YteehllhldaopjaaScEq
import Derived.Test.YteehllhldaopjaaScSort3
namespace Go.Gx
open Go.Proofs
theorem keql_ag25 : aggT Try.prog 25 5 = true := by kernel_rfl
theorem keql_en106 : Go.Proofs.Enters Try.prog 106 := Go.Proofs.enters_of Try.func106 (by kernel_rfl) rfl
theorem keql_en107 : Go.Proofs.Enters Try.prog 107 := Go.Proofs.enters_of Try.func107 (by kernel_rfl) rfl
theorem keql_en79 : Go.Proofs.Enters Try.prog 79 := Go.Proofs.enters_of Try.func79 (by kernel_rfl) rfl
theorem keql_fo25_0 : fieldOff Try.prog 25 0 = some 0 := by kernel_rfl
theorem keql_fo25_1 : fieldOff Try.prog 25 1 = some 1 := by kernel_rfl
theorem keql_fo25_2 : fieldOff Try.prog 25 2 = some 2 := by kernel_rfl
theorem keql_fo25_3 : fieldOff Try.prog 25 3 = some 3 := by kernel_rfl
theorem keql_fo25_4 : fieldOff Try.prog 25 4 = some 4 := by kernel_rfl
theorem keql_mixed : Try.prog.follows .mixedOrders = true := by kernel_rfl
theorem keql_oc22 : oneCellT Try.prog 22 = true := by kernel_rfl
theorem keql_oc23 : oneCellT Try.prog 23 = true := by kernel_rfl
theorem keql_oc3 : oneCellT Try.prog 3 = true := by kernel_rfl
theorem keql_oc9 : oneCellT Try.prog 9 = true := by kernel_rfl
theorem keql_sz25 : (Try.prog.info? 25).map (·.size) = some 5 := by kernel_rfl
theorem keql_sz9 : (Try.prog.info? 9).map (·.size) = some 1 := by kernel_rfl
theorem keql_zr25 : (Try.prog.info? 25).bind (·.zero) = some (Value.agg [Value.int .i64 0, S [], S [], Value.slice none 0 0, Value.slice none 0 0].toArray) := by kernel_rfl
theorem strs_eq (A A' : Nat → Prop) (v u : Value) (l m : List Str) (w : World) (hl : StrsAt A w v l) (hm : StrsAt A' w u m) :
    Ret Try.prog 106 #[v, u] w fun r w' => r = .bool (decide (l = m)) ∧ Bel w w' := by
  obtain ⟨p, cap, rfl, -, -, l3, -⟩ := id hl
  obtain ⟨q, qap, rfl, -, -, m3, -⟩ := id hm
  refine ret_of_W Try.func106 rfl (Nat.le_of_ble_eq_true rfl) (res1 rfl) ?_
  have hB := Gr.refl (fun _ => False) w
  refine W.seq ?_
  refine W.region ?_
  refine L.val (x_as (v := .bool _) rfl) rfl ?_
  refine L.nil ?_
  refine thn_n ?_
  refine W.seq ?_
  refine W.seq ?_
  refine W.region ?_
  refine L.val (x_mv (v := .slice _ _ _) rfl) rfl ?_
  refine L.val (x_len_slice Try.underlying22 rfl) rfl ?_
  refine L.val (x_mv (v := .slice _ _ _) rfl) rfl ?_
  refine L.val (x_len_slice Try.underlying22 rfl) rfl ?_
  refine L.val (x_neq rfl rfl) rfl ?_
  refine L.nil ?_
  refine thn_n ?_
  refine W.cond (b := _) rfl (fun g10 => ?_) (fun g10 => ?_)
  ·have h10 := dne_t g10
   refine W.seq ?_
   refine W.region ?_
   refine L.val (x_as (v := .bool _) rfl) rfl ?_
   refine L.nil ?_
   refine thn_n ?_
   refine W.ret (thn_r (fin_mk (.inr rfl) ?_))
   exact ⟨vb (Eq.symm (decide_eq_false (by rintro rfl; omega))), hB⟩
  ·have h10 := dne_f g10
   refine W.skip ?_
   refine thn_n ?_
   refine W.seq ?_
   refine W.seq ?_
   refine W.region ?_
   refine L.val (x_mv (v := .slice _ _ _) rfl) rfl ?_
   refine L.val (x_len_slice Try.underlying22 rfl) rfl ?_
   refine L.val (x_mv (v := .int _ _) rfl) rfl ?_
   refine L.nil ?_
   refine thn_n ?_
   refine W.block ?_
   refine W.loop (fun m' E w' => ∃ (k : Nat), m' = l.length - k ∧ E 0 = .slice p l.length cap ∧ E 1 = .slice q m.length qap ∧ E 12 = .int .i64 (l.length : Nat) ∧ E 13 = .int .i64 (k : Nat) ∧ (Bel w w') ∧ (StrsAt A w' (.slice p l.length cap) l) ∧ (StrsAt A' w' (.slice q m.length qap) m) ∧ (k ≤ l.length) ∧ (l.take k = m.take k)) (l.length) ?_ ?_
   ·exact ⟨0, by omega, by first | rfl | exact vi (by omega), by first | rfl | exact vi (by omega), by first | rfl | exact vi (by omega), by first | rfl | exact vi (by omega), (by first | assumption | omega | rfl), (by first | assumption | omega | rfl), (by first | assumption | omega | rfl), (by first | assumption | omega | rfl), (by rfl)⟩
   ·rintro _ E wL14 ⟨k, em, e0, e1, e12, e13, hB, hl, hm, hk, ht⟩
    rw [upd_self e0, upd_self e1, upd_self e12, upd_self e13]
    refine W.seq ?_
    refine W.region ?_
    refine L.val (x_lss rfl rfl) rfl ?_
    refine L.nil ?_
    refine thn_n ?_
    refine W.seq ?_
    refine W.cond (b := _) rfl (fun g14 => ?_) (fun g14 => ?_)
    ·have h14 := of_decide_eq_true g14
     have hlt : k < l.length := by omega
     have hlt' : k < m.length := by omega
     obtain ⟨b, o, rfl, -⟩ := hl.elem hlt
     obtain ⟨b', o', rfl, -⟩ := hm.elem hlt'
     refine W.skip ?_
     refine thn_n ?_
     refine W.seq ?_
     refine W.block ?_
     refine W.seq ?_
     refine W.region ?_
     refine L.val (x_mv (v := .int _ _) rfl) rfl ?_
     refine L.val (x_as (v := .int _ _) rfl) rfl ?_
     refine L.nil ?_
     refine thn_n ?_
     refine W.seq ?_
     refine W.drawB keql_mixed (by kernel_rfl) ?_
     refine LQ.val (fun w hw => x_mv (v := .slice _ _ _) rfl) rfl ?_
     refine LQ.val (fun w hw => x_mv (v := .int _ _) rfl) rfl ?_
     refine LQ.val (fun w hw => x_ia1 (j := k) Try.underlying22 keql_sz9 rfl rfl (by omega) (by omega)) rfl ?_
     refine LQ.val (fun w hw => x_ld (v := S _) keql_oc9 rfl (hw.keep (hl.elemAt hlt))) rfl ?_
     refine LQ.val (fun w hw => x_mv (v := .slice _ _ _) rfl) rfl ?_
     refine LQ.val (fun w hw => x_mv (v := .int _ _) rfl) rfl ?_
     refine LQ.val (fun w hw => x_ia1 (j := k) Try.underlying22 keql_sz9 rfl rfl (by omega) (by omega)) rfl ?_
     refine LQ.val (fun w hw => x_ld (v := S _) keql_oc9 rfl (hw.keep (hm.elemAt hlt'))) rfl ?_
     refine LQ.val (fun w hw => x_nes rfl rfl) rfl ?_
     refine LQ.nil ?_
     intro w16 hw
     have hB := hB.carry hw; have hl := hl.carry hw; have hm := hm.carry hw
     refine thn_n ?_
     refine W.cond (b := _) rfl (fun g24 => ?_) (fun g24 => ?_)
     ·have h24 := sne_t g24
      refine W.seq ?_
      refine W.region ?_
      refine L.val (x_as (v := .bool _) rfl) rfl ?_
      refine L.nil ?_
      refine thn_n ?_
      refine W.ret (blk_r (thn_r (thn_r (blk_r (thn_r (fin_mk (.inr rfl) ?_))))))
      exact ⟨vb (Eq.symm (decide_eq_false (by rintro rfl; exact h24 rfl))), hB⟩
     ·have h24 := sne_f g24
      refine W.skip ?_
      refine blk_n ?_
      refine thn_n ?_
      refine W.region ?_
      refine L.val (x_add rfl rfl (wr64 (by omega))) rfl ?_
      refine L.val (x_mv (v := .int _ _) rfl) rfl ?_
      refine L.nil ?_
      refine thn_n ⟨rfl, ?_⟩
      refine ⟨_, ?_, k + 1, rfl, by first | rfl | exact vi (by omega), by first | rfl | exact vi (by omega), by first | rfl | exact vi (by omega), by first | rfl | exact vi (by omega), (by first | assumption | omega | rfl), (by first | assumption | omega | rfl), (by first | assumption | omega | rfl), (by first | assumption | omega | rfl), (by exact take_eq_snoc (d := []) hlt hlt' ht h24)⟩
      omega
    ·have h14 := dlt_f g14
     refine W.exit (thn_x (thn_x (blk_hit ?_)))
     refine thn_n ?_
     refine W.seq ?_
     refine W.region ?_
     refine L.val (x_as (v := .bool _) rfl) rfl ?_
     refine L.nil ?_
     refine thn_n ?_
     refine W.ret (fin_mk (.inr rfl) ?_)
     rw [List.take_of_length_le (by omega), List.take_of_length_le (by omega)] at ht
     exact ⟨vb (Eq.symm (decide_eq_true ht)), hB⟩
open Classical in
noncomputable def eqL (l m : List Sh) : Bool := decide (l = m)
theorem eqL_t {a b : List Sh} (h : a = b) : eqL a b = true := by unfold eqL; simpa using h
theorem eqL_f {a b : List Sh} (h : a ≠ b) : eqL a b = false := by unfold eqL; simpa using h
theorem eqL_iff {a b : List Sh} : eqL a b = true ↔ a = b := by unfold eqL; simp
theorem eqfunc_ok (A A' : Nat → Prop) (v u : Value) (l m : List Sh) (w : World) (hU : ∀ k, w.heap.size ≤ k → A k) (hU' : ∀ k, w.heap.size ≤ k → A' k) (hl : ShsAt A w v l) (hm : ShsAt A' w u m)
    (hE : ∀ i, i < l.length → ∀ (cs ds : List Value) (w : World), ShC A w cs (l.getD i default) → ShC A' w ds (m.getD i default) → Ret Try.prog 79 #[.agg cs.toArray, .agg ds.toArray] w fun r w' => r = .bool (eqS (l.getD i default) (m.getD i default)) ∧ Bel w w') :
    Ret Try.prog 107 #[v, u, .func (.func 79) #[] #[]] w fun r w' => r = .bool (eqL l m) ∧ Bel w w' := by
  obtain ⟨p, cap, row, rfl, -, -, l3, hr⟩ := hl
  obtain ⟨q, qap, rox, rfl, -, -, m3, hx⟩ := hm
  refine ret_of_W Try.func107 rfl (Nat.le_of_ble_eq_true rfl) (res1 rfl) ?_
  have hB := Gr.refl (fun _ => False) w
  refine W.seq ?_
  refine W.region ?_
  refine L.val (x_as (v := .bool _) rfl) rfl ?_
  refine L.nil ?_
  refine thn_n ?_
  refine W.seq ?_
  refine W.seq ?_
  refine W.region ?_
  refine L.val (x_mv (v := .slice _ _ _) rfl) rfl ?_
  refine L.val (x_len_slice Try.underlying23 rfl) rfl ?_
  refine L.val (x_mv (v := .slice _ _ _) rfl) rfl ?_
  refine L.val (x_len_slice Try.underlying23 rfl) rfl ?_
  refine L.val (x_neq rfl rfl) rfl ?_
  refine L.nil ?_
  refine thn_n ?_
  refine W.cond (b := _) rfl (fun g14 => ?_) (fun g14 => ?_)
  ·have h14 := dne_t g14
   refine W.seq ?_
   refine W.region ?_
   refine L.val (x_as (v := .bool _) rfl) rfl ?_
   refine L.nil ?_
   refine thn_n ?_
   refine W.ret (thn_r (fin_mk (.inr rfl) ?_))
   exact ⟨vb (Eq.symm (eqL_f (by rintro rfl; omega))), hB⟩
  ·have h14 := dne_f g14
   refine W.skip ?_
   refine thn_n ?_
   refine W.seq ?_
   refine W.seq ?_
   refine W.region ?_
   refine L.val (x_mv (v := .slice _ _ _) rfl) rfl ?_
   refine L.val (x_len_slice Try.underlying23 rfl) rfl ?_
   refine L.val (x_mv (v := .int _ _) rfl) rfl ?_
   refine L.nil ?_
   refine thn_n ?_
   refine W.block ?_
   refine W.loop (fun m' E w' => ∃ (k : Nat), m' = l.length - k ∧ E 1 = .slice q m.length qap ∧ E 2 = .func (.func 79) #[] #[] ∧ E 15 = .slice p l.length cap ∧ E 16 = .int .i64 (l.length : Nat) ∧ E 17 = .int .i64 (k : Nat) ∧ (Bel w w') ∧ (ShRow A w' p row l) ∧ (ShRow A' w' q rox m) ∧ (k ≤ l.length) ∧ (l.take k = m.take k)) (l.length) ?_ ?_
   ·exact ⟨0, by omega, by first | rfl | exact vi (by omega), by first | rfl | exact vi (by omega), by first | rfl | exact vi (by omega), by first | rfl | exact vi (by omega), by first | rfl | exact vi (by omega), (by first | assumption | omega | rfl), (by first | assumption | omega | rfl), (by first | assumption | omega | rfl), (by first | assumption | omega | rfl), (by rfl)⟩
   ·rintro _ E wL18 ⟨k, em, e1, e2, e15, e16, e17, hB, hr, hx, hk, ht⟩
    rw [upd_self e1, upd_self e2, upd_self e15, upd_self e16, upd_self e17]
    refine W.seq ?_
    refine W.region ?_
    refine L.val (x_lss rfl rfl) rfl ?_
    refine L.nil ?_
    refine thn_n ?_
    refine W.seq ?_
    refine W.cond (b := _) rfl (fun g18 => ?_) (fun g18 => ?_)
    ·have h18 := of_decide_eq_true g18
     have hlt : k < l.length := by omega
     have hlt' : k < m.length := by omega
     have hszw := hB.size
     obtain ⟨b, o, rfl, -⟩ := hr.elem hlt
     obtain ⟨b', o', rfl, -⟩ := hx.elem hlt'
     refine W.skip ?_
     refine thn_n ?_
     refine W.seq ?_
     refine W.block ?_
     refine W.seq ?_
     refine W.region ?_
     refine L.val (x_mv (v := .int _ _) rfl) rfl ?_
     refine L.val (x_ia (j := k) Try.underlying23 keql_sz25 rfl rfl (by omega) (by omega)) rfl ?_
     refine L.val (x_ldn (vs := row k) keql_ag25 rfl (hr.five k hlt) (hr.elemAt hlt)) rfl ?_
     refine L.alloc (cs := [Value.int .i64 0, S [], S [], Value.slice none 0 0, Value.slice none 0 0]) keql_zr25 rfl rfl (fun w8 bx8 hw hz8 => ?_)
     have hB := hB.carry hw; have hr := hr.carry hw; have hx := hx.carry hw
     refine L.val (x_as (v := .int _ _) rfl) rfl ?_
     refine L.setRow keql_ag25 rfl rfl bx8 rfl (hr.five k hlt) (ShC.one (hr.each k hlt)) (fun wl17 bx8 hw hzl17 => ?_)
     have hsz := hB.size
     have hB := hB.set hw (by omega); have hr := hr.carryR hw (fun k e => hU k (by have : k = _ := e; omega)); have hx := hx.carryR hw (fun k e => hU' k (by have e : k = _ := e; omega))
     refine L.nil ?_
     refine thn_n ?_
     refine W.seq ?_
     refine W.region ?_
     refine L.val (x_mv (v := .slice _ _ _) rfl) rfl ?_
     refine L.val (x_mv (v := .int _ _) rfl) rfl ?_
     refine L.val (x_ia (j := k) Try.underlying23 keql_sz25 rfl rfl (by omega) (by omega)) rfl ?_
     refine L.val (x_ldn (vs := rox k) keql_ag25 rfl (hx.five k hlt') (hx.elemAt hlt')) rfl ?_
     refine L.alloc (cs := [Value.int .i64 0, S [], S [], Value.slice none 0 0, Value.slice none 0 0]) keql_zr25 rfl rfl (fun w9 bx9 hw hz9 => ?_)
     have hB := hB.carry hw; have hr := hr.carry hw; have hx := hx.carry hw; have bx8 := bx8.carry hw
     refine L.setRow keql_ag25 rfl rfl bx9 rfl (hx.five k hlt') (ShC.one (hx.each k hlt')) (fun wl23 bx9 hw hzl23 => ?_)
     have hsz := hB.size
     have hB := hB.set hw (by omega); have hr := hr.carryR hw (fun k e => hU k (by have : k = _ := e; omega)); have hx := hx.carryR hw (fun k e => hU' k (by have e : k = _ := e; omega)); have bx8 := bx8.carryR hw (by omega)
     refine L.nil ?_
     refine thn_n ?_
     refine W.seq ?_
     refine W.region ?_
     refine L.val (x_mv (v := .func _ _ _) rfl) rfl ?_
     refine L.val (x_ldn (vs := _) keql_ag25 rfl (hr.five k hlt) (bx8.row (hr.five k hlt))) rfl ?_
     refine L.val (x_ldn (vs := _) keql_ag25 rfl (hx.five k hlt') (bx9.row (hx.five k hlt'))) rfl ?_
     refine L.ret (x_callv keql_en79 rfl rfl) rfl (hE k hlt _ _ _ (hr.each k hlt) (hx.each k hlt')) ?_
     rintro _ w29 ⟨rfl, hw⟩
     have hB := hB.carry hw; have hr := hr.carry hw; have hx := hx.carry hw; have bx8 := bx8.carry hw; have bx9 := bx9.carry hw
     refine L.val (x_not rfl) rfl ?_
     refine L.nil ?_
     refine thn_n ?_
     refine W.cond (b := _) rfl (fun g30 => ?_) (fun g30 => ?_)
     ·have h30 := (not_t g30)
      refine W.seq ?_
      refine W.region ?_
      refine L.val (x_as (v := .bool _) rfl) rfl ?_
      refine L.nil ?_
      refine thn_n ?_
      refine W.ret (blk_r (thn_r (thn_r (blk_r (thn_r (fin_mk (.inr rfl) ?_))))))
      exact ⟨vb (Eq.symm (eqL_f (by rintro rfl; rw [eqS_t rfl] at h30; cases h30))), hB⟩
     ·have h30 := (not_f g30)
      refine W.skip ?_
      refine blk_n ?_
      refine thn_n ?_
      refine W.region ?_
      refine L.val (x_add rfl rfl (wr64 (by omega))) rfl ?_
      refine L.val (x_mv (v := .int _ _) rfl) rfl ?_
      refine L.nil ?_
      refine thn_n ⟨rfl, ?_⟩
      refine ⟨_, ?_, k + 1, rfl, by first | rfl | exact vi (by omega), by first | rfl | exact vi (by omega), by first | rfl | exact vi (by omega), by first | rfl | exact vi (by omega), by first | rfl | exact vi (by omega), (by first | assumption | omega | rfl), (by first | assumption | omega | rfl), (by first | assumption | omega | rfl), (by first | assumption | omega | rfl), (by exact take_eq_snoc (d := default) hlt hlt' ht (eqS_iff.1 h30))⟩
      omega
    ·have h18 := dlt_f g18
     refine W.exit (thn_x (thn_x (blk_hit ?_)))
     refine thn_n ?_
     refine W.seq ?_
     refine W.region ?_
     refine L.val (x_as (v := .bool _) rfl) rfl ?_
     refine L.nil ?_
     refine thn_n ?_
     refine W.ret (fin_mk (.inr rfl) ?_)
     rw [List.take_of_length_le (by omega), List.take_of_length_le (by omega)] at ht
     exact ⟨vb (Eq.symm (eqL_t ht)), hB⟩
theorem equal_ok : ∀ (N : Nat) (a b : Sh), SizeOf.sizeOf a < N → ∀ (A0 A1 : Nat → Prop) (cs ds : List Value) (w : World), ShC A0 w cs a → ShC A1 w ds b →
    Ret Try.prog 79 #[.agg cs.toArray, .agg ds.toArray] w fun v w' => v = .bool (eqS a b) ∧ Bel w w' := by
  intro N
  induction N with
  | zero => intro a b h; omega
  | succ N ih =>
    intro a b hN A0 A1 cs ds w ha0 hb0
    obtain ⟨A, ha, hU⟩ : ∃ A : Nat → Prop, ShC A w cs a ∧ (∀ k, w.heap.size ≤ k → A k) := ⟨_, ha0.up, fun _ => .inr⟩
    obtain ⟨A', hb, hU'⟩ : ∃ A : Nat → Prop, ShC A w ds b ∧ (∀ k, w.heap.size ≤ k → A k) := ⟨_, hb0.up, fun _ => .inr⟩
    clear ha0 hb0
    obtain ⟨vn, vp, rfl, hna, hpa, -⟩ := ha.inv
    obtain ⟨un, up, rfl, hnb, hpb, -⟩ := hb.inv
    obtain ⟨pn, pnc, rfl, -⟩ := id hna
    obtain ⟨qn, qnc, rfl, -⟩ := id hnb
    obtain ⟨p, cap, row, rfl, -⟩ := id hpa
    obtain ⟨q, qap, rox, rfl, -⟩ := id hpb
    refine ret_of_W Try.func79 rfl (Nat.le_of_ble_eq_true rfl) (res1 rfl) ?_
    have hB := Gr.refl (fun _ => False) w
    refine W.seq ?_
    refine W.region ?_
    refine L.box (cs := _) rfl rfl (fun w2 bx2 hw hz2 => ?_)
    have hB := hB.carry hw; have hna := hna.carry hw; have hnb := hnb.carry hw; have hpa := hpa.carry hw; have hpb := hpb.carry hw
    refine L.box (cs := _) rfl rfl (fun w3 bx3 hw hz3 => ?_)
    have hB := hB.carry hw; have hna := hna.carry hw; have hnb := hnb.carry hw; have hpa := hpa.carry hw; have hpb := hpb.carry hw; have bx2 := bx2.carry hw
    refine L.val (x_as (v := .bool _) rfl) rfl ?_
    refine L.nil ?_
    refine thn_n ?_
    refine W.seq ?_
    refine W.region ?_
    refine L.val (x_fa keql_fo25_0 rfl) rfl ?_
    refine L.val (x_ld (v := .int _ _) keql_oc3 rfl (bx2.cell0 rfl)) rfl ?_
    refine L.val (x_fa keql_fo25_0 rfl) rfl ?_
    refine L.val (x_ld (v := .int _ _) keql_oc3 rfl (bx3.cell0 rfl)) rfl ?_
    refine L.val (x_eql rfl rfl) rfl ?_
    refine L.val (x_mv (v := .bool _) rfl) rfl ?_
    refine' L.group0 5 11 15 15 10 true rfl ?_ ?_ ?_
    rotate_left 1
    ·intro g10
     have h10 := of_decide_eq_true g10
     refine L.gyes' (dj := 10) (b := _) rfl rfl g10 ?_
     refine L.val (x_fa keql_fo25_1 rfl) rfl ?_
     refine L.gyes' (dj := 10) (b := _) rfl rfl g10 ?_
     refine L.val (x_ld (v := S _) keql_oc9 rfl (bx2.cell0 rfl)) rfl ?_
     refine L.gyes' (dj := 10) (b := _) rfl rfl g10 ?_
     refine L.val (x_fa keql_fo25_1 rfl) rfl ?_
     refine L.gyes' (dj := 10) (b := _) rfl rfl g10 ?_
     refine L.val (x_ld (v := S _) keql_oc9 rfl (bx3.cell0 rfl)) rfl ?_
     refine L.gyes' (dj := 10) (b := _) rfl rfl g10 ?_
     refine L.val (x_eqs rfl rfl) rfl ?_
     refine L.nil ?_
     refine thn_n ⟨rfl, rfl, ?_, rfl⟩
     repeat (first | exact jeq.refl _ _ _ | refine jeq.upd rfl ?_ | refine jeq.jk rfl rfl ?_)
    ·intro g10
     refine L.gno (dj := 10) (b := _) rfl rfl g10 rfl ?_
     refine L.gno (dj := 10) (b := _) rfl rfl g10 rfl ?_
     refine L.gno (dj := 10) (b := _) rfl rfl g10 rfl ?_
     refine L.gno (dj := 10) (b := _) rfl rfl g10 rfl ?_
     refine L.gno (dj := 10) (b := _) rfl rfl g10 rfl ?_
     refine L.nil (thn_n ⟨rfl, rfl, ?_⟩)
     repeat (first | exact jeq.refl _ _ _ | refine jeq.upd rfl ?_ | refine jeq.jk rfl rfl ?_)
    intro J10 j10
    refine L.val (x_and rfl j10) rfl ?_
    refine L.val (x_mv (v := .bool _) rfl) rfl ?_
    refine' L.group0 5 18 22 22 17 true rfl ?_ ?_ ?_
    rotate_left 1
    ·intro g17
     have h17 := g17
     refine L.gyes' (dj := 17) (b := _) rfl rfl g17 ?_
     refine L.val (x_fa keql_fo25_2 rfl) rfl ?_
     refine L.gyes' (dj := 17) (b := _) rfl rfl g17 ?_
     refine L.val (x_ld (v := S _) keql_oc9 rfl (bx2.cell0 rfl)) rfl ?_
     refine L.gyes' (dj := 17) (b := _) rfl rfl g17 ?_
     refine L.val (x_fa keql_fo25_2 rfl) rfl ?_
     refine L.gyes' (dj := 17) (b := _) rfl rfl g17 ?_
     refine L.val (x_ld (v := S _) keql_oc9 rfl (bx3.cell0 rfl)) rfl ?_
     refine L.gyes' (dj := 17) (b := _) rfl rfl g17 ?_
     refine L.val (x_eqs rfl rfl) rfl ?_
     refine L.nil ?_
     refine thn_n ⟨rfl, rfl, ?_, rfl⟩
     repeat (first | exact jeq.refl _ _ _ | refine jeq.upd rfl ?_ | refine jeq.jk rfl rfl ?_)
    ·intro g17
     refine L.gno (dj := 17) (b := _) rfl rfl g17 rfl ?_
     refine L.gno (dj := 17) (b := _) rfl rfl g17 rfl ?_
     refine L.gno (dj := 17) (b := _) rfl rfl g17 rfl ?_
     refine L.gno (dj := 17) (b := _) rfl rfl g17 rfl ?_
     refine L.gno (dj := 17) (b := _) rfl rfl g17 rfl ?_
     refine L.nil (thn_n ⟨rfl, rfl, ?_⟩)
     repeat (first | exact jeq.refl _ _ _ | refine jeq.upd rfl ?_ | refine jeq.jk rfl rfl ?_)
    intro J17 j17
    refine L.val (x_and rfl j17) rfl ?_
    refine L.val (x_mv (v := .bool _) rfl) rfl ?_
    refine' L.group 5 25 29 29 24 true rfl ?_ ?_ ?_
    rotate_left 1
    ·intro g24 hg24
     have h24 := g24
     refine L.gyes' (dj := 24) (b := _) rfl rfl g24 ?_
     refine L.val (x_fa keql_fo25_3 rfl) rfl ?_
     refine L.gyes' (dj := 24) (b := _) rfl rfl g24 ?_
     refine L.val (x_ld (v := .slice _ _ _) keql_oc22 rfl (bx2.cell0 rfl)) rfl ?_
     refine L.gyes' (dj := 24) (b := _) rfl rfl g24 ?_
     refine L.val (x_fa keql_fo25_3 rfl) rfl ?_
     refine L.gyes' (dj := 24) (b := _) rfl rfl g24 ?_
     refine L.val (x_ld (v := .slice _ _ _) keql_oc22 rfl (bx3.cell0 rfl)) rfl ?_
     refine L.gyes' (dj := 24) (b := _) rfl rfl g24 ?_
     refine L.ret (x_call keql_en106 rfl) rfl (strs_eq A A' _ _ _ _ _ hna hnb) ?_
     rintro _ w29 ⟨rfl, hw⟩
     have hB := hB.carry hw; have hna := hna.carry hw; have hnb := hnb.carry hw; have hpa := hpa.carry hw; have hpb := hpb.carry hw; have bx2 := bx2.carry hw; have bx3 := bx3.carry hw; have hg24 := hg24.carry hw
     refine L.nil ?_
     refine thn_n ⟨rfl, ?_, ?_, fun _ => rfl⟩
     ·exact hg24
     ·repeat (first | exact jeq.refl _ _ _ | refine jeq.upd rfl ?_ | refine jeq.jk rfl rfl ?_)
    ·intro g24
     refine L.gno (dj := 24) (b := _) rfl rfl g24 rfl ?_
     refine L.gno (dj := 24) (b := _) rfl rfl g24 rfl ?_
     refine L.gno (dj := 24) (b := _) rfl rfl g24 rfl ?_
     refine L.gno (dj := 24) (b := _) rfl rfl g24 rfl ?_
     refine L.gno (dj := 24) (b := _) rfl rfl g24 rfl ?_
     refine L.nil (thn_n ⟨rfl, Gr.refl _ _, ?_⟩)
     refine ⟨?_, fun h => h.elim⟩
     repeat (first | exact jeq.refl _ _ _ | refine jeq.upd rfl ?_ | refine jeq.jk rfl rfl ?_)
    intro J24 w24 hw j24
    have hB := hB.carry hw; have hna := hna.carry hw; have hnb := hnb.carry hw; have hpa := hpa.carry hw; have hpb := hpb.carry hw; have bx2 := bx2.carry hw; have bx3 := bx3.carry hw
    refine L.val (x_and rfl j24) rfl ?_
    refine L.val (x_mv (v := .bool _) rfl) rfl ?_
    refine' L.group 5 32 36 36 31 true rfl ?_ ?_ ?_
    rotate_left 1
    ·intro g31 hg31
     have h31 := g31
     refine L.gyes' (dj := 31) (b := _) rfl rfl g31 ?_
     refine L.val (x_fa keql_fo25_4 rfl) rfl ?_
     refine L.gyes' (dj := 31) (b := _) rfl rfl g31 ?_
     refine L.val (x_ld (v := .slice _ _ _) keql_oc23 rfl (bx2.cell0 rfl)) rfl ?_
     refine L.gyes' (dj := 31) (b := _) rfl rfl g31 ?_
     refine L.val (x_fa keql_fo25_4 rfl) rfl ?_
     refine L.gyes' (dj := 31) (b := _) rfl rfl g31 ?_
     refine L.val (x_ld (v := .slice _ _ _) keql_oc23 rfl (bx3.cell0 rfl)) rfl ?_
     refine L.gyes' (dj := 31) (b := _) rfl rfl g31 ?_
     refine L.ret (x_call keql_en107 rfl) rfl (eqfunc_ok A A' _ _ a.parts b.parts _ (fun k hk => hU k (by have := hB.size; omega)) (fun k hk => hU' k (by have := hB.size; omega)) hpa hpb (fun i hi cs ds w h1 h2 => ih _ _ (by have := Sh.part_lt hi; omega) A A' cs ds w h1 h2)) ?_
     rintro _ w36 ⟨rfl, hw⟩
     have hB := hB.carry hw; have hna := hna.carry hw; have hnb := hnb.carry hw; have hpa := hpa.carry hw; have hpb := hpb.carry hw; have bx2 := bx2.carry hw; have bx3 := bx3.carry hw; have hg31 := hg31.carry hw
     refine L.nil ?_
     refine thn_n ⟨rfl, ?_, ?_, fun _ => rfl⟩
     ·exact hg31
     ·repeat (first | exact jeq.refl _ _ _ | refine jeq.upd rfl ?_ | refine jeq.jk rfl rfl ?_)
    ·intro g31
     refine L.gno (dj := 31) (b := _) rfl rfl g31 rfl ?_
     refine L.gno (dj := 31) (b := _) rfl rfl g31 rfl ?_
     refine L.gno (dj := 31) (b := _) rfl rfl g31 rfl ?_
     refine L.gno (dj := 31) (b := _) rfl rfl g31 rfl ?_
     refine L.gno (dj := 31) (b := _) rfl rfl g31 rfl ?_
     refine L.nil (thn_n ⟨rfl, Gr.refl _ _, ?_⟩)
     refine ⟨?_, fun h => h.elim⟩
     repeat (first | exact jeq.refl _ _ _ | refine jeq.upd rfl ?_ | refine jeq.jk rfl rfl ?_)
    intro J31 w31 hw j31
    have hB := hB.carry hw; have hna := hna.carry hw; have hnb := hnb.carry hw; have hpa := hpa.carry hw; have hpb := hpb.carry hw; have bx2 := bx2.carry hw; have bx3 := bx3.carry hw
    refine L.val (x_and rfl j31) rfl ?_
    refine L.val (x_as (v := .bool _) rfl) rfl ?_
    refine L.nil ?_
    refine thn_n ?_
    refine W.ret (fin_mk (.inr rfl) ?_)
    refine ⟨vb ?_, hB⟩
    rw [Bool.eq_iff_iff, eqS_iff]
    simp only [Bool.and_eq_true, decide_eq_true_eq, beq_iff_eq, eqL_iff]
    constructor
    · rintro ⟨⟨⟨⟨e1, e2⟩, e3⟩, e4⟩, e5⟩; exact Sh.ext e1 e2 e3 e4 e5
    · rintro rfl; exact ⟨⟨⟨⟨rfl, rfl⟩, rfl⟩, rfl⟩, rfl⟩
end Go.Gx
namespace Go.Gx
open Go.Proofs
theorem ksame_ag25 : aggT Try.prog 25 5 = true := by kernel_rfl
theorem ksame_en29 : Go.Proofs.Enters Try.prog 29 := Go.Proofs.enters_of Try.func29 (by kernel_rfl) rfl
theorem ksame_en68 : Go.Proofs.Enters Try.prog 68 := Go.Proofs.enters_of Try.func68 (by kernel_rfl) rfl
theorem ksame_en79 : Go.Proofs.Enters Try.prog 79 := Go.Proofs.enters_of Try.func79 (by kernel_rfl) rfl
theorem ksame_mixed : Try.prog.follows .mixedOrders = true := by kernel_rfl
noncomputable def sameS (a b : Sh) : Bool := decide (checkS a = 0) && decide (checkS b = 0) && eqS a.sort b.sort
theorem same_ok (A0 A1 : Nat → Prop) (a b : Sh) (cs ds : List Value) (w : World) (ha : ShC A0 w cs a) (hb : ShC A1 w ds b) :
    Ret Try.prog 53 #[.agg cs.toArray, .agg ds.toArray] w fun v w' => v = .bool (sameS a b) ∧ Bel w w' := by
  have hla := ha.len
  have hlb := hb.len
  refine ret_of_W Try.func53 rfl (Nat.le_of_ble_eq_true rfl) (res1 rfl) ?_
  have hB := Gr.refl (fun _ => False) w
  refine W.seq ?_
  refine W.region ?_
  refine L.box (cs := cs) rfl rfl (fun w2 bx2 hw hz2 => ?_)
  have hB := hB.carry hw; have ha := ha.carry hw; have hb := hb.carry hw
  refine L.box (cs := ds) rfl rfl (fun w3 bx3 hw hz3 => ?_)
  have hB := hB.carry hw; have ha := ha.carry hw; have hb := hb.carry hw; have bx2 := bx2.carry hw
  refine L.val (x_as (v := .bool _) rfl) rfl ?_
  refine L.nil ?_
  refine thn_n ?_
  refine W.seq ?_
  refine W.drawS ksame_mixed ?_
  have hB := hB.carry (bel_drew _); have ha := ha.carry (bel_drew _); have hb := hb.carry (bel_drew _); have bx2 := bx2.carry (bel_drew _); have bx3 := bx3.carry (bel_drew _)
  refine LA.step (rs := [0]) (by kernel_rfl) (by simp) ⟨⟨_, rfl, ?_⟩, trivial⟩
  refine L.val (x_ldn (vs := cs) ksame_ag25 rfl hla (bx2.row hla)) rfl ?_
  refine L.nil ?_
  refine thn_n ?_
  refine LA.step (rs := [1]) (by kernel_rfl) (by simp) ⟨⟨_, rfl, ?_⟩, trivial⟩
  refine L.ret (x_call ksame_en29 rfl) rfl (checkL A0 a _ _ ha) ?_
  rintro _ w6 ⟨rfl, hw⟩
  have hB := hB.carry hw; have ha := ha.carry hw; have hb := hb.carry hw; have bx2 := bx2.carry hw; have bx3 := bx3.carry hw
  refine L.nil ?_
  refine thn_n ?_
  refine LA.take (i := 2) rfl (by kernel_rfl) (by kernel_rfl) (by kernel_rfl) (fun w => x_eql rfl rfl) rfl ?_
  refine LA.take (i := 3) rfl (by kernel_rfl) (by kernel_rfl) (by kernel_rfl) (fun w => x_mv (v := .bool _) rfl) rfl ?_
  refine LA.step (rs := [4]) (by kernel_rfl) (by simp) ⟨⟨_, rfl, ?_⟩, trivial⟩
  refine L.splitat (dj := 8) (b := _) rfl (fun g8 => ?_) (fun g8 => ?_)
  ·have h8 := of_decide_eq_true g8
   refine L.gyes' (dj := 8) (b := _) rfl rfl g8 ?_
   refine L.val (x_ldn (vs := ds) ksame_ag25 rfl hlb (bx3.row hlb)) rfl ?_
   refine L.nil ?_
   refine thn_n ?_
   refine LA.step (rs := [5]) (by kernel_rfl) (by simp) ⟨⟨_, rfl, ?_⟩, trivial⟩
   refine L.gyes' (dj := 8) (b := _) rfl rfl g8 ?_
   refine L.ret (x_call ksame_en29 rfl) rfl (checkL A1 b _ _ hb) ?_
   rintro _ w10 ⟨rfl, hw⟩
   have hB := hB.carry hw; have ha := ha.carry hw; have hb := hb.carry hw; have bx2 := bx2.carry hw; have bx3 := bx3.carry hw
   refine L.nil ?_
   refine thn_n ?_
   refine LA.step (rs := [6]) (by kernel_rfl) (by simp) ⟨⟨_, rfl, ?_⟩, trivial⟩
   refine L.gyes' (dj := 8) (b := _) rfl rfl g8 ?_
   refine L.val (x_eql rfl rfl) rfl ?_
   refine L.nil ?_
   refine thn_n ?_
   refine LA.take (i := 7) rfl (by kernel_rfl) (by kernel_rfl) (by kernel_rfl) (fun w => x_pick_t (v := .bool _) (congrArg Value.bool g8) rfl) rfl ?_
   refine LA.take (i := 8) rfl (by kernel_rfl) (by kernel_rfl) (by kernel_rfl) (fun w => x_mv (v := .bool _) rfl) rfl ?_
   refine LA.step (rs := [9, 11]) (by kernel_rfl) (by simp) ⟨⟨_, rfl, ?_⟩, ⟨_, rfl, ?_⟩, trivial⟩
   ·refine L.splitat (dj := 13) (b := _) rfl (fun g13 => ?_) (fun g13 => ?_)
    ·have h13 := of_decide_eq_true g13
     refine L.gyes' (dj := 13) (b := _) rfl rfl g13 ?_
     refine L.val (x_ldn (vs := cs) ksame_ag25 rfl hla (bx2.row hla)) rfl ?_
     refine L.nil ?_
     refine thn_n ?_
     refine LA.step (rs := [10, 11]) (by kernel_rfl) (by simp) ⟨⟨_, rfl, ?_⟩, ⟨_, rfl, ?_⟩, trivial⟩
     ·refine L.gyes' (dj := 13) (b := _) rfl rfl g13 ?_
      refine L.ret (x_call ksame_en68 rfl) rfl (sorted0 _ a (Nat.lt_succ_self _) (check_zero h8).1 (check_zero h8).2.2 A0 _ _ ha) ?_
      rintro _ w15 ⟨cs15, rfl, ht15, hw⟩
      have hB := hB.carry hw; have ha := ha.carry hw; have hb := hb.carry hw; have bx2 := bx2.carry hw; have bx3 := bx3.carry hw
      refine L.nil ?_
      refine thn_n ?_
      refine LA.step (rs := [11]) (by kernel_rfl) (by simp) ⟨⟨_, rfl, ?_⟩, trivial⟩
      refine L.gyes' (dj := 13) (b := _) rfl rfl g13 ?_
      refine L.val (x_ldn (vs := ds) ksame_ag25 rfl hlb (bx3.row hlb)) rfl ?_
      refine L.nil ?_
      refine thn_n ?_
      refine LA.step (rs := [12]) (by kernel_rfl) (by simp) ⟨⟨_, rfl, ?_⟩, trivial⟩
      refine L.gyes' (dj := 13) (b := _) rfl rfl g13 ?_
      refine L.ret (x_call ksame_en68 rfl) rfl (sorted0 _ b (Nat.lt_succ_self _) (check_zero h13).1 (check_zero h13).2.2 A1 _ _ hb) ?_
      rintro _ w17 ⟨cs17, rfl, ht17, hw⟩
      have hB := hB.carry hw; have ha := ha.carry hw; have hb := hb.carry hw; have bx2 := bx2.carry hw; have bx3 := bx3.carry hw; have ht15 := ht15.carry hw
      refine L.nil ?_
      refine thn_n ?_
      refine LA.step (rs := [13]) (by kernel_rfl) (by simp) ⟨⟨_, rfl, ?_⟩, trivial⟩
      refine L.gyes' (dj := 13) (b := _) rfl rfl g13 ?_
      refine L.ret (x_call ksame_en79 rfl) rfl (equal_ok _ _ _ (Nat.lt_succ_self _) _ _ _ _ _ ht15 ht17) ?_
      rintro _ w18 ⟨rfl, hw⟩
      have hB := hB.carry hw; have ha := ha.carry hw; have hb := hb.carry hw; have bx2 := bx2.carry hw; have bx3 := bx3.carry hw; have ht15 := ht15.carry hw; have ht17 := ht17.carry hw
      refine L.nil ?_
      refine thn_n ?_
      refine LA.take (i := 14) rfl (by kernel_rfl) (by kernel_rfl) (by kernel_rfl) (fun w => x_pick_t (v := .bool _) (congrArg Value.bool g13) rfl) rfl ?_
      refine LA.take (i := 15) rfl (by kernel_rfl) (by kernel_rfl) (by kernel_rfl) (fun w => x_as (v := .bool _) rfl) rfl ?_
      refine LA.done (by kernel_rfl) ?_
      refine nrm_n ?_
      refine thn_n ?_
      refine W.ret (fin_mk (.inr rfl) ?_)
      refine ⟨vb ?_, hB⟩
      unfold sameS
      first
        | (rw [h8, h13]; simp)
        | (rw [h8]; simp [h13])
        | (simp [h8])
     ·refine L.gyes' (dj := 13) (b := _) rfl rfl g13 ?_
      refine L.val (x_ldn (vs := ds) ksame_ag25 rfl hlb (bx3.row hlb)) rfl ?_
      refine L.nil ?_
      refine thn_n ?_
      refine LA.step (rs := [10]) (by kernel_rfl) (by simp) ⟨⟨_, rfl, ?_⟩, trivial⟩
      refine L.gyes' (dj := 13) (b := _) rfl rfl g13 ?_
      refine L.ret (x_call ksame_en68 rfl) rfl (sorted0 _ a (Nat.lt_succ_self _) (check_zero h8).1 (check_zero h8).2.2 A0 _ _ ha) ?_
      rintro _ w15 ⟨cs15, rfl, ht15, hw⟩
      have hB := hB.carry hw; have ha := ha.carry hw; have hb := hb.carry hw; have bx2 := bx2.carry hw; have bx3 := bx3.carry hw
      refine L.nil ?_
      refine thn_n ?_
      refine LA.step (rs := [12]) (by kernel_rfl) (by simp) ⟨⟨_, rfl, ?_⟩, trivial⟩
      refine L.gyes' (dj := 13) (b := _) rfl rfl g13 ?_
      refine L.ret (x_call ksame_en68 rfl) rfl (sorted0 _ b (Nat.lt_succ_self _) (check_zero h13).1 (check_zero h13).2.2 A1 _ _ hb) ?_
      rintro _ w17 ⟨cs17, rfl, ht17, hw⟩
      have hB := hB.carry hw; have ha := ha.carry hw; have hb := hb.carry hw; have bx2 := bx2.carry hw; have bx3 := bx3.carry hw; have ht15 := ht15.carry hw
      refine L.nil ?_
      refine thn_n ?_
      refine LA.step (rs := [13]) (by kernel_rfl) (by simp) ⟨⟨_, rfl, ?_⟩, trivial⟩
      refine L.gyes' (dj := 13) (b := _) rfl rfl g13 ?_
      refine L.ret (x_call ksame_en79 rfl) rfl (equal_ok _ _ _ (Nat.lt_succ_self _) _ _ _ _ _ ht15 ht17) ?_
      rintro _ w18 ⟨rfl, hw⟩
      have hB := hB.carry hw; have ha := ha.carry hw; have hb := hb.carry hw; have bx2 := bx2.carry hw; have bx3 := bx3.carry hw; have ht15 := ht15.carry hw; have ht17 := ht17.carry hw
      refine L.nil ?_
      refine thn_n ?_
      refine LA.take (i := 14) rfl (by kernel_rfl) (by kernel_rfl) (by kernel_rfl) (fun w => x_pick_t (v := .bool _) (congrArg Value.bool g13) rfl) rfl ?_
      refine LA.take (i := 15) rfl (by kernel_rfl) (by kernel_rfl) (by kernel_rfl) (fun w => x_as (v := .bool _) rfl) rfl ?_
      refine LA.done (by kernel_rfl) ?_
      refine nrm_n ?_
      refine thn_n ?_
      refine W.ret (fin_mk (.inr rfl) ?_)
      refine ⟨vb ?_, hB⟩
      unfold sameS
      first
        | (rw [h8, h13]; simp)
        | (rw [h8]; simp [h13])
        | (simp [h8])
    ·have h13 := of_decide_eq_false g13
     refine L.gno (dj := 13) (b := _) rfl rfl g13 rfl ?_
     refine L.nil ?_
     refine thn_n ?_
     refine LA.step (rs := [10, 11]) (by kernel_rfl) (by simp) ⟨⟨_, rfl, ?_⟩, ⟨_, rfl, ?_⟩, trivial⟩
     ·refine L.gno (dj := 13) (b := _) rfl rfl g13 rfl ?_
      refine L.nil ?_
      refine thn_n ?_
      refine LA.step (rs := [11]) (by kernel_rfl) (by simp) ⟨⟨_, rfl, ?_⟩, trivial⟩
      refine L.gno (dj := 13) (b := _) rfl rfl g13 rfl ?_
      refine L.nil ?_
      refine thn_n ?_
      refine LA.step (rs := [12]) (by kernel_rfl) (by simp) ⟨⟨_, rfl, ?_⟩, trivial⟩
      refine L.gno (dj := 13) (b := _) rfl rfl g13 rfl ?_
      refine L.nil ?_
      refine thn_n ?_
      refine LA.step (rs := [13]) (by kernel_rfl) (by simp) ⟨⟨_, rfl, ?_⟩, trivial⟩
      refine L.gno (dj := 13) (b := _) rfl rfl g13 rfl ?_
      refine L.nil ?_
      refine thn_n ?_
      refine LA.take (i := 14) rfl (by kernel_rfl) (by kernel_rfl) (by kernel_rfl) (fun w => x_pick_f (v := .bool _) (congrArg Value.bool g13) rfl) rfl ?_
      refine LA.take (i := 15) rfl (by kernel_rfl) (by kernel_rfl) (by kernel_rfl) (fun w => x_as (v := .bool _) rfl) rfl ?_
      refine LA.done (by kernel_rfl) ?_
      refine nrm_n ?_
      refine thn_n ?_
      refine W.ret (fin_mk (.inr rfl) ?_)
      refine ⟨vb ?_, hB⟩
      unfold sameS
      first
        | (rw [h8, h13]; simp)
        | (rw [h8]; simp [h13])
        | (simp [h8])
     ·refine L.gno (dj := 13) (b := _) rfl rfl g13 rfl ?_
      refine L.nil ?_
      refine thn_n ?_
      refine LA.step (rs := [10]) (by kernel_rfl) (by simp) ⟨⟨_, rfl, ?_⟩, trivial⟩
      refine L.gno (dj := 13) (b := _) rfl rfl g13 rfl ?_
      refine L.nil ?_
      refine thn_n ?_
      refine LA.step (rs := [12]) (by kernel_rfl) (by simp) ⟨⟨_, rfl, ?_⟩, trivial⟩
      refine L.gno (dj := 13) (b := _) rfl rfl g13 rfl ?_
      refine L.nil ?_
      refine thn_n ?_
      refine LA.step (rs := [13]) (by kernel_rfl) (by simp) ⟨⟨_, rfl, ?_⟩, trivial⟩
      refine L.gno (dj := 13) (b := _) rfl rfl g13 rfl ?_
      refine L.nil ?_
      refine thn_n ?_
      refine LA.take (i := 14) rfl (by kernel_rfl) (by kernel_rfl) (by kernel_rfl) (fun w => x_pick_f (v := .bool _) (congrArg Value.bool g13) rfl) rfl ?_
      refine LA.take (i := 15) rfl (by kernel_rfl) (by kernel_rfl) (by kernel_rfl) (fun w => x_as (v := .bool _) rfl) rfl ?_
      refine LA.done (by kernel_rfl) ?_
      refine nrm_n ?_
      refine thn_n ?_
      refine W.ret (fin_mk (.inr rfl) ?_)
      refine ⟨vb ?_, hB⟩
      unfold sameS
      first
        | (rw [h8, h13]; simp)
        | (rw [h8]; simp [h13])
        | (simp [h8])
   ·refine L.splitat (dj := 13) (b := _) rfl (fun g13 => ?_) (fun g13 => ?_)
    ·have h13 := of_decide_eq_true g13
     refine L.gyes' (dj := 13) (b := _) rfl rfl g13 ?_
     refine L.val (x_ldn (vs := ds) ksame_ag25 rfl hlb (bx3.row hlb)) rfl ?_
     refine L.nil ?_
     refine thn_n ?_
     refine LA.step (rs := [9]) (by kernel_rfl) (by simp) ⟨⟨_, rfl, ?_⟩, trivial⟩
     refine L.gyes' (dj := 13) (b := _) rfl rfl g13 ?_
     refine L.val (x_ldn (vs := cs) ksame_ag25 rfl hla (bx2.row hla)) rfl ?_
     refine L.nil ?_
     refine thn_n ?_
     refine LA.step (rs := [10]) (by kernel_rfl) (by simp) ⟨⟨_, rfl, ?_⟩, trivial⟩
     refine L.gyes' (dj := 13) (b := _) rfl rfl g13 ?_
     refine L.ret (x_call ksame_en68 rfl) rfl (sorted0 _ a (Nat.lt_succ_self _) (check_zero h8).1 (check_zero h8).2.2 A0 _ _ ha) ?_
     rintro _ w15 ⟨cs15, rfl, ht15, hw⟩
     have hB := hB.carry hw; have ha := ha.carry hw; have hb := hb.carry hw; have bx2 := bx2.carry hw; have bx3 := bx3.carry hw
     refine L.nil ?_
     refine thn_n ?_
     refine LA.step (rs := [12]) (by kernel_rfl) (by simp) ⟨⟨_, rfl, ?_⟩, trivial⟩
     refine L.gyes' (dj := 13) (b := _) rfl rfl g13 ?_
     refine L.ret (x_call ksame_en68 rfl) rfl (sorted0 _ b (Nat.lt_succ_self _) (check_zero h13).1 (check_zero h13).2.2 A1 _ _ hb) ?_
     rintro _ w17 ⟨cs17, rfl, ht17, hw⟩
     have hB := hB.carry hw; have ha := ha.carry hw; have hb := hb.carry hw; have bx2 := bx2.carry hw; have bx3 := bx3.carry hw; have ht15 := ht15.carry hw
     refine L.nil ?_
     refine thn_n ?_
     refine LA.step (rs := [13]) (by kernel_rfl) (by simp) ⟨⟨_, rfl, ?_⟩, trivial⟩
     refine L.gyes' (dj := 13) (b := _) rfl rfl g13 ?_
     refine L.ret (x_call ksame_en79 rfl) rfl (equal_ok _ _ _ (Nat.lt_succ_self _) _ _ _ _ _ ht15 ht17) ?_
     rintro _ w18 ⟨rfl, hw⟩
     have hB := hB.carry hw; have ha := ha.carry hw; have hb := hb.carry hw; have bx2 := bx2.carry hw; have bx3 := bx3.carry hw; have ht15 := ht15.carry hw; have ht17 := ht17.carry hw
     refine L.nil ?_
     refine thn_n ?_
     refine LA.take (i := 14) rfl (by kernel_rfl) (by kernel_rfl) (by kernel_rfl) (fun w => x_pick_t (v := .bool _) (congrArg Value.bool g13) rfl) rfl ?_
     refine LA.take (i := 15) rfl (by kernel_rfl) (by kernel_rfl) (by kernel_rfl) (fun w => x_as (v := .bool _) rfl) rfl ?_
     refine LA.done (by kernel_rfl) ?_
     refine nrm_n ?_
     refine thn_n ?_
     refine W.ret (fin_mk (.inr rfl) ?_)
     refine ⟨vb ?_, hB⟩
     unfold sameS
     first
       | (rw [h8, h13]; simp)
       | (rw [h8]; simp [h13])
       | (simp [h8])
    ·have h13 := of_decide_eq_false g13
     refine L.gno (dj := 13) (b := _) rfl rfl g13 rfl ?_
     refine L.nil ?_
     refine thn_n ?_
     refine LA.step (rs := [9]) (by kernel_rfl) (by simp) ⟨⟨_, rfl, ?_⟩, trivial⟩
     refine L.gno (dj := 13) (b := _) rfl rfl g13 rfl ?_
     refine L.nil ?_
     refine thn_n ?_
     refine LA.step (rs := [10]) (by kernel_rfl) (by simp) ⟨⟨_, rfl, ?_⟩, trivial⟩
     refine L.gno (dj := 13) (b := _) rfl rfl g13 rfl ?_
     refine L.nil ?_
     refine thn_n ?_
     refine LA.step (rs := [12]) (by kernel_rfl) (by simp) ⟨⟨_, rfl, ?_⟩, trivial⟩
     refine L.gno (dj := 13) (b := _) rfl rfl g13 rfl ?_
     refine L.nil ?_
     refine thn_n ?_
     refine LA.step (rs := [13]) (by kernel_rfl) (by simp) ⟨⟨_, rfl, ?_⟩, trivial⟩
     refine L.gno (dj := 13) (b := _) rfl rfl g13 rfl ?_
     refine L.nil ?_
     refine thn_n ?_
     refine LA.take (i := 14) rfl (by kernel_rfl) (by kernel_rfl) (by kernel_rfl) (fun w => x_pick_f (v := .bool _) (congrArg Value.bool g13) rfl) rfl ?_
     refine LA.take (i := 15) rfl (by kernel_rfl) (by kernel_rfl) (by kernel_rfl) (fun w => x_as (v := .bool _) rfl) rfl ?_
     refine LA.done (by kernel_rfl) ?_
     refine nrm_n ?_
     refine thn_n ?_
     refine W.ret (fin_mk (.inr rfl) ?_)
     refine ⟨vb ?_, hB⟩
     unfold sameS
     first
       | (rw [h8, h13]; simp)
       | (rw [h8]; simp [h13])
       | (simp [h8])
  ·have h8 := of_decide_eq_false g8
   refine L.gno (dj := 8) (b := _) rfl rfl g8 rfl ?_
   refine L.nil ?_
   refine thn_n ?_
   refine LA.step (rs := [5]) (by kernel_rfl) (by simp) ⟨⟨_, rfl, ?_⟩, trivial⟩
   refine L.gno (dj := 8) (b := _) rfl rfl g8 rfl ?_
   refine L.nil ?_
   refine thn_n ?_
   refine LA.step (rs := [6]) (by kernel_rfl) (by simp) ⟨⟨_, rfl, ?_⟩, trivial⟩
   refine L.gno (dj := 8) (b := _) rfl rfl g8 rfl ?_
   refine L.nil ?_
   refine thn_n ?_
   refine LA.take (i := 7) rfl (by kernel_rfl) (by kernel_rfl) (by kernel_rfl) (fun w => x_pick_f (v := .bool _) (congrArg Value.bool g8) rfl) rfl ?_
   refine LA.take (i := 8) rfl (by kernel_rfl) (by kernel_rfl) (by kernel_rfl) (fun w => x_mv (v := .bool _) rfl) rfl ?_
   refine LA.step (rs := [9, 11]) (by kernel_rfl) (by simp) ⟨⟨_, rfl, ?_⟩, ⟨_, rfl, ?_⟩, trivial⟩
   ·refine L.gno (dj := 13) (b := _) rfl rfl rfl rfl ?_
    refine L.nil ?_
    refine thn_n ?_
    refine LA.step (rs := [10, 11]) (by kernel_rfl) (by simp) ⟨⟨_, rfl, ?_⟩, ⟨_, rfl, ?_⟩, trivial⟩
    ·refine L.gno (dj := 13) (b := _) rfl rfl rfl rfl ?_
     refine L.nil ?_
     refine thn_n ?_
     refine LA.step (rs := [11]) (by kernel_rfl) (by simp) ⟨⟨_, rfl, ?_⟩, trivial⟩
     refine L.gno (dj := 13) (b := _) rfl rfl rfl rfl ?_
     refine L.nil ?_
     refine thn_n ?_
     refine LA.step (rs := [12]) (by kernel_rfl) (by simp) ⟨⟨_, rfl, ?_⟩, trivial⟩
     refine L.gno (dj := 13) (b := _) rfl rfl rfl rfl ?_
     refine L.nil ?_
     refine thn_n ?_
     refine LA.step (rs := [13]) (by kernel_rfl) (by simp) ⟨⟨_, rfl, ?_⟩, trivial⟩
     refine L.gno (dj := 13) (b := _) rfl rfl rfl rfl ?_
     refine L.nil ?_
     refine thn_n ?_
     refine LA.take (i := 14) rfl (by kernel_rfl) (by kernel_rfl) (by kernel_rfl) (fun w => x_pick_f (v := .bool _) rfl rfl) rfl ?_
     refine LA.take (i := 15) rfl (by kernel_rfl) (by kernel_rfl) (by kernel_rfl) (fun w => x_as (v := .bool _) rfl) rfl ?_
     refine LA.done (by kernel_rfl) ?_
     refine nrm_n ?_
     refine thn_n ?_
     refine W.ret (fin_mk (.inr rfl) ?_)
     refine ⟨vb ?_, hB⟩
     unfold sameS
     first
       | (rw [h8, h13]; simp)
       | (rw [h8]; simp [h13])
       | (simp [h8])
    ·refine L.gno (dj := 13) (b := _) rfl rfl rfl rfl ?_
     refine L.nil ?_
     refine thn_n ?_
     refine LA.step (rs := [10]) (by kernel_rfl) (by simp) ⟨⟨_, rfl, ?_⟩, trivial⟩
     refine L.gno (dj := 13) (b := _) rfl rfl rfl rfl ?_
     refine L.nil ?_
     refine thn_n ?_
     refine LA.step (rs := [12]) (by kernel_rfl) (by simp) ⟨⟨_, rfl, ?_⟩, trivial⟩
     refine L.gno (dj := 13) (b := _) rfl rfl rfl rfl ?_
     refine L.nil ?_
     refine thn_n ?_
     refine LA.step (rs := [13]) (by kernel_rfl) (by simp) ⟨⟨_, rfl, ?_⟩, trivial⟩
     refine L.gno (dj := 13) (b := _) rfl rfl rfl rfl ?_
     refine L.nil ?_
     refine thn_n ?_
     refine LA.take (i := 14) rfl (by kernel_rfl) (by kernel_rfl) (by kernel_rfl) (fun w => x_pick_f (v := .bool _) rfl rfl) rfl ?_
     refine LA.take (i := 15) rfl (by kernel_rfl) (by kernel_rfl) (by kernel_rfl) (fun w => x_as (v := .bool _) rfl) rfl ?_
     refine LA.done (by kernel_rfl) ?_
     refine nrm_n ?_
     refine thn_n ?_
     refine W.ret (fin_mk (.inr rfl) ?_)
     refine ⟨vb ?_, hB⟩
     unfold sameS
     first
       | (rw [h8, h13]; simp)
       | (rw [h8]; simp [h13])
       | (simp [h8])
   ·refine L.gno (dj := 13) (b := _) rfl rfl rfl rfl ?_
    refine L.nil ?_
    refine thn_n ?_
    refine LA.step (rs := [9]) (by kernel_rfl) (by simp) ⟨⟨_, rfl, ?_⟩, trivial⟩
    refine L.gno (dj := 13) (b := _) rfl rfl rfl rfl ?_
    refine L.nil ?_
    refine thn_n ?_
    refine LA.step (rs := [10]) (by kernel_rfl) (by simp) ⟨⟨_, rfl, ?_⟩, trivial⟩
    refine L.gno (dj := 13) (b := _) rfl rfl rfl rfl ?_
    refine L.nil ?_
    refine thn_n ?_
    refine LA.step (rs := [12]) (by kernel_rfl) (by simp) ⟨⟨_, rfl, ?_⟩, trivial⟩
    refine L.gno (dj := 13) (b := _) rfl rfl rfl rfl ?_
    refine L.nil ?_
    refine thn_n ?_
    refine LA.step (rs := [13]) (by kernel_rfl) (by simp) ⟨⟨_, rfl, ?_⟩, trivial⟩
    refine L.gno (dj := 13) (b := _) rfl rfl rfl rfl ?_
    refine L.nil ?_
    refine thn_n ?_
    refine LA.take (i := 14) rfl (by kernel_rfl) (by kernel_rfl) (by kernel_rfl) (fun w => x_pick_f (v := .bool _) rfl rfl) rfl ?_
    refine LA.take (i := 15) rfl (by kernel_rfl) (by kernel_rfl) (by kernel_rfl) (fun w => x_as (v := .bool _) rfl) rfl ?_
    refine LA.done (by kernel_rfl) ?_
    refine nrm_n ?_
    refine thn_n ?_
    refine W.ret (fin_mk (.inr rfl) ?_)
    refine ⟨vb ?_, hB⟩
    unfold sameS
    first
      | (rw [h8, h13]; simp)
      | (rw [h8]; simp [h13])
      | (simp [h8])
end Go.Gx
