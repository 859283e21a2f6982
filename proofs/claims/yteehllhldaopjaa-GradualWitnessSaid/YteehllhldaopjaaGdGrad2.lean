/- The library's searches by a predicate; what is known of a type. Conditions: none. -/
import Derived.Test.YteehllhldaopjaaGdGrad
namespace Go.Gx
open Go.Proofs
theorem kgrad2_ag25 : aggT Try.prog 25 5 = true := by kernel_rfl
theorem kgrad2_en114 : Go.Proofs.Enters Try.prog 114 := Go.Proofs.enters_of Try.func114 (by kernel_rfl) rfl
theorem kgrad2_en115 : Go.Proofs.Enters Try.prog 115 := Go.Proofs.enters_of Try.func115 (by kernel_rfl) rfl
theorem kgrad2_en136 : Go.Proofs.Enters Try.prog 136 := Go.Proofs.enters_of Try.func136 (by kernel_rfl) rfl
theorem kgrad2_en138 : Go.Proofs.Enters Try.prog 138 := Go.Proofs.enters_of Try.func138 (by kernel_rfl) rfl
theorem kgrad2_en29 : Go.Proofs.Enters Try.prog 29 := Go.Proofs.enters_of Try.func29 (by kernel_rfl) rfl
theorem kgrad2_en85 : Go.Proofs.Enters Try.prog 85 := Go.Proofs.enters_of Try.func85 (by kernel_rfl) rfl
theorem kgrad2_fo25_0 : fieldOff Try.prog 25 0 = some 0 := by kernel_rfl
theorem kgrad2_fo25_4 : fieldOff Try.prog 25 4 = some 4 := by kernel_rfl
theorem kgrad2_oc23 : oneCellT Try.prog 23 = true := by kernel_rfl
theorem kgrad2_oc3 : oneCellT Try.prog 3 = true := by kernel_rfl
theorem kgrad2_oc9 : oneCellT Try.prog 9 = true := by kernel_rfl
theorem kgrad2_sz25 : (Try.prog.info? 25).map (·.size) = some 5 := by kernel_rfl
theorem kgrad2_sz9 : (Try.prog.info? 9).map (·.size) = some 1 := by kernel_rfl
theorem any_succ {q : Nat → Bool} {k : Nat} : (List.range (k + 1)).any q = ((List.range k).any q || q k) := by
  rw [List.range_succ, List.any_append]; simp
theorem any_hit {q : Nat → Bool} {k n : Nat} (h : k < n) (hk : q k = true) : (List.range n).any q = true := List.any_eq_true.2 ⟨k, List.mem_range.2 h, hk⟩
theorem ifstr_ok (g : Nat) (eg : Enters Try.prog g) (cb : List Value) (q : Nat → Bool) (A : Nat → Prop) (v : Value) (l : List Str) (w : World) (hl : StrsAt A w v l)
    (hq : ∀ w1 i, Bel w w1 → i < l.length → Ret Try.prog g ([S (l.getD i [])] ++ cb).toArray w1 fun v w' => v = .bool (q i) ∧ Bel w1 w') :
    Ret Try.prog 136 #[v, .func (.func g) #[] cb.toArray] w fun r w' => (∃ i : Int, r = .int .i64 i ∧ decide (0 ≤ i) = (List.range l.length).any q) ∧ Bel w w' := by
  obtain ⟨p, cap, rfl, h1, h2, h3, -⟩ := id hl
  refine ret_of_W Try.func136 rfl (Nat.le_of_ble_eq_true rfl) (res1 rfl) ?_
  have hB := Gr.refl (fun _ => False) w
  refine W.seq ?_
  refine W.region ?_
  refine L.val (x_as (v := .int _ _) rfl) rfl ?_
  refine L.nil ?_
  refine thn_n ?_
  refine W.seq ?_
  refine W.seq ?_
  refine W.region ?_
  refine L.val (x_mv (v := .slice _ _ _) rfl) rfl ?_
  refine L.val (x_len_slice Try.underlying22 rfl) rfl ?_
  refine L.val (x_mv (v := .int _ _) rfl) rfl ?_
  refine L.nil ?_
  refine thn_n ?_
  refine W.block ?_
  refine W.loop (fun m' E w' => ∃ (k : Nat), m' = l.length - k ∧ E 0 = .slice p l.length cap ∧ E 1 = .func (.func g) #[] cb.toArray ∧ E 7 = .int .i64 (l.length : Nat) ∧ E 8 = .int .i64 (k : Nat) ∧ (Bel w w') ∧ (StrsAt A w' (.slice p l.length cap) l) ∧ (k ≤ l.length) ∧ ((List.range k).any q = false)) (l.length) ?_ ?_
  ·exact ⟨0, by omega, by first | rfl | exact vi (by omega), by first | rfl | exact vi (by omega), by first | rfl | exact vi (by omega), by first | rfl | exact vi (by omega), (by first | assumption | omega | rfl), (by first | assumption | omega | rfl), (by first | assumption | omega | rfl), (by rfl)⟩
  ·rintro _ E wL9 ⟨k, em, e0, e1, e7, e8, hB, hl, hk, hne⟩
   rw [upd_self e0, upd_self e1, upd_self e7, upd_self e8]
   refine W.seq ?_
   refine W.region ?_
   refine L.val (x_lss rfl rfl) rfl ?_
   refine L.nil ?_
   refine thn_n ?_
   refine W.seq ?_
   refine W.cond (b := _) rfl (fun g9 => ?_) (fun g9 => ?_)
   ·have h9 := of_decide_eq_true g9
    have hlt : k < l.length := by omega
    obtain ⟨b, o, rfl, hc⟩ := hl.elem hlt
    refine W.skip ?_
    refine thn_n ?_
    refine W.seq ?_
    refine W.block ?_
    refine W.seq ?_
    refine W.region ?_
    refine L.val (x_mv (v := .int _ _) rfl) rfl ?_
    refine L.val (x_as (v := .int _ _) rfl) rfl ?_
    refine L.nil ?_
    refine thn_n ?_
    refine W.seq ?_
    refine W.region ?_
    refine L.val (x_mv (v := .func _ _ _) rfl) rfl ?_
    refine L.val (x_mv (v := .slice _ _ _) rfl) rfl ?_
    refine L.val (x_mv (v := .int _ _) rfl) rfl ?_
    refine L.val (x_ia1 (j := k) Try.underlying22 kgrad2_sz9 rfl rfl (by omega) (by omega)) rfl ?_
    refine L.val (x_ld (v := S _) kgrad2_oc9 rfl hc) rfl ?_
    refine L.ret (x_callv eg rfl rfl) rfl (hq _ k hB hlt) ?_
    rintro _ w16 ⟨rfl, hw⟩
    have hB := hB.carry hw; have hl := hl.carry hw
    refine L.nil ?_
    refine thn_n ?_
    refine W.cond (b := _) rfl (fun g16 => ?_) (fun g16 => ?_)
    ·have h16 := g16
     refine W.seq ?_
     refine W.region ?_
     refine L.val (x_mv (v := .int _ _) rfl) rfl ?_
     refine L.val (x_as (v := .int _ _) rfl) rfl ?_
     refine L.nil ?_
     refine thn_n ?_
     refine W.ret (blk_r (thn_r (thn_r (blk_r (thn_r (fin_mk (.inr rfl) ?_))))))
     exact ⟨⟨_, rfl, by rw [any_hit hlt h16]; exact decide_eq_true (by omega)⟩, hB⟩
    ·have h16 := g16
     refine W.skip ?_
     refine blk_n ?_
     refine thn_n ?_
     refine W.region ?_
     refine L.val (x_add rfl rfl (wr64 (by omega))) rfl ?_
     refine L.val (x_mv (v := .int _ _) rfl) rfl ?_
     refine L.nil ?_
     refine thn_n ⟨rfl, ?_⟩
     refine ⟨_, ?_, k + 1, rfl, by first | rfl | exact vi (by omega), by first | rfl | exact vi (by omega), by first | rfl | exact vi (by omega), by first | rfl | exact vi (by omega), (by first | assumption | omega | rfl), (by first | assumption | omega | rfl), (by first | assumption | omega | rfl), (by rw [any_succ, hne, h16]; rfl)⟩
     omega
   ·have h9 := dlt_f g9
    refine W.exit (thn_x (thn_x (blk_hit ?_)))
    refine thn_n ?_
    refine W.seq ?_
    refine W.region ?_
    refine L.val (x_as (v := .int _ _) rfl) rfl ?_
    refine L.nil ?_
    refine thn_n ?_
    refine W.ret (fin_mk (.inr rfl) ?_)
    exact ⟨⟨_, rfl, by rw [show l.length = k by omega, hne]; rfl⟩, hB⟩
theorem cfstr_ok (g : Nat) (eg : Enters Try.prog g) (cb : List Value) (q : Nat → Bool) (A : Nat → Prop) (v : Value) (l : List Str) (w : World) (hl : StrsAt A w v l)
    (hq : ∀ w1 i, Bel w w1 → i < l.length → Ret Try.prog g ([S (l.getD i [])] ++ cb).toArray w1 fun v w' => v = .bool (q i) ∧ Bel w1 w') :
    Ret Try.prog 110 #[v, .func (.func g) #[] cb.toArray] w fun r w' => r = .bool ((List.range l.length).any q) ∧ Bel w w' := by
  obtain ⟨p, cap, rfl, -⟩ := id hl
  refine ret_of_W Try.func110 rfl (Nat.le_of_ble_eq_true rfl) (res1 rfl) ?_
  have hB := Gr.refl (fun _ => False) w
  refine W.seq ?_
  refine W.region ?_
  refine L.val (x_as (v := .bool _) rfl) rfl ?_
  refine L.nil ?_
  refine thn_n ?_
  refine W.seq ?_
  refine W.region ?_
  refine L.val (x_mv (v := .slice _ _ _) rfl) rfl ?_
  refine L.val (x_mv (v := .func _ _ _) rfl) rfl ?_
  refine L.ret (x_call kgrad2_en136 rfl) rfl (ifstr_ok g eg cb q A _ l w hl hq) ?_
  rintro _ w7 ⟨⟨i, rfl, hi⟩, hw⟩
  have hB := hB.carry hw
  refine L.val (x_geq rfl rfl) rfl ?_
  refine L.val (x_as (v := .bool _) rfl) rfl ?_
  refine L.nil ?_
  refine thn_n ?_
  refine W.ret (fin_mk (.inr rfl) ?_)
  exact ⟨vb hi, hB⟩
theorem ifsh_ok (g : Nat) (eg : Enters Try.prog g) (cb : List Value) (q : Nat → Bool) (A : Nat → Prop) (p : Option Addr) (cap : Nat) (row : Nat → List Value) (l : List Sh) (w : World) (hr : ShRow A w p row l) (hle : l.length ≤ 70368744177664)
    (hq : ∀ w1 i, Bel w w1 → i < l.length → Ret Try.prog g ([Value.agg (row i).toArray] ++ cb).toArray w1 fun v w' => v = .bool (q i) ∧ Bel w1 w') :
    Ret Try.prog 138 #[.slice p l.length cap, .func (.func g) #[] cb.toArray] w fun r w' => (∃ i : Int, r = .int .i64 i ∧ decide (0 ≤ i) = (List.range l.length).any q) ∧ Bel w w' := by
  refine ret_of_W Try.func138 rfl (Nat.le_of_ble_eq_true rfl) (res1 rfl) ?_
  have hB := Gr.refl (fun _ => False) w
  refine W.seq ?_
  refine W.region ?_
  refine L.val (x_as (v := .int _ _) rfl) rfl ?_
  refine L.nil ?_
  refine thn_n ?_
  refine W.seq ?_
  refine W.seq ?_
  refine W.region ?_
  refine L.val (x_mv (v := .slice _ _ _) rfl) rfl ?_
  refine L.val (x_len_slice Try.underlying23 rfl) rfl ?_
  refine L.val (x_mv (v := .int _ _) rfl) rfl ?_
  refine L.nil ?_
  refine thn_n ?_
  refine W.block ?_
  refine W.loop (fun m' E w' => ∃ (k : Nat), m' = l.length - k ∧ E 0 = .slice p l.length cap ∧ E 1 = .func (.func g) #[] cb.toArray ∧ E 7 = .int .i64 (l.length : Nat) ∧ E 8 = .int .i64 (k : Nat) ∧ (Bel w w') ∧ (ShRow A w' p row l) ∧ (k ≤ l.length) ∧ ((List.range k).any q = false)) (l.length) ?_ ?_
  ·exact ⟨0, by omega, by first | rfl | exact vi (by omega), by first | rfl | exact vi (by omega), by first | rfl | exact vi (by omega), by first | rfl | exact vi (by omega), (by first | assumption | omega | rfl), (by first | assumption | omega | rfl), (by first | assumption | omega | rfl), (by rfl)⟩
  ·rintro _ E wL9 ⟨k, em, e0, e1, e7, e8, hB, hr, hk, hne⟩
   rw [upd_self e0, upd_self e1, upd_self e7, upd_self e8]
   refine W.seq ?_
   refine W.region ?_
   refine L.val (x_lss rfl rfl) rfl ?_
   refine L.nil ?_
   refine thn_n ?_
   refine W.seq ?_
   refine W.cond (b := _) rfl (fun g9 => ?_) (fun g9 => ?_)
   ·have h9 := of_decide_eq_true g9
    have hlt : k < l.length := by omega
    obtain ⟨b, o, rfl, hc⟩ := hr.elem hlt
    refine W.skip ?_
    refine thn_n ?_
    refine W.seq ?_
    refine W.block ?_
    refine W.seq ?_
    refine W.region ?_
    refine L.val (x_mv (v := .int _ _) rfl) rfl ?_
    refine L.val (x_as (v := .int _ _) rfl) rfl ?_
    refine L.nil ?_
    refine thn_n ?_
    refine W.seq ?_
    refine W.region ?_
    refine L.val (x_mv (v := .func _ _ _) rfl) rfl ?_
    refine L.val (x_mv (v := .slice _ _ _) rfl) rfl ?_
    refine L.val (x_mv (v := .int _ _) rfl) rfl ?_
    refine L.val (x_ia (j := k) Try.underlying23 kgrad2_sz25 rfl rfl (by omega) (by omega)) rfl ?_
    refine L.val (x_ldn (vs := row k) kgrad2_ag25 rfl (hr.five k hlt) hc) rfl ?_
    refine L.ret (x_callv eg rfl rfl) rfl (hq _ k hB hlt) ?_
    rintro _ w16 ⟨rfl, hw⟩
    have hB := hB.carry hw; have hr := hr.carry hw
    refine L.nil ?_
    refine thn_n ?_
    refine W.cond (b := _) rfl (fun g16 => ?_) (fun g16 => ?_)
    ·have h16 := g16
     refine W.seq ?_
     refine W.region ?_
     refine L.val (x_mv (v := .int _ _) rfl) rfl ?_
     refine L.val (x_as (v := .int _ _) rfl) rfl ?_
     refine L.nil ?_
     refine thn_n ?_
     refine W.ret (blk_r (thn_r (thn_r (blk_r (thn_r (fin_mk (.inr rfl) ?_))))))
     exact ⟨⟨_, rfl, by rw [any_hit hlt h16]; exact decide_eq_true (by omega)⟩, hB⟩
    ·have h16 := g16
     refine W.skip ?_
     refine blk_n ?_
     refine thn_n ?_
     refine W.region ?_
     refine L.val (x_add rfl rfl (wr64 (by omega))) rfl ?_
     refine L.val (x_mv (v := .int _ _) rfl) rfl ?_
     refine L.nil ?_
     refine thn_n ⟨rfl, ?_⟩
     refine ⟨_, ?_, k + 1, rfl, by first | rfl | exact vi (by omega), by first | rfl | exact vi (by omega), by first | rfl | exact vi (by omega), by first | rfl | exact vi (by omega), (by first | assumption | omega | rfl), (by first | assumption | omega | rfl), (by first | assumption | omega | rfl), (by rw [any_succ, hne, h16]; rfl)⟩
     omega
   ·have h9 := dlt_f g9
    refine W.exit (thn_x (thn_x (blk_hit ?_)))
    refine thn_n ?_
    refine W.seq ?_
    refine W.region ?_
    refine L.val (x_as (v := .int _ _) rfl) rfl ?_
    refine L.nil ?_
    refine thn_n ?_
    refine W.ret (fin_mk (.inr rfl) ?_)
    exact ⟨⟨_, rfl, by rw [show l.length = k by omega, hne]; rfl⟩, hB⟩
theorem cfsh_ok (g : Nat) (eg : Enters Try.prog g) (cb : List Value) (q : Nat → Bool) (A : Nat → Prop) (p : Option Addr) (cap : Nat) (row : Nat → List Value) (l : List Sh) (w : World) (hr : ShRow A w p row l) (hle : l.length ≤ 70368744177664)
    (hq : ∀ w1 i, Bel w w1 → i < l.length → Ret Try.prog g ([Value.agg (row i).toArray] ++ cb).toArray w1 fun v w' => v = .bool (q i) ∧ Bel w1 w') :
    Ret Try.prog 114 #[.slice p l.length cap, .func (.func g) #[] cb.toArray] w fun r w' => r = .bool ((List.range l.length).any q) ∧ Bel w w' := by
  refine ret_of_W Try.func114 rfl (Nat.le_of_ble_eq_true rfl) (res1 rfl) ?_
  have hB := Gr.refl (fun _ => False) w
  refine W.seq ?_
  refine W.region ?_
  refine L.val (x_as (v := .bool _) rfl) rfl ?_
  refine L.nil ?_
  refine thn_n ?_
  refine W.seq ?_
  refine W.region ?_
  refine L.val (x_mv (v := .slice _ _ _) rfl) rfl ?_
  refine L.val (x_mv (v := .func _ _ _) rfl) rfl ?_
  refine L.ret (x_call kgrad2_en138 rfl) rfl (ifsh_ok g eg cb q A p cap row l w hr hle hq) ?_
  rintro _ w7 ⟨⟨i, rfl, hi⟩, hw⟩
  have hB := hB.carry hw
  refine L.val (x_geq rfl rfl) rfl ?_
  refine L.val (x_as (v := .bool _) rfl) rfl ?_
  refine L.nil ?_
  refine thn_n ?_
  refine W.ret (fin_mk (.inr rfl) ?_)
  exact ⟨vb hi, hB⟩
def notAny (s : Sh) : Bool := !decide (s.kind = 4)
theorem any_allL {p : Sh → Bool} {l : List Sh} : (List.range l.length).any (fun i => !(l.getD i default).allB p) = !allL p l := by
  cases h : allL p l
  · rw [Bool.not_false, List.any_eq_true]
    suffices H : ∃ i, i < l.length ∧ (l.getD i default).allB p = false by
      obtain ⟨i, hi, h⟩ := H
      exact ⟨i, List.mem_range.2 hi, by rw [h]; rfl⟩
    induction l with
    | nil => cases h
    | cons x l ih =>
      rw [allL] at h
      cases hx : x.allB p
      · exact ⟨0, by simp, by simpa using hx⟩
      · rw [hx, Bool.true_and] at h
        obtain ⟨i, hi, h'⟩ := ih h
        exact ⟨i + 1, by simpa using hi, by simpa using h'⟩
  · rw [Bool.not_true, List.any_eq_false]
    intro i hi
    have hi := List.mem_range.1 hi
    rw [allL_getD h hi]; simp
theorem plain1_ok (s : Sh) (hp : ∀ (A : Nat → Prop) (cs : List Value) (w : World), ShC A w cs s → Ret Try.prog 85 #[.agg cs.toArray] w fun v w' => v = .bool (s.allB notAny) ∧ Bel w w') (A : Nat → Prop) (cs : List Value) (w : World) (hs : ShC A w cs s) :
    Ret Try.prog 115 #[.agg cs.toArray] w fun v w' => v = .bool (!s.allB notAny) ∧ Bel w w' := by
  have hlen := hs.len
  refine ret_of_W Try.func115 rfl (Nat.le_of_ble_eq_true rfl) (res1 rfl) ?_
  have hB := Gr.refl (fun _ => False) w
  refine W.seq ?_
  refine W.region ?_
  refine L.box (cs := cs) rfl rfl (fun w1 bx1 hw hz1 => ?_)
  have hB := hB.carry hw; have hs := hs.carry hw
  refine L.val (x_as (v := .bool _) rfl) rfl ?_
  refine L.nil ?_
  refine thn_n ?_
  refine W.seq ?_
  refine W.region ?_
  refine L.val (x_ldn (vs := cs) kgrad2_ag25 rfl hlen (bx1.row hlen)) rfl ?_
  refine L.ret (x_call kgrad2_en85 rfl) rfl (hp A _ _ hs) ?_
  rintro _ w4 ⟨rfl, hw⟩
  have hB := hB.carry hw; have hs := hs.carry hw; have bx1 := bx1.carry hw
  refine L.val (x_not rfl) rfl ?_
  refine L.val (x_as (v := .bool _) rfl) rfl ?_
  refine L.nil ?_
  refine thn_n ?_
  refine W.ret (fin_mk (.inr rfl) ?_)
  exact ⟨rfl, hB⟩
theorem plainG_ok : ∀ (N : Nat) (s : Sh), SizeOf.sizeOf s < N → ∀ (A : Nat → Prop) (cs : List Value) (w : World), ShC A w cs s →
    Ret Try.prog 85 #[.agg cs.toArray] w fun v w' => v = .bool (s.allB notAny) ∧ Bel w w' := by
  intro N
  induction N with
  | zero => intro s h; omega
  | succ N ih =>
    intro s hN A cs w hs
    obtain ⟨vn, vp, rfl, hn, hp, hof, hnm⟩ := hs.inv
    obtain ⟨p, cap, row, rfl, p1, p2, p3, hr⟩ := hp
    refine ret_of_W Try.func85 rfl (Nat.le_of_ble_eq_true rfl) (res1 rfl) ?_
    have hB := Gr.refl (fun _ => False) w
    refine W.seq ?_
    refine W.region ?_
    refine L.box (cs := _) rfl rfl (fun w1 bx1 hw hz1 => ?_)
    have hB := hB.carry hw; have hr := hr.carry hw
    refine L.val (x_as (v := .bool _) rfl) rfl ?_
    refine L.nil ?_
    refine thn_n ?_
    refine W.seq ?_
    refine W.region ?_
    refine L.val (x_fa kgrad2_fo25_0 rfl) rfl ?_
    refine L.val (x_ld (v := .int _ _) kgrad2_oc3 rfl (bx1.cell0 rfl)) rfl ?_
    refine L.val (x_neq rfl rfl) rfl ?_
    refine L.val (x_mv (v := .bool _) rfl) rfl ?_
    refine' L.group 4 7 10 10 6 true rfl ?_ ?_ ?_
    rotate_left 1
    ·intro g6 hg6
     have h6 := dne_t g6
     refine L.gyes' (dj := 6) (b := _) rfl rfl g6 ?_
     refine L.val (x_fa kgrad2_fo25_4 rfl) rfl ?_
     refine L.gyes' (dj := 6) (b := _) rfl rfl g6 ?_
     refine L.val (x_ld (v := .slice _ _ _) kgrad2_oc23 rfl (bx1.cell0 rfl)) rfl ?_
     refine L.gyes' (dj := 6) (b := _) rfl rfl g6 ?_
     refine L.ret (x_call kgrad2_en114 rfl) rfl (cfsh_ok 115 kgrad2_en115 [] (fun i => !(s.parts.getD i default).allB notAny) A p cap row s.parts _ hr p3 (fun w1 i g hi => plain1_ok _ (fun A cs w h => ih _ (by have := Sh.part_lt hi; omega) A cs w h) A _ _ ((hr.each i hi).carry g))) ?_
     rintro _ w9 ⟨rfl, hw⟩
     have hB := hB.carry hw; have hr := hr.carry hw; have bx1 := bx1.carry hw; have hg6 := hg6.carry hw
     refine L.gyes' (dj := 6) (b := _) rfl rfl g6 ?_
     refine L.val (x_not rfl) rfl ?_
     refine L.nil ?_
     refine thn_n ⟨rfl, ?_, ?_, fun _ => rfl⟩
     ·exact hg6
     ·repeat (first | exact jeq.refl _ _ _ | refine jeq.upd rfl ?_ | refine jeq.jk rfl rfl ?_)
    ·intro g6
     refine L.gno (dj := 6) (b := _) rfl rfl g6 rfl ?_
     refine L.gno (dj := 6) (b := _) rfl rfl g6 rfl ?_
     refine L.gno (dj := 6) (b := _) rfl rfl g6 rfl ?_
     refine L.gno (dj := 6) (b := _) rfl rfl g6 rfl ?_
     refine L.nil (thn_n ⟨rfl, Gr.refl _ _, ?_⟩)
     refine ⟨?_, fun h => h.elim⟩
     repeat (first | exact jeq.refl _ _ _ | refine jeq.upd rfl ?_ | refine jeq.jk rfl rfl ?_)
    intro J6 w6 hw j6
    have hB := hB.carry hw; have hr := hr.carry hw; have bx1 := bx1.carry hw
    refine L.val (x_and rfl j6) rfl ?_
    refine L.val (x_as (v := .bool _) rfl) rfl ?_
    refine L.nil ?_
    refine thn_n ?_
    refine W.ret (fin_mk (.inr rfl) ?_)
    exact ⟨vb (by rw [Sh.allB_eq, any_allL]; simp [notAny]), hB⟩
theorem plain_okG (A : Nat → Prop) (s : Sh) (cs : List Value) (w : World) (hs : ShC A w cs s) :
    Ret Try.prog 60 #[.agg cs.toArray] w fun v w' => v = .bool (decide (checkS s = 0) && s.allB notAny) ∧ Bel w w' := by
  have hlen := hs.len
  refine ret_of_W Try.func60 rfl (Nat.le_of_ble_eq_true rfl) (res1 rfl) ?_
  have hB := Gr.refl (fun _ => False) w
  refine W.seq ?_
  refine W.region ?_
  refine L.box (cs := cs) rfl rfl (fun w1 bx1 hw hz1 => ?_)
  have hB := hB.carry hw; have hs := hs.carry hw
  refine L.val (x_as (v := .bool _) rfl) rfl ?_
  refine L.nil ?_
  refine thn_n ?_
  refine W.seq ?_
  refine W.region ?_
  refine L.val (x_ldn (vs := cs) kgrad2_ag25 rfl hlen (bx1.row hlen)) rfl ?_
  refine L.ret (x_call kgrad2_en29 rfl) rfl (checkL A s _ _ hs) ?_
  rintro _ w4 ⟨rfl, hw⟩
  have hB := hB.carry hw; have hs := hs.carry hw; have bx1 := bx1.carry hw
  refine L.val (x_eql rfl rfl) rfl ?_
  refine L.val (x_mv (v := .bool _) rfl) rfl ?_
  refine' L.group 2 7 8 8 6 true rfl ?_ ?_ ?_
  rotate_left 1
  ·intro g6 hg6
   have h6 := of_decide_eq_true g6
   refine L.gyes' (dj := 6) (b := _) rfl rfl g6 ?_
   refine L.val (x_ldn (vs := cs) kgrad2_ag25 rfl hlen (bx1.row hlen)) rfl ?_
   refine L.gyes' (dj := 6) (b := _) rfl rfl g6 ?_
   refine L.ret (x_call kgrad2_en85 rfl) rfl (plainG_ok _ s (Nat.lt_succ_self _) A _ _ hs) ?_
   rintro _ w8 ⟨rfl, hw⟩
   have hB := hB.carry hw; have hs := hs.carry hw; have bx1 := bx1.carry hw; have hg6 := hg6.carry hw
   refine L.nil ?_
   refine thn_n ⟨rfl, ?_, ?_, fun _ => rfl⟩
   ·exact hg6
   ·repeat (first | exact jeq.refl _ _ _ | refine jeq.upd rfl ?_ | refine jeq.jk rfl rfl ?_)
  ·intro g6
   refine L.gno (dj := 6) (b := _) rfl rfl g6 rfl ?_
   refine L.gno (dj := 6) (b := _) rfl rfl g6 rfl ?_
   refine L.nil (thn_n ⟨rfl, Gr.refl _ _, ?_⟩)
   refine ⟨?_, fun h => h.elim⟩
   repeat (first | exact jeq.refl _ _ _ | refine jeq.upd rfl ?_ | refine jeq.jk rfl rfl ?_)
  intro J6 w6 hw j6
  have hB := hB.carry hw; have hs := hs.carry hw; have bx1 := bx1.carry hw
  refine L.val (x_and rfl j6) rfl ?_
  refine L.val (x_as (v := .bool _) rfl) rfl ?_
  refine L.nil ?_
  refine thn_n ?_
  refine W.ret (fin_mk (.inr rfl) ?_)
  exact ⟨rfl, hB⟩
end Go.Gx
