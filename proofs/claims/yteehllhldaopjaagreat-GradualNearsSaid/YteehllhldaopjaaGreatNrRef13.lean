/- Layer 13 by the document: what is known, a part by its name, alike, near. Conditions: none. -/
import Derived.Test.YteehllhldaopjaaGreatNrAwake13
import Derived.Test.YteehllhldaopjaaGreatNrAlk
namespace Go.Gx
open Go.Proofs
theorem kref13_ag25 : aggT Tryz.prog 25 5 = true := by kernel_rfl
theorem kref13_en52 : Go.Proofs.Enters Tryz.prog 52 := Go.Proofs.enters_of Tryz.func52 (by kernel_rfl) rfl
theorem kref13_en53 : Go.Proofs.Enters Tryz.prog 53 := Go.Proofs.enters_of Tryz.func53 (by kernel_rfl) rfl
theorem kref13_fo25_0 : fieldOff Tryz.prog 25 0 = some 0 := by kernel_rfl
theorem kref13_fo25_3 : fieldOff Tryz.prog 25 3 = some 3 := by kernel_rfl
theorem kref13_fo25_4 : fieldOff Tryz.prog 25 4 = some 4 := by kernel_rfl
theorem kref13_oc22 : oneCellT Tryz.prog 22 = true := by kernel_rfl
theorem kref13_oc23 : oneCellT Tryz.prog 23 = true := by kernel_rfl
theorem kref13_oc3 : oneCellT Tryz.prog 3 = true := by kernel_rfl
theorem kref13_oc9 : oneCellT Tryz.prog 9 = true := by kernel_rfl
theorem kref13_si25 : structInfo Tryz.prog 25 = some ([(0, 1), (1, 1), (2, 1), (3, 1), (4, 1)], [Value.int .i64 0, S [], S [], Value.slice none 0 0, Value.slice none 0 0]) := by kernel_rfl
theorem kref13_sz25 : (Tryz.prog.info? 25).map (·.size) = some 5 := by kernel_rfl
theorem kref13_sz9 : (Tryz.prog.info? 9).map (·.size) = some 1 := by kernel_rfl
theorem kref13_zr25 : (Tryz.prog.info? 25).bind (·.zero) = some (Value.agg [Value.int .i64 0, S [], S [], Value.slice none 0 0, Value.slice none 0 0].toArray) := by kernel_rfl
theorem allL_all {p : Sh → Bool} : ∀ {l : List Sh}, (∀ j, j < l.length → (l.getD j default).allB p = true) → allL p l = true
  | [], _ => rfl
  | x :: l, h => by
    have h0 := h 0 (by simp)
    have ht := allL_all (l := l) fun j hj => by simpa using h (j + 1) (by simpa using hj)
    have h0 : x.allB p = true := by simpa using h0
    show (x.allB p && allL p l) = true
    rw [h0, ht]; rfl
theorem known13 : ∀ (N : Nat) (s : Sh), SizeOf.sizeOf s < N → ∀ (A : Nat → Prop) (cs : List Value) (w : World), ShC A w cs s →
    Ret Tryz.prog 53 #[.agg cs.toArray] w fun v w' => v = .bool (s.allB notAny) ∧ Bel w w' := by
  intro N
  induction N with
  | zero => intro s h; omega
  | succ N ih =>
    intro s hN A cs w hs
    obtain ⟨vn, vp, rfl, hn, hp, -⟩ := hs.inv
    obtain ⟨p, cap, row, rfl, p1, p2, p3, hr⟩ := hp
    refine ret_of_W Tryz.func53 rfl (Nat.le_of_ble_eq_true rfl) (res1 rfl) ?_
    have hB := Gr.refl (fun _ => False) w
    refine W.seq ?_
    refine W.region ?_
    refine L.box (cs := _) rfl rfl (fun w1 bx1 hw hz1 => ?_)
    have hB := hB.carry hw; have hr := hr.carry hw
    refine L.val (x_as (v := .bool _) rfl) rfl ?_
    refine L.nil ?_
    refine thn_n ?_
    refine W.seq ?_
    refine W.seq ?_
    refine W.region ?_
    refine L.val (x_as (v := .int _ _) rfl) rfl ?_
    refine L.nil ?_
    refine thn_n ?_
    refine W.block ?_
    refine W.loop (fun m' E w' => ∃ (k : Nat), m' = s.parts.length - k ∧ E 1 = .pointer (some ⟨w.heap.size, 0, none⟩) ∧ E 3 = .int .i64 (k : Nat) ∧ (Bel w w') ∧ (ShRow A w' p row s.parts) ∧ (Box w' w.heap.size 25 [.int .i64 s.kind, S s.of, S s.name, vn, .slice p s.parts.length cap]) ∧ (k ≤ s.parts.length) ∧ (∀ j, j < k → (s.parts.getD j default).allB notAny = true)) (s.parts.length) ?_ ?_
    ·exact ⟨0, by omega, by first | rfl | exact vi (by omega), by first | rfl | exact vi (by omega), (by first | assumption | omega | rfl), (by first | assumption | omega | rfl), (by first | assumption | omega | rfl), (by first | assumption | omega | rfl), (by intro j hj; omega)⟩
    ·rintro _ E wL4 ⟨k, em, e1, e3, hB, hr, bx1, hk, hall⟩
     rw [upd_self e1, upd_self e3]
     refine W.seq ?_
     refine W.seq ?_
     refine W.region ?_
     refine L.val (x_mv (v := .int _ _) rfl) rfl ?_
     refine L.val (x_fa kref13_fo25_4 rfl) rfl ?_
     refine L.val (x_ld (v := .slice _ _ _) kref13_oc23 rfl (bx1.cell0 rfl)) rfl ?_
     refine L.val (x_len_slice Tryz.underlying23 rfl) rfl ?_
     refine L.val (x_lss rfl rfl) rfl ?_
     refine L.nil ?_
     refine thn_n ?_
     refine W.cond (b := _) rfl (fun g8 => ?_) (fun g8 => ?_)
     ·have h8 := of_decide_eq_true g8
      have hip : k < s.parts.length := by omega
      obtain ⟨b, o, rfl, hc⟩ := hr.elem hip
      refine W.skip ?_
      refine thn_n ?_
      refine W.seq ?_
      refine W.block ?_
      refine W.seq ?_
      refine W.region ?_
      refine L.val (x_fa kref13_fo25_4 rfl) rfl ?_
      refine L.val (x_ld (v := .slice _ _ _) kref13_oc23 rfl (bx1.cell0 rfl)) rfl ?_
      refine L.val (x_mv (v := .int _ _) rfl) rfl ?_
      refine L.val (x_ia (j := k) Tryz.underlying23 kref13_sz25 rfl rfl (by omega) (by omega)) rfl ?_
      refine L.val (x_ldn (vs := row k) kref13_ag25 rfl (hr.five k hip) (hr.elemAt hip)) rfl ?_
      refine L.ret (x_call kref13_en53 rfl) rfl (ih _ (by have := Sh.part_lt hip; omega) A _ _ (hr.each k hip)) ?_
      rintro _ w16 ⟨rfl, hw⟩
      have hB := hB.carry hw; have hr := hr.carry hw; have bx1 := bx1.carry hw
      refine L.val (x_not rfl) rfl ?_
      refine L.nil ?_
      refine thn_n ?_
      refine W.cond (b := _) rfl (fun g17 => ?_) (fun g17 => ?_)
      ·have h17 := (not_t g17)
       refine W.seq ?_
       refine W.region ?_
       refine L.val (x_as (v := .bool _) rfl) rfl ?_
       refine L.nil ?_
       refine thn_n ?_
       refine W.ret (blk_r (thn_r (thn_r (blk_r (thn_r (fin_mk (.inr rfl) ?_))))))
       exact ⟨vb (by rw [Sh.allB_eq, allL_miss hip h17]; simp), hB⟩
      ·have h17 := (not_f g17)
       refine W.skip ?_
       refine blk_n ?_
       refine thn_n ?_
       refine W.region ?_
       refine L.val (x_mv (v := .int _ _) rfl) rfl ?_
       refine L.val (x_add rfl rfl (wr64 (by omega))) rfl ?_
       refine L.val (x_as (v := .int _ _) rfl) rfl ?_
       refine L.nil ?_
       refine thn_n ⟨rfl, ?_⟩
       refine ⟨_, ?_, k + 1, rfl, by first | rfl | exact vi (by omega), by first | rfl | exact vi (by omega), (by first | assumption | omega | rfl), (by first | assumption | omega | rfl), (by first | assumption | omega | rfl), (by first | assumption | omega | rfl), (by intro j hj; by_cases e : j = k; subst e; exact h17; exact hall j (by omega))⟩
       omega
     ·have h8 := dlt_f g8
      refine W.exit (thn_x (thn_x (blk_hit ?_)))
      refine thn_n ?_
      refine W.seq ?_
      refine W.region ?_
      refine L.val (x_fa kref13_fo25_0 rfl) rfl ?_
      refine L.val (x_ld (v := .int _ _) kref13_oc3 rfl (bx1.cell0 rfl)) rfl ?_
      refine L.val (x_neq rfl rfl) rfl ?_
      refine L.val (x_as (v := .bool _) rfl) rfl ?_
      refine L.nil ?_
      refine thn_n ?_
      refine W.ret (fin_mk (.inr rfl) ?_)
      exact ⟨vb (by rw [Sh.allB_eq, allL_all (fun j hj => hall j (by omega))]; simp [notAny]), hB⟩
theorem plain13 (A : Nat → Prop) (s : Sh) (cs : List Value) (w : World) (hs : ShC A w cs s) :
    Ret Tryz.prog 16 #[.agg cs.toArray] w fun v w' => v = .bool (decide (checkS s = 0) && s.allB notAny) ∧ Bel w w' := by
  have hl := hs.len
  refine ret_of_W Tryz.func16 rfl (Nat.le_of_ble_eq_true rfl) (res1 rfl) ?_
  have hB := Gr.refl (fun _ => False) w
  refine W.seq ?_
  refine W.region ?_
  refine L.box (cs := cs) rfl rfl (fun w1 bx1 hw hz1 => ?_)
  have hB := hB.carry hw; have hs := hs.carry hw
  refine L.val (x_as (v := .bool _) rfl) rfl ?_
  refine L.nil ?_
  refine thn_n ?_
  refine W.seq ?_
  refine W.region ?_
  refine L.val (x_ldn (vs := cs) kref13_ag25 rfl hl (bx1.row hl)) rfl ?_
  refine L.ret (x_call kref13_en52 rfl) rfl (check07 A s _ _ hs) ?_
  rintro _ w4 ⟨rfl, hw⟩
  have hB := hB.carry hw; have hs := hs.carry hw; have bx1 := bx1.carry hw
  refine L.val (x_eql rfl rfl) rfl ?_
  refine L.val (x_mv (v := .bool _) rfl) rfl ?_
  refine' L.group 2 7 8 8 6 true rfl ?_ ?_ ?_
  rotate_left 1
  ·intro g6 hg6
   have h6 := of_decide_eq_true g6
   refine L.gyes' (dj := 6) (b := _) rfl rfl g6 ?_
   refine L.val (x_ldn (vs := cs) kref13_ag25 rfl hl (bx1.row hl)) rfl ?_
   refine L.gyes' (dj := 6) (b := _) rfl rfl g6 ?_
   refine L.ret (x_call kref13_en53 rfl) rfl (known13 _ s (Nat.lt_succ_self _) A _ _ hs) ?_
   rintro _ w8 ⟨rfl, hw⟩
   have hB := hB.carry hw; have hs := hs.carry hw; have bx1 := bx1.carry hw; have hg6 := hg6.carry hw
   refine L.nil ?_
   refine thn_n ⟨rfl, ?_, ?_, fun _ => rfl⟩
   ·exact hg6
   ·repeat (first | exact jeq.refl _ _ _ | refine jeq.upd rfl ?_ | refine jeq.jk rfl rfl ?_)
  ·intro g6
   refine L.gno (dj := 6) (b := _) rfl rfl g6 rfl ?_
   refine L.gno (dj := 6) (b := _) rfl rfl g6 rfl ?_
   refine L.nil (thn_n ⟨rfl, Gr.refl _ _, ?_⟩)
   refine ⟨?_, fun h => h.elim⟩
   repeat (first | exact jeq.refl _ _ _ | refine jeq.upd rfl ?_ | refine jeq.jk rfl rfl ?_)
  intro J6 w6 hw j6
  have hB := hB.carry hw; have hs := hs.carry hw; have bx1 := bx1.carry hw
  refine L.val (x_and rfl j6) rfl ?_
  refine L.val (x_as (v := .bool _) rfl) rfl ?_
  refine L.nil ?_
  refine thn_n ?_
  refine W.ret (fin_mk (.inr rfl) ?_)
  exact ⟨rfl, hB⟩
def partV (s : Sh) (x : Str) : Sh := if idxS x s.names < s.names.length then s.parts.getD (idxS x s.names) default else zeroS
theorem zeroC (A : Nat → Prop) (w : World) : ShC A w [.int .i64 0, S [], S [], .slice none 0 0, .slice none 0 0] zeroS := ShC.intro (StrsAt.nil _ _ _ _ (by simp)) (ShsAt.nil _ _ _ _ (by simp)) (by simp) (by simp)
theorem part13 (A : Nat → Prop) (s : Sh) (x : Str) (cs : List Value) (w : World) (hs : ShC A w cs s) (hfs : s.names = [] ∨ s.names.length = s.parts.length) :
    Ret Tryz.prog 110 #[.agg cs.toArray, S x] w fun v w' => ∃ cs', v = .tuple #[.agg cs'.toArray, .bool (decide (idxS x s.names < s.names.length))] ∧ ShC (fun k => A k ∨ w.heap.size ≤ k) w' cs' (partV s x) ∧ Bel w w' := by
  have hs := hs.up
  obtain ⟨vn, vp, rfl, hn, hp, -⟩ := hs.inv
  obtain ⟨p, cap, row, rfl, p1, p2, p3, hr⟩ := hp
  obtain ⟨pn, capn, rfl, n1, n2, n3, hL, -⟩ := id hn
  refine ret_of_W_R Tryz.func110 rfl (Nat.le_of_ble_eq_true rfl) ?_
  have hB := Gr.refl (fun _ => False) w
  refine W.seq ?_
  refine W.region ?_
  refine L.box (cs := _) rfl rfl (fun w2 bx2 hw hz2 => ?_)
  have hB := hB.carry hw; have hn := hn.carry hw; have hr := hr.carry hw
  refine L.alloc (cs := [Value.int .i64 0, S [], S [], Value.slice none 0 0, Value.slice none 0 0]) kref13_zr25 rfl rfl (fun w4 bx4 hw hz4 => ?_)
  have hB := hB.carry hw; have hn := hn.carry hw; have hr := hr.carry hw; have bx2 := bx2.carry hw
  obtain ⟨b4, hb4⟩ : ∃ b4, b4 = w2.heap.size := ⟨_, rfl⟩
  rw [← hb4] at bx4 ⊢
  have z4 : w.heap.size < b4 := by omega
  refine L.val (x_as (v := .bool _) rfl) rfl ?_
  refine L.nil ?_
  refine thn_n ?_
  refine W.seq ?_
  refine W.seq ?_
  refine W.region ?_
  refine L.val (x_as (v := .int _ _) rfl) rfl ?_
  refine L.nil ?_
  refine thn_n ?_
  refine W.block ?_
  refine W.loop (fun m' E w' => ∃ (k : Nat), m' = s.names.length - k ∧ E 1 = S x ∧ E 2 = .pointer (some ⟨w.heap.size, 0, none⟩) ∧ E 4 = .pointer (some ⟨b4, 0, none⟩) ∧ E 6 = .int .i64 (k : Nat) ∧ (Bel w w') ∧ (StrsAt (fun k => A k ∨ w.heap.size ≤ k) w' (.slice pn s.names.length capn) s.names) ∧ (ShRow (fun k => A k ∨ w.heap.size ≤ k) w' p row s.parts) ∧ (Box w' w.heap.size 25 [.int .i64 s.kind, S s.of, S s.name, .slice pn s.names.length capn, .slice p s.parts.length cap]) ∧ (Box w' b4 25 [.int .i64 0, S [], S [], .slice none 0 0, .slice none 0 0]) ∧ (k ≤ s.names.length) ∧ (∀ j, j < k → s.names.getD j [] ≠ x)) (s.names.length) ?_ ?_
  ·exact ⟨0, by omega, by first | rfl | exact vi (by omega), by first | rfl | exact vi (by omega), by first | rfl | exact vi (by omega), by first | rfl | exact vi (by omega), (by first | assumption | omega | rfl), (by first | assumption | omega | rfl), (by first | assumption | omega | rfl), (by first | assumption | omega | rfl), (by first | assumption | omega | rfl), (by first | assumption | omega | rfl), (by intro j hj; omega)⟩
  ·rintro _ E wL7 ⟨k, em, e1, e2, e4, e6, hB, hn, hr, bx2, bx4, hk, hne⟩
   rw [upd_self e1, upd_self e2, upd_self e4, upd_self e6]
   refine W.seq ?_
   refine W.seq ?_
   refine W.region ?_
   refine L.val (x_mv (v := .int _ _) rfl) rfl ?_
   refine L.val (x_fa kref13_fo25_3 rfl) rfl ?_
   refine L.val (x_ld (v := .slice _ _ _) kref13_oc22 rfl (bx2.cell0 rfl)) rfl ?_
   refine L.val (x_len_slice Tryz.underlying22 rfl) rfl ?_
   refine L.val (x_lss rfl rfl) rfl ?_
   refine L.nil ?_
   refine thn_n ?_
   refine W.cond (b := _) rfl (fun g11 => ?_) (fun g11 => ?_)
   ·have h11 := of_decide_eq_true g11
    have hlt : k < s.names.length := by omega
    have hip : k < s.parts.length := by rcases hfs with e | e; rw [e] at hlt; simp at hlt; omega
    obtain ⟨bn, on, rfl, hcn⟩ := hn.elem hlt
    obtain ⟨b, o, rfl, hc⟩ := hr.elem hip
    refine W.skip ?_
    refine thn_n ?_
    refine W.seq ?_
    refine W.block ?_
    refine W.seq ?_
    refine W.region ?_
    refine L.val (x_fa kref13_fo25_3 rfl) rfl ?_
    refine L.val (x_ld (v := .slice _ _ _) kref13_oc22 rfl (bx2.cell0 rfl)) rfl ?_
    refine L.val (x_mv (v := .int _ _) rfl) rfl ?_
    refine L.val (x_ia1 (j := k) Tryz.underlying22 kref13_sz9 rfl rfl (by omega) (by omega)) rfl ?_
    refine L.val (x_ld (v := S _) kref13_oc9 rfl hcn) rfl ?_
    refine L.val (x_mv (v := S _) rfl) rfl ?_
    refine L.val (x_eqs rfl rfl) rfl ?_
    refine L.nil ?_
    refine thn_n ?_
    refine W.cond (b := _) rfl (fun g20 => ?_) (fun g20 => ?_)
    ·have h20 := seq_t g20
     refine W.seq ?_
     refine W.region ?_
     refine L.val (x_fa kref13_fo25_4 rfl) rfl ?_
     refine L.val (x_ld (v := .slice _ _ _) kref13_oc23 rfl (bx2.cell0 rfl)) rfl ?_
     refine L.val (x_mv (v := .int _ _) rfl) rfl ?_
     refine L.val (x_ia (j := k) Tryz.underlying23 kref13_sz25 rfl rfl (by omega) (by omega)) rfl ?_
     refine L.val (x_ldn (vs := row k) kref13_ag25 rfl (hr.five k hip) (hr.elemAt hip)) rfl ?_
     refine L.setRow kref13_ag25 rfl rfl bx4 rfl (hr.five k hip) (ShC.one (hr.each k hip)) (fun wl22 bx4 hw hzl22 => ?_)
     have hsz := hB.size
     have hB := hB.set hw (by omega); have hn := hn.carryR hw (fun j e => .inr (by have e : j = _ := e; omega)); have hr := hr.carryR hw (fun j e => .inr (by have e : j = _ := e; omega)); have bx2 := bx2.carryR hw (by omega)
     refine L.val (x_as (v := .bool _) rfl) rfl ?_
     refine L.nil ?_
     refine thn_n ?_
     refine W.ret (blk_r (thn_r (thn_r (blk_r (thn_r (finR_mk (.inr rfl) ?_))))))
     have hi : idxS x s.names = k := idxOf_at hlt h20 hne
     have e : partV s x = s.parts.getD k default := by unfold partV; rw [hi, if_pos hlt]
     refine ⟨_, resST (v := .bool true) rfl kref13_ag25 rfl rfl bx4 (hr.five k hip), row k, by rw [hi]; simp [hlt], by rw [e]; exact hr.each k hip, hB⟩
    ·have h20 := seq_f g20
     refine W.skip ?_
     refine blk_n ?_
     refine thn_n ?_
     refine W.region ?_
     refine L.val (x_mv (v := .int _ _) rfl) rfl ?_
     refine L.val (x_add rfl rfl (wr64 (by omega))) rfl ?_
     refine L.val (x_as (v := .int _ _) rfl) rfl ?_
     refine L.nil ?_
     refine thn_n ⟨rfl, ?_⟩
     refine ⟨_, ?_, k + 1, rfl, by first | rfl | exact vi (by omega), by first | rfl | exact vi (by omega), by first | rfl | exact vi (by omega), by first | rfl | exact vi (by omega), (by first | assumption | omega | rfl), (by first | assumption | omega | rfl), (by first | assumption | omega | rfl), (by first | assumption | omega | rfl), (by first | assumption | omega | rfl), (by first | assumption | omega | rfl), (by intro j hj; by_cases e : j = k; subst e; exact h20; exact hne j (by omega))⟩
     omega
   ·have h11 := dlt_f g11
    refine W.exit (thn_x (thn_x (blk_hit ?_)))
    refine thn_n ?_
    refine W.seq ?_
    refine W.region ?_
    refine L.val (x_build (cells := [.int _ _, S _, S _, .slice _ _ _, .slice _ _ _]) kref13_si25 rfl rfl) rfl ?_
    refine L.setRow kref13_ag25 rfl rfl bx4 rfl rfl (by simp [Value.oneCell', S]) (fun wl28 bx4 hw hzl28 => ?_)
    have hsz := hB.size
    have hB := hB.set hw (by omega); have hn := hn.carryR hw (fun j e => .inr (by have e : j = _ := e; omega)); have hr := hr.carryR hw (fun j e => .inr (by have e : j = _ := e; omega)); have bx2 := bx2.carryR hw (by omega)
    refine L.val (x_as (v := .bool _) rfl) rfl ?_
    refine L.nil ?_
    refine thn_n ?_
    refine W.ret (finR_mk (.inr rfl) ?_)
    have hi : idxS x s.names = s.names.length := idxOf_no (fun j hj => hne j (by omega))
    have e : partV s x = zeroS := by unfold partV; rw [hi, if_neg (by omega)]
    refine ⟨_, resST (v := .bool false) rfl kref13_ag25 rfl rfl bx4 rfl, [.int .i64 0, S [], S [], .slice none 0 0, .slice none 0 0], by rw [hi]; simp, by rw [e]; exact zeroC _ _, hB⟩
end Go.Gx
