/- Below, by the document. Conditions: none. -/
import Derived.Test.YteehllhldaopjaaGreatBwAwake12
import Derived.Test.YteehllhldaopjaaGreatBwFree
namespace Go.Gx
open Go.Proofs
theorem kref12_ag25 : aggT Tryz.prog 25 5 = true := by kernel_rfl
theorem kref12_en116 : Go.Proofs.Enters Tryz.prog 116 := Go.Proofs.enters_of Tryz.func116 (by kernel_rfl) rfl
theorem kref12_en27 : Go.Proofs.Enters Tryz.prog 27 := Go.Proofs.enters_of Tryz.func27 (by kernel_rfl) rfl
theorem kref12_en28 : Go.Proofs.Enters Tryz.prog 28 := Go.Proofs.enters_of Tryz.func28 (by kernel_rfl) rfl
theorem kref12_en29 : Go.Proofs.Enters Tryz.prog 29 := Go.Proofs.enters_of Tryz.func29 (by kernel_rfl) rfl
theorem kref12_en52 : Go.Proofs.Enters Tryz.prog 52 := Go.Proofs.enters_of Tryz.func52 (by kernel_rfl) rfl
theorem kref12_en65 : Go.Proofs.Enters Tryz.prog 65 := Go.Proofs.enters_of Tryz.func65 (by kernel_rfl) rfl
theorem kref12_fo25_0 : fieldOff Tryz.prog 25 0 = some 0 := by kernel_rfl
theorem kref12_fo25_1 : fieldOff Tryz.prog 25 1 = some 1 := by kernel_rfl
theorem kref12_fo25_2 : fieldOff Tryz.prog 25 2 = some 2 := by kernel_rfl
theorem kref12_fo25_3 : fieldOff Tryz.prog 25 3 = some 3 := by kernel_rfl
theorem kref12_fo25_4 : fieldOff Tryz.prog 25 4 = some 4 := by kernel_rfl
theorem kref12_mixed : Tryz.prog.follows .mixedOrders = true := by kernel_rfl
theorem kref12_oc22 : oneCellT Tryz.prog 22 = true := by kernel_rfl
theorem kref12_oc23 : oneCellT Tryz.prog 23 = true := by kernel_rfl
theorem kref12_oc3 : oneCellT Tryz.prog 3 = true := by kernel_rfl
theorem kref12_oc9 : oneCellT Tryz.prog 9 = true := by kernel_rfl
theorem kref12_si25 : structInfo Tryz.prog 25 = some ([(0, 1), (1, 1), (2, 1), (3, 1), (4, 1)], [Value.int .i64 0, S [], S [], Value.slice none 0 0, Value.slice none 0 0]) := by kernel_rfl
theorem kref12_sz25 : (Tryz.prog.info? 25).map (·.size) = some 5 := by kernel_rfl
theorem kref12_sz9 : (Tryz.prog.info? 9).map (·.size) = some 1 := by kernel_rfl
theorem kref12_zr25 : (Tryz.prog.info? 25).bind (·.zero) = some (Value.agg [Value.int .i64 0, S [], S [], Value.slice none 0 0, Value.slice none 0 0].toArray) := by kernel_rfl
def partW (s : Sh) (x : Str) : Sh := if idxS x s.names < s.names.length then s.parts.getD (idxS x s.names) default else zeroS
theorem part12 (A : Nat → Prop) (s : Sh) (x : Str) (cs : List Value) (w : World) (hs : ShC A w cs s) (hfs : s.names = [] ∨ s.names.length = s.parts.length) :
    Ret Tryz.prog 116 #[.agg cs.toArray, S x] w fun v w' => ∃ cs', v = .tuple #[.agg cs'.toArray, .bool (decide (idxS x s.names < s.names.length))] ∧ ShC (fun k => A k ∨ w.heap.size ≤ k) w' cs' (partW s x) ∧ Bel w w' := by
  have hs := hs.up
  obtain ⟨vn, vp, rfl, hn, hp, -⟩ := hs.inv
  obtain ⟨p, cap, row, rfl, p1, p2, p3, hr⟩ := hp
  obtain ⟨pn, capn, rfl, n1, n2, n3, hL, -⟩ := id hn
  refine ret_of_W_R Tryz.func116 rfl (Nat.le_of_ble_eq_true rfl) ?_
  have hB := Gr.refl (fun _ => False) w
  refine W.seq ?_
  refine W.region ?_
  refine L.box (cs := _) rfl rfl (fun w2 bx2 hw hz2 => ?_)
  have hB := hB.carry hw; have hn := hn.carry hw; have hr := hr.carry hw
  refine L.alloc (cs := [Value.int .i64 0, S [], S [], Value.slice none 0 0, Value.slice none 0 0]) kref12_zr25 rfl rfl (fun w4 bx4 hw hz4 => ?_)
  have hB := hB.carry hw; have hn := hn.carry hw; have hr := hr.carry hw; have bx2 := bx2.carry hw
  obtain ⟨b4, hb4⟩ : ∃ b4, b4 = w2.heap.size := ⟨_, rfl⟩
  rw [← hb4] at bx4 ⊢
  have z4 : w.heap.size < b4 := by omega
  refine L.val (x_as (v := .bool _) rfl) rfl ?_
  refine L.nil ?_
  refine thn_n ?_
  refine W.seq ?_
  refine W.seq ?_
  refine W.region ?_
  refine L.val (x_as (v := .int _ _) rfl) rfl ?_
  refine L.nil ?_
  refine thn_n ?_
  refine W.block ?_
  refine W.loop (fun m' E w' => ∃ (k : Nat), m' = s.names.length - k ∧ E 1 = S x ∧ E 2 = .pointer (some ⟨w.heap.size, 0, none⟩) ∧ E 4 = .pointer (some ⟨b4, 0, none⟩) ∧ E 6 = .int .i64 (k : Nat) ∧ (Bel w w') ∧ (StrsAt (fun k => A k ∨ w.heap.size ≤ k) w' (.slice pn s.names.length capn) s.names) ∧ (ShRow (fun k => A k ∨ w.heap.size ≤ k) w' p row s.parts) ∧ (Box w' w.heap.size 25 [.int .i64 s.kind, S s.of, S s.name, .slice pn s.names.length capn, .slice p s.parts.length cap]) ∧ (Box w' b4 25 [.int .i64 0, S [], S [], .slice none 0 0, .slice none 0 0]) ∧ (k ≤ s.names.length) ∧ (∀ j, j < k → s.names.getD j [] ≠ x)) (s.names.length) ?_ ?_
  ·exact ⟨0, by omega, by first | rfl | exact vi (by omega), by first | rfl | exact vi (by omega), by first | rfl | exact vi (by omega), by first | rfl | exact vi (by omega), (by first | assumption | omega | rfl), (by first | assumption | omega | rfl), (by first | assumption | omega | rfl), (by first | assumption | omega | rfl), (by first | assumption | omega | rfl), (by first | assumption | omega | rfl), (by intro j hj; omega)⟩
  ·rintro _ E wL7 ⟨k, em, e1, e2, e4, e6, hB, hn, hr, bx2, bx4, hk, hne⟩
   rw [upd_self e1, upd_self e2, upd_self e4, upd_self e6]
   refine W.seq ?_
   refine W.seq ?_
   refine W.region ?_
   refine L.val (x_mv (v := .int _ _) rfl) rfl ?_
   refine L.val (x_fa kref12_fo25_3 rfl) rfl ?_
   refine L.val (x_ld (v := .slice _ _ _) kref12_oc22 rfl (bx2.cell0 rfl)) rfl ?_
   refine L.val (x_len_slice Tryz.underlying22 rfl) rfl ?_
   refine L.val (x_lss rfl rfl) rfl ?_
   refine L.nil ?_
   refine thn_n ?_
   refine W.cond (b := _) rfl (fun g11 => ?_) (fun g11 => ?_)
   ·have h11 := of_decide_eq_true g11
    have hlt : k < s.names.length := by omega
    have hip : k < s.parts.length := by rcases hfs with e | e; rw [e] at hlt; simp at hlt; omega
    obtain ⟨bn, on, rfl, hcn⟩ := hn.elem hlt
    obtain ⟨b, o, rfl, hc⟩ := hr.elem hip
    refine W.skip ?_
    refine thn_n ?_
    refine W.seq ?_
    refine W.block ?_
    refine W.seq ?_
    refine W.region ?_
    refine L.val (x_fa kref12_fo25_3 rfl) rfl ?_
    refine L.val (x_ld (v := .slice _ _ _) kref12_oc22 rfl (bx2.cell0 rfl)) rfl ?_
    refine L.val (x_mv (v := .int _ _) rfl) rfl ?_
    refine L.val (x_ia1 (j := k) Tryz.underlying22 kref12_sz9 rfl rfl (by omega) (by omega)) rfl ?_
    refine L.val (x_ld (v := S _) kref12_oc9 rfl hcn) rfl ?_
    refine L.val (x_mv (v := S _) rfl) rfl ?_
    refine L.val (x_eqs rfl rfl) rfl ?_
    refine L.nil ?_
    refine thn_n ?_
    refine W.cond (b := _) rfl (fun g20 => ?_) (fun g20 => ?_)
    ·have h20 := seq_t g20
     refine W.seq ?_
     refine W.region ?_
     refine L.val (x_fa kref12_fo25_4 rfl) rfl ?_
     refine L.val (x_ld (v := .slice _ _ _) kref12_oc23 rfl (bx2.cell0 rfl)) rfl ?_
     refine L.val (x_mv (v := .int _ _) rfl) rfl ?_
     refine L.val (x_ia (j := k) Tryz.underlying23 kref12_sz25 rfl rfl (by omega) (by omega)) rfl ?_
     refine L.val (x_ldn (vs := row k) kref12_ag25 rfl (hr.five k hip) (hr.elemAt hip)) rfl ?_
     refine L.setRow kref12_ag25 rfl rfl bx4 rfl (hr.five k hip) (ShC.one (hr.each k hip)) (fun wl22 bx4 hw hzl22 => ?_)
     have hsz := hB.size
     have hB := hB.set hw (by omega); have hn := hn.carryR hw (fun j e => .inr (by have e : j = _ := e; omega)); have hr := hr.carryR hw (fun j e => .inr (by have e : j = _ := e; omega)); have bx2 := bx2.carryR hw (by omega)
     refine L.val (x_as (v := .bool _) rfl) rfl ?_
     refine L.nil ?_
     refine thn_n ?_
     refine W.ret (blk_r (thn_r (thn_r (blk_r (thn_r (finR_mk (.inr rfl) ?_))))))
     have hi : idxS x s.names = k := idxOf_at hlt h20 hne
     have e : partW s x = s.parts.getD k default := by unfold partW; rw [hi, if_pos hlt]
     refine ⟨_, resST (v := .bool true) rfl kref12_ag25 rfl rfl bx4 (hr.five k hip), row k, by rw [hi]; simp [hlt], by rw [e]; exact hr.each k hip, hB⟩
    ·have h20 := seq_f g20
     refine W.skip ?_
     refine blk_n ?_
     refine thn_n ?_
     refine W.region ?_
     refine L.val (x_mv (v := .int _ _) rfl) rfl ?_
     refine L.val (x_add rfl rfl (wr64 (by omega))) rfl ?_
     refine L.val (x_as (v := .int _ _) rfl) rfl ?_
     refine L.nil ?_
     refine thn_n ⟨rfl, ?_⟩
     refine ⟨_, ?_, k + 1, rfl, by first | rfl | exact vi (by omega), by first | rfl | exact vi (by omega), by first | rfl | exact vi (by omega), by first | rfl | exact vi (by omega), (by first | assumption | omega | rfl), (by first | assumption | omega | rfl), (by first | assumption | omega | rfl), (by first | assumption | omega | rfl), (by first | assumption | omega | rfl), (by first | assumption | omega | rfl), (by intro j hj; by_cases e : j = k; subst e; exact h20; exact hne j (by omega))⟩
     omega
   ·have h11 := dlt_f g11
    refine W.exit (thn_x (thn_x (blk_hit ?_)))
    refine thn_n ?_
    refine W.seq ?_
    refine W.region ?_
    refine L.val (x_build (cells := [.int _ _, S _, S _, .slice _ _ _, .slice _ _ _]) kref12_si25 rfl rfl) rfl ?_
    refine L.setRow kref12_ag25 rfl rfl bx4 rfl rfl (by simp [Value.oneCell', S]) (fun wl28 bx4 hw hzl28 => ?_)
    have hsz := hB.size
    have hB := hB.set hw (by omega); have hn := hn.carryR hw (fun j e => .inr (by have e : j = _ := e; omega)); have hr := hr.carryR hw (fun j e => .inr (by have e : j = _ := e; omega)); have bx2 := bx2.carryR hw (by omega)
    refine L.val (x_as (v := .bool _) rfl) rfl ?_
    refine L.nil ?_
    refine thn_n ?_
    refine W.ret (finR_mk (.inr rfl) ?_)
    have hi : idxS x s.names = s.names.length := idxOf_no (fun j hj => hne j (by omega))
    have e : partW s x = zeroS := by unfold partW; rw [hi, if_neg (by omega)]
    refine ⟨_, resST (v := .bool false) rfl kref12_ag25 rfl rfl bx4 rfl, [.int .i64 0, S [], S [], .slice none 0 0, .slice none 0 0], by rw [hi]; simp, by rw [e]; exact zeroC _ _, hB⟩
theorem und12 : ∀ (N : Nat) (a b : Sh), SizeOf.sizeOf a + SizeOf.sizeOf b < N → a.allB fitsS = true → b.allB fitsS = true → ∀ (A0 B0 : Nat → Prop) (xs ys : List Value) (w : World), ShC A0 w xs a → ShC B0 w ys b →
    Ret Tryz.prog 65 #[.agg xs.toArray, .agg ys.toArray] w fun v w' => v = .bool (undN N a b) ∧ Bel w w' := by
  intro N
  induction N with
  | zero => intro a b h; omega
  | succ N ih =>
    intro a b hN hfa hfb A0 B0 xs ys w ha0 hb0
    obtain ⟨A, ha, hA⟩ : ∃ A : Nat → Prop, ShC A w xs a ∧ (∀ k, w.heap.size ≤ k → A k) := ⟨_, ha0.up, fun _ => .inr⟩
    obtain ⟨B, hb, hBu⟩ : ∃ B : Nat → Prop, ShC B w ys b ∧ (∀ k, w.heap.size ≤ k → B k) := ⟨_, hb0.up, fun _ => .inr⟩
    clear ha0 hb0
    obtain ⟨vna, vpa, rfl, hna, hpa, -⟩ := id ha.inv
    obtain ⟨p, cap, rowa, rfl, p1, p2, p3, hra⟩ := hpa
    obtain ⟨pn, capn, rfl, n1, n2, n3, hLa, -⟩ := id hna
    obtain ⟨vnb, vpb, rfl, hnb, hpb, -⟩ := id hb.inv
    obtain ⟨q, capq, rowb, rfl, q1, q2, q3, hrb⟩ := hpb
    obtain ⟨qn, capqn, rfl, m1, m2, m3, hLb, -⟩ := id hnb
    have hfsa : a.names = [] ∨ a.names.length = a.parts.length := (fits_names (allB_fit hfa)).imp id (·.1)
    have hfsb : b.names = [] ∨ b.names.length = b.parts.length := (fits_names (allB_fit hfb)).imp id (·.1)
    have hI := fun (i j : Nat) (hi : i < a.parts.length) (hj : j < b.parts.length) => ih (a.parts.getD i default) (b.parts.getD j default) (by have := Sh.part_lt hi; have := Sh.part_lt hj; omega) (part_fit hfa hi) (part_fit hfb hj)
    have hI' := fun (i j : Nat) (hi : i < a.parts.length) (hj : j < b.parts.length) => ih (b.parts.getD j default) (a.parts.getD i default) (by have := Sh.part_lt hi; have := Sh.part_lt hj; omega) (part_fit hfb hj) (part_fit hfa hi)
    refine ret_of_W Tryz.func65 rfl (Nat.le_of_ble_eq_true rfl) (res1 rfl) ?_
    have hB := Gr.refl (fun _ => False) w
    refine W.seq ?_
    refine W.region ?_
    refine L.box (cs := _) rfl rfl (fun w2 bx2 hw hz2 => ?_)
    have hB := hB.carry hw; have ha := ha.carry hw; have hb := hb.carry hw; have hna := hna.carry hw; have hra := hra.carry hw; have hnb := hnb.carry hw; have hrb := hrb.carry hw
    refine L.box (cs := _) rfl rfl (fun w3 bx3 hw hz3 => ?_)
    have hB := hB.carry hw; have ha := ha.carry hw; have hb := hb.carry hw; have hna := hna.carry hw; have hra := hra.carry hw; have hnb := hnb.carry hw; have hrb := hrb.carry hw; have bx2 := bx2.carry hw
    obtain ⟨b3, hb3⟩ : ∃ b3, b3 = w2.heap.size := ⟨_, rfl⟩
    rw [← hb3] at bx3 ⊢
    have z3 : w.heap.size < b3 := by omega
    refine L.val (x_as (v := .bool _) rfl) rfl ?_
    refine L.nil ?_
    refine thn_n ?_
    refine W.seq ?_
    refine W.seq ?_
    refine W.region ?_
    refine L.val (x_fa kref12_fo25_0 rfl) rfl ?_
    refine L.val (x_ld (v := .int _ _) kref12_oc3 rfl (bx2.cell0 rfl)) rfl ?_
    refine L.val (x_fa kref12_fo25_0 rfl) rfl ?_
    refine L.val (x_ld (v := .int _ _) kref12_oc3 rfl (bx3.cell0 rfl)) rfl ?_
    refine L.val (x_neq rfl rfl) rfl ?_
    refine L.val (x_mv (v := .bool _) rfl) rfl ?_
    refine' L.group0 5 18 22 22 17 false rfl ?_ ?_ ?_
    rotate_left 1
    ·intro g17
     have h17 := dne_f g17
     refine L.gyes' (dj := 17) (b := _) rfl rfl g17 ?_
     refine L.val (x_fa kref12_fo25_1 rfl) rfl ?_
     refine L.gyes' (dj := 17) (b := _) rfl rfl g17 ?_
     refine L.val (x_ld (v := S _) kref12_oc9 rfl (bx2.cell0 rfl)) rfl ?_
     refine L.gyes' (dj := 17) (b := _) rfl rfl g17 ?_
     refine L.val (x_fa kref12_fo25_1 rfl) rfl ?_
     refine L.gyes' (dj := 17) (b := _) rfl rfl g17 ?_
     refine L.val (x_ld (v := S _) kref12_oc9 rfl (bx3.cell0 rfl)) rfl ?_
     refine L.gyes' (dj := 17) (b := _) rfl rfl g17 ?_
     refine L.val (x_nes rfl rfl) rfl ?_
     refine L.nil ?_
     refine thn_n ⟨rfl, rfl, ?_, rfl⟩
     repeat (first | exact jeq.refl _ _ _ | refine jeq.upd rfl ?_ | refine jeq.jk rfl rfl ?_)
    ·intro g17
     refine L.gno (dj := 17) (b := _) rfl rfl g17 rfl ?_
     refine L.gno (dj := 17) (b := _) rfl rfl g17 rfl ?_
     refine L.gno (dj := 17) (b := _) rfl rfl g17 rfl ?_
     refine L.gno (dj := 17) (b := _) rfl rfl g17 rfl ?_
     refine L.gno (dj := 17) (b := _) rfl rfl g17 rfl ?_
     refine L.nil (thn_n ⟨rfl, rfl, ?_⟩)
     repeat (first | exact jeq.refl _ _ _ | refine jeq.upd rfl ?_ | refine jeq.jk rfl rfl ?_)
    intro J17 j17
    refine L.val (x_or rfl j17) rfl ?_
    refine L.val (x_mv (v := .bool _) rfl) rfl ?_
    refine' L.group0 5 25 29 29 24 false rfl ?_ ?_ ?_
    rotate_left 1
    ·intro g24
     have h24 := g24
     refine L.gyes' (dj := 24) (b := _) rfl rfl g24 ?_
     refine L.val (x_fa kref12_fo25_2 rfl) rfl ?_
     refine L.gyes' (dj := 24) (b := _) rfl rfl g24 ?_
     refine L.val (x_ld (v := S _) kref12_oc9 rfl (bx2.cell0 rfl)) rfl ?_
     refine L.gyes' (dj := 24) (b := _) rfl rfl g24 ?_
     refine L.val (x_fa kref12_fo25_2 rfl) rfl ?_
     refine L.gyes' (dj := 24) (b := _) rfl rfl g24 ?_
     refine L.val (x_ld (v := S _) kref12_oc9 rfl (bx3.cell0 rfl)) rfl ?_
     refine L.gyes' (dj := 24) (b := _) rfl rfl g24 ?_
     refine L.val (x_nes rfl rfl) rfl ?_
     refine L.nil ?_
     refine thn_n ⟨rfl, rfl, ?_, rfl⟩
     repeat (first | exact jeq.refl _ _ _ | refine jeq.upd rfl ?_ | refine jeq.jk rfl rfl ?_)
    ·intro g24
     refine L.gno (dj := 24) (b := _) rfl rfl g24 rfl ?_
     refine L.gno (dj := 24) (b := _) rfl rfl g24 rfl ?_
     refine L.gno (dj := 24) (b := _) rfl rfl g24 rfl ?_
     refine L.gno (dj := 24) (b := _) rfl rfl g24 rfl ?_
     refine L.gno (dj := 24) (b := _) rfl rfl g24 rfl ?_
     refine L.nil (thn_n ⟨rfl, rfl, ?_⟩)
     repeat (first | exact jeq.refl _ _ _ | refine jeq.upd rfl ?_ | refine jeq.jk rfl rfl ?_)
    intro J24 j24
    refine L.val (x_or rfl j24) rfl ?_
    refine L.nil ?_
    refine thn_n ?_
    refine W.cond (b := _) rfl (fun g30 => ?_) (fun g30 => ?_)
    ·have h30 := g30
     have q2e : a.kind ≠ b.kind ∨ a.of ≠ b.of ∨ a.name ≠ b.name := by simpa [or_assoc] using h30
     refine W.seq ?_
     refine W.region ?_
     refine L.val (x_as (v := .bool _) rfl) rfl ?_
     refine L.nil ?_
     refine thn_n ?_
     refine W.ret (thn_r (fin_mk (.inr rfl) ?_))
     exact ⟨vb (by show false = undB (undN N) a b; rw [undB, if_pos q2e]), hB⟩
    ·have h30 := g30
     have q2e : ¬ (a.kind ≠ b.kind ∨ a.of ≠ b.of ∨ a.name ≠ b.name) := fun h => by simp at h30; rcases h with h | h | h; exact h h30.1.1; exact h h30.1.2; exact h h30.2
     have hkk : a.kind = b.kind := Decidable.byContradiction fun h => q2e (.inl h)
     refine W.skip ?_
     refine thn_n ?_
     refine W.seq ?_
     refine W.seq ?_
     refine W.region ?_
     refine L.val (x_fa kref12_fo25_0 rfl) rfl ?_
     refine L.val (x_ld (v := .int _ _) kref12_oc3 rfl (bx2.cell0 rfl)) rfl ?_
     refine L.val (x_eql rfl rfl) rfl ?_
     refine L.nil ?_
     refine thn_n ?_
     refine W.cond (b := _) rfl (fun g33 => ?_) (fun g33 => ?_)
     ·have h33 := of_decide_eq_true g33
      have q6 : a.kind = 6 := by omega
      have hlna := rec_len (allB_fit hfa) (.inl q6)
      have hlnb := rec_len (allB_fit hfb) (.inl (by omega))
      refine W.seq ?_
      refine W.seq ?_
      refine W.region ?_
      refine L.val (x_as (v := .int _ _) rfl) rfl ?_
      refine L.nil ?_
      refine thn_n ?_
      refine W.block ?_
      refine W.loop (fun m' E w' => ∃ (i : Nat), m' = b.names.length - i ∧ E 2 = .pointer (some ⟨w.heap.size, 0, none⟩) ∧ E 3 = .pointer (some ⟨b3, 0, none⟩) ∧ E 5 = .int .i64 (i : Nat) ∧ (Bel w w') ∧ (ShC A w' [.int .i64 a.kind, S a.of, S a.name, .slice pn a.names.length capn, .slice p a.parts.length cap] a) ∧ (ShC B w' [.int .i64 b.kind, S b.of, S b.name, .slice qn b.names.length capqn, .slice q b.parts.length capq] b) ∧ (StrsAt A w' (.slice pn a.names.length capn) a.names) ∧ (ShRow A w' p rowa a.parts) ∧ (StrsAt B w' (.slice qn b.names.length capqn) b.names) ∧ (ShRow B w' q rowb b.parts) ∧ (Box w' w.heap.size 25 [.int .i64 a.kind, S a.of, S a.name, .slice pn a.names.length capn, .slice p a.parts.length cap]) ∧ (Box w' b3 25 [.int .i64 b.kind, S b.of, S b.name, .slice qn b.names.length capqn, .slice q b.parts.length capq]) ∧ (i ≤ b.names.length) ∧ ((List.range i).all (nrA (undN N) a b) = true)) (b.names.length) ?_ ?_
      ·exact ⟨0, by omega, by first | rfl | exact vi (by omega), by first | rfl | exact vi (by omega), by first | rfl | exact vi (by omega), (by first | assumption | omega | rfl), (by first | assumption | omega | rfl), (by first | assumption | omega | rfl), (by first | assumption | omega | rfl), (by first | assumption | omega | rfl), (by first | assumption | omega | rfl), (by first | assumption | omega | rfl), (by first | assumption | omega | rfl), (by first | assumption | omega | rfl), (by first | assumption | omega | rfl), (by rfl)⟩
      ·rintro _ E wL34 ⟨i, em, e2, e3, e5, hB, ha, hb, hna, hra, hnb, hrb, bx2, bx3, hi, hall⟩
       rw [upd_self e2, upd_self e3, upd_self e5]
       refine W.seq ?_
       refine W.seq ?_
       refine W.region ?_
       refine L.val (x_mv (v := .int _ _) rfl) rfl ?_
       refine L.val (x_fa kref12_fo25_3 rfl) rfl ?_
       refine L.val (x_ld (v := .slice _ _ _) kref12_oc22 rfl (bx3.cell0 rfl)) rfl ?_
       refine L.val (x_len_slice Tryz.underlying22 rfl) rfl ?_
       refine L.val (x_lss rfl rfl) rfl ?_
       refine L.nil ?_
       refine thn_n ?_
       refine W.cond (b := _) rfl (fun g38 => ?_) (fun g38 => ?_)
       ·have h38 := of_decide_eq_true g38
        have hlt : i < b.names.length := by omega
        have hjp : i < b.parts.length := by omega
        obtain ⟨bn, on, rfl, hcn⟩ := hnb.elem hlt
        obtain ⟨bq, oq, rfl, hcq⟩ := hrb.elem hjp
        have hx3 := bx3.lt
        refine W.skip ?_
        refine thn_n ?_
        refine W.seq ?_
        refine W.block ?_
        refine W.seq ?_
        refine W.drawF 13 kref12_mixed (fun wF42 hB0 => ?_)
        refine LAC.takeN (i := 0) rfl (by kernel_rfl) (by kernel_rfl) (by kernel_rfl) (by kernel_rfl) (fun w hw => x_ldn (vs := [.int .i64 a.kind, S a.of, S a.name, .slice pn a.names.length capn, .slice p a.parts.length cap]) kref12_ag25 rfl rfl (hw.keepRow rfl (bx2.row rfl))) rfl ?_
        refine LAC.takeN (i := 1) rfl (by kernel_rfl) (by kernel_rfl) (by kernel_rfl) (by kernel_rfl) (fun w hw => x_fa kref12_fo25_3 rfl) rfl ?_
        refine LAC.takeN (i := 2) rfl (by kernel_rfl) (by kernel_rfl) (by kernel_rfl) (by kernel_rfl) (fun w hw => x_ld (v := .slice _ _ _) kref12_oc22 rfl (hw.keep (bx3.cell0 rfl))) rfl ?_
        refine LAC.takeN (i := 3) rfl (by kernel_rfl) (by kernel_rfl) (by kernel_rfl) (by kernel_rfl) (fun w hw => x_mv (v := .int _ _) rfl) rfl ?_
        refine LAC.takeN (i := 4) rfl (by kernel_rfl) (by kernel_rfl) (by kernel_rfl) (by kernel_rfl) (fun w hw => x_ia1 (j := i) Tryz.underlying22 kref12_sz9 rfl rfl (by omega) (by omega)) rfl ?_
        refine LAC.takeN (i := 5) rfl (by kernel_rfl) (by kernel_rfl) (by kernel_rfl) (by kernel_rfl) (fun w hw => x_ld (v := S _) kref12_oc9 rfl (hw.keep hcn)) rfl ?_
        refine LAC.step (rs := [6, 10]) (fun _ => hB0) (by kernel_rfl) (by simp) ⟨⟨_, rfl, ?_⟩, ⟨_, rfl, ?_⟩, trivial⟩
        ·refine L.ret (x_call kref12_en116 rfl) rfl (part12 A a _ _ _ (ha.carry hB0) hfsa) ?_
         rintro _ w48 ⟨cs48, rfl, hp48, hw⟩
         have hB0 := hB0.carry hw
         have hl48 := hp48.len
         have hp48 := hp48.mono (A' := A) fun k _ h => .inl h
         refine L.nil ?_
         refine thn_n ?_
         refine LAC.takeN (i := 7) rfl (by kernel_rfl) (by kernel_rfl) (by kernel_rfl) (by kernel_rfl) (fun w hw => x_mv (v := _) rfl) rfl ?_
         refine LAC.takeN (i := 8) rfl (by kernel_rfl) (by kernel_rfl) (by kernel_rfl) (by kernel_rfl) (fun w hw => x_ext (v := _) rfl rfl) rfl ?_
         refine LAC.takeN (i := 9) rfl (by kernel_rfl) (by kernel_rfl) (by kernel_rfl) (by kernel_rfl) (fun w hw => x_ext (v := .bool _) rfl rfl) rfl ?_
         refine LAC.step (rs := [10]) (fun _ => hB0) (by kernel_rfl) (by simp) ⟨⟨_, rfl, ?_⟩, trivial⟩
         have hs6 := hB0.size
         refine L.alloc (cs := [Value.int .i64 0, S [], S [], Value.slice none 0 0, Value.slice none 0 0]) kref12_zr25 rfl rfl (fun w6 bx6 hw hz6 => ?_)
         have hB0 := hB0.carry hw; have hp48 := hp48.carry hw
         refine L.nil ?_
         refine thn_n ?_
         refine LAC.step (rs := [11]) (fun _ => hB0) (by kernel_rfl) (by simp) ⟨⟨_, rfl, ?_⟩, trivial⟩
         refine L.setRow kref12_ag25 rfl rfl bx6 rfl hl48 hp48.one (fun wl44 bx6 hw hzl44 => ?_)
         have hB0 := hB0.set hw (by omega); have hp48 := hp48.carryR hw (fun j e => hA j (by have e : j = _ := e; omega))
         have hx6 := bx6.lt
         refine L.nil ?_
         refine thn_n ?_
         refine LAC.takeN (i := 12) rfl (by kernel_rfl) (by kernel_rfl) (by kernel_rfl) (by kernel_rfl) (fun w hw => x_as (v := .bool _) rfl) rfl ?_
         refine LAC.doneF (by kernel_rfl) hB0 ?_
         have hB := hB.carry hB0; have ha := ha.carry hB0; have hb := hb.carry hB0; have hna := hna.carry hB0; have hra := hra.carry hB0; have hnb := hnb.carry hB0; have hrb := hrb.carry hB0; have bx2 := bx2.carry hB0; have bx3 := bx3.carry hB0
         refine thn_n ?_
         refine W.seq ?_
         refine W.drawF 12 kref12_mixed (fun wF51 hB0 => ?_)
         refine LAC.takeN (i := 0) rfl (by kernel_rfl) (by kernel_rfl) (by kernel_rfl) (by kernel_rfl) (fun w hw => x_mv (v := .bool _) rfl) rfl ?_
         refine LAC.takeN (i := 1) rfl (by kernel_rfl) (by kernel_rfl) (by kernel_rfl) (by kernel_rfl) (fun w hw => x_not rfl) rfl ?_
         refine LAC.takeN (i := 2) rfl (by kernel_rfl) (by kernel_rfl) (by kernel_rfl) (by kernel_rfl) (fun w hw => x_mv (v := .bool _) rfl) rfl ?_
         refine LAC.split (dj := 53) (b := _) rfl (fun g53 => ?_) (fun g53 => ?_)
         ·have h53 := (not_t g53)
          have hno : ¬ idxS (b.names.getD i []) a.names < a.names.length := by simpa using h53
          have hone : nrA (undN N) a b i = false := by unfold nrA; rw [if_neg hno]
          refine LAC.takeU (i := 3) rfl (by kernel_rfl) (by kernel_rfl) (by kernel_rfl) (by kernel_rfl) (dj := 53) (b := _) rfl rfl g53 rfl ?_
          refine LAC.takeU (i := 4) rfl (by kernel_rfl) (by kernel_rfl) (by kernel_rfl) (by kernel_rfl) (dj := 53) (b := _) rfl rfl g53 rfl ?_
          refine LAC.takeU (i := 5) rfl (by kernel_rfl) (by kernel_rfl) (by kernel_rfl) (by kernel_rfl) (dj := 53) (b := _) rfl rfl g53 rfl ?_
          refine LAC.takeU (i := 6) rfl (by kernel_rfl) (by kernel_rfl) (by kernel_rfl) (by kernel_rfl) (dj := 53) (b := _) rfl rfl g53 rfl ?_
          refine LAC.takeU (i := 7) rfl (by kernel_rfl) (by kernel_rfl) (by kernel_rfl) (by kernel_rfl) (dj := 53) (b := _) rfl rfl g53 rfl ?_
          refine LAC.takeU (i := 8) rfl (by kernel_rfl) (by kernel_rfl) (by kernel_rfl) (by kernel_rfl) (dj := 53) (b := _) rfl rfl g53 rfl ?_
          refine LAC.takeU (i := 9) rfl (by kernel_rfl) (by kernel_rfl) (by kernel_rfl) (by kernel_rfl) (dj := 53) (b := _) rfl rfl g53 rfl ?_
          refine LAC.takeU (i := 10) rfl (by kernel_rfl) (by kernel_rfl) (by kernel_rfl) (by kernel_rfl) (dj := 53) (b := _) rfl rfl g53 rfl ?_
          refine LAC.takeN (i := 11) rfl (by kernel_rfl) (by kernel_rfl) (by kernel_rfl) (by kernel_rfl) (fun w hw => x_pick_t (v := .bool _) (congrArg Value.bool g53) rfl) rfl ?_
          refine LAC.doneF (by kernel_rfl) hB0 ?_
          have hB := hB.carry hB0; have ha := ha.carry hB0; have hb := hb.carry hB0; have hna := hna.carry hB0; have hra := hra.carry hB0; have hnb := hnb.carry hB0; have hrb := hrb.carry hB0; have bx2 := bx2.carry hB0; have bx3 := bx3.carry hB0; have hp48 := hp48.carry hB0
          refine thn_n ?_
          refine W.cond (b := true) rfl (fun _ => ?_) (fun h => nomatch h)
          refine W.seq ?_
          refine W.region ?_
          refine L.val (x_as (v := .bool _) rfl) rfl ?_
          refine L.nil ?_
          refine thn_n ?_
          refine W.ret (blk_r (thn_r (thn_r (blk_r (thn_r (thn_r (fin_mk (.inr rfl) ?_)))))))
          exact ⟨vb (by show false = undB (undN N) a b; rw [undB, if_neg q2e, if_pos q6, all_missR hlt (hone.trans (by first | rfl | exact h61))]), hB⟩
         ·have h53 := (not_f g53)
          have hno : idxS (b.names.getD i []) a.names < a.names.length := by simpa using h53
          have hone : nrA (undN N) a b i = undN N (a.parts.getD (idxS (b.names.getD i []) a.names) default) (b.parts.getD i default) := by unfold nrA; rw [if_pos hno]
          have hpv : partW a (b.names.getD i []) = a.parts.getD (idxS (b.names.getD i []) a.names) default := by unfold partW; rw [if_pos hno]
          rw [hpv] at hp48
          refine LAC.takeG (i := 3) rfl (by kernel_rfl) (by kernel_rfl) (by kernel_rfl) (by kernel_rfl) (dj := 53) (b := _) rfl rfl g53 (fun w hw => x_ldn (vs := cs48) kref12_ag25 rfl hl48 (hw.keepRow hl48 (bx6.row hl48))) rfl ?_
          refine LAC.takeG (i := 4) rfl (by kernel_rfl) (by kernel_rfl) (by kernel_rfl) (by kernel_rfl) (dj := 53) (b := _) rfl rfl g53 (fun w hw => x_fa kref12_fo25_4 rfl) rfl ?_
          refine LAC.takeG (i := 5) rfl (by kernel_rfl) (by kernel_rfl) (by kernel_rfl) (by kernel_rfl) (dj := 53) (b := _) rfl rfl g53 (fun w hw => x_ld (v := .slice _ _ _) kref12_oc23 rfl (hw.keep (bx3.cell0 rfl))) rfl ?_
          refine LAC.takeG (i := 6) rfl (by kernel_rfl) (by kernel_rfl) (by kernel_rfl) (by kernel_rfl) (dj := 53) (b := _) rfl rfl g53 (fun w hw => x_mv (v := .int _ _) rfl) rfl ?_
          refine LAC.takeG (i := 7) rfl (by kernel_rfl) (by kernel_rfl) (by kernel_rfl) (by kernel_rfl) (dj := 53) (b := _) rfl rfl g53 (fun w hw => x_ia (j := i) Tryz.underlying23 kref12_sz25 rfl rfl (by omega) (by omega)) rfl ?_
          refine LAC.takeG (i := 8) rfl (by kernel_rfl) (by kernel_rfl) (by kernel_rfl) (by kernel_rfl) (dj := 53) (b := _) rfl rfl g53 (fun w hw => x_ldn (vs := rowb i) kref12_ag25 rfl (hrb.five i hjp) (hw.keepRow (hrb.five i hjp) (hrb.elemAt hjp))) rfl ?_
          refine LAC.step (rs := [9]) (fun _ => hB0) (by kernel_rfl) (by simp) ⟨⟨_, rfl, ?_⟩, trivial⟩
          refine L.gyes' (dj := 53) (b := _) rfl rfl g53 ?_
          refine L.ret (x_call kref12_en65 rfl) rfl (hI (idxS (b.names.getD i []) a.names) i (by omega) hjp A B _ _ _ (hp48.carry hB0) ((hrb.each i hjp).carry hB0)) ?_
          rintro _ w60 ⟨rfl, hw⟩
          have hB0 := hB0.carry hw
          refine L.nil ?_
          refine thn_n ?_
          refine LAC.takeG (i := 10) rfl (by kernel_rfl) (by kernel_rfl) (by kernel_rfl) (by kernel_rfl) (dj := 53) (b := _) rfl rfl g53 (fun w hw => x_not rfl) rfl ?_
          refine LAC.takeN (i := 11) rfl (by kernel_rfl) (by kernel_rfl) (by kernel_rfl) (by kernel_rfl) (fun w hw => x_pick_f (v := .bool _) (congrArg Value.bool g53) rfl) rfl ?_
          refine LAC.doneF (by kernel_rfl) hB0 ?_
          have hB := hB.carry hB0; have ha := ha.carry hB0; have hb := hb.carry hB0; have hna := hna.carry hB0; have hra := hra.carry hB0; have hnb := hnb.carry hB0; have hrb := hrb.carry hB0; have bx2 := bx2.carry hB0; have bx3 := bx3.carry hB0; have hp48 := hp48.carry hB0
          refine thn_n ?_
          refine W.cond (b := _) rfl (fun g61 => ?_) (fun g61 => ?_)
          ·have h61 := (not_t g61)
           refine W.seq ?_
           refine W.region ?_
           refine L.val (x_as (v := .bool _) rfl) rfl ?_
           refine L.nil ?_
           refine thn_n ?_
           refine W.ret (blk_r (thn_r (thn_r (blk_r (thn_r (thn_r (fin_mk (.inr rfl) ?_)))))))
           exact ⟨vb (by show false = undB (undN N) a b; rw [undB, if_neg q2e, if_pos q6, all_missR hlt (hone.trans (by first | rfl | exact h61))]), hB⟩
          ·have h61 := (not_f g61)
           refine W.skip ?_
           refine blk_n ?_
           refine thn_n ?_
           refine W.region ?_
           refine L.val (x_mv (v := .int _ _) rfl) rfl ?_
           refine L.val (x_add rfl rfl (wr64 (by omega))) rfl ?_
           refine L.val (x_as (v := .int _ _) rfl) rfl ?_
           refine L.nil ?_
           refine thn_n ⟨rfl, ?_⟩
           refine ⟨_, ?_, i + 1, rfl, by first | rfl | exact vi (by omega), by first | rfl | exact vi (by omega), by first | rfl | exact vi (by omega), (by first | assumption | omega | rfl), (by first | assumption | omega | rfl), (by first | assumption | omega | rfl), (by first | assumption | omega | rfl), (by first | assumption | omega | rfl), (by first | assumption | omega | rfl), (by first | assumption | omega | rfl), (by first | assumption | omega | rfl), (by first | assumption | omega | rfl), (by first | assumption | omega | rfl), (by rw [all_succ, hall, hone, h61]; rfl)⟩
           omega
        ·have hs6 := hB0.size
         refine L.alloc (cs := [Value.int .i64 0, S [], S [], Value.slice none 0 0, Value.slice none 0 0]) kref12_zr25 rfl rfl (fun w6 bx6 hw hz6 => ?_)
         have hB0 := hB0.carry hw
         refine L.nil ?_
         refine thn_n ?_
         refine LAC.step (rs := [6]) (fun _ => hB0) (by kernel_rfl) (by simp) ⟨⟨_, rfl, ?_⟩, trivial⟩
         refine L.ret (x_call kref12_en116 rfl) rfl (part12 A a _ _ _ (ha.carry hB0) hfsa) ?_
         rintro _ w48 ⟨cs48, rfl, hp48, hw⟩
         have hB0 := hB0.carry hw; have bx6 := bx6.carry hw
         have hl48 := hp48.len
         have hp48 := hp48.mono (A' := A) fun k _ h => .inl h
         refine L.nil ?_
         refine thn_n ?_
         refine LAC.takeN (i := 7) rfl (by kernel_rfl) (by kernel_rfl) (by kernel_rfl) (by kernel_rfl) (fun w hw => x_mv (v := _) rfl) rfl ?_
         refine LAC.takeN (i := 8) rfl (by kernel_rfl) (by kernel_rfl) (by kernel_rfl) (by kernel_rfl) (fun w hw => x_ext (v := _) rfl rfl) rfl ?_
         refine LAC.takeN (i := 9) rfl (by kernel_rfl) (by kernel_rfl) (by kernel_rfl) (by kernel_rfl) (fun w hw => x_ext (v := .bool _) rfl rfl) rfl ?_
         refine LAC.step (rs := [11]) (fun _ => hB0) (by kernel_rfl) (by simp) ⟨⟨_, rfl, ?_⟩, trivial⟩
         refine L.setRow kref12_ag25 rfl rfl bx6 rfl hl48 hp48.one (fun wl44 bx6 hw hzl44 => ?_)
         have hB0 := hB0.set hw (by omega); have hp48 := hp48.carryR hw (fun j e => hA j (by have e : j = _ := e; omega))
         have hx6 := bx6.lt
         refine L.nil ?_
         refine thn_n ?_
         refine LAC.takeN (i := 12) rfl (by kernel_rfl) (by kernel_rfl) (by kernel_rfl) (by kernel_rfl) (fun w hw => x_as (v := .bool _) rfl) rfl ?_
         refine LAC.doneF (by kernel_rfl) hB0 ?_
         have hB := hB.carry hB0; have ha := ha.carry hB0; have hb := hb.carry hB0; have hna := hna.carry hB0; have hra := hra.carry hB0; have hnb := hnb.carry hB0; have hrb := hrb.carry hB0; have bx2 := bx2.carry hB0; have bx3 := bx3.carry hB0
         refine thn_n ?_
         refine W.seq ?_
         refine W.drawF 12 kref12_mixed (fun wF51 hB0 => ?_)
         refine LAC.takeN (i := 0) rfl (by kernel_rfl) (by kernel_rfl) (by kernel_rfl) (by kernel_rfl) (fun w hw => x_mv (v := .bool _) rfl) rfl ?_
         refine LAC.takeN (i := 1) rfl (by kernel_rfl) (by kernel_rfl) (by kernel_rfl) (by kernel_rfl) (fun w hw => x_not rfl) rfl ?_
         refine LAC.takeN (i := 2) rfl (by kernel_rfl) (by kernel_rfl) (by kernel_rfl) (by kernel_rfl) (fun w hw => x_mv (v := .bool _) rfl) rfl ?_
         refine LAC.split (dj := 53) (b := _) rfl (fun g53 => ?_) (fun g53 => ?_)
         ·have h53 := (not_t g53)
          have hno : ¬ idxS (b.names.getD i []) a.names < a.names.length := by simpa using h53
          have hone : nrA (undN N) a b i = false := by unfold nrA; rw [if_neg hno]
          refine LAC.takeU (i := 3) rfl (by kernel_rfl) (by kernel_rfl) (by kernel_rfl) (by kernel_rfl) (dj := 53) (b := _) rfl rfl g53 rfl ?_
          refine LAC.takeU (i := 4) rfl (by kernel_rfl) (by kernel_rfl) (by kernel_rfl) (by kernel_rfl) (dj := 53) (b := _) rfl rfl g53 rfl ?_
          refine LAC.takeU (i := 5) rfl (by kernel_rfl) (by kernel_rfl) (by kernel_rfl) (by kernel_rfl) (dj := 53) (b := _) rfl rfl g53 rfl ?_
          refine LAC.takeU (i := 6) rfl (by kernel_rfl) (by kernel_rfl) (by kernel_rfl) (by kernel_rfl) (dj := 53) (b := _) rfl rfl g53 rfl ?_
          refine LAC.takeU (i := 7) rfl (by kernel_rfl) (by kernel_rfl) (by kernel_rfl) (by kernel_rfl) (dj := 53) (b := _) rfl rfl g53 rfl ?_
          refine LAC.takeU (i := 8) rfl (by kernel_rfl) (by kernel_rfl) (by kernel_rfl) (by kernel_rfl) (dj := 53) (b := _) rfl rfl g53 rfl ?_
          refine LAC.takeU (i := 9) rfl (by kernel_rfl) (by kernel_rfl) (by kernel_rfl) (by kernel_rfl) (dj := 53) (b := _) rfl rfl g53 rfl ?_
          refine LAC.takeU (i := 10) rfl (by kernel_rfl) (by kernel_rfl) (by kernel_rfl) (by kernel_rfl) (dj := 53) (b := _) rfl rfl g53 rfl ?_
          refine LAC.takeN (i := 11) rfl (by kernel_rfl) (by kernel_rfl) (by kernel_rfl) (by kernel_rfl) (fun w hw => x_pick_t (v := .bool _) (congrArg Value.bool g53) rfl) rfl ?_
          refine LAC.doneF (by kernel_rfl) hB0 ?_
          have hB := hB.carry hB0; have ha := ha.carry hB0; have hb := hb.carry hB0; have hna := hna.carry hB0; have hra := hra.carry hB0; have hnb := hnb.carry hB0; have hrb := hrb.carry hB0; have bx2 := bx2.carry hB0; have bx3 := bx3.carry hB0; have hp48 := hp48.carry hB0
          refine thn_n ?_
          refine W.cond (b := true) rfl (fun _ => ?_) (fun h => nomatch h)
          refine W.seq ?_
          refine W.region ?_
          refine L.val (x_as (v := .bool _) rfl) rfl ?_
          refine L.nil ?_
          refine thn_n ?_
          refine W.ret (blk_r (thn_r (thn_r (blk_r (thn_r (thn_r (fin_mk (.inr rfl) ?_)))))))
          exact ⟨vb (by show false = undB (undN N) a b; rw [undB, if_neg q2e, if_pos q6, all_missR hlt (hone.trans (by first | rfl | exact h61))]), hB⟩
         ·have h53 := (not_f g53)
          have hno : idxS (b.names.getD i []) a.names < a.names.length := by simpa using h53
          have hone : nrA (undN N) a b i = undN N (a.parts.getD (idxS (b.names.getD i []) a.names) default) (b.parts.getD i default) := by unfold nrA; rw [if_pos hno]
          have hpv : partW a (b.names.getD i []) = a.parts.getD (idxS (b.names.getD i []) a.names) default := by unfold partW; rw [if_pos hno]
          rw [hpv] at hp48
          refine LAC.takeG (i := 3) rfl (by kernel_rfl) (by kernel_rfl) (by kernel_rfl) (by kernel_rfl) (dj := 53) (b := _) rfl rfl g53 (fun w hw => x_ldn (vs := cs48) kref12_ag25 rfl hl48 (hw.keepRow hl48 (bx6.row hl48))) rfl ?_
          refine LAC.takeG (i := 4) rfl (by kernel_rfl) (by kernel_rfl) (by kernel_rfl) (by kernel_rfl) (dj := 53) (b := _) rfl rfl g53 (fun w hw => x_fa kref12_fo25_4 rfl) rfl ?_
          refine LAC.takeG (i := 5) rfl (by kernel_rfl) (by kernel_rfl) (by kernel_rfl) (by kernel_rfl) (dj := 53) (b := _) rfl rfl g53 (fun w hw => x_ld (v := .slice _ _ _) kref12_oc23 rfl (hw.keep (bx3.cell0 rfl))) rfl ?_
          refine LAC.takeG (i := 6) rfl (by kernel_rfl) (by kernel_rfl) (by kernel_rfl) (by kernel_rfl) (dj := 53) (b := _) rfl rfl g53 (fun w hw => x_mv (v := .int _ _) rfl) rfl ?_
          refine LAC.takeG (i := 7) rfl (by kernel_rfl) (by kernel_rfl) (by kernel_rfl) (by kernel_rfl) (dj := 53) (b := _) rfl rfl g53 (fun w hw => x_ia (j := i) Tryz.underlying23 kref12_sz25 rfl rfl (by omega) (by omega)) rfl ?_
          refine LAC.takeG (i := 8) rfl (by kernel_rfl) (by kernel_rfl) (by kernel_rfl) (by kernel_rfl) (dj := 53) (b := _) rfl rfl g53 (fun w hw => x_ldn (vs := rowb i) kref12_ag25 rfl (hrb.five i hjp) (hw.keepRow (hrb.five i hjp) (hrb.elemAt hjp))) rfl ?_
          refine LAC.step (rs := [9]) (fun _ => hB0) (by kernel_rfl) (by simp) ⟨⟨_, rfl, ?_⟩, trivial⟩
          refine L.gyes' (dj := 53) (b := _) rfl rfl g53 ?_
          refine L.ret (x_call kref12_en65 rfl) rfl (hI (idxS (b.names.getD i []) a.names) i (by omega) hjp A B _ _ _ (hp48.carry hB0) ((hrb.each i hjp).carry hB0)) ?_
          rintro _ w60 ⟨rfl, hw⟩
          have hB0 := hB0.carry hw
          refine L.nil ?_
          refine thn_n ?_
          refine LAC.takeG (i := 10) rfl (by kernel_rfl) (by kernel_rfl) (by kernel_rfl) (by kernel_rfl) (dj := 53) (b := _) rfl rfl g53 (fun w hw => x_not rfl) rfl ?_
          refine LAC.takeN (i := 11) rfl (by kernel_rfl) (by kernel_rfl) (by kernel_rfl) (by kernel_rfl) (fun w hw => x_pick_f (v := .bool _) (congrArg Value.bool g53) rfl) rfl ?_
          refine LAC.doneF (by kernel_rfl) hB0 ?_
          have hB := hB.carry hB0; have ha := ha.carry hB0; have hb := hb.carry hB0; have hna := hna.carry hB0; have hra := hra.carry hB0; have hnb := hnb.carry hB0; have hrb := hrb.carry hB0; have bx2 := bx2.carry hB0; have bx3 := bx3.carry hB0; have hp48 := hp48.carry hB0
          refine thn_n ?_
          refine W.cond (b := _) rfl (fun g61 => ?_) (fun g61 => ?_)
          ·have h61 := (not_t g61)
           refine W.seq ?_
           refine W.region ?_
           refine L.val (x_as (v := .bool _) rfl) rfl ?_
           refine L.nil ?_
           refine thn_n ?_
           refine W.ret (blk_r (thn_r (thn_r (blk_r (thn_r (thn_r (fin_mk (.inr rfl) ?_)))))))
           exact ⟨vb (by show false = undB (undN N) a b; rw [undB, if_neg q2e, if_pos q6, all_missR hlt (hone.trans (by first | rfl | exact h61))]), hB⟩
          ·have h61 := (not_f g61)
           refine W.skip ?_
           refine blk_n ?_
           refine thn_n ?_
           refine W.region ?_
           refine L.val (x_mv (v := .int _ _) rfl) rfl ?_
           refine L.val (x_add rfl rfl (wr64 (by omega))) rfl ?_
           refine L.val (x_as (v := .int _ _) rfl) rfl ?_
           refine L.nil ?_
           refine thn_n ⟨rfl, ?_⟩
           refine ⟨_, ?_, i + 1, rfl, by first | rfl | exact vi (by omega), by first | rfl | exact vi (by omega), by first | rfl | exact vi (by omega), (by first | assumption | omega | rfl), (by first | assumption | omega | rfl), (by first | assumption | omega | rfl), (by first | assumption | omega | rfl), (by first | assumption | omega | rfl), (by first | assumption | omega | rfl), (by first | assumption | omega | rfl), (by first | assumption | omega | rfl), (by first | assumption | omega | rfl), (by first | assumption | omega | rfl), (by rw [all_succ, hall, hone, h61]; rfl)⟩
           omega
       ·have h38 := dlt_f g38
        refine W.exit (thn_x (thn_x (blk_hit ?_)))
        refine thn_n ?_
        refine W.seq ?_
        refine W.region ?_
        refine L.val (x_as (v := .bool _) rfl) rfl ?_
        refine L.nil ?_
        refine thn_n ?_
        refine W.ret (thn_r (fin_mk (.inr rfl) ?_))
        exact ⟨vb (by show true = undB (undN N) a b; rw [undB, if_neg q2e, if_pos q6, show b.names.length = i by omega, hall]), hB⟩
     ·have h33 := of_decide_eq_false g33
      have q6 : ¬ a.kind = 6 := by omega
      refine W.skip ?_
      refine thn_n ?_
      refine W.seq ?_
      refine W.seq ?_
      refine W.region ?_
      refine L.val (x_fa kref12_fo25_0 rfl) rfl ?_
      refine L.val (x_ld (v := .int _ _) kref12_oc3 rfl (bx2.cell0 rfl)) rfl ?_
      refine L.val (x_eql rfl rfl) rfl ?_
      refine L.nil ?_
      refine thn_n ?_
      refine W.cond (b := _) rfl (fun g65 => ?_) (fun g65 => ?_)
      ·have h65 := of_decide_eq_true g65
       have q7 : a.kind = 7 := by omega
       have hlna := rec_len (allB_fit hfa) (.inr q7)
       have hlnb := rec_len (allB_fit hfb) (.inr (by omega))
       refine W.seq ?_
       refine W.seq ?_
       refine W.region ?_
       refine L.val (x_as (v := .int _ _) rfl) rfl ?_
       refine L.nil ?_
       refine thn_n ?_
       refine W.block ?_
       refine W.loop (fun m' E w' => ∃ (i : Nat), m' = a.names.length - i ∧ E 2 = .pointer (some ⟨w.heap.size, 0, none⟩) ∧ E 3 = .pointer (some ⟨b3, 0, none⟩) ∧ E 8 = .int .i64 (i : Nat) ∧ (Bel w w') ∧ (ShC A w' [.int .i64 a.kind, S a.of, S a.name, .slice pn a.names.length capn, .slice p a.parts.length cap] a) ∧ (ShC B w' [.int .i64 b.kind, S b.of, S b.name, .slice qn b.names.length capqn, .slice q b.parts.length capq] b) ∧ (StrsAt A w' (.slice pn a.names.length capn) a.names) ∧ (ShRow A w' p rowa a.parts) ∧ (StrsAt B w' (.slice qn b.names.length capqn) b.names) ∧ (ShRow B w' q rowb b.parts) ∧ (Box w' w.heap.size 25 [.int .i64 a.kind, S a.of, S a.name, .slice pn a.names.length capn, .slice p a.parts.length cap]) ∧ (Box w' b3 25 [.int .i64 b.kind, S b.of, S b.name, .slice qn b.names.length capqn, .slice q b.parts.length capq]) ∧ (i ≤ a.names.length) ∧ ((List.range i).all (nrV (undN N) a b) = true)) (a.names.length) ?_ ?_
       ·exact ⟨0, by omega, by first | rfl | exact vi (by omega), by first | rfl | exact vi (by omega), by first | rfl | exact vi (by omega), (by first | assumption | omega | rfl), (by first | assumption | omega | rfl), (by first | assumption | omega | rfl), (by first | assumption | omega | rfl), (by first | assumption | omega | rfl), (by first | assumption | omega | rfl), (by first | assumption | omega | rfl), (by first | assumption | omega | rfl), (by first | assumption | omega | rfl), (by first | assumption | omega | rfl), (by rfl)⟩
       ·rintro _ E wL66 ⟨i, em, e2, e3, e8, hB, ha, hb, hna, hra, hnb, hrb, bx2, bx3, hi, hall⟩
        rw [upd_self e2, upd_self e3, upd_self e8]
        refine W.seq ?_
        refine W.seq ?_
        refine W.region ?_
        refine L.val (x_mv (v := .int _ _) rfl) rfl ?_
        refine L.val (x_fa kref12_fo25_3 rfl) rfl ?_
        refine L.val (x_ld (v := .slice _ _ _) kref12_oc22 rfl (bx2.cell0 rfl)) rfl ?_
        refine L.val (x_len_slice Tryz.underlying22 rfl) rfl ?_
        refine L.val (x_lss rfl rfl) rfl ?_
        refine L.nil ?_
        refine thn_n ?_
        refine W.cond (b := _) rfl (fun g70 => ?_) (fun g70 => ?_)
        ·have h70 := of_decide_eq_true g70
         have hlt : i < a.names.length := by omega
         have hip : i < a.parts.length := by omega
         obtain ⟨bn, on, rfl, hcn⟩ := hna.elem hlt
         obtain ⟨bp, op, rfl, hcp⟩ := hra.elem hip
         have hx3 := bx3.lt
         refine W.skip ?_
         refine thn_n ?_
         refine W.seq ?_
         refine W.block ?_
         refine W.seq ?_
         refine W.drawF 13 kref12_mixed (fun wF74 hB0 => ?_)
         refine LAC.takeN (i := 0) rfl (by kernel_rfl) (by kernel_rfl) (by kernel_rfl) (by kernel_rfl) (fun w hw => x_ldn (vs := [.int .i64 b.kind, S b.of, S b.name, .slice qn b.names.length capqn, .slice q b.parts.length capq]) kref12_ag25 rfl rfl (hw.keepRow rfl (bx3.row rfl))) rfl ?_
         refine LAC.takeN (i := 1) rfl (by kernel_rfl) (by kernel_rfl) (by kernel_rfl) (by kernel_rfl) (fun w hw => x_fa kref12_fo25_3 rfl) rfl ?_
         refine LAC.takeN (i := 2) rfl (by kernel_rfl) (by kernel_rfl) (by kernel_rfl) (by kernel_rfl) (fun w hw => x_ld (v := .slice _ _ _) kref12_oc22 rfl (hw.keep (bx2.cell0 rfl))) rfl ?_
         refine LAC.takeN (i := 3) rfl (by kernel_rfl) (by kernel_rfl) (by kernel_rfl) (by kernel_rfl) (fun w hw => x_mv (v := .int _ _) rfl) rfl ?_
         refine LAC.takeN (i := 4) rfl (by kernel_rfl) (by kernel_rfl) (by kernel_rfl) (by kernel_rfl) (fun w hw => x_ia1 (j := i) Tryz.underlying22 kref12_sz9 rfl rfl (by omega) (by omega)) rfl ?_
         refine LAC.takeN (i := 5) rfl (by kernel_rfl) (by kernel_rfl) (by kernel_rfl) (by kernel_rfl) (fun w hw => x_ld (v := S _) kref12_oc9 rfl (hw.keep hcn)) rfl ?_
         refine LAC.step (rs := [6, 10]) (fun _ => hB0) (by kernel_rfl) (by simp) ⟨⟨_, rfl, ?_⟩, ⟨_, rfl, ?_⟩, trivial⟩
         ·refine L.ret (x_call kref12_en116 rfl) rfl (part12 B b _ _ _ (hb.carry hB0) hfsb) ?_
          rintro _ w80 ⟨cs80, rfl, hp80, hw⟩
          have hB0 := hB0.carry hw
          have hl80 := hp80.len
          have hp80 := hp80.mono (A' := B) fun k _ h => .inl h
          refine L.nil ?_
          refine thn_n ?_
          refine LAC.takeN (i := 7) rfl (by kernel_rfl) (by kernel_rfl) (by kernel_rfl) (by kernel_rfl) (fun w hw => x_mv (v := _) rfl) rfl ?_
          refine LAC.takeN (i := 8) rfl (by kernel_rfl) (by kernel_rfl) (by kernel_rfl) (by kernel_rfl) (fun w hw => x_ext (v := _) rfl rfl) rfl ?_
          refine LAC.takeN (i := 9) rfl (by kernel_rfl) (by kernel_rfl) (by kernel_rfl) (by kernel_rfl) (fun w hw => x_ext (v := .bool _) rfl rfl) rfl ?_
          refine LAC.step (rs := [10]) (fun _ => hB0) (by kernel_rfl) (by simp) ⟨⟨_, rfl, ?_⟩, trivial⟩
          have hs9 := hB0.size
          refine L.alloc (cs := [Value.int .i64 0, S [], S [], Value.slice none 0 0, Value.slice none 0 0]) kref12_zr25 rfl rfl (fun w9 bx9 hw hz9 => ?_)
          have hB0 := hB0.carry hw; have hp80 := hp80.carry hw
          refine L.nil ?_
          refine thn_n ?_
          refine LAC.step (rs := [11]) (fun _ => hB0) (by kernel_rfl) (by simp) ⟨⟨_, rfl, ?_⟩, trivial⟩
          refine L.setRow kref12_ag25 rfl rfl bx9 rfl hl80 hp80.one (fun wl83 bx9 hw hzl83 => ?_)
          have hB0 := hB0.set hw (by omega); have hp80 := hp80.carryR hw (fun j e => hBu j (by have e : j = _ := e; omega))
          have hx9 := bx9.lt
          refine L.nil ?_
          refine thn_n ?_
          refine LAC.takeN (i := 12) rfl (by kernel_rfl) (by kernel_rfl) (by kernel_rfl) (by kernel_rfl) (fun w hw => x_as (v := .bool _) rfl) rfl ?_
          refine LAC.doneF (by kernel_rfl) hB0 ?_
          have hB := hB.carry hB0; have ha := ha.carry hB0; have hb := hb.carry hB0; have hna := hna.carry hB0; have hra := hra.carry hB0; have hnb := hnb.carry hB0; have hrb := hrb.carry hB0; have bx2 := bx2.carry hB0; have bx3 := bx3.carry hB0
          refine thn_n ?_
          refine W.seq ?_
          refine W.drawF 12 kref12_mixed (fun wF83 hB0 => ?_)
          refine LAC.takeN (i := 0) rfl (by kernel_rfl) (by kernel_rfl) (by kernel_rfl) (by kernel_rfl) (fun w hw => x_mv (v := .bool _) rfl) rfl ?_
          refine LAC.takeN (i := 1) rfl (by kernel_rfl) (by kernel_rfl) (by kernel_rfl) (by kernel_rfl) (fun w hw => x_not rfl) rfl ?_
          refine LAC.takeN (i := 2) rfl (by kernel_rfl) (by kernel_rfl) (by kernel_rfl) (by kernel_rfl) (fun w hw => x_mv (v := .bool _) rfl) rfl ?_
          refine LAC.split (dj := 85) (b := _) rfl (fun g85 => ?_) (fun g85 => ?_)
          ·have h85 := (not_t g85)
           have hno : ¬ idxS (a.names.getD i []) b.names < b.names.length := by simpa using h85
           have hone : nrV (undN N) a b i = false := by unfold nrV; rw [if_neg hno]
           refine LAC.takeU (i := 3) rfl (by kernel_rfl) (by kernel_rfl) (by kernel_rfl) (by kernel_rfl) (dj := 85) (b := _) rfl rfl g85 rfl ?_
           refine LAC.takeU (i := 4) rfl (by kernel_rfl) (by kernel_rfl) (by kernel_rfl) (by kernel_rfl) (dj := 85) (b := _) rfl rfl g85 rfl ?_
           refine LAC.takeU (i := 5) rfl (by kernel_rfl) (by kernel_rfl) (by kernel_rfl) (by kernel_rfl) (dj := 85) (b := _) rfl rfl g85 rfl ?_
           refine LAC.takeU (i := 6) rfl (by kernel_rfl) (by kernel_rfl) (by kernel_rfl) (by kernel_rfl) (dj := 85) (b := _) rfl rfl g85 rfl ?_
           refine LAC.takeU (i := 7) rfl (by kernel_rfl) (by kernel_rfl) (by kernel_rfl) (by kernel_rfl) (dj := 85) (b := _) rfl rfl g85 rfl ?_
           refine LAC.takeU (i := 8) rfl (by kernel_rfl) (by kernel_rfl) (by kernel_rfl) (by kernel_rfl) (dj := 85) (b := _) rfl rfl g85 rfl ?_
           refine LAC.takeU (i := 9) rfl (by kernel_rfl) (by kernel_rfl) (by kernel_rfl) (by kernel_rfl) (dj := 85) (b := _) rfl rfl g85 rfl ?_
           refine LAC.takeU (i := 10) rfl (by kernel_rfl) (by kernel_rfl) (by kernel_rfl) (by kernel_rfl) (dj := 85) (b := _) rfl rfl g85 rfl ?_
           refine LAC.takeN (i := 11) rfl (by kernel_rfl) (by kernel_rfl) (by kernel_rfl) (by kernel_rfl) (fun w hw => x_pick_t (v := .bool _) (congrArg Value.bool g85) rfl) rfl ?_
           refine LAC.doneF (by kernel_rfl) hB0 ?_
           have hB := hB.carry hB0; have ha := ha.carry hB0; have hb := hb.carry hB0; have hna := hna.carry hB0; have hra := hra.carry hB0; have hnb := hnb.carry hB0; have hrb := hrb.carry hB0; have bx2 := bx2.carry hB0; have bx3 := bx3.carry hB0; have hp80 := hp80.carry hB0
           refine thn_n ?_
           refine W.cond (b := true) rfl (fun _ => ?_) (fun h => nomatch h)
           refine W.seq ?_
           refine W.region ?_
           refine L.val (x_as (v := .bool _) rfl) rfl ?_
           refine L.nil ?_
           refine thn_n ?_
           refine W.ret (blk_r (thn_r (thn_r (blk_r (thn_r (thn_r (fin_mk (.inr rfl) ?_)))))))
           exact ⟨vb (by show false = undB (undN N) a b; rw [undB, if_neg q2e, if_neg q6, if_pos q7, all_missR hlt (hone.trans (by first | rfl | exact h93))]), hB⟩
          ·have h85 := (not_f g85)
           have hno : idxS (a.names.getD i []) b.names < b.names.length := by simpa using h85
           have hone : nrV (undN N) a b i = undN N (a.parts.getD i default) (b.parts.getD (idxS (a.names.getD i []) b.names) default) := by unfold nrV; rw [if_pos hno]
           have hpv : partW b (a.names.getD i []) = b.parts.getD (idxS (a.names.getD i []) b.names) default := by unfold partW; rw [if_pos hno]
           rw [hpv] at hp80
           refine LAC.takeG (i := 3) rfl (by kernel_rfl) (by kernel_rfl) (by kernel_rfl) (by kernel_rfl) (dj := 85) (b := _) rfl rfl g85 (fun w hw => x_fa kref12_fo25_4 rfl) rfl ?_
           refine LAC.takeG (i := 4) rfl (by kernel_rfl) (by kernel_rfl) (by kernel_rfl) (by kernel_rfl) (dj := 85) (b := _) rfl rfl g85 (fun w hw => x_ld (v := .slice _ _ _) kref12_oc23 rfl (hw.keep (bx2.cell0 rfl))) rfl ?_
           refine LAC.takeG (i := 5) rfl (by kernel_rfl) (by kernel_rfl) (by kernel_rfl) (by kernel_rfl) (dj := 85) (b := _) rfl rfl g85 (fun w hw => x_mv (v := .int _ _) rfl) rfl ?_
           refine LAC.takeG (i := 6) rfl (by kernel_rfl) (by kernel_rfl) (by kernel_rfl) (by kernel_rfl) (dj := 85) (b := _) rfl rfl g85 (fun w hw => x_ia (j := i) Tryz.underlying23 kref12_sz25 rfl rfl (by omega) (by omega)) rfl ?_
           refine LAC.takeG (i := 7) rfl (by kernel_rfl) (by kernel_rfl) (by kernel_rfl) (by kernel_rfl) (dj := 85) (b := _) rfl rfl g85 (fun w hw => x_ldn (vs := rowa i) kref12_ag25 rfl (hra.five i hip) (hw.keepRow (hra.five i hip) (hra.elemAt hip))) rfl ?_
           refine LAC.takeG (i := 8) rfl (by kernel_rfl) (by kernel_rfl) (by kernel_rfl) (by kernel_rfl) (dj := 85) (b := _) rfl rfl g85 (fun w hw => x_ldn (vs := cs80) kref12_ag25 rfl hl80 (hw.keepRow hl80 (bx9.row hl80))) rfl ?_
           refine LAC.step (rs := [9]) (fun _ => hB0) (by kernel_rfl) (by simp) ⟨⟨_, rfl, ?_⟩, trivial⟩
           refine L.gyes' (dj := 85) (b := _) rfl rfl g85 ?_
           refine L.ret (x_call kref12_en65 rfl) rfl (hI i (idxS (a.names.getD i []) b.names) hip (by omega) A B _ _ _ ((hra.each i hip).carry hB0) (hp80.carry hB0)) ?_
           rintro _ w92 ⟨rfl, hw⟩
           have hB0 := hB0.carry hw
           refine L.nil ?_
           refine thn_n ?_
           refine LAC.takeG (i := 10) rfl (by kernel_rfl) (by kernel_rfl) (by kernel_rfl) (by kernel_rfl) (dj := 85) (b := _) rfl rfl g85 (fun w hw => x_not rfl) rfl ?_
           refine LAC.takeN (i := 11) rfl (by kernel_rfl) (by kernel_rfl) (by kernel_rfl) (by kernel_rfl) (fun w hw => x_pick_f (v := .bool _) (congrArg Value.bool g85) rfl) rfl ?_
           refine LAC.doneF (by kernel_rfl) hB0 ?_
           have hB := hB.carry hB0; have ha := ha.carry hB0; have hb := hb.carry hB0; have hna := hna.carry hB0; have hra := hra.carry hB0; have hnb := hnb.carry hB0; have hrb := hrb.carry hB0; have bx2 := bx2.carry hB0; have bx3 := bx3.carry hB0; have hp80 := hp80.carry hB0
           refine thn_n ?_
           refine W.cond (b := _) rfl (fun g93 => ?_) (fun g93 => ?_)
           ·have h93 := (not_t g93)
            refine W.seq ?_
            refine W.region ?_
            refine L.val (x_as (v := .bool _) rfl) rfl ?_
            refine L.nil ?_
            refine thn_n ?_
            refine W.ret (blk_r (thn_r (thn_r (blk_r (thn_r (thn_r (fin_mk (.inr rfl) ?_)))))))
            exact ⟨vb (by show false = undB (undN N) a b; rw [undB, if_neg q2e, if_neg q6, if_pos q7, all_missR hlt (hone.trans (by first | rfl | exact h93))]), hB⟩
           ·have h93 := (not_f g93)
            refine W.skip ?_
            refine blk_n ?_
            refine thn_n ?_
            refine W.region ?_
            refine L.val (x_mv (v := .int _ _) rfl) rfl ?_
            refine L.val (x_add rfl rfl (wr64 (by omega))) rfl ?_
            refine L.val (x_as (v := .int _ _) rfl) rfl ?_
            refine L.nil ?_
            refine thn_n ⟨rfl, ?_⟩
            refine ⟨_, ?_, i + 1, rfl, by first | rfl | exact vi (by omega), by first | rfl | exact vi (by omega), by first | rfl | exact vi (by omega), (by first | assumption | omega | rfl), (by first | assumption | omega | rfl), (by first | assumption | omega | rfl), (by first | assumption | omega | rfl), (by first | assumption | omega | rfl), (by first | assumption | omega | rfl), (by first | assumption | omega | rfl), (by first | assumption | omega | rfl), (by first | assumption | omega | rfl), (by first | assumption | omega | rfl), (by rw [all_succ, hall, hone, h93]; rfl)⟩
            omega
         ·have hs9 := hB0.size
          refine L.alloc (cs := [Value.int .i64 0, S [], S [], Value.slice none 0 0, Value.slice none 0 0]) kref12_zr25 rfl rfl (fun w9 bx9 hw hz9 => ?_)
          have hB0 := hB0.carry hw
          refine L.nil ?_
          refine thn_n ?_
          refine LAC.step (rs := [6]) (fun _ => hB0) (by kernel_rfl) (by simp) ⟨⟨_, rfl, ?_⟩, trivial⟩
          refine L.ret (x_call kref12_en116 rfl) rfl (part12 B b _ _ _ (hb.carry hB0) hfsb) ?_
          rintro _ w80 ⟨cs80, rfl, hp80, hw⟩
          have hB0 := hB0.carry hw; have bx9 := bx9.carry hw
          have hl80 := hp80.len
          have hp80 := hp80.mono (A' := B) fun k _ h => .inl h
          refine L.nil ?_
          refine thn_n ?_
          refine LAC.takeN (i := 7) rfl (by kernel_rfl) (by kernel_rfl) (by kernel_rfl) (by kernel_rfl) (fun w hw => x_mv (v := _) rfl) rfl ?_
          refine LAC.takeN (i := 8) rfl (by kernel_rfl) (by kernel_rfl) (by kernel_rfl) (by kernel_rfl) (fun w hw => x_ext (v := _) rfl rfl) rfl ?_
          refine LAC.takeN (i := 9) rfl (by kernel_rfl) (by kernel_rfl) (by kernel_rfl) (by kernel_rfl) (fun w hw => x_ext (v := .bool _) rfl rfl) rfl ?_
          refine LAC.step (rs := [11]) (fun _ => hB0) (by kernel_rfl) (by simp) ⟨⟨_, rfl, ?_⟩, trivial⟩
          refine L.setRow kref12_ag25 rfl rfl bx9 rfl hl80 hp80.one (fun wl83 bx9 hw hzl83 => ?_)
          have hB0 := hB0.set hw (by omega); have hp80 := hp80.carryR hw (fun j e => hBu j (by have e : j = _ := e; omega))
          have hx9 := bx9.lt
          refine L.nil ?_
          refine thn_n ?_
          refine LAC.takeN (i := 12) rfl (by kernel_rfl) (by kernel_rfl) (by kernel_rfl) (by kernel_rfl) (fun w hw => x_as (v := .bool _) rfl) rfl ?_
          refine LAC.doneF (by kernel_rfl) hB0 ?_
          have hB := hB.carry hB0; have ha := ha.carry hB0; have hb := hb.carry hB0; have hna := hna.carry hB0; have hra := hra.carry hB0; have hnb := hnb.carry hB0; have hrb := hrb.carry hB0; have bx2 := bx2.carry hB0; have bx3 := bx3.carry hB0
          refine thn_n ?_
          refine W.seq ?_
          refine W.drawF 12 kref12_mixed (fun wF83 hB0 => ?_)
          refine LAC.takeN (i := 0) rfl (by kernel_rfl) (by kernel_rfl) (by kernel_rfl) (by kernel_rfl) (fun w hw => x_mv (v := .bool _) rfl) rfl ?_
          refine LAC.takeN (i := 1) rfl (by kernel_rfl) (by kernel_rfl) (by kernel_rfl) (by kernel_rfl) (fun w hw => x_not rfl) rfl ?_
          refine LAC.takeN (i := 2) rfl (by kernel_rfl) (by kernel_rfl) (by kernel_rfl) (by kernel_rfl) (fun w hw => x_mv (v := .bool _) rfl) rfl ?_
          refine LAC.split (dj := 85) (b := _) rfl (fun g85 => ?_) (fun g85 => ?_)
          ·have h85 := (not_t g85)
           have hno : ¬ idxS (a.names.getD i []) b.names < b.names.length := by simpa using h85
           have hone : nrV (undN N) a b i = false := by unfold nrV; rw [if_neg hno]
           refine LAC.takeU (i := 3) rfl (by kernel_rfl) (by kernel_rfl) (by kernel_rfl) (by kernel_rfl) (dj := 85) (b := _) rfl rfl g85 rfl ?_
           refine LAC.takeU (i := 4) rfl (by kernel_rfl) (by kernel_rfl) (by kernel_rfl) (by kernel_rfl) (dj := 85) (b := _) rfl rfl g85 rfl ?_
           refine LAC.takeU (i := 5) rfl (by kernel_rfl) (by kernel_rfl) (by kernel_rfl) (by kernel_rfl) (dj := 85) (b := _) rfl rfl g85 rfl ?_
           refine LAC.takeU (i := 6) rfl (by kernel_rfl) (by kernel_rfl) (by kernel_rfl) (by kernel_rfl) (dj := 85) (b := _) rfl rfl g85 rfl ?_
           refine LAC.takeU (i := 7) rfl (by kernel_rfl) (by kernel_rfl) (by kernel_rfl) (by kernel_rfl) (dj := 85) (b := _) rfl rfl g85 rfl ?_
           refine LAC.takeU (i := 8) rfl (by kernel_rfl) (by kernel_rfl) (by kernel_rfl) (by kernel_rfl) (dj := 85) (b := _) rfl rfl g85 rfl ?_
           refine LAC.takeU (i := 9) rfl (by kernel_rfl) (by kernel_rfl) (by kernel_rfl) (by kernel_rfl) (dj := 85) (b := _) rfl rfl g85 rfl ?_
           refine LAC.takeU (i := 10) rfl (by kernel_rfl) (by kernel_rfl) (by kernel_rfl) (by kernel_rfl) (dj := 85) (b := _) rfl rfl g85 rfl ?_
           refine LAC.takeN (i := 11) rfl (by kernel_rfl) (by kernel_rfl) (by kernel_rfl) (by kernel_rfl) (fun w hw => x_pick_t (v := .bool _) (congrArg Value.bool g85) rfl) rfl ?_
           refine LAC.doneF (by kernel_rfl) hB0 ?_
           have hB := hB.carry hB0; have ha := ha.carry hB0; have hb := hb.carry hB0; have hna := hna.carry hB0; have hra := hra.carry hB0; have hnb := hnb.carry hB0; have hrb := hrb.carry hB0; have bx2 := bx2.carry hB0; have bx3 := bx3.carry hB0; have hp80 := hp80.carry hB0
           refine thn_n ?_
           refine W.cond (b := true) rfl (fun _ => ?_) (fun h => nomatch h)
           refine W.seq ?_
           refine W.region ?_
           refine L.val (x_as (v := .bool _) rfl) rfl ?_
           refine L.nil ?_
           refine thn_n ?_
           refine W.ret (blk_r (thn_r (thn_r (blk_r (thn_r (thn_r (fin_mk (.inr rfl) ?_)))))))
           exact ⟨vb (by show false = undB (undN N) a b; rw [undB, if_neg q2e, if_neg q6, if_pos q7, all_missR hlt (hone.trans (by first | rfl | exact h93))]), hB⟩
          ·have h85 := (not_f g85)
           have hno : idxS (a.names.getD i []) b.names < b.names.length := by simpa using h85
           have hone : nrV (undN N) a b i = undN N (a.parts.getD i default) (b.parts.getD (idxS (a.names.getD i []) b.names) default) := by unfold nrV; rw [if_pos hno]
           have hpv : partW b (a.names.getD i []) = b.parts.getD (idxS (a.names.getD i []) b.names) default := by unfold partW; rw [if_pos hno]
           rw [hpv] at hp80
           refine LAC.takeG (i := 3) rfl (by kernel_rfl) (by kernel_rfl) (by kernel_rfl) (by kernel_rfl) (dj := 85) (b := _) rfl rfl g85 (fun w hw => x_fa kref12_fo25_4 rfl) rfl ?_
           refine LAC.takeG (i := 4) rfl (by kernel_rfl) (by kernel_rfl) (by kernel_rfl) (by kernel_rfl) (dj := 85) (b := _) rfl rfl g85 (fun w hw => x_ld (v := .slice _ _ _) kref12_oc23 rfl (hw.keep (bx2.cell0 rfl))) rfl ?_
           refine LAC.takeG (i := 5) rfl (by kernel_rfl) (by kernel_rfl) (by kernel_rfl) (by kernel_rfl) (dj := 85) (b := _) rfl rfl g85 (fun w hw => x_mv (v := .int _ _) rfl) rfl ?_
           refine LAC.takeG (i := 6) rfl (by kernel_rfl) (by kernel_rfl) (by kernel_rfl) (by kernel_rfl) (dj := 85) (b := _) rfl rfl g85 (fun w hw => x_ia (j := i) Tryz.underlying23 kref12_sz25 rfl rfl (by omega) (by omega)) rfl ?_
           refine LAC.takeG (i := 7) rfl (by kernel_rfl) (by kernel_rfl) (by kernel_rfl) (by kernel_rfl) (dj := 85) (b := _) rfl rfl g85 (fun w hw => x_ldn (vs := rowa i) kref12_ag25 rfl (hra.five i hip) (hw.keepRow (hra.five i hip) (hra.elemAt hip))) rfl ?_
           refine LAC.takeG (i := 8) rfl (by kernel_rfl) (by kernel_rfl) (by kernel_rfl) (by kernel_rfl) (dj := 85) (b := _) rfl rfl g85 (fun w hw => x_ldn (vs := cs80) kref12_ag25 rfl hl80 (hw.keepRow hl80 (bx9.row hl80))) rfl ?_
           refine LAC.step (rs := [9]) (fun _ => hB0) (by kernel_rfl) (by simp) ⟨⟨_, rfl, ?_⟩, trivial⟩
           refine L.gyes' (dj := 85) (b := _) rfl rfl g85 ?_
           refine L.ret (x_call kref12_en65 rfl) rfl (hI i (idxS (a.names.getD i []) b.names) hip (by omega) A B _ _ _ ((hra.each i hip).carry hB0) (hp80.carry hB0)) ?_
           rintro _ w92 ⟨rfl, hw⟩
           have hB0 := hB0.carry hw
           refine L.nil ?_
           refine thn_n ?_
           refine LAC.takeG (i := 10) rfl (by kernel_rfl) (by kernel_rfl) (by kernel_rfl) (by kernel_rfl) (dj := 85) (b := _) rfl rfl g85 (fun w hw => x_not rfl) rfl ?_
           refine LAC.takeN (i := 11) rfl (by kernel_rfl) (by kernel_rfl) (by kernel_rfl) (by kernel_rfl) (fun w hw => x_pick_f (v := .bool _) (congrArg Value.bool g85) rfl) rfl ?_
           refine LAC.doneF (by kernel_rfl) hB0 ?_
           have hB := hB.carry hB0; have ha := ha.carry hB0; have hb := hb.carry hB0; have hna := hna.carry hB0; have hra := hra.carry hB0; have hnb := hnb.carry hB0; have hrb := hrb.carry hB0; have bx2 := bx2.carry hB0; have bx3 := bx3.carry hB0; have hp80 := hp80.carry hB0
           refine thn_n ?_
           refine W.cond (b := _) rfl (fun g93 => ?_) (fun g93 => ?_)
           ·have h93 := (not_t g93)
            refine W.seq ?_
            refine W.region ?_
            refine L.val (x_as (v := .bool _) rfl) rfl ?_
            refine L.nil ?_
            refine thn_n ?_
            refine W.ret (blk_r (thn_r (thn_r (blk_r (thn_r (thn_r (fin_mk (.inr rfl) ?_)))))))
            exact ⟨vb (by show false = undB (undN N) a b; rw [undB, if_neg q2e, if_neg q6, if_pos q7, all_missR hlt (hone.trans (by first | rfl | exact h93))]), hB⟩
           ·have h93 := (not_f g93)
            refine W.skip ?_
            refine blk_n ?_
            refine thn_n ?_
            refine W.region ?_
            refine L.val (x_mv (v := .int _ _) rfl) rfl ?_
            refine L.val (x_add rfl rfl (wr64 (by omega))) rfl ?_
            refine L.val (x_as (v := .int _ _) rfl) rfl ?_
            refine L.nil ?_
            refine thn_n ⟨rfl, ?_⟩
            refine ⟨_, ?_, i + 1, rfl, by first | rfl | exact vi (by omega), by first | rfl | exact vi (by omega), by first | rfl | exact vi (by omega), (by first | assumption | omega | rfl), (by first | assumption | omega | rfl), (by first | assumption | omega | rfl), (by first | assumption | omega | rfl), (by first | assumption | omega | rfl), (by first | assumption | omega | rfl), (by first | assumption | omega | rfl), (by first | assumption | omega | rfl), (by first | assumption | omega | rfl), (by first | assumption | omega | rfl), (by rw [all_succ, hall, hone, h93]; rfl)⟩
            omega
        ·have h70 := dlt_f g70
         refine W.exit (thn_x (thn_x (blk_hit ?_)))
         refine thn_n ?_
         refine W.seq ?_
         refine W.region ?_
         refine L.val (x_as (v := .bool _) rfl) rfl ?_
         refine L.nil ?_
         refine thn_n ?_
         refine W.ret (thn_r (fin_mk (.inr rfl) ?_))
         exact ⟨vb (by show true = undB (undN N) a b; rw [undB, if_neg q2e, if_neg q6, if_pos q7, show a.names.length = i by omega, hall]), hB⟩
      ·have h65 := of_decide_eq_false g65
       have q7 : ¬ a.kind = 7 := by omega
       refine W.skip ?_
       refine thn_n ?_
       refine W.seq ?_
       refine W.seq ?_
       refine W.region ?_
       refine L.val (x_fa kref12_fo25_4 rfl) rfl ?_
       refine L.val (x_ld (v := .slice _ _ _) kref12_oc23 rfl (bx2.cell0 rfl)) rfl ?_
       refine L.val (x_len_slice Tryz.underlying23 rfl) rfl ?_
       refine L.val (x_fa kref12_fo25_4 rfl) rfl ?_
       refine L.val (x_ld (v := .slice _ _ _) kref12_oc23 rfl (bx3.cell0 rfl)) rfl ?_
       refine L.val (x_len_slice Tryz.underlying23 rfl) rfl ?_
       refine L.val (x_neq rfl rfl) rfl ?_
       refine L.nil ?_
       refine thn_n ?_
       refine W.cond (b := _) rfl (fun g101 => ?_) (fun g101 => ?_)
       ·have h101 := dne_t g101
        refine W.seq ?_
        refine W.region ?_
        refine L.val (x_as (v := .bool _) rfl) rfl ?_
        refine L.nil ?_
        refine thn_n ?_
        refine W.ret (thn_r (fin_mk (.inr rfl) ?_))
        exact ⟨vb (by show false = undB (undN N) a b; rw [undB, if_neg q2e, if_neg q6, if_neg q7, if_pos (by omega)]), hB⟩
       ·have h101 := dne_f g101
        have hll : a.parts.length = b.parts.length := by omega
        refine W.skip ?_
        refine thn_n ?_
        refine W.seq ?_
        refine W.seq ?_
        refine W.region ?_
        refine L.val (x_as (v := .int _ _) rfl) rfl ?_
        refine L.nil ?_
        refine thn_n ?_
        refine W.block ?_
        refine W.loop (fun m' E w' => ∃ (i : Nat), m' = a.parts.length - i ∧ E 2 = .pointer (some ⟨w.heap.size, 0, none⟩) ∧ E 3 = .pointer (some ⟨b3, 0, none⟩) ∧ E 11 = .int .i64 (i : Nat) ∧ (Bel w w') ∧ (ShC A w' [.int .i64 a.kind, S a.of, S a.name, .slice pn a.names.length capn, .slice p a.parts.length cap] a) ∧ (ShC B w' [.int .i64 b.kind, S b.of, S b.name, .slice qn b.names.length capqn, .slice q b.parts.length capq] b) ∧ (StrsAt A w' (.slice pn a.names.length capn) a.names) ∧ (ShRow A w' p rowa a.parts) ∧ (StrsAt B w' (.slice qn b.names.length capqn) b.names) ∧ (ShRow B w' q rowb b.parts) ∧ (Box w' w.heap.size 25 [.int .i64 a.kind, S a.of, S a.name, .slice pn a.names.length capn, .slice p a.parts.length cap]) ∧ (Box w' b3 25 [.int .i64 b.kind, S b.of, S b.name, .slice qn b.names.length capqn, .slice q b.parts.length capq]) ∧ (i ≤ a.parts.length) ∧ ((List.range i).all (undP (undN N) a b) = true)) (a.parts.length) ?_ ?_
        ·exact ⟨0, by omega, by first | rfl | exact vi (by omega), by first | rfl | exact vi (by omega), by first | rfl | exact vi (by omega), (by first | assumption | omega | rfl), (by first | assumption | omega | rfl), (by first | assumption | omega | rfl), (by first | assumption | omega | rfl), (by first | assumption | omega | rfl), (by first | assumption | omega | rfl), (by first | assumption | omega | rfl), (by first | assumption | omega | rfl), (by first | assumption | omega | rfl), (by first | assumption | omega | rfl), (by rfl)⟩
        ·rintro _ E wL102 ⟨i, em, e2, e3, e11, hB, ha, hb, hna, hra, hnb, hrb, bx2, bx3, hi, hall⟩
         rw [upd_self e2, upd_self e3, upd_self e11]
         refine W.seq ?_
         refine W.seq ?_
         refine W.region ?_
         refine L.val (x_mv (v := .int _ _) rfl) rfl ?_
         refine L.val (x_fa kref12_fo25_4 rfl) rfl ?_
         refine L.val (x_ld (v := .slice _ _ _) kref12_oc23 rfl (bx2.cell0 rfl)) rfl ?_
         refine L.val (x_len_slice Tryz.underlying23 rfl) rfl ?_
         refine L.val (x_lss rfl rfl) rfl ?_
         refine L.nil ?_
         refine thn_n ?_
         refine W.cond (b := _) rfl (fun g106 => ?_) (fun g106 => ?_)
         ·have h106 := of_decide_eq_true g106
          have hip : i < a.parts.length := by omega
          have hjp : i < b.parts.length := by omega
          obtain ⟨bp, op, rfl, hcp⟩ := hra.elem hip
          obtain ⟨bq, oq, rfl, hcq⟩ := hrb.elem hjp
          refine W.skip ?_
          refine thn_n ?_
          refine W.seq ?_
          refine W.block ?_
          refine W.seq ?_
          refine W.seq ?_
          refine W.drawF 20 kref12_mixed (fun wF109 hB0 => ?_)
          refine LAC.takeN (i := 0) rfl (by kernel_rfl) (by kernel_rfl) (by kernel_rfl) (by kernel_rfl) (fun w hw => x_mv (v := .int _ _) rfl) rfl ?_
          refine LAC.takeN (i := 1) rfl (by kernel_rfl) (by kernel_rfl) (by kernel_rfl) (by kernel_rfl) (fun w hw => x_fa kref12_fo25_4 rfl) rfl ?_
          refine LAC.takeN (i := 2) rfl (by kernel_rfl) (by kernel_rfl) (by kernel_rfl) (by kernel_rfl) (fun w hw => x_ld (v := .slice _ _ _) kref12_oc23 rfl (hw.keep (bx2.cell0 rfl))) rfl ?_
          refine LAC.takeN (i := 3) rfl (by kernel_rfl) (by kernel_rfl) (by kernel_rfl) (by kernel_rfl) (fun w hw => x_len_slice Tryz.underlying23 rfl) rfl ?_
          refine LAC.takeN (i := 4) rfl (by kernel_rfl) (by kernel_rfl) (by kernel_rfl) (by kernel_rfl) (fun w hw => x_sub rfl rfl (wr64 (by omega))) rfl ?_
          refine LAC.takeN (i := 5) rfl (by kernel_rfl) (by kernel_rfl) (by kernel_rfl) (by kernel_rfl) (fun w hw => x_eql rfl rfl) rfl ?_
          refine LAC.takeN (i := 6) rfl (by kernel_rfl) (by kernel_rfl) (by kernel_rfl) (by kernel_rfl) (fun w hw => x_mv (v := .bool _) rfl) rfl ?_
          refine LAC.split (dj := 115) (b := _) rfl (fun g115 => ?_) (fun g115 => ?_)
          ·have h115 := of_decide_eq_true g115
           have hone : undP (undN N) a b i = undN N (a.parts.getD i default) (b.parts.getD i default) := by unfold undP; rw [if_pos (by omega)]
           refine LAC.takeG (i := 7) rfl (by kernel_rfl) (by kernel_rfl) (by kernel_rfl) (by kernel_rfl) (dj := 115) (b := _) rfl rfl g115 (fun w hw => x_fa kref12_fo25_4 rfl) rfl ?_
           refine LAC.takeG (i := 8) rfl (by kernel_rfl) (by kernel_rfl) (by kernel_rfl) (by kernel_rfl) (dj := 115) (b := _) rfl rfl g115 (fun w hw => x_ld (v := .slice _ _ _) kref12_oc23 rfl (hw.keep (bx2.cell0 rfl))) rfl ?_
           refine LAC.takeG (i := 9) rfl (by kernel_rfl) (by kernel_rfl) (by kernel_rfl) (by kernel_rfl) (dj := 115) (b := _) rfl rfl g115 (fun w hw => x_mv (v := .int _ _) rfl) rfl ?_
           refine LAC.takeG (i := 10) rfl (by kernel_rfl) (by kernel_rfl) (by kernel_rfl) (by kernel_rfl) (dj := 115) (b := _) rfl rfl g115 (fun w hw => x_ia (j := i) Tryz.underlying23 kref12_sz25 rfl rfl (by omega) (by omega)) rfl ?_
           refine LAC.takeG (i := 11) rfl (by kernel_rfl) (by kernel_rfl) (by kernel_rfl) (by kernel_rfl) (dj := 115) (b := _) rfl rfl g115 (fun w hw => x_ldn (vs := rowa i) kref12_ag25 rfl (hra.five i hip) (hw.keepRow (hra.five i hip) (hra.elemAt hip))) rfl ?_
           refine LAC.takeG (i := 12) rfl (by kernel_rfl) (by kernel_rfl) (by kernel_rfl) (by kernel_rfl) (dj := 115) (b := _) rfl rfl g115 (fun w hw => x_fa kref12_fo25_4 rfl) rfl ?_
           refine LAC.takeG (i := 13) rfl (by kernel_rfl) (by kernel_rfl) (by kernel_rfl) (by kernel_rfl) (dj := 115) (b := _) rfl rfl g115 (fun w hw => x_ld (v := .slice _ _ _) kref12_oc23 rfl (hw.keep (bx3.cell0 rfl))) rfl ?_
           refine LAC.takeG (i := 14) rfl (by kernel_rfl) (by kernel_rfl) (by kernel_rfl) (by kernel_rfl) (dj := 115) (b := _) rfl rfl g115 (fun w hw => x_mv (v := .int _ _) rfl) rfl ?_
           refine LAC.takeG (i := 15) rfl (by kernel_rfl) (by kernel_rfl) (by kernel_rfl) (by kernel_rfl) (dj := 115) (b := _) rfl rfl g115 (fun w hw => x_ia (j := i) Tryz.underlying23 kref12_sz25 rfl rfl (by omega) (by omega)) rfl ?_
           refine LAC.takeG (i := 16) rfl (by kernel_rfl) (by kernel_rfl) (by kernel_rfl) (by kernel_rfl) (dj := 115) (b := _) rfl rfl g115 (fun w hw => x_ldn (vs := rowb i) kref12_ag25 rfl (hrb.five i hjp) (hw.keepRow (hrb.five i hjp) (hrb.elemAt hjp))) rfl ?_
           refine LAC.step (rs := [17]) (fun _ => hB0) (by kernel_rfl) (by simp) ⟨⟨_, rfl, ?_⟩, trivial⟩
           refine L.gyes' (dj := 115) (b := _) rfl rfl g115 ?_
           refine L.ret (x_call kref12_en65 rfl) rfl (hI i i hip hjp A B _ _ _ ((hra.each i hip).carry hB0) ((hrb.each i hjp).carry hB0)) ?_
           rintro _ w126 ⟨rfl, hw⟩
           have hB0 := hB0.carry hw
           refine L.nil ?_
           refine thn_n ?_
           refine LAC.takeG (i := 18) rfl (by kernel_rfl) (by kernel_rfl) (by kernel_rfl) (by kernel_rfl) (dj := 115) (b := _) rfl rfl g115 (fun w hw => x_not rfl) rfl ?_
           refine LAC.takeN (i := 19) rfl (by kernel_rfl) (by kernel_rfl) (by kernel_rfl) (by kernel_rfl) (fun w hw => x_pick_t (v := .bool _) (congrArg Value.bool g115) rfl) rfl ?_
           refine LAC.doneF (by kernel_rfl) hB0 ?_
           have hB := hB.carry hB0; have ha := ha.carry hB0; have hb := hb.carry hB0; have hna := hna.carry hB0; have hra := hra.carry hB0; have hnb := hnb.carry hB0; have hrb := hrb.carry hB0; have bx2 := bx2.carry hB0; have bx3 := bx3.carry hB0
           refine thn_n ?_
           refine W.cond (b := _) rfl (fun g127 => ?_) (fun g127 => ?_)
           ·have h127 := (not_t g127)
            refine W.seq ?_
            refine W.region ?_
            refine L.val (x_as (v := .bool _) rfl) rfl ?_
            refine L.nil ?_
            refine thn_n ?_
            refine W.ret (thn_r (blk_r (thn_r (thn_r (blk_r (thn_r (fin_mk (.inr rfl) ?_)))))))
            exact ⟨vb (by show false = undB (undN N) a b; rw [undB, if_neg q2e, if_neg q6, if_neg q7, if_neg (by omega), all_missR hip (hone.trans h127)]), hB⟩
           ·have h127 := (not_f g127)
            refine W.skip ?_
            refine thn_n ?_
            refine W.seq ?_
            refine W.drawF 20 kref12_mixed (fun wF129 hB0 => ?_)
            refine LAC.takeN (i := 0) rfl (by kernel_rfl) (by kernel_rfl) (by kernel_rfl) (by kernel_rfl) (fun w hw => x_mv (v := .int _ _) rfl) rfl ?_
            refine LAC.takeN (i := 1) rfl (by kernel_rfl) (by kernel_rfl) (by kernel_rfl) (by kernel_rfl) (fun w hw => x_fa kref12_fo25_4 rfl) rfl ?_
            refine LAC.takeN (i := 2) rfl (by kernel_rfl) (by kernel_rfl) (by kernel_rfl) (by kernel_rfl) (fun w hw => x_ld (v := .slice _ _ _) kref12_oc23 rfl (hw.keep (bx2.cell0 rfl))) rfl ?_
            refine LAC.takeN (i := 3) rfl (by kernel_rfl) (by kernel_rfl) (by kernel_rfl) (by kernel_rfl) (fun w hw => x_len_slice Tryz.underlying23 rfl) rfl ?_
            refine LAC.takeN (i := 4) rfl (by kernel_rfl) (by kernel_rfl) (by kernel_rfl) (by kernel_rfl) (fun w hw => x_sub rfl rfl (wr64 (by omega))) rfl ?_
            refine LAC.takeN (i := 5) rfl (by kernel_rfl) (by kernel_rfl) (by kernel_rfl) (by kernel_rfl) (fun w hw => x_lss rfl rfl) rfl ?_
            refine LAC.takeN (i := 6) rfl (by kernel_rfl) (by kernel_rfl) (by kernel_rfl) (by kernel_rfl) (fun w hw => x_mv (v := .bool _) rfl) rfl ?_
            refine LAC.split (dj := 135) (b := _) rfl (fun g135 => ?_) (fun g135 => ?_)
            ·have h135 := of_decide_eq_true g135
             omega
            ·have h135 := dlt_f g135
             refine LAC.takeU (i := 7) rfl (by kernel_rfl) (by kernel_rfl) (by kernel_rfl) (by kernel_rfl) (dj := 135) (b := _) rfl rfl g135 rfl ?_
             refine LAC.takeU (i := 8) rfl (by kernel_rfl) (by kernel_rfl) (by kernel_rfl) (by kernel_rfl) (dj := 135) (b := _) rfl rfl g135 rfl ?_
             refine LAC.takeU (i := 9) rfl (by kernel_rfl) (by kernel_rfl) (by kernel_rfl) (by kernel_rfl) (dj := 135) (b := _) rfl rfl g135 rfl ?_
             refine LAC.takeU (i := 10) rfl (by kernel_rfl) (by kernel_rfl) (by kernel_rfl) (by kernel_rfl) (dj := 135) (b := _) rfl rfl g135 rfl ?_
             refine LAC.takeU (i := 11) rfl (by kernel_rfl) (by kernel_rfl) (by kernel_rfl) (by kernel_rfl) (dj := 135) (b := _) rfl rfl g135 rfl ?_
             refine LAC.takeU (i := 12) rfl (by kernel_rfl) (by kernel_rfl) (by kernel_rfl) (by kernel_rfl) (dj := 135) (b := _) rfl rfl g135 rfl ?_
             refine LAC.takeU (i := 13) rfl (by kernel_rfl) (by kernel_rfl) (by kernel_rfl) (by kernel_rfl) (dj := 135) (b := _) rfl rfl g135 rfl ?_
             refine LAC.takeU (i := 14) rfl (by kernel_rfl) (by kernel_rfl) (by kernel_rfl) (by kernel_rfl) (dj := 135) (b := _) rfl rfl g135 rfl ?_
             refine LAC.takeU (i := 15) rfl (by kernel_rfl) (by kernel_rfl) (by kernel_rfl) (by kernel_rfl) (dj := 135) (b := _) rfl rfl g135 rfl ?_
             refine LAC.takeU (i := 16) rfl (by kernel_rfl) (by kernel_rfl) (by kernel_rfl) (by kernel_rfl) (dj := 135) (b := _) rfl rfl g135 rfl ?_
             refine LAC.takeU (i := 17) rfl (by kernel_rfl) (by kernel_rfl) (by kernel_rfl) (by kernel_rfl) (dj := 135) (b := _) rfl rfl g135 rfl ?_
             refine LAC.takeU (i := 18) rfl (by kernel_rfl) (by kernel_rfl) (by kernel_rfl) (by kernel_rfl) (dj := 135) (b := _) rfl rfl g135 rfl ?_
             refine LAC.takeN (i := 19) rfl (by kernel_rfl) (by kernel_rfl) (by kernel_rfl) (by kernel_rfl) (fun w hw => x_pick_f (v := .bool _) (congrArg Value.bool g135) rfl) rfl ?_
             refine LAC.doneF (by kernel_rfl) hB0 ?_
             have hB := hB.carry hB0; have ha := ha.carry hB0; have hb := hb.carry hB0; have hna := hna.carry hB0; have hra := hra.carry hB0; have hnb := hnb.carry hB0; have hrb := hrb.carry hB0; have bx2 := bx2.carry hB0; have bx3 := bx3.carry hB0
             refine thn_n ?_
             refine W.cond (b := false) rfl (fun h => nomatch h) (fun _ => ?_)
             refine W.skip ?_
             refine blk_n ?_
             refine thn_n ?_
             refine W.region ?_
             refine L.val (x_mv (v := .int _ _) rfl) rfl ?_
             refine L.val (x_add rfl rfl (wr64 (by omega))) rfl ?_
             refine L.val (x_as (v := .int _ _) rfl) rfl ?_
             refine L.nil ?_
             refine thn_n ⟨rfl, ?_⟩
             refine ⟨_, ?_, i + 1, rfl, by first | rfl | exact vi (by omega), by first | rfl | exact vi (by omega), by first | rfl | exact vi (by omega), (by first | assumption | omega | rfl), (by first | assumption | omega | rfl), (by first | assumption | omega | rfl), (by first | assumption | omega | rfl), (by first | assumption | omega | rfl), (by first | assumption | omega | rfl), (by first | assumption | omega | rfl), (by first | assumption | omega | rfl), (by first | assumption | omega | rfl), (by first | assumption | omega | rfl), (by rw [all_succ, hall, hone]; first | (rw [h127]; rfl) | (rw [h147]; rfl))⟩
             omega
          ·have h115 := of_decide_eq_false g115
           have hone : undP (undN N) a b i = undN N (b.parts.getD i default) (a.parts.getD i default) := by unfold undP; rw [if_neg (by omega)]
           refine LAC.takeU (i := 7) rfl (by kernel_rfl) (by kernel_rfl) (by kernel_rfl) (by kernel_rfl) (dj := 115) (b := _) rfl rfl g115 rfl ?_
           refine LAC.takeU (i := 8) rfl (by kernel_rfl) (by kernel_rfl) (by kernel_rfl) (by kernel_rfl) (dj := 115) (b := _) rfl rfl g115 rfl ?_
           refine LAC.takeU (i := 9) rfl (by kernel_rfl) (by kernel_rfl) (by kernel_rfl) (by kernel_rfl) (dj := 115) (b := _) rfl rfl g115 rfl ?_
           refine LAC.takeU (i := 10) rfl (by kernel_rfl) (by kernel_rfl) (by kernel_rfl) (by kernel_rfl) (dj := 115) (b := _) rfl rfl g115 rfl ?_
           refine LAC.takeU (i := 11) rfl (by kernel_rfl) (by kernel_rfl) (by kernel_rfl) (by kernel_rfl) (dj := 115) (b := _) rfl rfl g115 rfl ?_
           refine LAC.takeU (i := 12) rfl (by kernel_rfl) (by kernel_rfl) (by kernel_rfl) (by kernel_rfl) (dj := 115) (b := _) rfl rfl g115 rfl ?_
           refine LAC.takeU (i := 13) rfl (by kernel_rfl) (by kernel_rfl) (by kernel_rfl) (by kernel_rfl) (dj := 115) (b := _) rfl rfl g115 rfl ?_
           refine LAC.takeU (i := 14) rfl (by kernel_rfl) (by kernel_rfl) (by kernel_rfl) (by kernel_rfl) (dj := 115) (b := _) rfl rfl g115 rfl ?_
           refine LAC.takeU (i := 15) rfl (by kernel_rfl) (by kernel_rfl) (by kernel_rfl) (by kernel_rfl) (dj := 115) (b := _) rfl rfl g115 rfl ?_
           refine LAC.takeU (i := 16) rfl (by kernel_rfl) (by kernel_rfl) (by kernel_rfl) (by kernel_rfl) (dj := 115) (b := _) rfl rfl g115 rfl ?_
           refine LAC.takeU (i := 17) rfl (by kernel_rfl) (by kernel_rfl) (by kernel_rfl) (by kernel_rfl) (dj := 115) (b := _) rfl rfl g115 rfl ?_
           refine LAC.takeU (i := 18) rfl (by kernel_rfl) (by kernel_rfl) (by kernel_rfl) (by kernel_rfl) (dj := 115) (b := _) rfl rfl g115 rfl ?_
           refine LAC.takeN (i := 19) rfl (by kernel_rfl) (by kernel_rfl) (by kernel_rfl) (by kernel_rfl) (fun w hw => x_pick_f (v := .bool _) (congrArg Value.bool g115) rfl) rfl ?_
           refine LAC.doneF (by kernel_rfl) hB0 ?_
           have hB := hB.carry hB0; have ha := ha.carry hB0; have hb := hb.carry hB0; have hna := hna.carry hB0; have hra := hra.carry hB0; have hnb := hnb.carry hB0; have hrb := hrb.carry hB0; have bx2 := bx2.carry hB0; have bx3 := bx3.carry hB0
           refine thn_n ?_
           refine W.cond (b := false) rfl (fun h => nomatch h) (fun _ => ?_)
           refine W.skip ?_
           refine thn_n ?_
           refine W.seq ?_
           refine W.drawF 20 kref12_mixed (fun wF129 hB0 => ?_)
           refine LAC.takeN (i := 0) rfl (by kernel_rfl) (by kernel_rfl) (by kernel_rfl) (by kernel_rfl) (fun w hw => x_mv (v := .int _ _) rfl) rfl ?_
           refine LAC.takeN (i := 1) rfl (by kernel_rfl) (by kernel_rfl) (by kernel_rfl) (by kernel_rfl) (fun w hw => x_fa kref12_fo25_4 rfl) rfl ?_
           refine LAC.takeN (i := 2) rfl (by kernel_rfl) (by kernel_rfl) (by kernel_rfl) (by kernel_rfl) (fun w hw => x_ld (v := .slice _ _ _) kref12_oc23 rfl (hw.keep (bx2.cell0 rfl))) rfl ?_
           refine LAC.takeN (i := 3) rfl (by kernel_rfl) (by kernel_rfl) (by kernel_rfl) (by kernel_rfl) (fun w hw => x_len_slice Tryz.underlying23 rfl) rfl ?_
           refine LAC.takeN (i := 4) rfl (by kernel_rfl) (by kernel_rfl) (by kernel_rfl) (by kernel_rfl) (fun w hw => x_sub rfl rfl (wr64 (by omega))) rfl ?_
           refine LAC.takeN (i := 5) rfl (by kernel_rfl) (by kernel_rfl) (by kernel_rfl) (by kernel_rfl) (fun w hw => x_lss rfl rfl) rfl ?_
           refine LAC.takeN (i := 6) rfl (by kernel_rfl) (by kernel_rfl) (by kernel_rfl) (by kernel_rfl) (fun w hw => x_mv (v := .bool _) rfl) rfl ?_
           refine LAC.split (dj := 135) (b := _) rfl (fun g135 => ?_) (fun g135 => ?_)
           ·have h135 := of_decide_eq_true g135
            refine LAC.takeG (i := 7) rfl (by kernel_rfl) (by kernel_rfl) (by kernel_rfl) (by kernel_rfl) (dj := 135) (b := _) rfl rfl g135 (fun w hw => x_fa kref12_fo25_4 rfl) rfl ?_
            refine LAC.takeG (i := 8) rfl (by kernel_rfl) (by kernel_rfl) (by kernel_rfl) (by kernel_rfl) (dj := 135) (b := _) rfl rfl g135 (fun w hw => x_ld (v := .slice _ _ _) kref12_oc23 rfl (hw.keep (bx3.cell0 rfl))) rfl ?_
            refine LAC.takeG (i := 9) rfl (by kernel_rfl) (by kernel_rfl) (by kernel_rfl) (by kernel_rfl) (dj := 135) (b := _) rfl rfl g135 (fun w hw => x_mv (v := .int _ _) rfl) rfl ?_
            refine LAC.takeG (i := 10) rfl (by kernel_rfl) (by kernel_rfl) (by kernel_rfl) (by kernel_rfl) (dj := 135) (b := _) rfl rfl g135 (fun w hw => x_ia (j := i) Tryz.underlying23 kref12_sz25 rfl rfl (by omega) (by omega)) rfl ?_
            refine LAC.takeG (i := 11) rfl (by kernel_rfl) (by kernel_rfl) (by kernel_rfl) (by kernel_rfl) (dj := 135) (b := _) rfl rfl g135 (fun w hw => x_ldn (vs := rowb i) kref12_ag25 rfl (hrb.five i hjp) (hw.keepRow (hrb.five i hjp) (hrb.elemAt hjp))) rfl ?_
            refine LAC.takeG (i := 12) rfl (by kernel_rfl) (by kernel_rfl) (by kernel_rfl) (by kernel_rfl) (dj := 135) (b := _) rfl rfl g135 (fun w hw => x_fa kref12_fo25_4 rfl) rfl ?_
            refine LAC.takeG (i := 13) rfl (by kernel_rfl) (by kernel_rfl) (by kernel_rfl) (by kernel_rfl) (dj := 135) (b := _) rfl rfl g135 (fun w hw => x_ld (v := .slice _ _ _) kref12_oc23 rfl (hw.keep (bx2.cell0 rfl))) rfl ?_
            refine LAC.takeG (i := 14) rfl (by kernel_rfl) (by kernel_rfl) (by kernel_rfl) (by kernel_rfl) (dj := 135) (b := _) rfl rfl g135 (fun w hw => x_mv (v := .int _ _) rfl) rfl ?_
            refine LAC.takeG (i := 15) rfl (by kernel_rfl) (by kernel_rfl) (by kernel_rfl) (by kernel_rfl) (dj := 135) (b := _) rfl rfl g135 (fun w hw => x_ia (j := i) Tryz.underlying23 kref12_sz25 rfl rfl (by omega) (by omega)) rfl ?_
            refine LAC.takeG (i := 16) rfl (by kernel_rfl) (by kernel_rfl) (by kernel_rfl) (by kernel_rfl) (dj := 135) (b := _) rfl rfl g135 (fun w hw => x_ldn (vs := rowa i) kref12_ag25 rfl (hra.five i hip) (hw.keepRow (hra.five i hip) (hra.elemAt hip))) rfl ?_
            refine LAC.step (rs := [17]) (fun _ => hB0) (by kernel_rfl) (by simp) ⟨⟨_, rfl, ?_⟩, trivial⟩
            refine L.gyes' (dj := 135) (b := _) rfl rfl g135 ?_
            refine L.ret (x_call kref12_en65 rfl) rfl (hI' i i hip hjp B A _ _ _ ((hrb.each i hjp).carry hB0) ((hra.each i hip).carry hB0)) ?_
            rintro _ w146 ⟨rfl, hw⟩
            have hB0 := hB0.carry hw
            refine L.nil ?_
            refine thn_n ?_
            refine LAC.takeG (i := 18) rfl (by kernel_rfl) (by kernel_rfl) (by kernel_rfl) (by kernel_rfl) (dj := 135) (b := _) rfl rfl g135 (fun w hw => x_not rfl) rfl ?_
            refine LAC.takeN (i := 19) rfl (by kernel_rfl) (by kernel_rfl) (by kernel_rfl) (by kernel_rfl) (fun w hw => x_pick_t (v := .bool _) (congrArg Value.bool g135) rfl) rfl ?_
            refine LAC.doneF (by kernel_rfl) hB0 ?_
            have hB := hB.carry hB0; have ha := ha.carry hB0; have hb := hb.carry hB0; have hna := hna.carry hB0; have hra := hra.carry hB0; have hnb := hnb.carry hB0; have hrb := hrb.carry hB0; have bx2 := bx2.carry hB0; have bx3 := bx3.carry hB0
            refine thn_n ?_
            refine W.cond (b := _) rfl (fun g147 => ?_) (fun g147 => ?_)
            ·have h147 := (not_t g147)
             refine W.seq ?_
             refine W.region ?_
             refine L.val (x_as (v := .bool _) rfl) rfl ?_
             refine L.nil ?_
             refine thn_n ?_
             refine W.ret (blk_r (thn_r (thn_r (blk_r (thn_r (fin_mk (.inr rfl) ?_))))))
             exact ⟨vb (by show false = undB (undN N) a b; rw [undB, if_neg q2e, if_neg q6, if_neg q7, if_neg (by omega), all_missR hip (hone.trans h147)]), hB⟩
            ·have h147 := (not_f g147)
             refine W.skip ?_
             refine blk_n ?_
             refine thn_n ?_
             refine W.region ?_
             refine L.val (x_mv (v := .int _ _) rfl) rfl ?_
             refine L.val (x_add rfl rfl (wr64 (by omega))) rfl ?_
             refine L.val (x_as (v := .int _ _) rfl) rfl ?_
             refine L.nil ?_
             refine thn_n ⟨rfl, ?_⟩
             refine ⟨_, ?_, i + 1, rfl, by first | rfl | exact vi (by omega), by first | rfl | exact vi (by omega), by first | rfl | exact vi (by omega), (by first | assumption | omega | rfl), (by first | assumption | omega | rfl), (by first | assumption | omega | rfl), (by first | assumption | omega | rfl), (by first | assumption | omega | rfl), (by first | assumption | omega | rfl), (by first | assumption | omega | rfl), (by first | assumption | omega | rfl), (by first | assumption | omega | rfl), (by first | assumption | omega | rfl), (by rw [all_succ, hall, hone]; first | (rw [h127]; rfl) | (rw [h147]; rfl))⟩
             omega
           ·have h135 := dlt_f g135
            omega
         ·have h106 := dlt_f g106
          refine W.exit (thn_x (thn_x (blk_hit ?_)))
          refine thn_n ?_
          refine W.seq ?_
          refine W.region ?_
          refine L.val (x_as (v := .bool _) rfl) rfl ?_
          refine L.nil ?_
          refine thn_n ?_
          refine W.ret (fin_mk (.inr rfl) ?_)
          exact ⟨vb (by show true = undB (undN N) a b; rw [undB, if_neg q2e, if_neg q6, if_neg q7, if_neg (by omega), show a.parts.length = i by omega, hall]), hB⟩
theorem below12 (A B : Nat → Prop) (a b : Sh) (xs ys : List Value) (w : World) (ha : ShC A w xs a) (hb : ShC B w ys b) :
    Ret Tryz.prog 28 #[.agg xs.toArray, .agg ys.toArray] w fun v w' => v = .bool (belowR a b) ∧ Bel w w' := by
  have hla := ha.len
  have hlb := hb.len
  refine ret_of_W Tryz.func28 rfl (Nat.le_of_ble_eq_true rfl) (res1 rfl) ?_
  have hB := Gr.refl (fun _ => False) w
  refine W.seq ?_
  refine W.region ?_
  refine L.box (cs := xs) rfl rfl (fun w2 bx2 hw hz2 => ?_)
  have hB := hB.carry hw; have ha := ha.carry hw; have hb := hb.carry hw
  refine L.box (cs := ys) rfl rfl (fun w3 bx3 hw hz3 => ?_)
  have hB := hB.carry hw; have ha := ha.carry hw; have hb := hb.carry hw; have bx2 := bx2.carry hw
  refine L.val (x_as (v := .bool _) rfl) rfl ?_
  refine L.nil ?_
  refine thn_n ?_
  refine W.seq ?_
  refine W.region ?_
  refine L.val (x_ldn (vs := xs) kref12_ag25 rfl hla (bx2.row hla)) rfl ?_
  refine L.ret (x_call kref12_en52 rfl) rfl (check07 A a _ _ ha) ?_
  rintro _ w6 ⟨rfl, hw⟩
  have hB := hB.carry hw; have ha := ha.carry hw; have hb := hb.carry hw; have bx2 := bx2.carry hw; have bx3 := bx3.carry hw
  refine L.val (x_eql rfl rfl) rfl ?_
  refine L.val (x_mv (v := .bool _) rfl) rfl ?_
  refine' L.group 3 9 11 11 8 true rfl ?_ ?_ ?_
  rotate_left 1
  ·intro g8 hg8
   have h8 := of_decide_eq_true g8
   refine L.gyes' (dj := 8) (b := _) rfl rfl g8 ?_
   refine L.val (x_ldn (vs := ys) kref12_ag25 rfl hlb (bx3.row hlb)) rfl ?_
   refine L.gyes' (dj := 8) (b := _) rfl rfl g8 ?_
   refine L.ret (x_call kref12_en52 rfl) rfl (check07 B b _ _ hb) ?_
   rintro _ w10 ⟨rfl, hw⟩
   have hB := hB.carry hw; have ha := ha.carry hw; have hb := hb.carry hw; have bx2 := bx2.carry hw; have bx3 := bx3.carry hw; have hg8 := hg8.carry hw
   refine L.gyes' (dj := 8) (b := _) rfl rfl g8 ?_
   refine L.val (x_eql rfl rfl) rfl ?_
   refine L.nil ?_
   refine thn_n ⟨rfl, ?_, ?_, fun _ => rfl⟩
   ·exact hg8
   ·repeat (first | exact jeq.refl _ _ _ | refine jeq.upd rfl ?_ | refine jeq.jk rfl rfl ?_)
  ·intro g8
   refine L.gno (dj := 8) (b := _) rfl rfl g8 rfl ?_
   refine L.gno (dj := 8) (b := _) rfl rfl g8 rfl ?_
   refine L.gno (dj := 8) (b := _) rfl rfl g8 rfl ?_
   refine L.nil (thn_n ⟨rfl, Gr.refl _ _, ?_⟩)
   refine ⟨?_, fun h => h.elim⟩
   repeat (first | exact jeq.refl _ _ _ | refine jeq.upd rfl ?_ | refine jeq.jk rfl rfl ?_)
  intro J8 w8 hw j8
  have hB := hB.carry hw; have ha := ha.carry hw; have hb := hb.carry hw; have bx2 := bx2.carry hw; have bx3 := bx3.carry hw
  refine L.val (x_and rfl j8) rfl ?_
  refine L.val (x_mv (v := .bool _) rfl) rfl ?_
  refine' L.group 3 14 16 16 13 true rfl ?_ ?_ ?_
  rotate_left 1
  ·intro g13 hg13
   have h13 := g13
   refine L.gyes' (dj := 13) (b := _) rfl rfl g13 ?_
   refine L.val (x_ldn (vs := xs) kref12_ag25 rfl hla (bx2.row hla)) rfl ?_
   refine L.gyes' (dj := 13) (b := _) rfl rfl g13 ?_
   refine L.val (x_ldn (vs := ys) kref12_ag25 rfl hlb (bx3.row hlb)) rfl ?_
   refine L.gyes' (dj := 13) (b := _) rfl rfl g13 ?_
   refine L.ret (x_call kref12_en65 rfl) rfl (und12 _ a b (Nat.lt_succ_self _) (check_zero (s := a) (by simp at g13; exact g13.1)).2.2 (check_zero (s := b) (by simp at g13; exact g13.2)).2.2 A B _ _ _ ha hb) ?_
   rintro _ w16 ⟨rfl, hw⟩
   have hB := hB.carry hw; have ha := ha.carry hw; have hb := hb.carry hw; have bx2 := bx2.carry hw; have bx3 := bx3.carry hw; have hg13 := hg13.carry hw
   refine L.nil ?_
   refine thn_n ⟨rfl, ?_, ?_, fun _ => rfl⟩
   ·exact hg13
   ·repeat (first | exact jeq.refl _ _ _ | refine jeq.upd rfl ?_ | refine jeq.jk rfl rfl ?_)
  ·intro g13
   refine L.gno (dj := 13) (b := _) rfl rfl g13 rfl ?_
   refine L.gno (dj := 13) (b := _) rfl rfl g13 rfl ?_
   refine L.gno (dj := 13) (b := _) rfl rfl g13 rfl ?_
   refine L.nil (thn_n ⟨rfl, Gr.refl _ _, ?_⟩)
   refine ⟨?_, fun h => h.elim⟩
   repeat (first | exact jeq.refl _ _ _ | refine jeq.upd rfl ?_ | refine jeq.jk rfl rfl ?_)
  intro J13 w13 hw j13
  have hB := hB.carry hw; have ha := ha.carry hw; have hb := hb.carry hw; have bx2 := bx2.carry hw; have bx3 := bx3.carry hw
  refine L.val (x_and rfl j13) rfl ?_
  refine L.val (x_as (v := .bool _) rfl) rfl ?_
  refine L.nil ?_
  refine thn_n ?_
  refine W.ret (fin_mk (.inr rfl) ?_)
  exact ⟨vb below_und, hB⟩
theorem law_belows (A0 B0 : Nat → Prop) (a b : Sh) (xs ys : List Value) (w : World) (ha : ShC A0 w xs a) (hb : ShC B0 w ys b) :
    Ret Tryz.prog 5 #[.agg xs.toArray, .agg ys.toArray] w fun v w' => v = .bool true ∧ Bel w w' := by
  have hla := ha.len
  have hlb := hb.len
  refine ret_of_W Tryz.func5 rfl (Nat.le_of_ble_eq_true rfl) (res1 rfl) ?_
  have hB := Gr.refl (fun _ => False) w
  refine W.seq ?_
  refine W.region ?_
  refine L.box (cs := xs) rfl rfl (fun w2 bx2 hw hz2 => ?_)
  have hB := hB.carry hw; have ha := ha.carry hw; have hb := hb.carry hw
  refine L.box (cs := ys) rfl rfl (fun w3 bx3 hw hz3 => ?_)
  have hB := hB.carry hw; have ha := ha.carry hw; have hb := hb.carry hw; have bx2 := bx2.carry hw
  refine L.val (x_as (v := .bool _) rfl) rfl ?_
  refine L.nil ?_
  refine thn_n ?_
  refine W.seq ?_
  refine W.drawF 20 kref12_mixed (fun wF5 hB0 => ?_)
  refine LAC.takeN (i := 0) rfl (by kernel_rfl) (by kernel_rfl) (by kernel_rfl) (by kernel_rfl) (fun w hw => x_ldn (vs := xs) kref12_ag25 rfl hla (hw.keepRow hla (bx2.row hla))) rfl ?_
  refine LAC.takeN (i := 1) rfl (by kernel_rfl) (by kernel_rfl) (by kernel_rfl) (by kernel_rfl) (fun w hw => x_ldn (vs := ys) kref12_ag25 rfl hlb (hw.keepRow hlb (bx3.row hlb))) rfl ?_
  refine LAC.takeN (i := 3) rfl (by kernel_rfl) (by kernel_rfl) (by kernel_rfl) (by kernel_rfl) (fun w hw => x_ldn (vs := xs) kref12_ag25 rfl hla (hw.keepRow hla (bx2.row hla))) rfl ?_
  refine LAC.takeN (i := 4) rfl (by kernel_rfl) (by kernel_rfl) (by kernel_rfl) (by kernel_rfl) (fun w hw => x_ldn (vs := ys) kref12_ag25 rfl hlb (hw.keepRow hlb (bx3.row hlb))) rfl ?_
  refine LAC.step (rs := [2]) (fun _ => hB0) (by kernel_rfl) (by simp) ⟨⟨_, rfl, ?_⟩, trivial⟩
  refine L.ret (x_call kref12_en27 rfl) rfl (below_ok _ _ a b _ _ _ (ha.carry hB0) (hb.carry hB0)) ?_
  rintro _ w7 ⟨rfl, hw⟩
  have hB0 := hB0.carry hw
  refine L.nil ?_
  refine thn_n ?_
  refine LAC.step (rs := [5]) (fun _ => hB0) (by kernel_rfl) (by simp) ⟨⟨_, rfl, ?_⟩, trivial⟩
  refine L.ret (x_call kref12_en28 rfl) rfl (below12 _ _ a b _ _ _ (ha.carry hB0) (hb.carry hB0)) ?_
  rintro _ w10 ⟨rfl, hw⟩
  have hB0 := hB0.carry hw
  refine L.nil ?_
  refine thn_n ?_
  refine LAC.takeN (i := 6) rfl (by kernel_rfl) (by kernel_rfl) (by kernel_rfl) (by kernel_rfl) (fun w hw => x_eqb Tryz.underlying4 rfl rfl) rfl ?_
  refine LAC.takeN (i := 7) rfl (by kernel_rfl) (by kernel_rfl) (by kernel_rfl) (by kernel_rfl) (fun w hw => x_mv (v := .bool _) rfl) rfl ?_
  refine LAC.split (dj := 12) (b := _) rfl (fun g12 => ?_) (fun g12 => ?_)
  ·have h12 := g12
   refine LAC.takeG (i := 8) rfl (by kernel_rfl) (by kernel_rfl) (by kernel_rfl) (by kernel_rfl) (dj := 12) (b := _) rfl rfl g12 (fun w hw => x_ldn (vs := ys) kref12_ag25 rfl hlb (hw.keepRow hlb (bx3.row hlb))) rfl ?_
   refine LAC.takeG (i := 9) rfl (by kernel_rfl) (by kernel_rfl) (by kernel_rfl) (by kernel_rfl) (dj := 12) (b := _) rfl rfl g12 (fun w hw => x_ldn (vs := xs) kref12_ag25 rfl hla (hw.keepRow hla (bx2.row hla))) rfl ?_
   refine LAC.takeG (i := 11) rfl (by kernel_rfl) (by kernel_rfl) (by kernel_rfl) (by kernel_rfl) (dj := 12) (b := _) rfl rfl g12 (fun w hw => x_ldn (vs := ys) kref12_ag25 rfl hlb (hw.keepRow hlb (bx3.row hlb))) rfl ?_
   refine LAC.takeG (i := 12) rfl (by kernel_rfl) (by kernel_rfl) (by kernel_rfl) (by kernel_rfl) (dj := 12) (b := _) rfl rfl g12 (fun w hw => x_ldn (vs := xs) kref12_ag25 rfl hla (hw.keepRow hla (bx2.row hla))) rfl ?_
   refine LAC.step (rs := [10]) (fun _ => hB0) (by kernel_rfl) (by simp) ⟨⟨_, rfl, ?_⟩, trivial⟩
   refine L.gyes' (dj := 12) (b := _) rfl rfl g12 ?_
   refine L.ret (x_call kref12_en27 rfl) rfl (below_ok _ _ b a _ _ _ (hb.carry hB0) (ha.carry hB0)) ?_
   rintro _ w15 ⟨rfl, hw⟩
   have hB0 := hB0.carry hw
   refine L.nil ?_
   refine thn_n ?_
   refine LAC.step (rs := [13]) (fun _ => hB0) (by kernel_rfl) (by simp) ⟨⟨_, rfl, ?_⟩, trivial⟩
   refine L.gyes' (dj := 12) (b := _) rfl rfl g12 ?_
   refine L.ret (x_call kref12_en28 rfl) rfl (below12 _ _ b a _ _ _ (hb.carry hB0) (ha.carry hB0)) ?_
   rintro _ w18 ⟨rfl, hw⟩
   have hB0 := hB0.carry hw
   refine L.nil ?_
   refine thn_n ?_
   refine LAC.takeG (i := 14) rfl (by kernel_rfl) (by kernel_rfl) (by kernel_rfl) (by kernel_rfl) (dj := 12) (b := _) rfl rfl g12 (fun w hw => x_eqb Tryz.underlying4 rfl rfl) rfl ?_
   refine LAC.takeN (i := 15) rfl (by kernel_rfl) (by kernel_rfl) (by kernel_rfl) (by kernel_rfl) (fun w hw => x_pick_t (v := .bool _) (congrArg Value.bool g12) rfl) rfl ?_
   refine LAC.takeN (i := 16) rfl (by kernel_rfl) (by kernel_rfl) (by kernel_rfl) (by kernel_rfl) (fun w hw => x_mv (v := .bool _) rfl) rfl ?_
   refine LAC.split (dj := 21) (b := _) rfl (fun g21 => ?_) (fun g21 => ?_)
   ·have h21 := g21
    refine LAC.step (rs := [17]) (fun _ => hB0) (by kernel_rfl) (by simp) ⟨⟨_, rfl, ?_⟩, trivial⟩
    refine L.gyes' (dj := 21) (b := _) rfl rfl g21 ?_
    refine L.ret (x_call kref12_en29 rfl) rfl (awake12 _) ?_
    rintro _ w22 ⟨rfl, hw⟩
    have hB0 := hB0.carry hw
    refine L.nil ?_
    refine thn_n ?_
    refine LAC.takeN (i := 18) rfl (by kernel_rfl) (by kernel_rfl) (by kernel_rfl) (by kernel_rfl) (fun w hw => x_pick_t (v := .bool _) (congrArg Value.bool g21) rfl) rfl ?_
    refine LAC.takeN (i := 19) rfl (by kernel_rfl) (by kernel_rfl) (by kernel_rfl) (by kernel_rfl) (fun w hw => x_as (v := .bool _) rfl) rfl ?_
    refine LAC.doneF (by kernel_rfl) hB0 ?_
    have hB := hB.carry hB0; have ha := ha.carry hB0; have hb := hb.carry hB0; have bx2 := bx2.carry hB0; have bx3 := bx3.carry hB0
    refine thn_n ?_
    refine W.ret (fin_mk (.inr rfl) ?_)
    exact ⟨rfl, hB⟩
   ·have h21 := g21
    simp at g21
  ·have h12 := g12
   simp at g12
end Go.Gx
