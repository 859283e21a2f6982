/- Layer 13 by the document: alike and near. Conditions: none. -/
import Derived.Test.YteehllhldaopjaaGreatNrRef13
import Derived.Test.YteehllhldaopjaaGreatNrFree
namespace Go.Gx
open Go.Proofs
theorem kref13b_ag25 : aggT Tryz.prog 25 5 = true := by kernel_rfl
theorem kref13b_en110 : Go.Proofs.Enters Tryz.prog 110 := Go.Proofs.enters_of Tryz.func110 (by kernel_rfl) rfl
theorem kref13b_en57 : Go.Proofs.Enters Tryz.prog 57 := Go.Proofs.enters_of Tryz.func57 (by kernel_rfl) rfl
theorem kref13b_en59 : Go.Proofs.Enters Tryz.prog 59 := Go.Proofs.enters_of Tryz.func59 (by kernel_rfl) rfl
theorem kref13b_fo25_0 : fieldOff Tryz.prog 25 0 = some 0 := by kernel_rfl
theorem kref13b_fo25_1 : fieldOff Tryz.prog 25 1 = some 1 := by kernel_rfl
theorem kref13b_fo25_2 : fieldOff Tryz.prog 25 2 = some 2 := by kernel_rfl
theorem kref13b_fo25_3 : fieldOff Tryz.prog 25 3 = some 3 := by kernel_rfl
theorem kref13b_fo25_4 : fieldOff Tryz.prog 25 4 = some 4 := by kernel_rfl
theorem kref13b_mixed : Tryz.prog.follows .mixedOrders = true := by kernel_rfl
theorem kref13b_oc22 : oneCellT Tryz.prog 22 = true := by kernel_rfl
theorem kref13b_oc23 : oneCellT Tryz.prog 23 = true := by kernel_rfl
theorem kref13b_oc3 : oneCellT Tryz.prog 3 = true := by kernel_rfl
theorem kref13b_oc9 : oneCellT Tryz.prog 9 = true := by kernel_rfl
theorem kref13b_sz25 : (Tryz.prog.info? 25).map (·.size) = some 5 := by kernel_rfl
theorem kref13b_sz9 : (Tryz.prog.info? 9).map (·.size) = some 1 := by kernel_rfl
theorem kref13b_zr25 : (Tryz.prog.info? 25).bind (·.zero) = some (Value.agg [Value.int .i64 0, S [], S [], Value.slice none 0 0, Value.slice none 0 0].toArray) := by kernel_rfl
theorem alike13 : ∀ (N : Nat) (a b : Sh), SizeOf.sizeOf a + SizeOf.sizeOf b < N → a.allB fitsS = true → b.allB fitsS = true → ∀ (A0 B0 : Nat → Prop) (xs ys : List Value) (w : World), ShC A0 w xs a → ShC B0 w ys b →
    Ret Tryz.prog 57 #[.agg xs.toArray, .agg ys.toArray] w fun v w' => v = .bool (alkN N a b) ∧ Bel w w' := by
  intro N
  induction N with
  | zero => intro a b h; omega
  | succ N ih =>
    intro a b hN hfa hfb A0 B0 xs ys w ha0 hb0
    obtain ⟨A, ha, hA⟩ : ∃ A : Nat → Prop, ShC A w xs a ∧ (∀ k, w.heap.size ≤ k → A k) := ⟨_, ha0.up, fun _ => .inr⟩
    obtain ⟨B, hb, hBu⟩ : ∃ B : Nat → Prop, ShC B w ys b ∧ (∀ k, w.heap.size ≤ k → B k) := ⟨_, hb0.up, fun _ => .inr⟩
    clear ha0 hb0
    obtain ⟨vna, vpa, rfl, hna, hpa, -⟩ := id ha.inv
    obtain ⟨p, cap, rowa, rfl, p1, p2, p3, hra⟩ := hpa
    obtain ⟨pn, capn, rfl, n1, n2, n3, hLa, -⟩ := id hna
    obtain ⟨vnb, vpb, rfl, hnb, hpb, -⟩ := id hb.inv
    obtain ⟨q, capq, rowb, rfl, q1, q2, q3, hrb⟩ := hpb
    obtain ⟨qn, capqn, rfl, m1, m2, m3, hLb, -⟩ := id hnb
    have hfsa : a.names = [] ∨ a.names.length = a.parts.length := (fits_names (allB_fit hfa)).imp id (·.1)
    have hfsb : b.names = [] ∨ b.names.length = b.parts.length := (fits_names (allB_fit hfb)).imp id (·.1)
    have hI := fun (i j : Nat) (hi : i < a.parts.length) (hj : j < b.parts.length) => ih (a.parts.getD i default) (b.parts.getD j default) (by have := Sh.part_lt hi; have := Sh.part_lt hj; omega) (part_fit hfa hi) (part_fit hfb hj)
    refine ret_of_W Tryz.func57 rfl (Nat.le_of_ble_eq_true rfl) (res1 rfl) ?_
    have hB := Gr.refl (fun _ => False) w
    refine W.seq ?_
    refine W.region ?_
    refine L.box (cs := _) rfl rfl (fun w2 bx2 hw hz2 => ?_)
    have hB := hB.carry hw; have ha := ha.carry hw; have hb := hb.carry hw; have hna := hna.carry hw; have hra := hra.carry hw; have hnb := hnb.carry hw; have hrb := hrb.carry hw
    refine L.box (cs := _) rfl rfl (fun w3 bx3 hw hz3 => ?_)
    have hB := hB.carry hw; have ha := ha.carry hw; have hb := hb.carry hw; have hna := hna.carry hw; have hra := hra.carry hw; have hnb := hnb.carry hw; have hrb := hrb.carry hw; have bx2 := bx2.carry hw
    obtain ⟨b3, hb3⟩ : ∃ b3, b3 = w2.heap.size := ⟨_, rfl⟩
    rw [← hb3] at bx3 ⊢
    have z3 : w.heap.size < b3 := by omega
    refine L.val (x_as (v := .bool _) rfl) rfl ?_
    refine L.nil ?_
    refine thn_n ?_
    refine W.seq ?_
    refine W.seq ?_
    refine W.region ?_
    refine L.val (x_fa kref13b_fo25_0 rfl) rfl ?_
    refine L.val (x_ld (v := .int _ _) kref13b_oc3 rfl (bx2.cell0 rfl)) rfl ?_
    refine L.val (x_eql rfl rfl) rfl ?_
    refine L.val (x_mv (v := .bool _) rfl) rfl ?_
    refine' L.group0 3 13 15 15 12 false rfl ?_ ?_ ?_
    rotate_left 1
    ·intro g12
     have h12 := of_decide_eq_false g12
     refine L.gyes' (dj := 12) (b := _) rfl rfl g12 ?_
     refine L.val (x_fa kref13b_fo25_0 rfl) rfl ?_
     refine L.gyes' (dj := 12) (b := _) rfl rfl g12 ?_
     refine L.val (x_ld (v := .int _ _) kref13b_oc3 rfl (bx3.cell0 rfl)) rfl ?_
     refine L.gyes' (dj := 12) (b := _) rfl rfl g12 ?_
     refine L.val (x_eql rfl rfl) rfl ?_
     refine L.nil ?_
     refine thn_n ⟨rfl, rfl, ?_, rfl⟩
     repeat (first | exact jeq.refl _ _ _ | refine jeq.upd rfl ?_ | refine jeq.jk rfl rfl ?_)
    ·intro g12
     refine L.gno (dj := 12) (b := _) rfl rfl g12 rfl ?_
     refine L.gno (dj := 12) (b := _) rfl rfl g12 rfl ?_
     refine L.gno (dj := 12) (b := _) rfl rfl g12 rfl ?_
     refine L.nil (thn_n ⟨rfl, rfl, ?_⟩)
     repeat (first | exact jeq.refl _ _ _ | refine jeq.upd rfl ?_ | refine jeq.jk rfl rfl ?_)
    intro J12 j12
    refine L.val (x_or rfl j12) rfl ?_
    refine L.nil ?_
    refine thn_n ?_
    refine W.cond (b := _) rfl (fun g16 => ?_) (fun g16 => ?_)
    ·have h16 := g16
     refine W.seq ?_
     refine W.region ?_
     refine L.val (x_as (v := .bool _) rfl) rfl ?_
     refine L.nil ?_
     refine thn_n ?_
     refine W.ret (thn_r (fin_mk (.inr rfl) ?_))
     exact ⟨vb (by show true = alkB (alkN N) a b; rw [alkB, if_pos (by simpa using h16)]), hB⟩
    ·have h16 := g16
     have q1e : ¬ (a.kind = 4 ∨ b.kind = 4) := by simp at h16; omega
     refine W.skip ?_
     refine thn_n ?_
     refine W.seq ?_
     refine W.seq ?_
     refine W.region ?_
     refine L.val (x_fa kref13b_fo25_0 rfl) rfl ?_
     refine L.val (x_ld (v := .int _ _) kref13b_oc3 rfl (bx2.cell0 rfl)) rfl ?_
     refine L.val (x_fa kref13b_fo25_0 rfl) rfl ?_
     refine L.val (x_ld (v := .int _ _) kref13b_oc3 rfl (bx3.cell0 rfl)) rfl ?_
     refine L.val (x_neq rfl rfl) rfl ?_
     refine L.val (x_mv (v := .bool _) rfl) rfl ?_
     refine' L.group0 5 23 27 27 22 false rfl ?_ ?_ ?_
     rotate_left 1
     ·intro g22
      have h22 := dne_f g22
      refine L.gyes' (dj := 22) (b := _) rfl rfl g22 ?_
      refine L.val (x_fa kref13b_fo25_1 rfl) rfl ?_
      refine L.gyes' (dj := 22) (b := _) rfl rfl g22 ?_
      refine L.val (x_ld (v := S _) kref13b_oc9 rfl (bx2.cell0 rfl)) rfl ?_
      refine L.gyes' (dj := 22) (b := _) rfl rfl g22 ?_
      refine L.val (x_fa kref13b_fo25_1 rfl) rfl ?_
      refine L.gyes' (dj := 22) (b := _) rfl rfl g22 ?_
      refine L.val (x_ld (v := S _) kref13b_oc9 rfl (bx3.cell0 rfl)) rfl ?_
      refine L.gyes' (dj := 22) (b := _) rfl rfl g22 ?_
      refine L.val (x_nes rfl rfl) rfl ?_
      refine L.nil ?_
      refine thn_n ⟨rfl, rfl, ?_, rfl⟩
      repeat (first | exact jeq.refl _ _ _ | refine jeq.upd rfl ?_ | refine jeq.jk rfl rfl ?_)
     ·intro g22
      refine L.gno (dj := 22) (b := _) rfl rfl g22 rfl ?_
      refine L.gno (dj := 22) (b := _) rfl rfl g22 rfl ?_
      refine L.gno (dj := 22) (b := _) rfl rfl g22 rfl ?_
      refine L.gno (dj := 22) (b := _) rfl rfl g22 rfl ?_
      refine L.gno (dj := 22) (b := _) rfl rfl g22 rfl ?_
      refine L.nil (thn_n ⟨rfl, rfl, ?_⟩)
      repeat (first | exact jeq.refl _ _ _ | refine jeq.upd rfl ?_ | refine jeq.jk rfl rfl ?_)
     intro J22 j22
     refine L.val (x_or rfl j22) rfl ?_
     refine L.val (x_mv (v := .bool _) rfl) rfl ?_
     refine' L.group0 5 30 34 34 29 false rfl ?_ ?_ ?_
     rotate_left 1
     ·intro g29
      have h29 := g29
      refine L.gyes' (dj := 29) (b := _) rfl rfl g29 ?_
      refine L.val (x_fa kref13b_fo25_2 rfl) rfl ?_
      refine L.gyes' (dj := 29) (b := _) rfl rfl g29 ?_
      refine L.val (x_ld (v := S _) kref13b_oc9 rfl (bx2.cell0 rfl)) rfl ?_
      refine L.gyes' (dj := 29) (b := _) rfl rfl g29 ?_
      refine L.val (x_fa kref13b_fo25_2 rfl) rfl ?_
      refine L.gyes' (dj := 29) (b := _) rfl rfl g29 ?_
      refine L.val (x_ld (v := S _) kref13b_oc9 rfl (bx3.cell0 rfl)) rfl ?_
      refine L.gyes' (dj := 29) (b := _) rfl rfl g29 ?_
      refine L.val (x_nes rfl rfl) rfl ?_
      refine L.nil ?_
      refine thn_n ⟨rfl, rfl, ?_, rfl⟩
      repeat (first | exact jeq.refl _ _ _ | refine jeq.upd rfl ?_ | refine jeq.jk rfl rfl ?_)
     ·intro g29
      refine L.gno (dj := 29) (b := _) rfl rfl g29 rfl ?_
      refine L.gno (dj := 29) (b := _) rfl rfl g29 rfl ?_
      refine L.gno (dj := 29) (b := _) rfl rfl g29 rfl ?_
      refine L.gno (dj := 29) (b := _) rfl rfl g29 rfl ?_
      refine L.gno (dj := 29) (b := _) rfl rfl g29 rfl ?_
      refine L.nil (thn_n ⟨rfl, rfl, ?_⟩)
      repeat (first | exact jeq.refl _ _ _ | refine jeq.upd rfl ?_ | refine jeq.jk rfl rfl ?_)
     intro J29 j29
     refine L.val (x_or rfl j29) rfl ?_
     refine L.val (x_mv (v := .bool _) rfl) rfl ?_
     refine' L.group0 7 37 43 43 36 false rfl ?_ ?_ ?_
     rotate_left 1
     ·intro g36
      have h36 := g36
      refine L.gyes' (dj := 36) (b := _) rfl rfl g36 ?_
      refine L.val (x_fa kref13b_fo25_4 rfl) rfl ?_
      refine L.gyes' (dj := 36) (b := _) rfl rfl g36 ?_
      refine L.val (x_ld (v := .slice _ _ _) kref13b_oc23 rfl (bx2.cell0 rfl)) rfl ?_
      refine L.gyes' (dj := 36) (b := _) rfl rfl g36 ?_
      refine L.val (x_len_slice Tryz.underlying23 rfl) rfl ?_
      refine L.gyes' (dj := 36) (b := _) rfl rfl g36 ?_
      refine L.val (x_fa kref13b_fo25_4 rfl) rfl ?_
      refine L.gyes' (dj := 36) (b := _) rfl rfl g36 ?_
      refine L.val (x_ld (v := .slice _ _ _) kref13b_oc23 rfl (bx3.cell0 rfl)) rfl ?_
      refine L.gyes' (dj := 36) (b := _) rfl rfl g36 ?_
      refine L.val (x_len_slice Tryz.underlying23 rfl) rfl ?_
      refine L.gyes' (dj := 36) (b := _) rfl rfl g36 ?_
      refine L.val (x_neq rfl rfl) rfl ?_
      refine L.nil ?_
      refine thn_n ⟨rfl, rfl, ?_, rfl⟩
      repeat (first | exact jeq.refl _ _ _ | refine jeq.upd rfl ?_ | refine jeq.jk rfl rfl ?_)
     ·intro g36
      refine L.gno (dj := 36) (b := _) rfl rfl g36 rfl ?_
      refine L.gno (dj := 36) (b := _) rfl rfl g36 rfl ?_
      refine L.gno (dj := 36) (b := _) rfl rfl g36 rfl ?_
      refine L.gno (dj := 36) (b := _) rfl rfl g36 rfl ?_
      refine L.gno (dj := 36) (b := _) rfl rfl g36 rfl ?_
      refine L.gno (dj := 36) (b := _) rfl rfl g36 rfl ?_
      refine L.gno (dj := 36) (b := _) rfl rfl g36 rfl ?_
      refine L.nil (thn_n ⟨rfl, rfl, ?_⟩)
      repeat (first | exact jeq.refl _ _ _ | refine jeq.upd rfl ?_ | refine jeq.jk rfl rfl ?_)
     intro J36 j36
     refine L.val (x_or rfl j36) rfl ?_
     refine L.nil ?_
     refine thn_n ?_
     refine W.cond (b := _) rfl (fun g44 => ?_) (fun g44 => ?_)
     ·have h44 := g44
      have q2e : a.kind ≠ b.kind ∨ a.of ≠ b.of ∨ a.name ≠ b.name ∨ a.parts.length ≠ b.parts.length := by simp only [Bool.or_eq_true, Bool.not_eq_true', decide_eq_false_iff_not, beq_eq_false_iff_ne, or_assoc] at h44; rcases h44 with h | h | h | h; exact .inl (by omega); exact .inr (.inl h); exact .inr (.inr (.inl h)); exact .inr (.inr (.inr (by omega)))
      refine W.seq ?_
      refine W.region ?_
      refine L.val (x_as (v := .bool _) rfl) rfl ?_
      refine L.nil ?_
      refine thn_n ?_
      refine W.ret (thn_r (fin_mk (.inr rfl) ?_))
      exact ⟨vb (by show false = alkB (alkN N) a b; rw [alkB, if_neg q1e, if_pos q2e]), hB⟩
     ·have h44 := g44
      have q2e : ¬ (a.kind ≠ b.kind ∨ a.of ≠ b.of ∨ a.name ≠ b.name ∨ a.parts.length ≠ b.parts.length) := fun h => by simp at h44; rcases h with h | h | h | h; exact h h44.1.1.1; exact h h44.1.1.2; exact h h44.1.2; exact h (by omega)
      have hll : a.parts.length = b.parts.length := Decidable.byContradiction fun h => q2e (.inr (.inr (.inr h)))
      refine W.skip ?_
      refine thn_n ?_
      refine W.seq ?_
      refine W.seq ?_
      refine W.region ?_
      refine L.val (x_as (v := .int _ _) rfl) rfl ?_
      refine L.nil ?_
      refine thn_n ?_
      refine W.block ?_
      refine W.loop (fun m' E w' => ∃ (i : Nat), m' = a.parts.length - i ∧ E 2 = .pointer (some ⟨w.heap.size, 0, none⟩) ∧ E 3 = .pointer (some ⟨b3, 0, none⟩) ∧ E 5 = .int .i64 (i : Nat) ∧ (Bel w w') ∧ (ShC A w' [.int .i64 a.kind, S a.of, S a.name, .slice pn a.names.length capn, .slice p a.parts.length cap] a) ∧ (ShC B w' [.int .i64 b.kind, S b.of, S b.name, .slice qn b.names.length capqn, .slice q b.parts.length capq] b) ∧ (StrsAt A w' (.slice pn a.names.length capn) a.names) ∧ (ShRow A w' p rowa a.parts) ∧ (StrsAt B w' (.slice qn b.names.length capqn) b.names) ∧ (ShRow B w' q rowb b.parts) ∧ (Box w' w.heap.size 25 [.int .i64 a.kind, S a.of, S a.name, .slice pn a.names.length capn, .slice p a.parts.length cap]) ∧ (Box w' b3 25 [.int .i64 b.kind, S b.of, S b.name, .slice qn b.names.length capqn, .slice q b.parts.length capq]) ∧ (i ≤ a.parts.length) ∧ ((List.range i).all (alkP (alkN N) a b) = true)) (a.parts.length) ?_ ?_
      ·exact ⟨0, by omega, by first | rfl | exact vi (by omega), by first | rfl | exact vi (by omega), by first | rfl | exact vi (by omega), (by first | assumption | omega | rfl), (by first | assumption | omega | rfl), (by first | assumption | omega | rfl), (by first | assumption | omega | rfl), (by first | assumption | omega | rfl), (by first | assumption | omega | rfl), (by first | assumption | omega | rfl), (by first | assumption | omega | rfl), (by first | assumption | omega | rfl), (by first | assumption | omega | rfl), (by rfl)⟩
      ·rintro _ E wL45 ⟨i, em, e2, e3, e5, hB, ha, hb, hna, hra, hnb, hrb, bx2, bx3, hi, hall⟩
       rw [upd_self e2, upd_self e3, upd_self e5]
       refine W.seq ?_
       refine W.seq ?_
       refine W.region ?_
       refine L.val (x_mv (v := .int _ _) rfl) rfl ?_
       refine L.val (x_fa kref13b_fo25_4 rfl) rfl ?_
       refine L.val (x_ld (v := .slice _ _ _) kref13b_oc23 rfl (bx2.cell0 rfl)) rfl ?_
       refine L.val (x_len_slice Tryz.underlying23 rfl) rfl ?_
       refine L.val (x_lss rfl rfl) rfl ?_
       refine L.nil ?_
       refine thn_n ?_
       refine W.cond (b := _) rfl (fun g49 => ?_) (fun g49 => ?_)
       ·have h49 := of_decide_eq_true g49
        have hip : i < a.parts.length := by omega
        have hjp : i < b.parts.length := by omega
        obtain ⟨bp, op, rfl, hcp⟩ := hra.elem hip
        obtain ⟨bq, oq, rfl, hcq⟩ := hrb.elem hjp
        have hx3 := bx3.lt
        refine W.skip ?_
        refine thn_n ?_
        refine W.seq ?_
        refine W.block ?_
        refine W.seq ?_
        refine W.region ?_
        refine L.val (x_fa kref13b_fo25_4 rfl) rfl ?_
        refine L.val (x_ld (v := .slice _ _ _) kref13b_oc23 rfl (bx3.cell0 rfl)) rfl ?_
        refine L.val (x_mv (v := .int _ _) rfl) rfl ?_
        refine L.val (x_ia (j := i) Tryz.underlying23 kref13b_sz25 rfl rfl (by omega) (by omega)) rfl ?_
        refine L.val (x_ldn (vs := rowb i) kref13b_ag25 rfl (hrb.five i hjp) (hrb.elemAt hjp)) rfl ?_
        refine L.alloc (cs := [Value.int .i64 0, S [], S [], Value.slice none 0 0, Value.slice none 0 0]) kref13b_zr25 rfl rfl (fun w6 bx6 hw hz6 => ?_)
        have hB := hB.carry hw; have ha := ha.carry hw; have hb := hb.carry hw; have hna := hna.carry hw; have hra := hra.carry hw; have hnb := hnb.carry hw; have hrb := hrb.carry hw; have bx2 := bx2.carry hw; have bx3 := bx3.carry hw
        refine L.setRow kref13b_ag25 rfl rfl bx6 rfl (hrb.five i hjp) (ShC.one (hrb.each i hjp)) (fun wl54 bx6 hw hzl54 => ?_)
        have hsz := hB.size
        have hB := hB.set hw (by omega); have ha := ha.carryR hw (fun j e => hA j (by have e : j = _ := e; omega)); have hb := hb.carryR hw (fun j e => hBu j (by have e : j = _ := e; omega)); have hna := hna.carryR hw (fun j e => hA j (by have e : j = _ := e; omega)); have hra := hra.carryR hw (fun j e => hA j (by have e : j = _ := e; omega)); have hnb := hnb.carryR hw (fun j e => hBu j (by have e : j = _ := e; omega)); have hrb := hrb.carryR hw (fun j e => hBu j (by have e : j = _ := e; omega)); have bx2 := bx2.carryR hw (by omega); have bx3 := bx3.carryR hw (by omega)
        refine L.nil ?_
        refine thn_n ?_
        refine W.seq ?_
        refine W.seq ?_
        refine W.region ?_
        refine L.val (x_fa kref13b_fo25_3 rfl) rfl ?_
        refine L.val (x_ld (v := .slice _ _ _) kref13b_oc22 rfl (bx2.cell0 rfl)) rfl ?_
        refine L.val (x_len_slice Tryz.underlying22 rfl) rfl ?_
        refine L.val (x_gtr rfl rfl) rfl ?_
        refine L.nil ?_
        refine thn_n ?_
        refine W.cond (b := _) rfl (fun g60 => ?_) (fun g60 => ?_)
        ·have h60 := of_decide_eq_true g60
         have hnl : i < a.names.length := by rcases hfsa with e | e; rw [e] at h60; simp at h60; omega
         obtain ⟨bn, on, rfl, hcn⟩ := hna.elem hnl
         have hx6 := bx6.lt
         refine W.seq ?_
         refine W.drawF 13 kref13b_mixed (fun wF62 hB0 => ?_)
         refine LAC.takeN (i := 0) rfl (by kernel_rfl) (by kernel_rfl) (by kernel_rfl) (by kernel_rfl) (fun w hw => x_ldn (vs := [.int .i64 b.kind, S b.of, S b.name, .slice qn b.names.length capqn, .slice (some ⟨bq, oq, none⟩) b.parts.length capq]) kref13b_ag25 rfl rfl (hw.keepRow rfl (bx3.row rfl))) rfl ?_
         refine LAC.takeN (i := 1) rfl (by kernel_rfl) (by kernel_rfl) (by kernel_rfl) (by kernel_rfl) (fun w hw => x_fa kref13b_fo25_3 rfl) rfl ?_
         refine LAC.takeN (i := 2) rfl (by kernel_rfl) (by kernel_rfl) (by kernel_rfl) (by kernel_rfl) (fun w hw => x_ld (v := .slice _ _ _) kref13b_oc22 rfl (hw.keep (bx2.cell0 rfl))) rfl ?_
         refine LAC.takeN (i := 3) rfl (by kernel_rfl) (by kernel_rfl) (by kernel_rfl) (by kernel_rfl) (fun w hw => x_mv (v := .int _ _) rfl) rfl ?_
         refine LAC.takeN (i := 4) rfl (by kernel_rfl) (by kernel_rfl) (by kernel_rfl) (by kernel_rfl) (fun w hw => x_ia1 (j := i) Tryz.underlying22 kref13b_sz9 rfl rfl (by omega) (by omega)) rfl ?_
         refine LAC.takeN (i := 5) rfl (by kernel_rfl) (by kernel_rfl) (by kernel_rfl) (by kernel_rfl) (fun w hw => x_ld (v := S _) kref13b_oc9 rfl (hw.keep hcn)) rfl ?_
         refine LAC.step (rs := [6, 10]) (fun _ => hB0) (by kernel_rfl) (by simp) ⟨⟨_, rfl, ?_⟩, ⟨_, rfl, ?_⟩, trivial⟩
         ·refine L.ret (x_call kref13b_en110 rfl) rfl (part13 B b _ _ _ (hb.carry hB0) hfsb) ?_
          rintro _ w68 ⟨cs68, rfl, hp68, hw⟩
          have hB0 := hB0.carry hw
          have hl68 := hp68.len
          have hx6b := bx6.lt
          have hp68 := hp68.mono (A' := B) fun k _ h => .inl h
          refine L.nil ?_
          refine thn_n ?_
          refine LAC.takeN (i := 7) rfl (by kernel_rfl) (by kernel_rfl) (by kernel_rfl) (by kernel_rfl) (fun w hw => x_mv (v := _) rfl) rfl ?_
          refine LAC.takeN (i := 8) rfl (by kernel_rfl) (by kernel_rfl) (by kernel_rfl) (by kernel_rfl) (fun w hw => x_ext (v := _) rfl rfl) rfl ?_
          refine LAC.takeN (i := 9) rfl (by kernel_rfl) (by kernel_rfl) (by kernel_rfl) (by kernel_rfl) (fun w hw => x_ext (v := .bool _) rfl rfl) rfl ?_
          refine LAC.step (rs := [10]) (fun _ => hB0) (by kernel_rfl) (by simp) ⟨⟨_, rfl, ?_⟩, trivial⟩
          have hs7 := hB0.size
          refine L.alloc (cs := [Value.int .i64 0, S [], S [], Value.slice none 0 0, Value.slice none 0 0]) kref13b_zr25 rfl rfl (fun w7 bx7 hw hz7 => ?_)
          have hB0 := hB0.carry hw; have hp68 := hp68.carry hw
          refine L.nil ?_
          refine thn_n ?_
          refine LAC.step (rs := [11]) (fun _ => hB0) (by kernel_rfl) (by simp) ⟨⟨_, rfl, ?_⟩, trivial⟩
          refine L.setRow kref13b_ag25 rfl rfl bx7 rfl hl68 hp68.one (fun wl70 bx7 hw hzl70 => ?_)
          have hB0 := hB0.set hw (by omega); have hp68 := hp68.carryR hw (fun j e => hBu j (by have e : j = _ := e; omega))
          refine L.nil ?_
          refine thn_n ?_
          refine LAC.takeN (i := 12) rfl (by kernel_rfl) (by kernel_rfl) (by kernel_rfl) (by kernel_rfl) (fun w hw => x_as (v := .bool _) rfl) rfl ?_
          refine LAC.doneF (by kernel_rfl) hB0 ?_
          have hB := hB.carry hB0; have ha := ha.carry hB0; have hb := hb.carry hB0; have hna := hna.carry hB0; have hra := hra.carry hB0; have hnb := hnb.carry hB0; have hrb := hrb.carry hB0; have bx2 := bx2.carry hB0; have bx3 := bx3.carry hB0; have bx6 := bx6.carry hB0
          refine thn_n ?_
          refine W.seq ?_
          refine W.seq ?_
          refine W.region ?_
          refine L.val (x_mv (v := .bool _) rfl) rfl ?_
          refine L.val (x_not rfl) rfl ?_
          refine L.nil ?_
          refine thn_n ?_
          refine W.cond (b := _) rfl (fun g72 => ?_) (fun g72 => ?_)
          ·have h72 := (not_t g72)
           have hno : ¬ idxS (a.names.getD i []) b.names < b.names.length := by simpa using h72
           have hone : alkP (alkN N) a b i = false := by unfold alkP; rw [if_pos (by omega), if_neg hno]
           refine W.seq ?_
           refine W.region ?_
           refine L.val (x_as (v := .bool _) rfl) rfl ?_
           refine L.nil ?_
           refine thn_n ?_
           refine W.ret (thn_r (thn_r (blk_r (thn_r (thn_r (blk_r (thn_r (fin_mk (.inr rfl) ?_))))))))
           exact ⟨vb (by show false = alkB (alkN N) a b; rw [alkB, if_neg q1e, if_neg q2e, all_missR hip hone]), hB⟩
          ·have h72 := (not_f g72)
           have hno : idxS (a.names.getD i []) b.names < b.names.length := by simpa using h72
           have hone : alkP (alkN N) a b i = alkN N (a.parts.getD i default) (b.parts.getD (idxS (a.names.getD i []) b.names) default) := by unfold alkP; rw [if_pos (by omega), if_pos hno]
           have hjp2 : idxS (a.names.getD i []) b.names < b.parts.length := by rcases hfsb with e | e; rw [e] at hno; simp at hno; omega
           have hpv : partV b (a.names.getD i []) = b.parts.getD (idxS (a.names.getD i []) b.names) default := by unfold partV; rw [if_pos hno]
           rw [hpv] at hp68
           refine W.skip ?_
           refine thn_n ?_
           refine W.region ?_
           refine L.val (x_ldn (vs := cs68) kref13b_ag25 rfl hl68 (bx7.row hl68)) rfl ?_
           refine L.setRow kref13b_ag25 rfl rfl bx6 (hrb.five i hjp) hl68 hp68.one (fun wl76 bx6 hw hzl76 => ?_)
           have hsz := hB.size
           have hB := hB.set hw (by omega); have ha := ha.carryR hw (fun j e => hA j (by have e : j = _ := e; omega)); have hb := hb.carryR hw (fun j e => hBu j (by have e : j = _ := e; omega)); have hna := hna.carryR hw (fun j e => hA j (by have e : j = _ := e; omega)); have hra := hra.carryR hw (fun j e => hA j (by have e : j = _ := e; omega)); have hnb := hnb.carryR hw (fun j e => hBu j (by have e : j = _ := e; omega)); have hrb := hrb.carryR hw (fun j e => hBu j (by have e : j = _ := e; omega)); have bx2 := bx2.carryR hw (by omega); have bx3 := bx3.carryR hw (by omega); have hp68 := hp68.carryR hw (fun j e => hBu j (by have e : j = _ := e; omega))
           refine L.nil ?_
           refine thn_n ?_
           refine W.seq ?_
           refine W.drawF 8 kref13b_mixed (fun wF74 hB0 => ?_)
           refine LAC.takeN (i := 0) rfl (by kernel_rfl) (by kernel_rfl) (by kernel_rfl) (by kernel_rfl) (fun w hw => x_fa kref13b_fo25_4 rfl) rfl ?_
           refine LAC.takeN (i := 1) rfl (by kernel_rfl) (by kernel_rfl) (by kernel_rfl) (by kernel_rfl) (fun w hw => x_ld (v := .slice _ _ _) kref13b_oc23 rfl (hw.keep (bx2.cell0 rfl))) rfl ?_
           refine LAC.takeN (i := 2) rfl (by kernel_rfl) (by kernel_rfl) (by kernel_rfl) (by kernel_rfl) (fun w hw => x_mv (v := .int _ _) rfl) rfl ?_
           refine LAC.takeN (i := 3) rfl (by kernel_rfl) (by kernel_rfl) (by kernel_rfl) (by kernel_rfl) (fun w hw => x_ia (j := i) Tryz.underlying23 kref13b_sz25 rfl rfl (by omega) (by omega)) rfl ?_
           refine LAC.takeN (i := 4) rfl (by kernel_rfl) (by kernel_rfl) (by kernel_rfl) (by kernel_rfl) (fun w hw => x_ldn (vs := rowa i) kref13b_ag25 rfl (hra.five i hip) (hw.keepRow (hra.five i hip) (hra.elemAt hip))) rfl ?_
           refine LAC.takeN (i := 5) rfl (by kernel_rfl) (by kernel_rfl) (by kernel_rfl) (by kernel_rfl) (fun w hw => x_ldn (vs := cs68) kref13b_ag25 rfl hl68 (hw.keepRow hl68 (bx6.row hl68))) rfl ?_
           refine LAC.step (rs := [6]) (fun _ => hB0) (by kernel_rfl) (by simp) ⟨⟨_, rfl, ?_⟩, trivial⟩
           refine L.ret (x_call kref13b_en57 rfl) rfl (hI i _ hip hjp2 A B _ _ _ ((hra.each i hip).carry hB0) (hp68.carry hB0)) ?_
           rintro _ w80 ⟨rfl, hw⟩
           have hB0 := hB0.carry hw
           refine L.nil ?_
           refine thn_n ?_
           refine LAC.takeN (i := 7) rfl (by kernel_rfl) (by kernel_rfl) (by kernel_rfl) (by kernel_rfl) (fun w hw => x_not rfl) rfl ?_
           refine LAC.doneF (by kernel_rfl) hB0 ?_
           have hB := hB.carry hB0; have ha := ha.carry hB0; have hb := hb.carry hB0; have hna := hna.carry hB0; have hra := hra.carry hB0; have hnb := hnb.carry hB0; have hrb := hrb.carry hB0; have bx2 := bx2.carry hB0; have bx3 := bx3.carry hB0; have bx6 := bx6.carry hB0; have hp68 := hp68.carry hB0
           refine thn_n ?_
           refine W.cond (b := _) rfl (fun g81 => ?_) (fun g81 => ?_)
           ·have h81 := (not_t g81)
            refine W.seq ?_
            refine W.region ?_
            refine L.val (x_as (v := .bool _) rfl) rfl ?_
            refine L.nil ?_
            refine thn_n ?_
            refine W.ret (blk_r (thn_r (thn_r (blk_r (thn_r (fin_mk (.inr rfl) ?_))))))
            exact ⟨vb (by show false = alkB (alkN N) a b; rw [alkB, if_neg q1e, if_neg q2e, all_missR hip (by rw [hone]; simpa using h81)]), hB⟩
           ·have h81 := (not_f g81)
            refine W.skip ?_
            refine blk_n ?_
            refine thn_n ?_
            refine W.region ?_
            refine L.val (x_mv (v := .int _ _) rfl) rfl ?_
            refine L.val (x_add rfl rfl (wr64 (by omega))) rfl ?_
            refine L.val (x_as (v := .int _ _) rfl) rfl ?_
            refine L.nil ?_
            refine thn_n ⟨rfl, ?_⟩
            refine ⟨_, ?_, i + 1, rfl, by first | rfl | exact vi (by omega), by first | rfl | exact vi (by omega), by first | rfl | exact vi (by omega), (by first | assumption | omega | rfl), (by first | assumption | omega | rfl), (by first | assumption | omega | rfl), (by first | assumption | omega | rfl), (by first | assumption | omega | rfl), (by first | assumption | omega | rfl), (by first | assumption | omega | rfl), (by first | assumption | omega | rfl), (by first | assumption | omega | rfl), (by first | assumption | omega | rfl), (by rw [all_succ, hall, hone]; simpa using h81)⟩
            omega
         ·have hs7 := hB0.size
          refine L.alloc (cs := [Value.int .i64 0, S [], S [], Value.slice none 0 0, Value.slice none 0 0]) kref13b_zr25 rfl rfl (fun w7 bx7 hw hz7 => ?_)
          have hB0 := hB0.carry hw
          refine L.nil ?_
          refine thn_n ?_
          refine LAC.step (rs := [6]) (fun _ => hB0) (by kernel_rfl) (by simp) ⟨⟨_, rfl, ?_⟩, trivial⟩
          refine L.ret (x_call kref13b_en110 rfl) rfl (part13 B b _ _ _ (hb.carry hB0) hfsb) ?_
          rintro _ w68 ⟨cs68, rfl, hp68, hw⟩
          have hB0 := hB0.carry hw; have bx7 := bx7.carry hw
          have hl68 := hp68.len
          have hx6b := bx6.lt
          have hp68 := hp68.mono (A' := B) fun k _ h => .inl h
          refine L.nil ?_
          refine thn_n ?_
          refine LAC.takeN (i := 7) rfl (by kernel_rfl) (by kernel_rfl) (by kernel_rfl) (by kernel_rfl) (fun w hw => x_mv (v := _) rfl) rfl ?_
          refine LAC.takeN (i := 8) rfl (by kernel_rfl) (by kernel_rfl) (by kernel_rfl) (by kernel_rfl) (fun w hw => x_ext (v := _) rfl rfl) rfl ?_
          refine LAC.takeN (i := 9) rfl (by kernel_rfl) (by kernel_rfl) (by kernel_rfl) (by kernel_rfl) (fun w hw => x_ext (v := .bool _) rfl rfl) rfl ?_
          refine LAC.step (rs := [11]) (fun _ => hB0) (by kernel_rfl) (by simp) ⟨⟨_, rfl, ?_⟩, trivial⟩
          refine L.setRow kref13b_ag25 rfl rfl bx7 rfl hl68 hp68.one (fun wl70 bx7 hw hzl70 => ?_)
          have hB0 := hB0.set hw (by omega); have hp68 := hp68.carryR hw (fun j e => hBu j (by have e : j = _ := e; omega))
          refine L.nil ?_
          refine thn_n ?_
          refine LAC.takeN (i := 12) rfl (by kernel_rfl) (by kernel_rfl) (by kernel_rfl) (by kernel_rfl) (fun w hw => x_as (v := .bool _) rfl) rfl ?_
          refine LAC.doneF (by kernel_rfl) hB0 ?_
          have hB := hB.carry hB0; have ha := ha.carry hB0; have hb := hb.carry hB0; have hna := hna.carry hB0; have hra := hra.carry hB0; have hnb := hnb.carry hB0; have hrb := hrb.carry hB0; have bx2 := bx2.carry hB0; have bx3 := bx3.carry hB0; have bx6 := bx6.carry hB0
          refine thn_n ?_
          refine W.seq ?_
          refine W.seq ?_
          refine W.region ?_
          refine L.val (x_mv (v := .bool _) rfl) rfl ?_
          refine L.val (x_not rfl) rfl ?_
          refine L.nil ?_
          refine thn_n ?_
          refine W.cond (b := _) rfl (fun g72 => ?_) (fun g72 => ?_)
          ·have h72 := (not_t g72)
           have hno : ¬ idxS (a.names.getD i []) b.names < b.names.length := by simpa using h72
           have hone : alkP (alkN N) a b i = false := by unfold alkP; rw [if_pos (by omega), if_neg hno]
           refine W.seq ?_
           refine W.region ?_
           refine L.val (x_as (v := .bool _) rfl) rfl ?_
           refine L.nil ?_
           refine thn_n ?_
           refine W.ret (thn_r (thn_r (blk_r (thn_r (thn_r (blk_r (thn_r (fin_mk (.inr rfl) ?_))))))))
           exact ⟨vb (by show false = alkB (alkN N) a b; rw [alkB, if_neg q1e, if_neg q2e, all_missR hip hone]), hB⟩
          ·have h72 := (not_f g72)
           have hno : idxS (a.names.getD i []) b.names < b.names.length := by simpa using h72
           have hone : alkP (alkN N) a b i = alkN N (a.parts.getD i default) (b.parts.getD (idxS (a.names.getD i []) b.names) default) := by unfold alkP; rw [if_pos (by omega), if_pos hno]
           have hjp2 : idxS (a.names.getD i []) b.names < b.parts.length := by rcases hfsb with e | e; rw [e] at hno; simp at hno; omega
           have hpv : partV b (a.names.getD i []) = b.parts.getD (idxS (a.names.getD i []) b.names) default := by unfold partV; rw [if_pos hno]
           rw [hpv] at hp68
           refine W.skip ?_
           refine thn_n ?_
           refine W.region ?_
           refine L.val (x_ldn (vs := cs68) kref13b_ag25 rfl hl68 (bx7.row hl68)) rfl ?_
           refine L.setRow kref13b_ag25 rfl rfl bx6 (hrb.five i hjp) hl68 hp68.one (fun wl76 bx6 hw hzl76 => ?_)
           have hsz := hB.size
           have hB := hB.set hw (by omega); have ha := ha.carryR hw (fun j e => hA j (by have e : j = _ := e; omega)); have hb := hb.carryR hw (fun j e => hBu j (by have e : j = _ := e; omega)); have hna := hna.carryR hw (fun j e => hA j (by have e : j = _ := e; omega)); have hra := hra.carryR hw (fun j e => hA j (by have e : j = _ := e; omega)); have hnb := hnb.carryR hw (fun j e => hBu j (by have e : j = _ := e; omega)); have hrb := hrb.carryR hw (fun j e => hBu j (by have e : j = _ := e; omega)); have bx2 := bx2.carryR hw (by omega); have bx3 := bx3.carryR hw (by omega); have hp68 := hp68.carryR hw (fun j e => hBu j (by have e : j = _ := e; omega))
           refine L.nil ?_
           refine thn_n ?_
           refine W.seq ?_
           refine W.drawF 8 kref13b_mixed (fun wF74 hB0 => ?_)
           refine LAC.takeN (i := 0) rfl (by kernel_rfl) (by kernel_rfl) (by kernel_rfl) (by kernel_rfl) (fun w hw => x_fa kref13b_fo25_4 rfl) rfl ?_
           refine LAC.takeN (i := 1) rfl (by kernel_rfl) (by kernel_rfl) (by kernel_rfl) (by kernel_rfl) (fun w hw => x_ld (v := .slice _ _ _) kref13b_oc23 rfl (hw.keep (bx2.cell0 rfl))) rfl ?_
           refine LAC.takeN (i := 2) rfl (by kernel_rfl) (by kernel_rfl) (by kernel_rfl) (by kernel_rfl) (fun w hw => x_mv (v := .int _ _) rfl) rfl ?_
           refine LAC.takeN (i := 3) rfl (by kernel_rfl) (by kernel_rfl) (by kernel_rfl) (by kernel_rfl) (fun w hw => x_ia (j := i) Tryz.underlying23 kref13b_sz25 rfl rfl (by omega) (by omega)) rfl ?_
           refine LAC.takeN (i := 4) rfl (by kernel_rfl) (by kernel_rfl) (by kernel_rfl) (by kernel_rfl) (fun w hw => x_ldn (vs := rowa i) kref13b_ag25 rfl (hra.five i hip) (hw.keepRow (hra.five i hip) (hra.elemAt hip))) rfl ?_
           refine LAC.takeN (i := 5) rfl (by kernel_rfl) (by kernel_rfl) (by kernel_rfl) (by kernel_rfl) (fun w hw => x_ldn (vs := cs68) kref13b_ag25 rfl hl68 (hw.keepRow hl68 (bx6.row hl68))) rfl ?_
           refine LAC.step (rs := [6]) (fun _ => hB0) (by kernel_rfl) (by simp) ⟨⟨_, rfl, ?_⟩, trivial⟩
           refine L.ret (x_call kref13b_en57 rfl) rfl (hI i _ hip hjp2 A B _ _ _ ((hra.each i hip).carry hB0) (hp68.carry hB0)) ?_
           rintro _ w80 ⟨rfl, hw⟩
           have hB0 := hB0.carry hw
           refine L.nil ?_
           refine thn_n ?_
           refine LAC.takeN (i := 7) rfl (by kernel_rfl) (by kernel_rfl) (by kernel_rfl) (by kernel_rfl) (fun w hw => x_not rfl) rfl ?_
           refine LAC.doneF (by kernel_rfl) hB0 ?_
           have hB := hB.carry hB0; have ha := ha.carry hB0; have hb := hb.carry hB0; have hna := hna.carry hB0; have hra := hra.carry hB0; have hnb := hnb.carry hB0; have hrb := hrb.carry hB0; have bx2 := bx2.carry hB0; have bx3 := bx3.carry hB0; have bx6 := bx6.carry hB0; have hp68 := hp68.carry hB0
           refine thn_n ?_
           refine W.cond (b := _) rfl (fun g81 => ?_) (fun g81 => ?_)
           ·have h81 := (not_t g81)
            refine W.seq ?_
            refine W.region ?_
            refine L.val (x_as (v := .bool _) rfl) rfl ?_
            refine L.nil ?_
            refine thn_n ?_
            refine W.ret (blk_r (thn_r (thn_r (blk_r (thn_r (fin_mk (.inr rfl) ?_))))))
            exact ⟨vb (by show false = alkB (alkN N) a b; rw [alkB, if_neg q1e, if_neg q2e, all_missR hip (by rw [hone]; simpa using h81)]), hB⟩
           ·have h81 := (not_f g81)
            refine W.skip ?_
            refine blk_n ?_
            refine thn_n ?_
            refine W.region ?_
            refine L.val (x_mv (v := .int _ _) rfl) rfl ?_
            refine L.val (x_add rfl rfl (wr64 (by omega))) rfl ?_
            refine L.val (x_as (v := .int _ _) rfl) rfl ?_
            refine L.nil ?_
            refine thn_n ⟨rfl, ?_⟩
            refine ⟨_, ?_, i + 1, rfl, by first | rfl | exact vi (by omega), by first | rfl | exact vi (by omega), by first | rfl | exact vi (by omega), (by first | assumption | omega | rfl), (by first | assumption | omega | rfl), (by first | assumption | omega | rfl), (by first | assumption | omega | rfl), (by first | assumption | omega | rfl), (by first | assumption | omega | rfl), (by first | assumption | omega | rfl), (by first | assumption | omega | rfl), (by first | assumption | omega | rfl), (by first | assumption | omega | rfl), (by rw [all_succ, hall, hone]; simpa using h81)⟩
            omega
        ·have h60 := dlt_f g60
         have hone : alkP (alkN N) a b i = alkN N (a.parts.getD i default) (b.parts.getD i default) := by unfold alkP; rw [if_neg (by omega)]
         refine W.skip ?_
         refine thn_n ?_
         refine W.seq ?_
         refine W.drawF 8 kref13b_mixed (fun wF74 hB0 => ?_)
         refine LAC.takeN (i := 0) rfl (by kernel_rfl) (by kernel_rfl) (by kernel_rfl) (by kernel_rfl) (fun w hw => x_fa kref13b_fo25_4 rfl) rfl ?_
         refine LAC.takeN (i := 1) rfl (by kernel_rfl) (by kernel_rfl) (by kernel_rfl) (by kernel_rfl) (fun w hw => x_ld (v := .slice _ _ _) kref13b_oc23 rfl (hw.keep (bx2.cell0 rfl))) rfl ?_
         refine LAC.takeN (i := 2) rfl (by kernel_rfl) (by kernel_rfl) (by kernel_rfl) (by kernel_rfl) (fun w hw => x_mv (v := .int _ _) rfl) rfl ?_
         refine LAC.takeN (i := 3) rfl (by kernel_rfl) (by kernel_rfl) (by kernel_rfl) (by kernel_rfl) (fun w hw => x_ia (j := i) Tryz.underlying23 kref13b_sz25 rfl rfl (by omega) (by omega)) rfl ?_
         refine LAC.takeN (i := 4) rfl (by kernel_rfl) (by kernel_rfl) (by kernel_rfl) (by kernel_rfl) (fun w hw => x_ldn (vs := rowa i) kref13b_ag25 rfl (hra.five i hip) (hw.keepRow (hra.five i hip) (hra.elemAt hip))) rfl ?_
         refine LAC.takeN (i := 5) rfl (by kernel_rfl) (by kernel_rfl) (by kernel_rfl) (by kernel_rfl) (fun w hw => x_ldn (vs := rowb i) kref13b_ag25 rfl (hrb.five i hjp) (hw.keepRow (hrb.five i hjp) (bx6.row (hrb.five i hjp)))) rfl ?_
         refine LAC.step (rs := [6]) (fun _ => hB0) (by kernel_rfl) (by simp) ⟨⟨_, rfl, ?_⟩, trivial⟩
         refine L.ret (x_call kref13b_en57 rfl) rfl (hI i i hip hjp A B _ _ _ ((hra.each i hip).carry hB0) ((hrb.each i hjp).carry hB0)) ?_
         rintro _ w80 ⟨rfl, hw⟩
         have hB0 := hB0.carry hw
         refine L.nil ?_
         refine thn_n ?_
         refine LAC.takeN (i := 7) rfl (by kernel_rfl) (by kernel_rfl) (by kernel_rfl) (by kernel_rfl) (fun w hw => x_not rfl) rfl ?_
         refine LAC.doneF (by kernel_rfl) hB0 ?_
         have hB := hB.carry hB0; have ha := ha.carry hB0; have hb := hb.carry hB0; have hna := hna.carry hB0; have hra := hra.carry hB0; have hnb := hnb.carry hB0; have hrb := hrb.carry hB0; have bx2 := bx2.carry hB0; have bx3 := bx3.carry hB0; have bx6 := bx6.carry hB0
         refine thn_n ?_
         refine W.cond (b := _) rfl (fun g81 => ?_) (fun g81 => ?_)
         ·have h81 := (not_t g81)
          refine W.seq ?_
          refine W.region ?_
          refine L.val (x_as (v := .bool _) rfl) rfl ?_
          refine L.nil ?_
          refine thn_n ?_
          refine W.ret (blk_r (thn_r (thn_r (blk_r (thn_r (fin_mk (.inr rfl) ?_))))))
          exact ⟨vb (by show false = alkB (alkN N) a b; rw [alkB, if_neg q1e, if_neg q2e, all_missR hip (by rw [hone]; simpa using h81)]), hB⟩
         ·have h81 := (not_f g81)
          refine W.skip ?_
          refine blk_n ?_
          refine thn_n ?_
          refine W.region ?_
          refine L.val (x_mv (v := .int _ _) rfl) rfl ?_
          refine L.val (x_add rfl rfl (wr64 (by omega))) rfl ?_
          refine L.val (x_as (v := .int _ _) rfl) rfl ?_
          refine L.nil ?_
          refine thn_n ⟨rfl, ?_⟩
          refine ⟨_, ?_, i + 1, rfl, by first | rfl | exact vi (by omega), by first | rfl | exact vi (by omega), by first | rfl | exact vi (by omega), (by first | assumption | omega | rfl), (by first | assumption | omega | rfl), (by first | assumption | omega | rfl), (by first | assumption | omega | rfl), (by first | assumption | omega | rfl), (by first | assumption | omega | rfl), (by first | assumption | omega | rfl), (by first | assumption | omega | rfl), (by first | assumption | omega | rfl), (by first | assumption | omega | rfl), (by rw [all_succ, hall, hone]; simpa using h81)⟩
          omega
       ·have h49 := dlt_f g49
        refine W.exit (thn_x (thn_x (blk_hit ?_)))
        refine thn_n ?_
        refine W.seq ?_
        refine W.region ?_
        refine L.val (x_as (v := .bool _) rfl) rfl ?_
        refine L.nil ?_
        refine thn_n ?_
        refine W.ret (fin_mk (.inr rfl) ?_)
        exact ⟨vb (by show true = alkB (alkN N) a b; rw [alkB, if_neg q1e, if_neg q2e, show a.parts.length = i by omega, hall]), hB⟩
theorem near13 : ∀ (N : Nat) (a b : Sh), SizeOf.sizeOf a + SizeOf.sizeOf b < N → a.allB fitsS = true → b.allB fitsS = true → ∀ (A0 B0 : Nat → Prop) (xs ys : List Value) (w : World), ShC A0 w xs a → ShC B0 w ys b →
    Ret Tryz.prog 59 #[.agg xs.toArray, .agg ys.toArray] w fun v w' => v = .bool (nrN N a b) ∧ Bel w w' := by
  intro N
  induction N with
  | zero => intro a b h; omega
  | succ N ih =>
    intro a b hN hfa hfb A0 B0 xs ys w ha0 hb0
    obtain ⟨A, ha, hA⟩ : ∃ A : Nat → Prop, ShC A w xs a ∧ (∀ k, w.heap.size ≤ k → A k) := ⟨_, ha0.up, fun _ => .inr⟩
    obtain ⟨B, hb, hBu⟩ : ∃ B : Nat → Prop, ShC B w ys b ∧ (∀ k, w.heap.size ≤ k → B k) := ⟨_, hb0.up, fun _ => .inr⟩
    clear ha0 hb0
    obtain ⟨vna, vpa, rfl, hna, hpa, -⟩ := id ha.inv
    obtain ⟨p, cap, rowa, rfl, p1, p2, p3, hra⟩ := hpa
    obtain ⟨pn, capn, rfl, n1, n2, n3, hLa, -⟩ := id hna
    obtain ⟨vnb, vpb, rfl, hnb, hpb, -⟩ := id hb.inv
    obtain ⟨q, capq, rowb, rfl, q1, q2, q3, hrb⟩ := hpb
    obtain ⟨qn, capqn, rfl, m1, m2, m3, hLb, -⟩ := id hnb
    have hfsa : a.names = [] ∨ a.names.length = a.parts.length := (fits_names (allB_fit hfa)).imp id (·.1)
    have hfsb : b.names = [] ∨ b.names.length = b.parts.length := (fits_names (allB_fit hfb)).imp id (·.1)
    have hI := fun (i j : Nat) (hi : i < a.parts.length) (hj : j < b.parts.length) => ih (a.parts.getD i default) (b.parts.getD j default) (by have := Sh.part_lt hi; have := Sh.part_lt hj; omega) (part_fit hfa hi) (part_fit hfb hj)
    have hI' := fun (i j : Nat) (hi : i < a.parts.length) (hj : j < b.parts.length) => ih (b.parts.getD j default) (a.parts.getD i default) (by have := Sh.part_lt hi; have := Sh.part_lt hj; omega) (part_fit hfb hj) (part_fit hfa hi)
    refine ret_of_W Tryz.func59 rfl (Nat.le_of_ble_eq_true rfl) (res1 rfl) ?_
    have hB := Gr.refl (fun _ => False) w
    refine W.seq ?_
    refine W.region ?_
    refine L.box (cs := _) rfl rfl (fun w2 bx2 hw hz2 => ?_)
    have hB := hB.carry hw; have ha := ha.carry hw; have hb := hb.carry hw; have hna := hna.carry hw; have hra := hra.carry hw; have hnb := hnb.carry hw; have hrb := hrb.carry hw
    refine L.box (cs := _) rfl rfl (fun w3 bx3 hw hz3 => ?_)
    have hB := hB.carry hw; have ha := ha.carry hw; have hb := hb.carry hw; have hna := hna.carry hw; have hra := hra.carry hw; have hnb := hnb.carry hw; have hrb := hrb.carry hw; have bx2 := bx2.carry hw
    obtain ⟨b3, hb3⟩ : ∃ b3, b3 = w2.heap.size := ⟨_, rfl⟩
    rw [← hb3] at bx3 ⊢
    have z3 : w.heap.size < b3 := by omega
    refine L.val (x_as (v := .bool _) rfl) rfl ?_
    refine L.nil ?_
    refine thn_n ?_
    refine W.seq ?_
    refine W.seq ?_
    refine W.region ?_
    refine L.val (x_fa kref13b_fo25_0 rfl) rfl ?_
    refine L.val (x_ld (v := .int _ _) kref13b_oc3 rfl (bx2.cell0 rfl)) rfl ?_
    refine L.val (x_eql rfl rfl) rfl ?_
    refine L.val (x_mv (v := .bool _) rfl) rfl ?_
    refine' L.group0 3 17 19 19 16 false rfl ?_ ?_ ?_
    rotate_left 1
    ·intro g16
     have h16 := of_decide_eq_false g16
     refine L.gyes' (dj := 16) (b := _) rfl rfl g16 ?_
     refine L.val (x_fa kref13b_fo25_0 rfl) rfl ?_
     refine L.gyes' (dj := 16) (b := _) rfl rfl g16 ?_
     refine L.val (x_ld (v := .int _ _) kref13b_oc3 rfl (bx3.cell0 rfl)) rfl ?_
     refine L.gyes' (dj := 16) (b := _) rfl rfl g16 ?_
     refine L.val (x_eql rfl rfl) rfl ?_
     refine L.nil ?_
     refine thn_n ⟨rfl, rfl, ?_, rfl⟩
     repeat (first | exact jeq.refl _ _ _ | refine jeq.upd rfl ?_ | refine jeq.jk rfl rfl ?_)
    ·intro g16
     refine L.gno (dj := 16) (b := _) rfl rfl g16 rfl ?_
     refine L.gno (dj := 16) (b := _) rfl rfl g16 rfl ?_
     refine L.gno (dj := 16) (b := _) rfl rfl g16 rfl ?_
     refine L.nil (thn_n ⟨rfl, rfl, ?_⟩)
     repeat (first | exact jeq.refl _ _ _ | refine jeq.upd rfl ?_ | refine jeq.jk rfl rfl ?_)
    intro J16 j16
    refine L.val (x_or rfl j16) rfl ?_
    refine L.nil ?_
    refine thn_n ?_
    refine W.cond (b := _) rfl (fun g20 => ?_) (fun g20 => ?_)
    ·have h20 := g20
     refine W.seq ?_
     refine W.region ?_
     refine L.val (x_as (v := .bool _) rfl) rfl ?_
     refine L.nil ?_
     refine thn_n ?_
     refine W.ret (thn_r (fin_mk (.inr rfl) ?_))
     exact ⟨vb (by show true = nrB (nrN N) a b; rw [nrB, if_pos (by simpa using h20)]), hB⟩
    ·have h20 := g20
     have q1e : ¬ (a.kind = 4 ∨ b.kind = 4) := by simp at h20; omega
     refine W.skip ?_
     refine thn_n ?_
     refine W.seq ?_
     refine W.seq ?_
     refine W.region ?_
     refine L.val (x_fa kref13b_fo25_0 rfl) rfl ?_
     refine L.val (x_ld (v := .int _ _) kref13b_oc3 rfl (bx2.cell0 rfl)) rfl ?_
     refine L.val (x_fa kref13b_fo25_0 rfl) rfl ?_
     refine L.val (x_ld (v := .int _ _) kref13b_oc3 rfl (bx3.cell0 rfl)) rfl ?_
     refine L.val (x_neq rfl rfl) rfl ?_
     refine L.val (x_mv (v := .bool _) rfl) rfl ?_
     refine' L.group0 5 27 31 31 26 false rfl ?_ ?_ ?_
     rotate_left 1
     ·intro g26
      have h26 := dne_f g26
      refine L.gyes' (dj := 26) (b := _) rfl rfl g26 ?_
      refine L.val (x_fa kref13b_fo25_1 rfl) rfl ?_
      refine L.gyes' (dj := 26) (b := _) rfl rfl g26 ?_
      refine L.val (x_ld (v := S _) kref13b_oc9 rfl (bx2.cell0 rfl)) rfl ?_
      refine L.gyes' (dj := 26) (b := _) rfl rfl g26 ?_
      refine L.val (x_fa kref13b_fo25_1 rfl) rfl ?_
      refine L.gyes' (dj := 26) (b := _) rfl rfl g26 ?_
      refine L.val (x_ld (v := S _) kref13b_oc9 rfl (bx3.cell0 rfl)) rfl ?_
      refine L.gyes' (dj := 26) (b := _) rfl rfl g26 ?_
      refine L.val (x_nes rfl rfl) rfl ?_
      refine L.nil ?_
      refine thn_n ⟨rfl, rfl, ?_, rfl⟩
      repeat (first | exact jeq.refl _ _ _ | refine jeq.upd rfl ?_ | refine jeq.jk rfl rfl ?_)
     ·intro g26
      refine L.gno (dj := 26) (b := _) rfl rfl g26 rfl ?_
      refine L.gno (dj := 26) (b := _) rfl rfl g26 rfl ?_
      refine L.gno (dj := 26) (b := _) rfl rfl g26 rfl ?_
      refine L.gno (dj := 26) (b := _) rfl rfl g26 rfl ?_
      refine L.gno (dj := 26) (b := _) rfl rfl g26 rfl ?_
      refine L.nil (thn_n ⟨rfl, rfl, ?_⟩)
      repeat (first | exact jeq.refl _ _ _ | refine jeq.upd rfl ?_ | refine jeq.jk rfl rfl ?_)
     intro J26 j26
     refine L.val (x_or rfl j26) rfl ?_
     refine L.val (x_mv (v := .bool _) rfl) rfl ?_
     refine' L.group0 5 34 38 38 33 false rfl ?_ ?_ ?_
     rotate_left 1
     ·intro g33
      have h33 := g33
      refine L.gyes' (dj := 33) (b := _) rfl rfl g33 ?_
      refine L.val (x_fa kref13b_fo25_2 rfl) rfl ?_
      refine L.gyes' (dj := 33) (b := _) rfl rfl g33 ?_
      refine L.val (x_ld (v := S _) kref13b_oc9 rfl (bx2.cell0 rfl)) rfl ?_
      refine L.gyes' (dj := 33) (b := _) rfl rfl g33 ?_
      refine L.val (x_fa kref13b_fo25_2 rfl) rfl ?_
      refine L.gyes' (dj := 33) (b := _) rfl rfl g33 ?_
      refine L.val (x_ld (v := S _) kref13b_oc9 rfl (bx3.cell0 rfl)) rfl ?_
      refine L.gyes' (dj := 33) (b := _) rfl rfl g33 ?_
      refine L.val (x_nes rfl rfl) rfl ?_
      refine L.nil ?_
      refine thn_n ⟨rfl, rfl, ?_, rfl⟩
      repeat (first | exact jeq.refl _ _ _ | refine jeq.upd rfl ?_ | refine jeq.jk rfl rfl ?_)
     ·intro g33
      refine L.gno (dj := 33) (b := _) rfl rfl g33 rfl ?_
      refine L.gno (dj := 33) (b := _) rfl rfl g33 rfl ?_
      refine L.gno (dj := 33) (b := _) rfl rfl g33 rfl ?_
      refine L.gno (dj := 33) (b := _) rfl rfl g33 rfl ?_
      refine L.gno (dj := 33) (b := _) rfl rfl g33 rfl ?_
      refine L.nil (thn_n ⟨rfl, rfl, ?_⟩)
      repeat (first | exact jeq.refl _ _ _ | refine jeq.upd rfl ?_ | refine jeq.jk rfl rfl ?_)
     intro J33 j33
     refine L.val (x_or rfl j33) rfl ?_
     refine L.nil ?_
     refine thn_n ?_
     refine W.cond (b := _) rfl (fun g39 => ?_) (fun g39 => ?_)
     ·have h39 := g39
      have q2e : a.kind ≠ b.kind ∨ a.of ≠ b.of ∨ a.name ≠ b.name := by simpa [or_assoc] using h39
      refine W.seq ?_
      refine W.region ?_
      refine L.val (x_as (v := .bool _) rfl) rfl ?_
      refine L.nil ?_
      refine thn_n ?_
      refine W.ret (thn_r (fin_mk (.inr rfl) ?_))
      exact ⟨vb (by show false = nrB (nrN N) a b; rw [nrB, if_neg q1e, if_pos q2e]), hB⟩
     ·have h39 := g39
      have q2e : ¬ (a.kind ≠ b.kind ∨ a.of ≠ b.of ∨ a.name ≠ b.name) := fun h => by simp at h39; rcases h with h | h | h; exact h h39.1.1; exact h h39.1.2; exact h h39.2
      have hkk : a.kind = b.kind := Decidable.byContradiction fun h => q2e (.inl h)
      refine W.skip ?_
      refine thn_n ?_
      refine W.seq ?_
      refine W.seq ?_
      refine W.region ?_
      refine L.val (x_fa kref13b_fo25_0 rfl) rfl ?_
      refine L.val (x_ld (v := .int _ _) kref13b_oc3 rfl (bx2.cell0 rfl)) rfl ?_
      refine L.nil ?_
      refine thn_n ?_
      refine W.block ?_
      refine W.seq ?_
      refine W.region ?_
      refine L.val (x_eql rfl rfl) rfl ?_
      refine L.val (x_as (v := .bool _) rfl) rfl ?_
      refine L.nil ?_
      refine thn_n ?_
      refine W.cond (b := _) rfl (fun g43 => ?_) (fun g43 => ?_)
      ·have h43 := of_decide_eq_true g43
       have q6 : a.kind = 6 := by omega
       have hlna := rec_len (allB_fit hfa) (.inl q6)
       have hlnb := rec_len (allB_fit hfb) (.inl (by omega))
       refine W.seq ?_
       refine W.seq ?_
       refine W.region ?_
       refine L.val (x_as (v := .int _ _) rfl) rfl ?_
       refine L.nil ?_
       refine thn_n ?_
       refine W.block ?_
       refine W.loop (fun m' E w' => ∃ (i : Nat), m' = b.names.length - i ∧ E 2 = .pointer (some ⟨w.heap.size, 0, none⟩) ∧ E 3 = .pointer (some ⟨b3, 0, none⟩) ∧ E 5 = .int .i64 (i : Nat) ∧ (Bel w w') ∧ (ShC A w' [.int .i64 a.kind, S a.of, S a.name, .slice pn a.names.length capn, .slice p a.parts.length cap] a) ∧ (ShC B w' [.int .i64 b.kind, S b.of, S b.name, .slice qn b.names.length capqn, .slice q b.parts.length capq] b) ∧ (StrsAt A w' (.slice pn a.names.length capn) a.names) ∧ (ShRow A w' p rowa a.parts) ∧ (StrsAt B w' (.slice qn b.names.length capqn) b.names) ∧ (ShRow B w' q rowb b.parts) ∧ (Box w' w.heap.size 25 [.int .i64 a.kind, S a.of, S a.name, .slice pn a.names.length capn, .slice p a.parts.length cap]) ∧ (Box w' b3 25 [.int .i64 b.kind, S b.of, S b.name, .slice qn b.names.length capqn, .slice q b.parts.length capq]) ∧ (i ≤ b.names.length) ∧ ((List.range i).all (nrA (nrN N) a b) = true)) (b.names.length) ?_ ?_
       ·exact ⟨0, by omega, by first | rfl | exact vi (by omega), by first | rfl | exact vi (by omega), by first | rfl | exact vi (by omega), (by first | assumption | omega | rfl), (by first | assumption | omega | rfl), (by first | assumption | omega | rfl), (by first | assumption | omega | rfl), (by first | assumption | omega | rfl), (by first | assumption | omega | rfl), (by first | assumption | omega | rfl), (by first | assumption | omega | rfl), (by first | assumption | omega | rfl), (by first | assumption | omega | rfl), (by rfl)⟩
       ·rintro _ E wL44 ⟨i, em, e2, e3, e5, hB, ha, hb, hna, hra, hnb, hrb, bx2, bx3, hi, hall⟩
        rw [upd_self e2, upd_self e3, upd_self e5]
        refine W.seq ?_
        refine W.seq ?_
        refine W.region ?_
        refine L.val (x_mv (v := .int _ _) rfl) rfl ?_
        refine L.val (x_fa kref13b_fo25_3 rfl) rfl ?_
        refine L.val (x_ld (v := .slice _ _ _) kref13b_oc22 rfl (bx3.cell0 rfl)) rfl ?_
        refine L.val (x_len_slice Tryz.underlying22 rfl) rfl ?_
        refine L.val (x_lss rfl rfl) rfl ?_
        refine L.nil ?_
        refine thn_n ?_
        refine W.cond (b := _) rfl (fun g48 => ?_) (fun g48 => ?_)
        ·have h48 := of_decide_eq_true g48
         have hlt : i < b.names.length := by omega
         have hjp : i < b.parts.length := by omega
         obtain ⟨bn, on, rfl, hcn⟩ := hnb.elem hlt
         obtain ⟨bq, oq, rfl, hcq⟩ := hrb.elem hjp
         have hx3 := bx3.lt
         refine W.skip ?_
         refine thn_n ?_
         refine W.seq ?_
         refine W.block ?_
         refine W.seq ?_
         refine W.drawF 13 kref13b_mixed (fun wF52 hB0 => ?_)
         refine LAC.takeN (i := 0) rfl (by kernel_rfl) (by kernel_rfl) (by kernel_rfl) (by kernel_rfl) (fun w hw => x_ldn (vs := [.int .i64 a.kind, S a.of, S a.name, .slice pn a.names.length capn, .slice p a.parts.length cap]) kref13b_ag25 rfl rfl (hw.keepRow rfl (bx2.row rfl))) rfl ?_
         refine LAC.takeN (i := 1) rfl (by kernel_rfl) (by kernel_rfl) (by kernel_rfl) (by kernel_rfl) (fun w hw => x_fa kref13b_fo25_3 rfl) rfl ?_
         refine LAC.takeN (i := 2) rfl (by kernel_rfl) (by kernel_rfl) (by kernel_rfl) (by kernel_rfl) (fun w hw => x_ld (v := .slice _ _ _) kref13b_oc22 rfl (hw.keep (bx3.cell0 rfl))) rfl ?_
         refine LAC.takeN (i := 3) rfl (by kernel_rfl) (by kernel_rfl) (by kernel_rfl) (by kernel_rfl) (fun w hw => x_mv (v := .int _ _) rfl) rfl ?_
         refine LAC.takeN (i := 4) rfl (by kernel_rfl) (by kernel_rfl) (by kernel_rfl) (by kernel_rfl) (fun w hw => x_ia1 (j := i) Tryz.underlying22 kref13b_sz9 rfl rfl (by omega) (by omega)) rfl ?_
         refine LAC.takeN (i := 5) rfl (by kernel_rfl) (by kernel_rfl) (by kernel_rfl) (by kernel_rfl) (fun w hw => x_ld (v := S _) kref13b_oc9 rfl (hw.keep hcn)) rfl ?_
         refine LAC.step (rs := [6, 10]) (fun _ => hB0) (by kernel_rfl) (by simp) ⟨⟨_, rfl, ?_⟩, ⟨_, rfl, ?_⟩, trivial⟩
         ·refine L.ret (x_call kref13b_en110 rfl) rfl (part13 A a _ _ _ (ha.carry hB0) hfsa) ?_
          rintro _ w58 ⟨cs58, rfl, hp58, hw⟩
          have hB0 := hB0.carry hw
          have hl58 := hp58.len
          have hp58 := hp58.mono (A' := A) fun k _ h => .inl h
          refine L.nil ?_
          refine thn_n ?_
          refine LAC.takeN (i := 7) rfl (by kernel_rfl) (by kernel_rfl) (by kernel_rfl) (by kernel_rfl) (fun w hw => x_mv (v := _) rfl) rfl ?_
          refine LAC.takeN (i := 8) rfl (by kernel_rfl) (by kernel_rfl) (by kernel_rfl) (by kernel_rfl) (fun w hw => x_ext (v := _) rfl rfl) rfl ?_
          refine LAC.takeN (i := 9) rfl (by kernel_rfl) (by kernel_rfl) (by kernel_rfl) (by kernel_rfl) (fun w hw => x_ext (v := .bool _) rfl rfl) rfl ?_
          refine LAC.step (rs := [10]) (fun _ => hB0) (by kernel_rfl) (by simp) ⟨⟨_, rfl, ?_⟩, trivial⟩
          have hs6 := hB0.size
          refine L.alloc (cs := [Value.int .i64 0, S [], S [], Value.slice none 0 0, Value.slice none 0 0]) kref13b_zr25 rfl rfl (fun w6 bx6 hw hz6 => ?_)
          have hB0 := hB0.carry hw; have hp58 := hp58.carry hw
          refine L.nil ?_
          refine thn_n ?_
          refine LAC.step (rs := [11]) (fun _ => hB0) (by kernel_rfl) (by simp) ⟨⟨_, rfl, ?_⟩, trivial⟩
          refine L.setRow kref13b_ag25 rfl rfl bx6 rfl hl58 hp58.one (fun wl54 bx6 hw hzl54 => ?_)
          have hB0 := hB0.set hw (by omega); have hp58 := hp58.carryR hw (fun j e => hA j (by have e : j = _ := e; omega))
          have hx6 := bx6.lt
          refine L.nil ?_
          refine thn_n ?_
          refine LAC.takeN (i := 12) rfl (by kernel_rfl) (by kernel_rfl) (by kernel_rfl) (by kernel_rfl) (fun w hw => x_as (v := .bool _) rfl) rfl ?_
          refine LAC.doneF (by kernel_rfl) hB0 ?_
          have hB := hB.carry hB0; have ha := ha.carry hB0; have hb := hb.carry hB0; have hna := hna.carry hB0; have hra := hra.carry hB0; have hnb := hnb.carry hB0; have hrb := hrb.carry hB0; have bx2 := bx2.carry hB0; have bx3 := bx3.carry hB0
          refine thn_n ?_
          refine W.seq ?_
          refine W.drawF 12 kref13b_mixed (fun wF61 hB0 => ?_)
          refine LAC.takeN (i := 0) rfl (by kernel_rfl) (by kernel_rfl) (by kernel_rfl) (by kernel_rfl) (fun w hw => x_mv (v := .bool _) rfl) rfl ?_
          refine LAC.takeN (i := 1) rfl (by kernel_rfl) (by kernel_rfl) (by kernel_rfl) (by kernel_rfl) (fun w hw => x_not rfl) rfl ?_
          refine LAC.takeN (i := 2) rfl (by kernel_rfl) (by kernel_rfl) (by kernel_rfl) (by kernel_rfl) (fun w hw => x_mv (v := .bool _) rfl) rfl ?_
          refine LAC.split (dj := 63) (b := _) rfl (fun g63 => ?_) (fun g63 => ?_)
          ·have h63 := (not_t g63)
           have hno : ¬ idxS (b.names.getD i []) a.names < a.names.length := by simpa using h63
           have hone : nrA (nrN N) a b i = false := by unfold nrA; rw [if_neg hno]
           refine LAC.takeU (i := 3) rfl (by kernel_rfl) (by kernel_rfl) (by kernel_rfl) (by kernel_rfl) (dj := 63) (b := _) rfl rfl g63 rfl ?_
           refine LAC.takeU (i := 4) rfl (by kernel_rfl) (by kernel_rfl) (by kernel_rfl) (by kernel_rfl) (dj := 63) (b := _) rfl rfl g63 rfl ?_
           refine LAC.takeU (i := 5) rfl (by kernel_rfl) (by kernel_rfl) (by kernel_rfl) (by kernel_rfl) (dj := 63) (b := _) rfl rfl g63 rfl ?_
           refine LAC.takeU (i := 6) rfl (by kernel_rfl) (by kernel_rfl) (by kernel_rfl) (by kernel_rfl) (dj := 63) (b := _) rfl rfl g63 rfl ?_
           refine LAC.takeU (i := 7) rfl (by kernel_rfl) (by kernel_rfl) (by kernel_rfl) (by kernel_rfl) (dj := 63) (b := _) rfl rfl g63 rfl ?_
           refine LAC.takeU (i := 8) rfl (by kernel_rfl) (by kernel_rfl) (by kernel_rfl) (by kernel_rfl) (dj := 63) (b := _) rfl rfl g63 rfl ?_
           refine LAC.takeU (i := 9) rfl (by kernel_rfl) (by kernel_rfl) (by kernel_rfl) (by kernel_rfl) (dj := 63) (b := _) rfl rfl g63 rfl ?_
           refine LAC.takeU (i := 10) rfl (by kernel_rfl) (by kernel_rfl) (by kernel_rfl) (by kernel_rfl) (dj := 63) (b := _) rfl rfl g63 rfl ?_
           refine LAC.takeN (i := 11) rfl (by kernel_rfl) (by kernel_rfl) (by kernel_rfl) (by kernel_rfl) (fun w hw => x_pick_t (v := .bool _) (congrArg Value.bool g63) rfl) rfl ?_
           refine LAC.doneF (by kernel_rfl) hB0 ?_
           have hB := hB.carry hB0; have ha := ha.carry hB0; have hb := hb.carry hB0; have hna := hna.carry hB0; have hra := hra.carry hB0; have hnb := hnb.carry hB0; have hrb := hrb.carry hB0; have bx2 := bx2.carry hB0; have bx3 := bx3.carry hB0; have hp58 := hp58.carry hB0
           refine thn_n ?_
           refine W.cond (b := true) rfl (fun _ => ?_) (fun h => nomatch h)
           refine W.seq ?_
           refine W.region ?_
           refine L.val (x_as (v := .bool _) rfl) rfl ?_
           refine L.nil ?_
           refine thn_n ?_
           refine W.ret (blk_r (thn_r (thn_r (blk_r (thn_r (blk_r (thn_r (fin_mk (.inr rfl) ?_))))))))
           exact ⟨vb (by show false = nrB (nrN N) a b; rw [nrB, if_neg q1e, if_neg q2e, if_pos q6, all_missR hlt (hone.trans (by first | rfl | exact h71))]), hB⟩
          ·have h63 := (not_f g63)
           have hno : idxS (b.names.getD i []) a.names < a.names.length := by simpa using h63
           have hone : nrA (nrN N) a b i = nrN N (a.parts.getD (idxS (b.names.getD i []) a.names) default) (b.parts.getD i default) := by unfold nrA; rw [if_pos hno]
           have hpv : partV a (b.names.getD i []) = a.parts.getD (idxS (b.names.getD i []) a.names) default := by unfold partV; rw [if_pos hno]
           rw [hpv] at hp58
           refine LAC.takeG (i := 3) rfl (by kernel_rfl) (by kernel_rfl) (by kernel_rfl) (by kernel_rfl) (dj := 63) (b := _) rfl rfl g63 (fun w hw => x_ldn (vs := cs58) kref13b_ag25 rfl hl58 (hw.keepRow hl58 (bx6.row hl58))) rfl ?_
           refine LAC.takeG (i := 4) rfl (by kernel_rfl) (by kernel_rfl) (by kernel_rfl) (by kernel_rfl) (dj := 63) (b := _) rfl rfl g63 (fun w hw => x_fa kref13b_fo25_4 rfl) rfl ?_
           refine LAC.takeG (i := 5) rfl (by kernel_rfl) (by kernel_rfl) (by kernel_rfl) (by kernel_rfl) (dj := 63) (b := _) rfl rfl g63 (fun w hw => x_ld (v := .slice _ _ _) kref13b_oc23 rfl (hw.keep (bx3.cell0 rfl))) rfl ?_
           refine LAC.takeG (i := 6) rfl (by kernel_rfl) (by kernel_rfl) (by kernel_rfl) (by kernel_rfl) (dj := 63) (b := _) rfl rfl g63 (fun w hw => x_mv (v := .int _ _) rfl) rfl ?_
           refine LAC.takeG (i := 7) rfl (by kernel_rfl) (by kernel_rfl) (by kernel_rfl) (by kernel_rfl) (dj := 63) (b := _) rfl rfl g63 (fun w hw => x_ia (j := i) Tryz.underlying23 kref13b_sz25 rfl rfl (by omega) (by omega)) rfl ?_
           refine LAC.takeG (i := 8) rfl (by kernel_rfl) (by kernel_rfl) (by kernel_rfl) (by kernel_rfl) (dj := 63) (b := _) rfl rfl g63 (fun w hw => x_ldn (vs := rowb i) kref13b_ag25 rfl (hrb.five i hjp) (hw.keepRow (hrb.five i hjp) (hrb.elemAt hjp))) rfl ?_
           refine LAC.step (rs := [9]) (fun _ => hB0) (by kernel_rfl) (by simp) ⟨⟨_, rfl, ?_⟩, trivial⟩
           refine L.gyes' (dj := 63) (b := _) rfl rfl g63 ?_
           refine L.ret (x_call kref13b_en59 rfl) rfl (hI (idxS (b.names.getD i []) a.names) i (by omega) hjp A B _ _ _ (hp58.carry hB0) ((hrb.each i hjp).carry hB0)) ?_
           rintro _ w70 ⟨rfl, hw⟩
           have hB0 := hB0.carry hw
           refine L.nil ?_
           refine thn_n ?_
           refine LAC.takeG (i := 10) rfl (by kernel_rfl) (by kernel_rfl) (by kernel_rfl) (by kernel_rfl) (dj := 63) (b := _) rfl rfl g63 (fun w hw => x_not rfl) rfl ?_
           refine LAC.takeN (i := 11) rfl (by kernel_rfl) (by kernel_rfl) (by kernel_rfl) (by kernel_rfl) (fun w hw => x_pick_f (v := .bool _) (congrArg Value.bool g63) rfl) rfl ?_
           refine LAC.doneF (by kernel_rfl) hB0 ?_
           have hB := hB.carry hB0; have ha := ha.carry hB0; have hb := hb.carry hB0; have hna := hna.carry hB0; have hra := hra.carry hB0; have hnb := hnb.carry hB0; have hrb := hrb.carry hB0; have bx2 := bx2.carry hB0; have bx3 := bx3.carry hB0; have hp58 := hp58.carry hB0
           refine thn_n ?_
           refine W.cond (b := _) rfl (fun g71 => ?_) (fun g71 => ?_)
           ·have h71 := (not_t g71)
            refine W.seq ?_
            refine W.region ?_
            refine L.val (x_as (v := .bool _) rfl) rfl ?_
            refine L.nil ?_
            refine thn_n ?_
            refine W.ret (blk_r (thn_r (thn_r (blk_r (thn_r (blk_r (thn_r (fin_mk (.inr rfl) ?_))))))))
            exact ⟨vb (by show false = nrB (nrN N) a b; rw [nrB, if_neg q1e, if_neg q2e, if_pos q6, all_missR hlt (hone.trans (by first | rfl | exact h71))]), hB⟩
           ·have h71 := (not_f g71)
            refine W.skip ?_
            refine blk_n ?_
            refine thn_n ?_
            refine W.region ?_
            refine L.val (x_mv (v := .int _ _) rfl) rfl ?_
            refine L.val (x_add rfl rfl (wr64 (by omega))) rfl ?_
            refine L.val (x_as (v := .int _ _) rfl) rfl ?_
            refine L.nil ?_
            refine thn_n ⟨rfl, ?_⟩
            refine ⟨_, ?_, i + 1, rfl, by first | rfl | exact vi (by omega), by first | rfl | exact vi (by omega), by first | rfl | exact vi (by omega), (by first | assumption | omega | rfl), (by first | assumption | omega | rfl), (by first | assumption | omega | rfl), (by first | assumption | omega | rfl), (by first | assumption | omega | rfl), (by first | assumption | omega | rfl), (by first | assumption | omega | rfl), (by first | assumption | omega | rfl), (by first | assumption | omega | rfl), (by first | assumption | omega | rfl), (by rw [all_succ, hall, hone, h71]; rfl)⟩
            omega
         ·have hs6 := hB0.size
          refine L.alloc (cs := [Value.int .i64 0, S [], S [], Value.slice none 0 0, Value.slice none 0 0]) kref13b_zr25 rfl rfl (fun w6 bx6 hw hz6 => ?_)
          have hB0 := hB0.carry hw
          refine L.nil ?_
          refine thn_n ?_
          refine LAC.step (rs := [6]) (fun _ => hB0) (by kernel_rfl) (by simp) ⟨⟨_, rfl, ?_⟩, trivial⟩
          refine L.ret (x_call kref13b_en110 rfl) rfl (part13 A a _ _ _ (ha.carry hB0) hfsa) ?_
          rintro _ w58 ⟨cs58, rfl, hp58, hw⟩
          have hB0 := hB0.carry hw; have bx6 := bx6.carry hw
          have hl58 := hp58.len
          have hp58 := hp58.mono (A' := A) fun k _ h => .inl h
          refine L.nil ?_
          refine thn_n ?_
          refine LAC.takeN (i := 7) rfl (by kernel_rfl) (by kernel_rfl) (by kernel_rfl) (by kernel_rfl) (fun w hw => x_mv (v := _) rfl) rfl ?_
          refine LAC.takeN (i := 8) rfl (by kernel_rfl) (by kernel_rfl) (by kernel_rfl) (by kernel_rfl) (fun w hw => x_ext (v := _) rfl rfl) rfl ?_
          refine LAC.takeN (i := 9) rfl (by kernel_rfl) (by kernel_rfl) (by kernel_rfl) (by kernel_rfl) (fun w hw => x_ext (v := .bool _) rfl rfl) rfl ?_
          refine LAC.step (rs := [11]) (fun _ => hB0) (by kernel_rfl) (by simp) ⟨⟨_, rfl, ?_⟩, trivial⟩
          refine L.setRow kref13b_ag25 rfl rfl bx6 rfl hl58 hp58.one (fun wl54 bx6 hw hzl54 => ?_)
          have hB0 := hB0.set hw (by omega); have hp58 := hp58.carryR hw (fun j e => hA j (by have e : j = _ := e; omega))
          have hx6 := bx6.lt
          refine L.nil ?_
          refine thn_n ?_
          refine LAC.takeN (i := 12) rfl (by kernel_rfl) (by kernel_rfl) (by kernel_rfl) (by kernel_rfl) (fun w hw => x_as (v := .bool _) rfl) rfl ?_
          refine LAC.doneF (by kernel_rfl) hB0 ?_
          have hB := hB.carry hB0; have ha := ha.carry hB0; have hb := hb.carry hB0; have hna := hna.carry hB0; have hra := hra.carry hB0; have hnb := hnb.carry hB0; have hrb := hrb.carry hB0; have bx2 := bx2.carry hB0; have bx3 := bx3.carry hB0
          refine thn_n ?_
          refine W.seq ?_
          refine W.drawF 12 kref13b_mixed (fun wF61 hB0 => ?_)
          refine LAC.takeN (i := 0) rfl (by kernel_rfl) (by kernel_rfl) (by kernel_rfl) (by kernel_rfl) (fun w hw => x_mv (v := .bool _) rfl) rfl ?_
          refine LAC.takeN (i := 1) rfl (by kernel_rfl) (by kernel_rfl) (by kernel_rfl) (by kernel_rfl) (fun w hw => x_not rfl) rfl ?_
          refine LAC.takeN (i := 2) rfl (by kernel_rfl) (by kernel_rfl) (by kernel_rfl) (by kernel_rfl) (fun w hw => x_mv (v := .bool _) rfl) rfl ?_
          refine LAC.split (dj := 63) (b := _) rfl (fun g63 => ?_) (fun g63 => ?_)
          ·have h63 := (not_t g63)
           have hno : ¬ idxS (b.names.getD i []) a.names < a.names.length := by simpa using h63
           have hone : nrA (nrN N) a b i = false := by unfold nrA; rw [if_neg hno]
           refine LAC.takeU (i := 3) rfl (by kernel_rfl) (by kernel_rfl) (by kernel_rfl) (by kernel_rfl) (dj := 63) (b := _) rfl rfl g63 rfl ?_
           refine LAC.takeU (i := 4) rfl (by kernel_rfl) (by kernel_rfl) (by kernel_rfl) (by kernel_rfl) (dj := 63) (b := _) rfl rfl g63 rfl ?_
           refine LAC.takeU (i := 5) rfl (by kernel_rfl) (by kernel_rfl) (by kernel_rfl) (by kernel_rfl) (dj := 63) (b := _) rfl rfl g63 rfl ?_
           refine LAC.takeU (i := 6) rfl (by kernel_rfl) (by kernel_rfl) (by kernel_rfl) (by kernel_rfl) (dj := 63) (b := _) rfl rfl g63 rfl ?_
           refine LAC.takeU (i := 7) rfl (by kernel_rfl) (by kernel_rfl) (by kernel_rfl) (by kernel_rfl) (dj := 63) (b := _) rfl rfl g63 rfl ?_
           refine LAC.takeU (i := 8) rfl (by kernel_rfl) (by kernel_rfl) (by kernel_rfl) (by kernel_rfl) (dj := 63) (b := _) rfl rfl g63 rfl ?_
           refine LAC.takeU (i := 9) rfl (by kernel_rfl) (by kernel_rfl) (by kernel_rfl) (by kernel_rfl) (dj := 63) (b := _) rfl rfl g63 rfl ?_
           refine LAC.takeU (i := 10) rfl (by kernel_rfl) (by kernel_rfl) (by kernel_rfl) (by kernel_rfl) (dj := 63) (b := _) rfl rfl g63 rfl ?_
           refine LAC.takeN (i := 11) rfl (by kernel_rfl) (by kernel_rfl) (by kernel_rfl) (by kernel_rfl) (fun w hw => x_pick_t (v := .bool _) (congrArg Value.bool g63) rfl) rfl ?_
           refine LAC.doneF (by kernel_rfl) hB0 ?_
           have hB := hB.carry hB0; have ha := ha.carry hB0; have hb := hb.carry hB0; have hna := hna.carry hB0; have hra := hra.carry hB0; have hnb := hnb.carry hB0; have hrb := hrb.carry hB0; have bx2 := bx2.carry hB0; have bx3 := bx3.carry hB0; have hp58 := hp58.carry hB0
           refine thn_n ?_
           refine W.cond (b := true) rfl (fun _ => ?_) (fun h => nomatch h)
           refine W.seq ?_
           refine W.region ?_
           refine L.val (x_as (v := .bool _) rfl) rfl ?_
           refine L.nil ?_
           refine thn_n ?_
           refine W.ret (blk_r (thn_r (thn_r (blk_r (thn_r (blk_r (thn_r (fin_mk (.inr rfl) ?_))))))))
           exact ⟨vb (by show false = nrB (nrN N) a b; rw [nrB, if_neg q1e, if_neg q2e, if_pos q6, all_missR hlt (hone.trans (by first | rfl | exact h71))]), hB⟩
          ·have h63 := (not_f g63)
           have hno : idxS (b.names.getD i []) a.names < a.names.length := by simpa using h63
           have hone : nrA (nrN N) a b i = nrN N (a.parts.getD (idxS (b.names.getD i []) a.names) default) (b.parts.getD i default) := by unfold nrA; rw [if_pos hno]
           have hpv : partV a (b.names.getD i []) = a.parts.getD (idxS (b.names.getD i []) a.names) default := by unfold partV; rw [if_pos hno]
           rw [hpv] at hp58
           refine LAC.takeG (i := 3) rfl (by kernel_rfl) (by kernel_rfl) (by kernel_rfl) (by kernel_rfl) (dj := 63) (b := _) rfl rfl g63 (fun w hw => x_ldn (vs := cs58) kref13b_ag25 rfl hl58 (hw.keepRow hl58 (bx6.row hl58))) rfl ?_
           refine LAC.takeG (i := 4) rfl (by kernel_rfl) (by kernel_rfl) (by kernel_rfl) (by kernel_rfl) (dj := 63) (b := _) rfl rfl g63 (fun w hw => x_fa kref13b_fo25_4 rfl) rfl ?_
           refine LAC.takeG (i := 5) rfl (by kernel_rfl) (by kernel_rfl) (by kernel_rfl) (by kernel_rfl) (dj := 63) (b := _) rfl rfl g63 (fun w hw => x_ld (v := .slice _ _ _) kref13b_oc23 rfl (hw.keep (bx3.cell0 rfl))) rfl ?_
           refine LAC.takeG (i := 6) rfl (by kernel_rfl) (by kernel_rfl) (by kernel_rfl) (by kernel_rfl) (dj := 63) (b := _) rfl rfl g63 (fun w hw => x_mv (v := .int _ _) rfl) rfl ?_
           refine LAC.takeG (i := 7) rfl (by kernel_rfl) (by kernel_rfl) (by kernel_rfl) (by kernel_rfl) (dj := 63) (b := _) rfl rfl g63 (fun w hw => x_ia (j := i) Tryz.underlying23 kref13b_sz25 rfl rfl (by omega) (by omega)) rfl ?_
           refine LAC.takeG (i := 8) rfl (by kernel_rfl) (by kernel_rfl) (by kernel_rfl) (by kernel_rfl) (dj := 63) (b := _) rfl rfl g63 (fun w hw => x_ldn (vs := rowb i) kref13b_ag25 rfl (hrb.five i hjp) (hw.keepRow (hrb.five i hjp) (hrb.elemAt hjp))) rfl ?_
           refine LAC.step (rs := [9]) (fun _ => hB0) (by kernel_rfl) (by simp) ⟨⟨_, rfl, ?_⟩, trivial⟩
           refine L.gyes' (dj := 63) (b := _) rfl rfl g63 ?_
           refine L.ret (x_call kref13b_en59 rfl) rfl (hI (idxS (b.names.getD i []) a.names) i (by omega) hjp A B _ _ _ (hp58.carry hB0) ((hrb.each i hjp).carry hB0)) ?_
           rintro _ w70 ⟨rfl, hw⟩
           have hB0 := hB0.carry hw
           refine L.nil ?_
           refine thn_n ?_
           refine LAC.takeG (i := 10) rfl (by kernel_rfl) (by kernel_rfl) (by kernel_rfl) (by kernel_rfl) (dj := 63) (b := _) rfl rfl g63 (fun w hw => x_not rfl) rfl ?_
           refine LAC.takeN (i := 11) rfl (by kernel_rfl) (by kernel_rfl) (by kernel_rfl) (by kernel_rfl) (fun w hw => x_pick_f (v := .bool _) (congrArg Value.bool g63) rfl) rfl ?_
           refine LAC.doneF (by kernel_rfl) hB0 ?_
           have hB := hB.carry hB0; have ha := ha.carry hB0; have hb := hb.carry hB0; have hna := hna.carry hB0; have hra := hra.carry hB0; have hnb := hnb.carry hB0; have hrb := hrb.carry hB0; have bx2 := bx2.carry hB0; have bx3 := bx3.carry hB0; have hp58 := hp58.carry hB0
           refine thn_n ?_
           refine W.cond (b := _) rfl (fun g71 => ?_) (fun g71 => ?_)
           ·have h71 := (not_t g71)
            refine W.seq ?_
            refine W.region ?_
            refine L.val (x_as (v := .bool _) rfl) rfl ?_
            refine L.nil ?_
            refine thn_n ?_
            refine W.ret (blk_r (thn_r (thn_r (blk_r (thn_r (blk_r (thn_r (fin_mk (.inr rfl) ?_))))))))
            exact ⟨vb (by show false = nrB (nrN N) a b; rw [nrB, if_neg q1e, if_neg q2e, if_pos q6, all_missR hlt (hone.trans (by first | rfl | exact h71))]), hB⟩
           ·have h71 := (not_f g71)
            refine W.skip ?_
            refine blk_n ?_
            refine thn_n ?_
            refine W.region ?_
            refine L.val (x_mv (v := .int _ _) rfl) rfl ?_
            refine L.val (x_add rfl rfl (wr64 (by omega))) rfl ?_
            refine L.val (x_as (v := .int _ _) rfl) rfl ?_
            refine L.nil ?_
            refine thn_n ⟨rfl, ?_⟩
            refine ⟨_, ?_, i + 1, rfl, by first | rfl | exact vi (by omega), by first | rfl | exact vi (by omega), by first | rfl | exact vi (by omega), (by first | assumption | omega | rfl), (by first | assumption | omega | rfl), (by first | assumption | omega | rfl), (by first | assumption | omega | rfl), (by first | assumption | omega | rfl), (by first | assumption | omega | rfl), (by first | assumption | omega | rfl), (by first | assumption | omega | rfl), (by first | assumption | omega | rfl), (by first | assumption | omega | rfl), (by rw [all_succ, hall, hone, h71]; rfl)⟩
            omega
        ·have h48 := dlt_f g48
         refine W.exit (thn_x (thn_x (blk_hit ?_)))
         refine thn_n ?_
         refine W.seq ?_
         refine W.region ?_
         refine L.val (x_as (v := .bool _) rfl) rfl ?_
         refine L.nil ?_
         refine thn_n ?_
         refine W.ret (blk_r (thn_r (fin_mk (.inr rfl) ?_)))
         exact ⟨vb (by show true = nrB (nrN N) a b; rw [nrB, if_neg q1e, if_neg q2e, if_pos q6, show b.names.length = i by omega, hall]), hB⟩
      ·have h43 := of_decide_eq_false g43
       have q6 : ¬ a.kind = 6 := by omega
       refine W.seq ?_
       refine W.region ?_
       refine L.val (x_eql rfl rfl) rfl ?_
       refine L.val (x_as (v := .bool _) rfl) rfl ?_
       refine L.nil ?_
       refine thn_n ?_
       refine W.cond (b := _) rfl (fun g74 => ?_) (fun g74 => ?_)
       ·have h74 := of_decide_eq_true g74
        have q7 : a.kind = 7 := by omega
        have hlna := rec_len (allB_fit hfa) (.inr q7)
        have hlnb := rec_len (allB_fit hfb) (.inr (by omega))
        refine W.seq ?_
        refine W.seq ?_
        refine W.region ?_
        refine L.val (x_as (v := .int _ _) rfl) rfl ?_
        refine L.nil ?_
        refine thn_n ?_
        refine W.block ?_
        refine W.loop (fun m' E w' => ∃ (i : Nat), m' = a.names.length - i ∧ E 2 = .pointer (some ⟨w.heap.size, 0, none⟩) ∧ E 3 = .pointer (some ⟨b3, 0, none⟩) ∧ E 8 = .int .i64 (i : Nat) ∧ (Bel w w') ∧ (ShC A w' [.int .i64 a.kind, S a.of, S a.name, .slice pn a.names.length capn, .slice p a.parts.length cap] a) ∧ (ShC B w' [.int .i64 b.kind, S b.of, S b.name, .slice qn b.names.length capqn, .slice q b.parts.length capq] b) ∧ (StrsAt A w' (.slice pn a.names.length capn) a.names) ∧ (ShRow A w' p rowa a.parts) ∧ (StrsAt B w' (.slice qn b.names.length capqn) b.names) ∧ (ShRow B w' q rowb b.parts) ∧ (Box w' w.heap.size 25 [.int .i64 a.kind, S a.of, S a.name, .slice pn a.names.length capn, .slice p a.parts.length cap]) ∧ (Box w' b3 25 [.int .i64 b.kind, S b.of, S b.name, .slice qn b.names.length capqn, .slice q b.parts.length capq]) ∧ (i ≤ a.names.length) ∧ ((List.range i).all (nrV (nrN N) a b) = true)) (a.names.length) ?_ ?_
        ·exact ⟨0, by omega, by first | rfl | exact vi (by omega), by first | rfl | exact vi (by omega), by first | rfl | exact vi (by omega), (by first | assumption | omega | rfl), (by first | assumption | omega | rfl), (by first | assumption | omega | rfl), (by first | assumption | omega | rfl), (by first | assumption | omega | rfl), (by first | assumption | omega | rfl), (by first | assumption | omega | rfl), (by first | assumption | omega | rfl), (by first | assumption | omega | rfl), (by first | assumption | omega | rfl), (by rfl)⟩
        ·rintro _ E wL75 ⟨i, em, e2, e3, e8, hB, ha, hb, hna, hra, hnb, hrb, bx2, bx3, hi, hall⟩
         rw [upd_self e2, upd_self e3, upd_self e8]
         refine W.seq ?_
         refine W.seq ?_
         refine W.region ?_
         refine L.val (x_mv (v := .int _ _) rfl) rfl ?_
         refine L.val (x_fa kref13b_fo25_3 rfl) rfl ?_
         refine L.val (x_ld (v := .slice _ _ _) kref13b_oc22 rfl (bx2.cell0 rfl)) rfl ?_
         refine L.val (x_len_slice Tryz.underlying22 rfl) rfl ?_
         refine L.val (x_lss rfl rfl) rfl ?_
         refine L.nil ?_
         refine thn_n ?_
         refine W.cond (b := _) rfl (fun g79 => ?_) (fun g79 => ?_)
         ·have h79 := of_decide_eq_true g79
          have hlt : i < a.names.length := by omega
          have hip : i < a.parts.length := by omega
          obtain ⟨bn, on, rfl, hcn⟩ := hna.elem hlt
          obtain ⟨bp, op, rfl, hcp⟩ := hra.elem hip
          have hx3 := bx3.lt
          refine W.skip ?_
          refine thn_n ?_
          refine W.seq ?_
          refine W.block ?_
          refine W.seq ?_
          refine W.drawF 13 kref13b_mixed (fun wF83 hB0 => ?_)
          refine LAC.takeN (i := 0) rfl (by kernel_rfl) (by kernel_rfl) (by kernel_rfl) (by kernel_rfl) (fun w hw => x_ldn (vs := [.int .i64 b.kind, S b.of, S b.name, .slice qn b.names.length capqn, .slice q b.parts.length capq]) kref13b_ag25 rfl rfl (hw.keepRow rfl (bx3.row rfl))) rfl ?_
          refine LAC.takeN (i := 1) rfl (by kernel_rfl) (by kernel_rfl) (by kernel_rfl) (by kernel_rfl) (fun w hw => x_fa kref13b_fo25_3 rfl) rfl ?_
          refine LAC.takeN (i := 2) rfl (by kernel_rfl) (by kernel_rfl) (by kernel_rfl) (by kernel_rfl) (fun w hw => x_ld (v := .slice _ _ _) kref13b_oc22 rfl (hw.keep (bx2.cell0 rfl))) rfl ?_
          refine LAC.takeN (i := 3) rfl (by kernel_rfl) (by kernel_rfl) (by kernel_rfl) (by kernel_rfl) (fun w hw => x_mv (v := .int _ _) rfl) rfl ?_
          refine LAC.takeN (i := 4) rfl (by kernel_rfl) (by kernel_rfl) (by kernel_rfl) (by kernel_rfl) (fun w hw => x_ia1 (j := i) Tryz.underlying22 kref13b_sz9 rfl rfl (by omega) (by omega)) rfl ?_
          refine LAC.takeN (i := 5) rfl (by kernel_rfl) (by kernel_rfl) (by kernel_rfl) (by kernel_rfl) (fun w hw => x_ld (v := S _) kref13b_oc9 rfl (hw.keep hcn)) rfl ?_
          refine LAC.step (rs := [6, 10]) (fun _ => hB0) (by kernel_rfl) (by simp) ⟨⟨_, rfl, ?_⟩, ⟨_, rfl, ?_⟩, trivial⟩
          ·refine L.ret (x_call kref13b_en110 rfl) rfl (part13 B b _ _ _ (hb.carry hB0) hfsb) ?_
           rintro _ w89 ⟨cs89, rfl, hp89, hw⟩
           have hB0 := hB0.carry hw
           have hl89 := hp89.len
           have hp89 := hp89.mono (A' := B) fun k _ h => .inl h
           refine L.nil ?_
           refine thn_n ?_
           refine LAC.takeN (i := 7) rfl (by kernel_rfl) (by kernel_rfl) (by kernel_rfl) (by kernel_rfl) (fun w hw => x_mv (v := _) rfl) rfl ?_
           refine LAC.takeN (i := 8) rfl (by kernel_rfl) (by kernel_rfl) (by kernel_rfl) (by kernel_rfl) (fun w hw => x_ext (v := _) rfl rfl) rfl ?_
           refine LAC.takeN (i := 9) rfl (by kernel_rfl) (by kernel_rfl) (by kernel_rfl) (by kernel_rfl) (fun w hw => x_ext (v := .bool _) rfl rfl) rfl ?_
           refine LAC.step (rs := [10]) (fun _ => hB0) (by kernel_rfl) (by simp) ⟨⟨_, rfl, ?_⟩, trivial⟩
           have hs9 := hB0.size
           refine L.alloc (cs := [Value.int .i64 0, S [], S [], Value.slice none 0 0, Value.slice none 0 0]) kref13b_zr25 rfl rfl (fun w9 bx9 hw hz9 => ?_)
           have hB0 := hB0.carry hw; have hp89 := hp89.carry hw
           refine L.nil ?_
           refine thn_n ?_
           refine LAC.step (rs := [11]) (fun _ => hB0) (by kernel_rfl) (by simp) ⟨⟨_, rfl, ?_⟩, trivial⟩
           refine L.setRow kref13b_ag25 rfl rfl bx9 rfl hl89 hp89.one (fun wl92 bx9 hw hzl92 => ?_)
           have hB0 := hB0.set hw (by omega); have hp89 := hp89.carryR hw (fun j e => hBu j (by have e : j = _ := e; omega))
           have hx9 := bx9.lt
           refine L.nil ?_
           refine thn_n ?_
           refine LAC.takeN (i := 12) rfl (by kernel_rfl) (by kernel_rfl) (by kernel_rfl) (by kernel_rfl) (fun w hw => x_as (v := .bool _) rfl) rfl ?_
           refine LAC.doneF (by kernel_rfl) hB0 ?_
           have hB := hB.carry hB0; have ha := ha.carry hB0; have hb := hb.carry hB0; have hna := hna.carry hB0; have hra := hra.carry hB0; have hnb := hnb.carry hB0; have hrb := hrb.carry hB0; have bx2 := bx2.carry hB0; have bx3 := bx3.carry hB0
           refine thn_n ?_
           refine W.seq ?_
           refine W.drawF 12 kref13b_mixed (fun wF92 hB0 => ?_)
           refine LAC.takeN (i := 0) rfl (by kernel_rfl) (by kernel_rfl) (by kernel_rfl) (by kernel_rfl) (fun w hw => x_mv (v := .bool _) rfl) rfl ?_
           refine LAC.takeN (i := 1) rfl (by kernel_rfl) (by kernel_rfl) (by kernel_rfl) (by kernel_rfl) (fun w hw => x_not rfl) rfl ?_
           refine LAC.takeN (i := 2) rfl (by kernel_rfl) (by kernel_rfl) (by kernel_rfl) (by kernel_rfl) (fun w hw => x_mv (v := .bool _) rfl) rfl ?_
           refine LAC.split (dj := 94) (b := _) rfl (fun g94 => ?_) (fun g94 => ?_)
           ·have h94 := (not_t g94)
            have hno : ¬ idxS (a.names.getD i []) b.names < b.names.length := by simpa using h94
            have hone : nrV (nrN N) a b i = false := by unfold nrV; rw [if_neg hno]
            refine LAC.takeU (i := 3) rfl (by kernel_rfl) (by kernel_rfl) (by kernel_rfl) (by kernel_rfl) (dj := 94) (b := _) rfl rfl g94 rfl ?_
            refine LAC.takeU (i := 4) rfl (by kernel_rfl) (by kernel_rfl) (by kernel_rfl) (by kernel_rfl) (dj := 94) (b := _) rfl rfl g94 rfl ?_
            refine LAC.takeU (i := 5) rfl (by kernel_rfl) (by kernel_rfl) (by kernel_rfl) (by kernel_rfl) (dj := 94) (b := _) rfl rfl g94 rfl ?_
            refine LAC.takeU (i := 6) rfl (by kernel_rfl) (by kernel_rfl) (by kernel_rfl) (by kernel_rfl) (dj := 94) (b := _) rfl rfl g94 rfl ?_
            refine LAC.takeU (i := 7) rfl (by kernel_rfl) (by kernel_rfl) (by kernel_rfl) (by kernel_rfl) (dj := 94) (b := _) rfl rfl g94 rfl ?_
            refine LAC.takeU (i := 8) rfl (by kernel_rfl) (by kernel_rfl) (by kernel_rfl) (by kernel_rfl) (dj := 94) (b := _) rfl rfl g94 rfl ?_
            refine LAC.takeU (i := 9) rfl (by kernel_rfl) (by kernel_rfl) (by kernel_rfl) (by kernel_rfl) (dj := 94) (b := _) rfl rfl g94 rfl ?_
            refine LAC.takeU (i := 10) rfl (by kernel_rfl) (by kernel_rfl) (by kernel_rfl) (by kernel_rfl) (dj := 94) (b := _) rfl rfl g94 rfl ?_
            refine LAC.takeN (i := 11) rfl (by kernel_rfl) (by kernel_rfl) (by kernel_rfl) (by kernel_rfl) (fun w hw => x_pick_t (v := .bool _) (congrArg Value.bool g94) rfl) rfl ?_
            refine LAC.doneF (by kernel_rfl) hB0 ?_
            have hB := hB.carry hB0; have ha := ha.carry hB0; have hb := hb.carry hB0; have hna := hna.carry hB0; have hra := hra.carry hB0; have hnb := hnb.carry hB0; have hrb := hrb.carry hB0; have bx2 := bx2.carry hB0; have bx3 := bx3.carry hB0; have hp89 := hp89.carry hB0
            refine thn_n ?_
            refine W.cond (b := true) rfl (fun _ => ?_) (fun h => nomatch h)
            refine W.seq ?_
            refine W.region ?_
            refine L.val (x_as (v := .bool _) rfl) rfl ?_
            refine L.nil ?_
            refine thn_n ?_
            refine W.ret (blk_r (thn_r (thn_r (blk_r (thn_r (blk_r (thn_r (fin_mk (.inr rfl) ?_))))))))
            exact ⟨vb (by show false = nrB (nrN N) a b; rw [nrB, if_neg q1e, if_neg q2e, if_neg q6, if_pos q7, all_missR hlt (hone.trans (by first | rfl | exact h102))]), hB⟩
           ·have h94 := (not_f g94)
            have hno : idxS (a.names.getD i []) b.names < b.names.length := by simpa using h94
            have hone : nrV (nrN N) a b i = nrN N (a.parts.getD i default) (b.parts.getD (idxS (a.names.getD i []) b.names) default) := by unfold nrV; rw [if_pos hno]
            have hpv : partV b (a.names.getD i []) = b.parts.getD (idxS (a.names.getD i []) b.names) default := by unfold partV; rw [if_pos hno]
            rw [hpv] at hp89
            refine LAC.takeG (i := 3) rfl (by kernel_rfl) (by kernel_rfl) (by kernel_rfl) (by kernel_rfl) (dj := 94) (b := _) rfl rfl g94 (fun w hw => x_fa kref13b_fo25_4 rfl) rfl ?_
            refine LAC.takeG (i := 4) rfl (by kernel_rfl) (by kernel_rfl) (by kernel_rfl) (by kernel_rfl) (dj := 94) (b := _) rfl rfl g94 (fun w hw => x_ld (v := .slice _ _ _) kref13b_oc23 rfl (hw.keep (bx2.cell0 rfl))) rfl ?_
            refine LAC.takeG (i := 5) rfl (by kernel_rfl) (by kernel_rfl) (by kernel_rfl) (by kernel_rfl) (dj := 94) (b := _) rfl rfl g94 (fun w hw => x_mv (v := .int _ _) rfl) rfl ?_
            refine LAC.takeG (i := 6) rfl (by kernel_rfl) (by kernel_rfl) (by kernel_rfl) (by kernel_rfl) (dj := 94) (b := _) rfl rfl g94 (fun w hw => x_ia (j := i) Tryz.underlying23 kref13b_sz25 rfl rfl (by omega) (by omega)) rfl ?_
            refine LAC.takeG (i := 7) rfl (by kernel_rfl) (by kernel_rfl) (by kernel_rfl) (by kernel_rfl) (dj := 94) (b := _) rfl rfl g94 (fun w hw => x_ldn (vs := rowa i) kref13b_ag25 rfl (hra.five i hip) (hw.keepRow (hra.five i hip) (hra.elemAt hip))) rfl ?_
            refine LAC.takeG (i := 8) rfl (by kernel_rfl) (by kernel_rfl) (by kernel_rfl) (by kernel_rfl) (dj := 94) (b := _) rfl rfl g94 (fun w hw => x_ldn (vs := cs89) kref13b_ag25 rfl hl89 (hw.keepRow hl89 (bx9.row hl89))) rfl ?_
            refine LAC.step (rs := [9]) (fun _ => hB0) (by kernel_rfl) (by simp) ⟨⟨_, rfl, ?_⟩, trivial⟩
            refine L.gyes' (dj := 94) (b := _) rfl rfl g94 ?_
            refine L.ret (x_call kref13b_en59 rfl) rfl (hI i (idxS (a.names.getD i []) b.names) hip (by omega) A B _ _ _ ((hra.each i hip).carry hB0) (hp89.carry hB0)) ?_
            rintro _ w101 ⟨rfl, hw⟩
            have hB0 := hB0.carry hw
            refine L.nil ?_
            refine thn_n ?_
            refine LAC.takeG (i := 10) rfl (by kernel_rfl) (by kernel_rfl) (by kernel_rfl) (by kernel_rfl) (dj := 94) (b := _) rfl rfl g94 (fun w hw => x_not rfl) rfl ?_
            refine LAC.takeN (i := 11) rfl (by kernel_rfl) (by kernel_rfl) (by kernel_rfl) (by kernel_rfl) (fun w hw => x_pick_f (v := .bool _) (congrArg Value.bool g94) rfl) rfl ?_
            refine LAC.doneF (by kernel_rfl) hB0 ?_
            have hB := hB.carry hB0; have ha := ha.carry hB0; have hb := hb.carry hB0; have hna := hna.carry hB0; have hra := hra.carry hB0; have hnb := hnb.carry hB0; have hrb := hrb.carry hB0; have bx2 := bx2.carry hB0; have bx3 := bx3.carry hB0; have hp89 := hp89.carry hB0
            refine thn_n ?_
            refine W.cond (b := _) rfl (fun g102 => ?_) (fun g102 => ?_)
            ·have h102 := (not_t g102)
             refine W.seq ?_
             refine W.region ?_
             refine L.val (x_as (v := .bool _) rfl) rfl ?_
             refine L.nil ?_
             refine thn_n ?_
             refine W.ret (blk_r (thn_r (thn_r (blk_r (thn_r (blk_r (thn_r (fin_mk (.inr rfl) ?_))))))))
             exact ⟨vb (by show false = nrB (nrN N) a b; rw [nrB, if_neg q1e, if_neg q2e, if_neg q6, if_pos q7, all_missR hlt (hone.trans (by first | rfl | exact h102))]), hB⟩
            ·have h102 := (not_f g102)
             refine W.skip ?_
             refine blk_n ?_
             refine thn_n ?_
             refine W.region ?_
             refine L.val (x_mv (v := .int _ _) rfl) rfl ?_
             refine L.val (x_add rfl rfl (wr64 (by omega))) rfl ?_
             refine L.val (x_as (v := .int _ _) rfl) rfl ?_
             refine L.nil ?_
             refine thn_n ⟨rfl, ?_⟩
             refine ⟨_, ?_, i + 1, rfl, by first | rfl | exact vi (by omega), by first | rfl | exact vi (by omega), by first | rfl | exact vi (by omega), (by first | assumption | omega | rfl), (by first | assumption | omega | rfl), (by first | assumption | omega | rfl), (by first | assumption | omega | rfl), (by first | assumption | omega | rfl), (by first | assumption | omega | rfl), (by first | assumption | omega | rfl), (by first | assumption | omega | rfl), (by first | assumption | omega | rfl), (by first | assumption | omega | rfl), (by rw [all_succ, hall, hone, h102]; rfl)⟩
             omega
          ·have hs9 := hB0.size
           refine L.alloc (cs := [Value.int .i64 0, S [], S [], Value.slice none 0 0, Value.slice none 0 0]) kref13b_zr25 rfl rfl (fun w9 bx9 hw hz9 => ?_)
           have hB0 := hB0.carry hw
           refine L.nil ?_
           refine thn_n ?_
           refine LAC.step (rs := [6]) (fun _ => hB0) (by kernel_rfl) (by simp) ⟨⟨_, rfl, ?_⟩, trivial⟩
           refine L.ret (x_call kref13b_en110 rfl) rfl (part13 B b _ _ _ (hb.carry hB0) hfsb) ?_
           rintro _ w89 ⟨cs89, rfl, hp89, hw⟩
           have hB0 := hB0.carry hw; have bx9 := bx9.carry hw
           have hl89 := hp89.len
           have hp89 := hp89.mono (A' := B) fun k _ h => .inl h
           refine L.nil ?_
           refine thn_n ?_
           refine LAC.takeN (i := 7) rfl (by kernel_rfl) (by kernel_rfl) (by kernel_rfl) (by kernel_rfl) (fun w hw => x_mv (v := _) rfl) rfl ?_
           refine LAC.takeN (i := 8) rfl (by kernel_rfl) (by kernel_rfl) (by kernel_rfl) (by kernel_rfl) (fun w hw => x_ext (v := _) rfl rfl) rfl ?_
           refine LAC.takeN (i := 9) rfl (by kernel_rfl) (by kernel_rfl) (by kernel_rfl) (by kernel_rfl) (fun w hw => x_ext (v := .bool _) rfl rfl) rfl ?_
           refine LAC.step (rs := [11]) (fun _ => hB0) (by kernel_rfl) (by simp) ⟨⟨_, rfl, ?_⟩, trivial⟩
           refine L.setRow kref13b_ag25 rfl rfl bx9 rfl hl89 hp89.one (fun wl92 bx9 hw hzl92 => ?_)
           have hB0 := hB0.set hw (by omega); have hp89 := hp89.carryR hw (fun j e => hBu j (by have e : j = _ := e; omega))
           have hx9 := bx9.lt
           refine L.nil ?_
           refine thn_n ?_
           refine LAC.takeN (i := 12) rfl (by kernel_rfl) (by kernel_rfl) (by kernel_rfl) (by kernel_rfl) (fun w hw => x_as (v := .bool _) rfl) rfl ?_
           refine LAC.doneF (by kernel_rfl) hB0 ?_
           have hB := hB.carry hB0; have ha := ha.carry hB0; have hb := hb.carry hB0; have hna := hna.carry hB0; have hra := hra.carry hB0; have hnb := hnb.carry hB0; have hrb := hrb.carry hB0; have bx2 := bx2.carry hB0; have bx3 := bx3.carry hB0
           refine thn_n ?_
           refine W.seq ?_
           refine W.drawF 12 kref13b_mixed (fun wF92 hB0 => ?_)
           refine LAC.takeN (i := 0) rfl (by kernel_rfl) (by kernel_rfl) (by kernel_rfl) (by kernel_rfl) (fun w hw => x_mv (v := .bool _) rfl) rfl ?_
           refine LAC.takeN (i := 1) rfl (by kernel_rfl) (by kernel_rfl) (by kernel_rfl) (by kernel_rfl) (fun w hw => x_not rfl) rfl ?_
           refine LAC.takeN (i := 2) rfl (by kernel_rfl) (by kernel_rfl) (by kernel_rfl) (by kernel_rfl) (fun w hw => x_mv (v := .bool _) rfl) rfl ?_
           refine LAC.split (dj := 94) (b := _) rfl (fun g94 => ?_) (fun g94 => ?_)
           ·have h94 := (not_t g94)
            have hno : ¬ idxS (a.names.getD i []) b.names < b.names.length := by simpa using h94
            have hone : nrV (nrN N) a b i = false := by unfold nrV; rw [if_neg hno]
            refine LAC.takeU (i := 3) rfl (by kernel_rfl) (by kernel_rfl) (by kernel_rfl) (by kernel_rfl) (dj := 94) (b := _) rfl rfl g94 rfl ?_
            refine LAC.takeU (i := 4) rfl (by kernel_rfl) (by kernel_rfl) (by kernel_rfl) (by kernel_rfl) (dj := 94) (b := _) rfl rfl g94 rfl ?_
            refine LAC.takeU (i := 5) rfl (by kernel_rfl) (by kernel_rfl) (by kernel_rfl) (by kernel_rfl) (dj := 94) (b := _) rfl rfl g94 rfl ?_
            refine LAC.takeU (i := 6) rfl (by kernel_rfl) (by kernel_rfl) (by kernel_rfl) (by kernel_rfl) (dj := 94) (b := _) rfl rfl g94 rfl ?_
            refine LAC.takeU (i := 7) rfl (by kernel_rfl) (by kernel_rfl) (by kernel_rfl) (by kernel_rfl) (dj := 94) (b := _) rfl rfl g94 rfl ?_
            refine LAC.takeU (i := 8) rfl (by kernel_rfl) (by kernel_rfl) (by kernel_rfl) (by kernel_rfl) (dj := 94) (b := _) rfl rfl g94 rfl ?_
            refine LAC.takeU (i := 9) rfl (by kernel_rfl) (by kernel_rfl) (by kernel_rfl) (by kernel_rfl) (dj := 94) (b := _) rfl rfl g94 rfl ?_
            refine LAC.takeU (i := 10) rfl (by kernel_rfl) (by kernel_rfl) (by kernel_rfl) (by kernel_rfl) (dj := 94) (b := _) rfl rfl g94 rfl ?_
            refine LAC.takeN (i := 11) rfl (by kernel_rfl) (by kernel_rfl) (by kernel_rfl) (by kernel_rfl) (fun w hw => x_pick_t (v := .bool _) (congrArg Value.bool g94) rfl) rfl ?_
            refine LAC.doneF (by kernel_rfl) hB0 ?_
            have hB := hB.carry hB0; have ha := ha.carry hB0; have hb := hb.carry hB0; have hna := hna.carry hB0; have hra := hra.carry hB0; have hnb := hnb.carry hB0; have hrb := hrb.carry hB0; have bx2 := bx2.carry hB0; have bx3 := bx3.carry hB0; have hp89 := hp89.carry hB0
            refine thn_n ?_
            refine W.cond (b := true) rfl (fun _ => ?_) (fun h => nomatch h)
            refine W.seq ?_
            refine W.region ?_
            refine L.val (x_as (v := .bool _) rfl) rfl ?_
            refine L.nil ?_
            refine thn_n ?_
            refine W.ret (blk_r (thn_r (thn_r (blk_r (thn_r (blk_r (thn_r (fin_mk (.inr rfl) ?_))))))))
            exact ⟨vb (by show false = nrB (nrN N) a b; rw [nrB, if_neg q1e, if_neg q2e, if_neg q6, if_pos q7, all_missR hlt (hone.trans (by first | rfl | exact h102))]), hB⟩
           ·have h94 := (not_f g94)
            have hno : idxS (a.names.getD i []) b.names < b.names.length := by simpa using h94
            have hone : nrV (nrN N) a b i = nrN N (a.parts.getD i default) (b.parts.getD (idxS (a.names.getD i []) b.names) default) := by unfold nrV; rw [if_pos hno]
            have hpv : partV b (a.names.getD i []) = b.parts.getD (idxS (a.names.getD i []) b.names) default := by unfold partV; rw [if_pos hno]
            rw [hpv] at hp89
            refine LAC.takeG (i := 3) rfl (by kernel_rfl) (by kernel_rfl) (by kernel_rfl) (by kernel_rfl) (dj := 94) (b := _) rfl rfl g94 (fun w hw => x_fa kref13b_fo25_4 rfl) rfl ?_
            refine LAC.takeG (i := 4) rfl (by kernel_rfl) (by kernel_rfl) (by kernel_rfl) (by kernel_rfl) (dj := 94) (b := _) rfl rfl g94 (fun w hw => x_ld (v := .slice _ _ _) kref13b_oc23 rfl (hw.keep (bx2.cell0 rfl))) rfl ?_
            refine LAC.takeG (i := 5) rfl (by kernel_rfl) (by kernel_rfl) (by kernel_rfl) (by kernel_rfl) (dj := 94) (b := _) rfl rfl g94 (fun w hw => x_mv (v := .int _ _) rfl) rfl ?_
            refine LAC.takeG (i := 6) rfl (by kernel_rfl) (by kernel_rfl) (by kernel_rfl) (by kernel_rfl) (dj := 94) (b := _) rfl rfl g94 (fun w hw => x_ia (j := i) Tryz.underlying23 kref13b_sz25 rfl rfl (by omega) (by omega)) rfl ?_
            refine LAC.takeG (i := 7) rfl (by kernel_rfl) (by kernel_rfl) (by kernel_rfl) (by kernel_rfl) (dj := 94) (b := _) rfl rfl g94 (fun w hw => x_ldn (vs := rowa i) kref13b_ag25 rfl (hra.five i hip) (hw.keepRow (hra.five i hip) (hra.elemAt hip))) rfl ?_
            refine LAC.takeG (i := 8) rfl (by kernel_rfl) (by kernel_rfl) (by kernel_rfl) (by kernel_rfl) (dj := 94) (b := _) rfl rfl g94 (fun w hw => x_ldn (vs := cs89) kref13b_ag25 rfl hl89 (hw.keepRow hl89 (bx9.row hl89))) rfl ?_
            refine LAC.step (rs := [9]) (fun _ => hB0) (by kernel_rfl) (by simp) ⟨⟨_, rfl, ?_⟩, trivial⟩
            refine L.gyes' (dj := 94) (b := _) rfl rfl g94 ?_
            refine L.ret (x_call kref13b_en59 rfl) rfl (hI i (idxS (a.names.getD i []) b.names) hip (by omega) A B _ _ _ ((hra.each i hip).carry hB0) (hp89.carry hB0)) ?_
            rintro _ w101 ⟨rfl, hw⟩
            have hB0 := hB0.carry hw
            refine L.nil ?_
            refine thn_n ?_
            refine LAC.takeG (i := 10) rfl (by kernel_rfl) (by kernel_rfl) (by kernel_rfl) (by kernel_rfl) (dj := 94) (b := _) rfl rfl g94 (fun w hw => x_not rfl) rfl ?_
            refine LAC.takeN (i := 11) rfl (by kernel_rfl) (by kernel_rfl) (by kernel_rfl) (by kernel_rfl) (fun w hw => x_pick_f (v := .bool _) (congrArg Value.bool g94) rfl) rfl ?_
            refine LAC.doneF (by kernel_rfl) hB0 ?_
            have hB := hB.carry hB0; have ha := ha.carry hB0; have hb := hb.carry hB0; have hna := hna.carry hB0; have hra := hra.carry hB0; have hnb := hnb.carry hB0; have hrb := hrb.carry hB0; have bx2 := bx2.carry hB0; have bx3 := bx3.carry hB0; have hp89 := hp89.carry hB0
            refine thn_n ?_
            refine W.cond (b := _) rfl (fun g102 => ?_) (fun g102 => ?_)
            ·have h102 := (not_t g102)
             refine W.seq ?_
             refine W.region ?_
             refine L.val (x_as (v := .bool _) rfl) rfl ?_
             refine L.nil ?_
             refine thn_n ?_
             refine W.ret (blk_r (thn_r (thn_r (blk_r (thn_r (blk_r (thn_r (fin_mk (.inr rfl) ?_))))))))
             exact ⟨vb (by show false = nrB (nrN N) a b; rw [nrB, if_neg q1e, if_neg q2e, if_neg q6, if_pos q7, all_missR hlt (hone.trans (by first | rfl | exact h102))]), hB⟩
            ·have h102 := (not_f g102)
             refine W.skip ?_
             refine blk_n ?_
             refine thn_n ?_
             refine W.region ?_
             refine L.val (x_mv (v := .int _ _) rfl) rfl ?_
             refine L.val (x_add rfl rfl (wr64 (by omega))) rfl ?_
             refine L.val (x_as (v := .int _ _) rfl) rfl ?_
             refine L.nil ?_
             refine thn_n ⟨rfl, ?_⟩
             refine ⟨_, ?_, i + 1, rfl, by first | rfl | exact vi (by omega), by first | rfl | exact vi (by omega), by first | rfl | exact vi (by omega), (by first | assumption | omega | rfl), (by first | assumption | omega | rfl), (by first | assumption | omega | rfl), (by first | assumption | omega | rfl), (by first | assumption | omega | rfl), (by first | assumption | omega | rfl), (by first | assumption | omega | rfl), (by first | assumption | omega | rfl), (by first | assumption | omega | rfl), (by first | assumption | omega | rfl), (by rw [all_succ, hall, hone, h102]; rfl)⟩
             omega
         ·have h79 := dlt_f g79
          refine W.exit (thn_x (thn_x (blk_hit ?_)))
          refine thn_n ?_
          refine W.seq ?_
          refine W.region ?_
          refine L.val (x_as (v := .bool _) rfl) rfl ?_
          refine L.nil ?_
          refine thn_n ?_
          refine W.ret (blk_r (thn_r (fin_mk (.inr rfl) ?_)))
          exact ⟨vb (by show true = nrB (nrN N) a b; rw [nrB, if_neg q1e, if_neg q2e, if_neg q6, if_pos q7, show a.names.length = i by omega, hall]), hB⟩
       ·have h74 := of_decide_eq_false g74
        have q7 : ¬ a.kind = 7 := by omega
        refine W.seq ?_
        refine W.region ?_
        refine L.val (x_eql rfl rfl) rfl ?_
        refine L.val (x_as (v := .bool _) rfl) rfl ?_
        refine L.nil ?_
        refine thn_n ?_
        refine W.cond (b := _) rfl (fun g105 => ?_) (fun g105 => ?_)
        ·have h105 := of_decide_eq_true g105
         have q8 : a.kind = 8 := by omega
         have p1a := fits8 (allB_fit hfa) q8
         have p1b := fits8 (allB_fit hfb) (by omega)
         have hlastA : a.parts.length - 1 < a.parts.length := by omega
         obtain ⟨bp, op, rfl, hcp⟩ := hra.elem hlastA
         obtain ⟨bq, oq, rfl, hcq⟩ := hrb.elem (i := 0) (by omega)
         refine W.seq ?_
         refine W.region ?_
         refine L.val (x_fa kref13b_fo25_4 rfl) rfl ?_
         refine L.val (x_ld (v := .slice _ _ _) kref13b_oc23 rfl (bx2.cell0 rfl)) rfl ?_
         refine L.val (x_len_slice Tryz.underlying23 rfl) rfl ?_
         refine L.val (x_sub rfl rfl (wr64 (by omega))) rfl ?_
         refine L.val (x_as (v := .int _ _) rfl) rfl ?_
         refine L.nil ?_
         refine thn_n ?_
         refine W.seq ?_
         refine W.seq ?_
         refine W.drawF 20 kref13b_mixed (fun wF110 hB0 => ?_)
         refine LAC.takeN (i := 0) rfl (by kernel_rfl) (by kernel_rfl) (by kernel_rfl) (by kernel_rfl) (fun w hw => x_fa kref13b_fo25_4 rfl) rfl ?_
         refine LAC.takeN (i := 1) rfl (by kernel_rfl) (by kernel_rfl) (by kernel_rfl) (by kernel_rfl) (fun w hw => x_ld (v := .slice _ _ _) kref13b_oc23 rfl (hw.keep (bx3.cell0 rfl))) rfl ?_
         refine LAC.takeN (i := 2) rfl (by kernel_rfl) (by kernel_rfl) (by kernel_rfl) (by kernel_rfl) (fun w hw => x_len_slice Tryz.underlying23 rfl) rfl ?_
         refine LAC.takeN (i := 3) rfl (by kernel_rfl) (by kernel_rfl) (by kernel_rfl) (by kernel_rfl) (fun w hw => x_mv (v := .int _ _) rfl) rfl ?_
         refine LAC.takeN (i := 4) rfl (by kernel_rfl) (by kernel_rfl) (by kernel_rfl) (by kernel_rfl) (fun w hw => x_add rfl rfl (wr64 (by omega))) rfl ?_
         refine LAC.takeN (i := 5) rfl (by kernel_rfl) (by kernel_rfl) (by kernel_rfl) (by kernel_rfl) (fun w hw => x_neq rfl rfl) rfl ?_
         refine LAC.takeN (i := 6) rfl (by kernel_rfl) (by kernel_rfl) (by kernel_rfl) (by kernel_rfl) (fun w hw => x_mv (v := .bool _) rfl) rfl ?_
         refine LAC.split (dj := 116) (b := _) rfl (fun g116 => ?_) (fun g116 => ?_)
         ·have h116 := dne_t g116
          have q9 : a.parts.length ≠ b.parts.length := by simp at h116; omega
          refine LAC.takeU (i := 7) rfl (by kernel_rfl) (by kernel_rfl) (by kernel_rfl) (by kernel_rfl) (dj := 116) (b := _) rfl rfl g116 rfl ?_
          refine LAC.takeU (i := 8) rfl (by kernel_rfl) (by kernel_rfl) (by kernel_rfl) (by kernel_rfl) (dj := 116) (b := _) rfl rfl g116 rfl ?_
          refine LAC.takeU (i := 9) rfl (by kernel_rfl) (by kernel_rfl) (by kernel_rfl) (by kernel_rfl) (dj := 116) (b := _) rfl rfl g116 rfl ?_
          refine LAC.takeU (i := 10) rfl (by kernel_rfl) (by kernel_rfl) (by kernel_rfl) (by kernel_rfl) (dj := 116) (b := _) rfl rfl g116 rfl ?_
          refine LAC.takeU (i := 11) rfl (by kernel_rfl) (by kernel_rfl) (by kernel_rfl) (by kernel_rfl) (dj := 116) (b := _) rfl rfl g116 rfl ?_
          refine LAC.takeU (i := 12) rfl (by kernel_rfl) (by kernel_rfl) (by kernel_rfl) (by kernel_rfl) (dj := 116) (b := _) rfl rfl g116 rfl ?_
          refine LAC.takeU (i := 13) rfl (by kernel_rfl) (by kernel_rfl) (by kernel_rfl) (by kernel_rfl) (dj := 116) (b := _) rfl rfl g116 rfl ?_
          refine LAC.takeU (i := 14) rfl (by kernel_rfl) (by kernel_rfl) (by kernel_rfl) (by kernel_rfl) (dj := 116) (b := _) rfl rfl g116 rfl ?_
          refine LAC.takeU (i := 15) rfl (by kernel_rfl) (by kernel_rfl) (by kernel_rfl) (by kernel_rfl) (dj := 116) (b := _) rfl rfl g116 rfl ?_
          refine LAC.takeU (i := 16) rfl (by kernel_rfl) (by kernel_rfl) (by kernel_rfl) (by kernel_rfl) (dj := 116) (b := _) rfl rfl g116 rfl ?_
          refine LAC.takeU (i := 17) rfl (by kernel_rfl) (by kernel_rfl) (by kernel_rfl) (by kernel_rfl) (dj := 116) (b := _) rfl rfl g116 rfl ?_
          refine LAC.takeU (i := 18) rfl (by kernel_rfl) (by kernel_rfl) (by kernel_rfl) (by kernel_rfl) (dj := 116) (b := _) rfl rfl g116 rfl ?_
          refine LAC.takeN (i := 19) rfl (by kernel_rfl) (by kernel_rfl) (by kernel_rfl) (by kernel_rfl) (fun w hw => x_pick_t (v := .bool _) (congrArg Value.bool g116) rfl) rfl ?_
          refine LAC.doneF (by kernel_rfl) hB0 ?_
          have hB := hB.carry hB0; have ha := ha.carry hB0; have hb := hb.carry hB0; have hna := hna.carry hB0; have hra := hra.carry hB0; have hnb := hnb.carry hB0; have hrb := hrb.carry hB0; have bx2 := bx2.carry hB0; have bx3 := bx3.carry hB0
          refine thn_n ?_
          refine W.cond (b := true) rfl (fun _ => ?_) (fun h => nomatch h)
          refine W.seq ?_
          refine W.region ?_
          refine L.val (x_as (v := .bool _) rfl) rfl ?_
          refine L.nil ?_
          refine thn_n ?_
          refine W.ret (thn_r (blk_r (thn_r (fin_mk (.inr rfl) ?_))))
          exact ⟨vb (by show false = nrB (nrN N) a b; rw [nrB, if_neg q1e, if_neg q2e, if_neg q6, if_neg q7, if_pos q8, if_pos q9]), hB⟩
         ·have h116 := dne_f g116
          have q9 : a.parts.length = b.parts.length := by simp at h116; omega
          have hlastB : a.parts.length - 1 < b.parts.length := by omega
          refine LAC.takeG (i := 7) rfl (by kernel_rfl) (by kernel_rfl) (by kernel_rfl) (by kernel_rfl) (dj := 116) (b := _) rfl rfl g116 (fun w hw => x_fa kref13b_fo25_4 rfl) rfl ?_
          refine LAC.takeG (i := 8) rfl (by kernel_rfl) (by kernel_rfl) (by kernel_rfl) (by kernel_rfl) (dj := 116) (b := _) rfl rfl g116 (fun w hw => x_ld (v := .slice _ _ _) kref13b_oc23 rfl (hw.keep (bx2.cell0 rfl))) rfl ?_
          refine LAC.takeG (i := 9) rfl (by kernel_rfl) (by kernel_rfl) (by kernel_rfl) (by kernel_rfl) (dj := 116) (b := _) rfl rfl g116 (fun w hw => x_mv (v := .int _ _) rfl) rfl ?_
          refine LAC.takeG (i := 10) rfl (by kernel_rfl) (by kernel_rfl) (by kernel_rfl) (by kernel_rfl) (dj := 116) (b := _) rfl rfl g116 (fun w hw => x_ia (j := a.parts.length - 1) Tryz.underlying23 kref13b_sz25 rfl rfl (by omega) (by omega)) rfl ?_
          refine LAC.takeG (i := 11) rfl (by kernel_rfl) (by kernel_rfl) (by kernel_rfl) (by kernel_rfl) (dj := 116) (b := _) rfl rfl g116 (fun w hw => x_ldn (vs := rowa (a.parts.length - 1)) kref13b_ag25 rfl (hra.five _ hlastA) (hw.keepRow (hra.five _ hlastA) (hra.elemAt hlastA))) rfl ?_
          refine LAC.takeG (i := 12) rfl (by kernel_rfl) (by kernel_rfl) (by kernel_rfl) (by kernel_rfl) (dj := 116) (b := _) rfl rfl g116 (fun w hw => x_fa kref13b_fo25_4 rfl) rfl ?_
          refine LAC.takeG (i := 13) rfl (by kernel_rfl) (by kernel_rfl) (by kernel_rfl) (by kernel_rfl) (dj := 116) (b := _) rfl rfl g116 (fun w hw => x_ld (v := .slice _ _ _) kref13b_oc23 rfl (hw.keep (bx3.cell0 rfl))) rfl ?_
          refine LAC.takeG (i := 14) rfl (by kernel_rfl) (by kernel_rfl) (by kernel_rfl) (by kernel_rfl) (dj := 116) (b := _) rfl rfl g116 (fun w hw => x_mv (v := .int _ _) rfl) rfl ?_
          refine LAC.takeG (i := 15) rfl (by kernel_rfl) (by kernel_rfl) (by kernel_rfl) (by kernel_rfl) (dj := 116) (b := _) rfl rfl g116 (fun w hw => x_ia (j := a.parts.length - 1) Tryz.underlying23 kref13b_sz25 rfl rfl (by omega) (by omega)) rfl ?_
          refine LAC.takeG (i := 16) rfl (by kernel_rfl) (by kernel_rfl) (by kernel_rfl) (by kernel_rfl) (dj := 116) (b := _) rfl rfl g116 (fun w hw => x_ldn (vs := rowb (a.parts.length - 1)) kref13b_ag25 rfl (hrb.five _ hlastB) (hw.keepRow (hrb.five _ hlastB) (hrb.elemAt hlastB))) rfl ?_
          refine LAC.step (rs := [17]) (fun _ => hB0) (by kernel_rfl) (by simp) ⟨⟨_, rfl, ?_⟩, trivial⟩
          refine L.gyes' (dj := 116) (b := _) rfl rfl g116 ?_
          refine L.ret (x_call kref13b_en59 rfl) rfl (hI (a.parts.length - 1) (a.parts.length - 1) hlastA hlastB A B _ _ _ ((hra.each _ hlastA).carry hB0) ((hrb.each _ hlastB).carry hB0)) ?_
          rintro _ w127 ⟨rfl, hw⟩
          have hB0 := hB0.carry hw
          refine L.nil ?_
          refine thn_n ?_
          refine LAC.takeG (i := 18) rfl (by kernel_rfl) (by kernel_rfl) (by kernel_rfl) (by kernel_rfl) (dj := 116) (b := _) rfl rfl g116 (fun w hw => x_not rfl) rfl ?_
          refine LAC.takeN (i := 19) rfl (by kernel_rfl) (by kernel_rfl) (by kernel_rfl) (by kernel_rfl) (fun w hw => x_pick_f (v := .bool _) (congrArg Value.bool g116) rfl) rfl ?_
          refine LAC.doneF (by kernel_rfl) hB0 ?_
          have hB := hB.carry hB0; have ha := ha.carry hB0; have hb := hb.carry hB0; have hna := hna.carry hB0; have hra := hra.carry hB0; have hnb := hnb.carry hB0; have hrb := hrb.carry hB0; have bx2 := bx2.carry hB0; have bx3 := bx3.carry hB0
          refine thn_n ?_
          refine W.cond (b := _) rfl (fun g128 => ?_) (fun g128 => ?_)
          ·have h128 := (not_t g128)
           refine W.seq ?_
           refine W.region ?_
           refine L.val (x_as (v := .bool _) rfl) rfl ?_
           refine L.nil ?_
           refine thn_n ?_
           refine W.ret (thn_r (blk_r (thn_r (fin_mk (.inr rfl) ?_))))
           exact ⟨vb (by show false = nrB (nrN N) a b; rw [nrB, if_neg q1e, if_neg q2e, if_neg q6, if_neg q7, if_pos q8, if_neg (by omega), if_pos (by simpa using h128)]), hB⟩
          ·have h128 := (not_f g128)
           have q10 : ¬ nrN N (a.parts.getD (a.parts.length - 1) default) (b.parts.getD (a.parts.length - 1) default) = false := by simpa using h128
           refine W.skip ?_
           refine thn_n ?_
           refine W.seq ?_
           refine W.seq ?_
           refine W.region ?_
           refine L.val (x_as (v := .int _ _) rfl) rfl ?_
           refine L.nil ?_
           refine thn_n ?_
           refine W.block ?_
           refine W.loop (fun m' E w' => ∃ (i : Nat), m' = a.parts.length - 1 - i ∧ E 2 = .pointer (some ⟨w.heap.size, 0, none⟩) ∧ E 3 = .pointer (some ⟨b3, 0, none⟩) ∧ E 11 = .int .i64 ((a.parts.length : Nat) - 1 : Int) ∧ E 12 = .int .i64 (i : Nat) ∧ (Bel w w') ∧ (ShC A w' [.int .i64 a.kind, S a.of, S a.name, .slice pn a.names.length capn, .slice (some ⟨bp, op, none⟩) a.parts.length cap] a) ∧ (ShC B w' [.int .i64 b.kind, S b.of, S b.name, .slice qn b.names.length capqn, .slice (some ⟨bq, oq, none⟩) b.parts.length capq] b) ∧ (StrsAt A w' (.slice pn a.names.length capn) a.names) ∧ (ShRow A w' (some ⟨bp, op, none⟩) rowa a.parts) ∧ (StrsAt B w' (.slice qn b.names.length capqn) b.names) ∧ (ShRow B w' (some ⟨bq, oq, none⟩) rowb b.parts) ∧ (Box w' w.heap.size 25 [.int .i64 a.kind, S a.of, S a.name, .slice pn a.names.length capn, .slice (some ⟨bp, op, none⟩) a.parts.length cap]) ∧ (Box w' b3 25 [.int .i64 b.kind, S b.of, S b.name, .slice qn b.names.length capqn, .slice (some ⟨bq, oq, none⟩) b.parts.length capq]) ∧ (i ≤ a.parts.length - 1) ∧ ((List.range i).all (fun i => nrN N (b.parts.getD i default) (a.parts.getD i default)) = true)) (a.parts.length - 1) ?_ ?_
           ·exact ⟨0, by omega, by first | rfl | exact vi (by omega), by first | rfl | exact vi (by omega), by first | rfl | exact vi (by omega), by first | rfl | exact vi (by omega), (by first | assumption | omega | rfl), (by first | assumption | omega | rfl), (by first | assumption | omega | rfl), (by first | assumption | omega | rfl), (by first | assumption | omega | rfl), (by first | assumption | omega | rfl), (by first | assumption | omega | rfl), (by first | assumption | omega | rfl), (by first | assumption | omega | rfl), (by first | assumption | omega | rfl), (by rfl)⟩
           ·rintro _ E wL130 ⟨i, em, e2, e3, e11, e12, hB, ha, hb, hna, hra, hnb, hrb, bx2, bx3, hi, hall⟩
            rw [upd_self e2, upd_self e3, upd_self e11, upd_self e12]
            refine W.seq ?_
            refine W.seq ?_
            refine W.region ?_
            refine L.val (x_mv (v := .int _ _) rfl) rfl ?_
            refine L.val (x_mv (v := .int _ _) rfl) rfl ?_
            refine L.val (x_lss rfl rfl) rfl ?_
            refine L.nil ?_
            refine thn_n ?_
            refine W.cond (b := _) rfl (fun g132 => ?_) (fun g132 => ?_)
            ·have h132 := of_decide_eq_true g132
             have hip : i < a.parts.length := by omega
             have hjp : i < b.parts.length := by omega
             refine W.skip ?_
             refine thn_n ?_
             refine W.seq ?_
             refine W.block ?_
             refine W.seq ?_
             refine W.drawF 12 kref13b_mixed (fun wF135 hB0 => ?_)
             refine LAC.takeN (i := 0) rfl (by kernel_rfl) (by kernel_rfl) (by kernel_rfl) (by kernel_rfl) (fun w hw => x_fa kref13b_fo25_4 rfl) rfl ?_
             refine LAC.takeN (i := 1) rfl (by kernel_rfl) (by kernel_rfl) (by kernel_rfl) (by kernel_rfl) (fun w hw => x_ld (v := .slice _ _ _) kref13b_oc23 rfl (hw.keep (bx3.cell0 rfl))) rfl ?_
             refine LAC.takeN (i := 2) rfl (by kernel_rfl) (by kernel_rfl) (by kernel_rfl) (by kernel_rfl) (fun w hw => x_mv (v := .int _ _) rfl) rfl ?_
             refine LAC.takeN (i := 3) rfl (by kernel_rfl) (by kernel_rfl) (by kernel_rfl) (by kernel_rfl) (fun w hw => x_ia (j := i) Tryz.underlying23 kref13b_sz25 rfl rfl (by omega) (by omega)) rfl ?_
             refine LAC.takeN (i := 4) rfl (by kernel_rfl) (by kernel_rfl) (by kernel_rfl) (by kernel_rfl) (fun w hw => x_ldn (vs := rowb i) kref13b_ag25 rfl (hrb.five i hjp) (hw.keepRow (hrb.five i hjp) (hrb.elemAt hjp))) rfl ?_
             refine LAC.takeN (i := 5) rfl (by kernel_rfl) (by kernel_rfl) (by kernel_rfl) (by kernel_rfl) (fun w hw => x_fa kref13b_fo25_4 rfl) rfl ?_
             refine LAC.takeN (i := 6) rfl (by kernel_rfl) (by kernel_rfl) (by kernel_rfl) (by kernel_rfl) (fun w hw => x_ld (v := .slice _ _ _) kref13b_oc23 rfl (hw.keep (bx2.cell0 rfl))) rfl ?_
             refine LAC.takeN (i := 7) rfl (by kernel_rfl) (by kernel_rfl) (by kernel_rfl) (by kernel_rfl) (fun w hw => x_mv (v := .int _ _) rfl) rfl ?_
             refine LAC.takeN (i := 8) rfl (by kernel_rfl) (by kernel_rfl) (by kernel_rfl) (by kernel_rfl) (fun w hw => x_ia (j := i) Tryz.underlying23 kref13b_sz25 rfl rfl (by omega) (by omega)) rfl ?_
             refine LAC.takeN (i := 9) rfl (by kernel_rfl) (by kernel_rfl) (by kernel_rfl) (by kernel_rfl) (fun w hw => x_ldn (vs := rowa i) kref13b_ag25 rfl (hra.five i hip) (hw.keepRow (hra.five i hip) (hra.elemAt hip))) rfl ?_
             refine LAC.step (rs := [10]) (fun _ => hB0) (by kernel_rfl) (by simp) ⟨⟨_, rfl, ?_⟩, trivial⟩
             refine L.ret (x_call kref13b_en59 rfl) rfl (hI' i i hip hjp B A _ _ _ ((hrb.each i hjp).carry hB0) ((hra.each i hip).carry hB0)) ?_
             rintro _ w145 ⟨rfl, hw⟩
             have hB0 := hB0.carry hw
             refine L.nil ?_
             refine thn_n ?_
             refine LAC.takeN (i := 11) rfl (by kernel_rfl) (by kernel_rfl) (by kernel_rfl) (by kernel_rfl) (fun w hw => x_not rfl) rfl ?_
             refine LAC.doneF (by kernel_rfl) hB0 ?_
             have hB := hB.carry hB0; have ha := ha.carry hB0; have hb := hb.carry hB0; have hna := hna.carry hB0; have hra := hra.carry hB0; have hnb := hnb.carry hB0; have hrb := hrb.carry hB0; have bx2 := bx2.carry hB0; have bx3 := bx3.carry hB0
             refine thn_n ?_
             refine W.cond (b := _) rfl (fun g146 => ?_) (fun g146 => ?_)
             ·have h146 := (not_t g146)
              refine W.seq ?_
              refine W.region ?_
              refine L.val (x_as (v := .bool _) rfl) rfl ?_
              refine L.nil ?_
              refine thn_n ?_
              refine W.ret (blk_r (thn_r (thn_r (blk_r (thn_r (blk_r (thn_r (fin_mk (.inr rfl) ?_))))))))
              exact ⟨vb (by show false = nrB (nrN N) a b; rw [nrB, if_neg q1e, if_neg q2e, if_neg q6, if_neg q7, if_pos q8, if_neg (by omega), if_neg q10, all_missR (show i < a.parts.length - 1 by omega) (by simpa using h146)]), hB⟩
             ·have h146 := (not_f g146)
              refine W.skip ?_
              refine blk_n ?_
              refine thn_n ?_
              refine W.region ?_
              refine L.val (x_mv (v := .int _ _) rfl) rfl ?_
              refine L.val (x_add rfl rfl (wr64 (by omega))) rfl ?_
              refine L.val (x_as (v := .int _ _) rfl) rfl ?_
              refine L.nil ?_
              refine thn_n ⟨rfl, ?_⟩
              refine ⟨_, ?_, i + 1, rfl, by first | rfl | exact vi (by omega), by first | rfl | exact vi (by omega), by first | rfl | exact vi (by omega), by first | rfl | exact vi (by omega), (by first | assumption | omega | rfl), (by first | assumption | omega | rfl), (by first | assumption | omega | rfl), (by first | assumption | omega | rfl), (by first | assumption | omega | rfl), (by first | assumption | omega | rfl), (by first | assumption | omega | rfl), (by first | assumption | omega | rfl), (by first | assumption | omega | rfl), (by first | assumption | omega | rfl), (by rw [all_succ, hall]; simpa using h146)⟩
              omega
            ·have h132 := dlt_f g132
             refine W.exit (thn_x (thn_x (blk_hit ?_)))
             refine thn_n ?_
             refine W.seq ?_
             refine W.region ?_
             refine L.val (x_as (v := .bool _) rfl) rfl ?_
             refine L.nil ?_
             refine thn_n ?_
             refine W.ret (blk_r (thn_r (fin_mk (.inr rfl) ?_)))
             exact ⟨vb (by show true = nrB (nrN N) a b; rw [nrB, if_neg q1e, if_neg q2e, if_neg q6, if_neg q7, if_pos q8, if_neg (by omega), if_neg q10, show a.parts.length - 1 = i by omega, hall]), hB⟩
        ·have h105 := of_decide_eq_false g105
         have q8 : ¬ a.kind = 8 := by omega
         refine W.seq ?_
         refine W.region ?_
         refine L.val (x_eql rfl rfl) rfl ?_
         refine L.val (x_as (v := .bool _) rfl) rfl ?_
         refine L.nil ?_
         refine thn_n ?_
         refine W.cond (b := _) rfl (fun g148 => ?_) (fun g148 => ?_)
         ·have h148 := of_decide_eq_true g148
          have q5 : a.kind = 5 := by omega
          have p1a := fits5 (allB_fit hfa) q5
          have p1b := fits5 (allB_fit hfb) (by omega)
          have hip : 0 < a.parts.length := by omega
          have hjp : 0 < b.parts.length := by omega
          obtain ⟨bp, op, rfl, hcp⟩ := hra.elem hip
          obtain ⟨bq, oq, rfl, hcq⟩ := hrb.elem hjp
          refine W.seq ?_
          refine W.drawF 10 kref13b_mixed (fun wF149 hB0 => ?_)
          refine LAC.takeN (i := 0) rfl (by kernel_rfl) (by kernel_rfl) (by kernel_rfl) (by kernel_rfl) (fun w hw => x_fa kref13b_fo25_4 rfl) rfl ?_
          refine LAC.takeN (i := 1) rfl (by kernel_rfl) (by kernel_rfl) (by kernel_rfl) (by kernel_rfl) (fun w hw => x_ld (v := .slice _ _ _) kref13b_oc23 rfl (hw.keep (bx2.cell0 rfl))) rfl ?_
          refine LAC.takeN (i := 2) rfl (by kernel_rfl) (by kernel_rfl) (by kernel_rfl) (by kernel_rfl) (fun w hw => x_ia (j := 0) Tryz.underlying23 kref13b_sz25 rfl rfl rfl (by omega)) rfl ?_
          refine LAC.takeN (i := 3) rfl (by kernel_rfl) (by kernel_rfl) (by kernel_rfl) (by kernel_rfl) (fun w hw => x_ldn (vs := rowa 0) kref13b_ag25 rfl (hra.five 0 hip) (hw.keepRow (hra.five 0 hip) (hra.elemAt hip))) rfl ?_
          refine LAC.takeN (i := 4) rfl (by kernel_rfl) (by kernel_rfl) (by kernel_rfl) (by kernel_rfl) (fun w hw => x_fa kref13b_fo25_4 rfl) rfl ?_
          refine LAC.takeN (i := 5) rfl (by kernel_rfl) (by kernel_rfl) (by kernel_rfl) (by kernel_rfl) (fun w hw => x_ld (v := .slice _ _ _) kref13b_oc23 rfl (hw.keep (bx3.cell0 rfl))) rfl ?_
          refine LAC.takeN (i := 6) rfl (by kernel_rfl) (by kernel_rfl) (by kernel_rfl) (by kernel_rfl) (fun w hw => x_ia (j := 0) Tryz.underlying23 kref13b_sz25 rfl rfl rfl (by omega)) rfl ?_
          refine LAC.takeN (i := 7) rfl (by kernel_rfl) (by kernel_rfl) (by kernel_rfl) (by kernel_rfl) (fun w hw => x_ldn (vs := rowb 0) kref13b_ag25 rfl (hrb.five 0 hjp) (hw.keepRow (hrb.five 0 hjp) (hrb.elemAt hjp))) rfl ?_
          refine LAC.step (rs := [8]) (fun _ => hB0) (by kernel_rfl) (by simp) ⟨⟨_, rfl, ?_⟩, trivial⟩
          refine L.ret (x_call kref13b_en59 rfl) rfl (hI 0 0 hip hjp A B _ _ _ ((hra.each 0 hip).carry hB0) ((hrb.each 0 hjp).carry hB0)) ?_
          rintro _ w157 ⟨rfl, hw⟩
          have hB0 := hB0.carry hw
          refine L.nil ?_
          refine thn_n ?_
          refine LAC.takeN (i := 9) rfl (by kernel_rfl) (by kernel_rfl) (by kernel_rfl) (by kernel_rfl) (fun w hw => x_as (v := .bool _) rfl) rfl ?_
          refine LAC.doneF (by kernel_rfl) hB0 ?_
          have hB := hB.carry hB0; have ha := ha.carry hB0; have hb := hb.carry hB0; have hna := hna.carry hB0; have hra := hra.carry hB0; have hnb := hnb.carry hB0; have hrb := hrb.carry hB0; have bx2 := bx2.carry hB0; have bx3 := bx3.carry hB0
          refine thn_n ?_
          refine W.ret (blk_r (thn_r (fin_mk (.inr rfl) ?_)))
          exact ⟨vb (by show _ = nrB (nrN N) a b; rw [nrB, if_neg q1e, if_neg q2e, if_neg q6, if_neg q7, if_neg q8, if_pos q5]), hB⟩
         ·have h148 := of_decide_eq_false g148
          have q5 : ¬ a.kind = 5 := by omega
          refine W.skip ?_
          refine blk_n ?_
          refine thn_n ?_
          refine W.seq ?_
          refine W.region ?_
          refine L.val (x_as (v := .bool _) rfl) rfl ?_
          refine L.nil ?_
          refine thn_n ?_
          refine W.ret (fin_mk (.inr rfl) ?_)
          exact ⟨vb (by show true = nrB (nrN N) a b; rw [nrB, if_neg q1e, if_neg q2e, if_neg q6, if_neg q7, if_neg q8, if_neg q5]), hB⟩
end Go.Gx
