/- Whether two types go together: the program's walk, by its rules. Conditions: none. -/
import Derived.Test.YteehllhldaopjaaGdGrad2
import Derived.Test.YteehllhldaopjaaGdFree
namespace Go.Gx
open Go.Proofs
theorem kgrad3_ag25 : aggT Try.prog 25 5 = true := by kernel_rfl
theorem kgrad3_en109 : Go.Proofs.Enters Try.prog 109 := Go.Proofs.enters_of Try.func109 (by kernel_rfl) rfl
theorem kgrad3_en110 : Go.Proofs.Enters Try.prog 110 := Go.Proofs.enters_of Try.func110 (by kernel_rfl) rfl
theorem kgrad3_en111 : Go.Proofs.Enters Try.prog 111 := Go.Proofs.enters_of Try.func111 (by kernel_rfl) rfl
theorem kgrad3_en82 : Go.Proofs.Enters Try.prog 82 := Go.Proofs.enters_of Try.func82 (by kernel_rfl) rfl
theorem kgrad3_fo107_0 : fieldOff Try.prog 107 0 = some 0 := by kernel_rfl
theorem kgrad3_fo25_0 : fieldOff Try.prog 25 0 = some 0 := by kernel_rfl
theorem kgrad3_fo25_1 : fieldOff Try.prog 25 1 = some 1 := by kernel_rfl
theorem kgrad3_fo25_2 : fieldOff Try.prog 25 2 = some 2 := by kernel_rfl
theorem kgrad3_fo25_3 : fieldOff Try.prog 25 3 = some 3 := by kernel_rfl
theorem kgrad3_fo25_4 : fieldOff Try.prog 25 4 = some 4 := by kernel_rfl
theorem kgrad3_mixed : Try.prog.follows .mixedOrders = true := by kernel_rfl
theorem kgrad3_oc105 : oneCellT Try.prog 105 = true := by kernel_rfl
theorem kgrad3_oc22 : oneCellT Try.prog 22 = true := by kernel_rfl
theorem kgrad3_oc23 : oneCellT Try.prog 23 = true := by kernel_rfl
theorem kgrad3_oc3 : oneCellT Try.prog 3 = true := by kernel_rfl
theorem kgrad3_oc9 : oneCellT Try.prog 9 = true := by kernel_rfl
theorem kgrad3_si107 : structInfo Try.prog 107 = some ([(0, 1)], [Value.nilFunc]) := by kernel_rfl
theorem kgrad3_sz25 : (Try.prog.info? 25).map (·.size) = some 5 := by kernel_rfl
theorem kgrad3_sz9 : (Try.prog.info? 9).map (·.size) = some 1 := by kernel_rfl
theorem kgrad3_zr25 : (Try.prog.info? 25).bind (·.zero) = some (Value.agg [Value.int .i64 0, S [], S [], Value.slice none 0 0, Value.slice none 0 0].toArray) := by kernel_rfl
def lacksS (L : Bool) (s : Sh) (first : Bool) : Bool := L && (first == decide (s.kind = 6))
def recF (L : Bool) (F : Sh → Sh → Bool) (a b : Sh) (i : Nat) : Bool := if idxS (a.names.getD i []) b.names < b.names.length then F (a.parts.getD i default) (b.parts.getD (idxS (a.names.getD i []) b.names) default) else lacksS L a true
def funF (F : Sh → Sh → Bool) (a b : Sh) (i : Nat) : Bool := if a.kind = 8 ∧ i + 1 < a.parts.length then F (b.parts.getD i default) (a.parts.getD i default) else F (a.parts.getD i default) (b.parts.getD i default)
def restF (a b : Sh) : Bool := !(List.range b.names.length).any fun i => !decide (idxS (b.names.getD i []) a.names < a.names.length)
def fitsB (L : Bool) (F : Sh → Sh → Bool) (a b : Sh) : Bool :=
  if a.kind = 4 ∨ b.kind = 4 then true
  else if a.kind ≠ b.kind ∨ a.of ≠ b.of ∨ a.name ≠ b.name then false
  else if a.kind = 6 ∨ a.kind = 7 then (List.range a.names.length).all (recF L F a b) && (lacksS L b false || restF a b)
  else if a.parts.length ≠ b.parts.length then false
  else (List.range a.parts.length).all (funF F a b)
def fitsN (L : Bool) : Nat → Sh → Sh → Bool
  | 0 => fun _ _ => false
  | N + 1 => fitsB L (fitsN L N)
theorem all_succ {q : Nat → Bool} {k : Nat} : (List.range (k + 1)).all q = ((List.range k).all q && q k) := by
  rw [List.range_succ, List.all_append]; simp
theorem all_missR {q : Nat → Bool} {k n : Nat} (h : k < n) (hk : q k = false) : (List.range n).all q = false := by
  rw [List.all_eq_false]; exact ⟨k, List.mem_range.2 h, by rw [hk]; simp⟩
section
variable {P : Program} {E : Env} {w : World}
theorem x_eqp {x y : Operand} {t u z e : TypeId} {p : Option Addr} (hu : P.underlying u = some (.pointer e)) (hx : ev E x = .pointer p) (hy : ev E y = .pointer none) : X P (.binOp .eql u x y z) t E w (.bool p.isNone) w := by
  have h := run_eql_pointer_nil (P := P) w u p (by simp [Program.pointee, hu])
  unfold X; simp [execOp, hx, hy, eqGuard, h]
theorem x_nep {x y : Operand} {t u z e : TypeId} {p : Option Addr} (hu : P.underlying u = some (.pointer e)) (hx : ev E x = .pointer p) (hy : ev E y = .pointer none) : X P (.binOp .neq u x y z) t E w (.bool (!p.isNone)) w := by
  have h := run_neq_pointer_nil (P := P) w u p (by simp [Program.pointee, hu])
  unfold X; simp [execOp, hx, hy, eqGuard, h]
end
theorem rec_len {s : Sh} (h : fitsS s = true) (hk : s.kind = 6 ∨ s.kind = 7) : s.names.length = s.parts.length := by
  rw [fits_rec hk] at h
  simp only [Bool.and_eq_true, namesOk, decide_eq_true_eq] at h
  omega
theorem allB_fit {s : Sh} (h : s.allB fitsS = true) : fitsS s = true := by rw [Sh.allB_eq] at h; simp at h; exact h.1
theorem loose_fn (A B : Nat → Prop) (s t : Sh) (cs ds : List Value) (first : Bool) (w : World) (hs : ShC A w cs s) (_ht : ShC B w ds t) :
    Ret Try.prog 108 #[.agg cs.toArray, .agg ds.toArray, .bool first] w fun v w' => v = .bool (lacksS true s first) ∧ Bel w w' := by
  obtain ⟨vn, vp, rfl, -⟩ := hs.inv
  refine ret_of_W Try.func108 rfl (Nat.le_of_ble_eq_true rfl) (res1 rfl) ?_
  have hB := Gr.refl (fun _ => False) w
  refine W.seq ?_
  refine W.region ?_
  refine L.box (cs := _) rfl rfl (fun w3 bx3 hw hz3 => ?_)
  have hB := hB.carry hw
  refine L.box (cs := ds) rfl rfl (fun w4 bx4 hw hz4 => ?_)
  have hB := hB.carry hw; have bx3 := bx3.carry hw
  refine L.val (x_as (v := .bool _) rfl) rfl ?_
  refine L.nil ?_
  refine thn_n ?_
  refine W.seq ?_
  refine W.region ?_
  refine L.val (x_mv (v := .bool _) rfl) rfl ?_
  refine L.val (x_fa kgrad3_fo25_0 rfl) rfl ?_
  refine L.val (x_ld (v := .int _ _) kgrad3_oc3 rfl (bx3.cell0 rfl)) rfl ?_
  refine L.val (x_eql rfl rfl) rfl ?_
  refine L.val (x_eqb Try.underlying4 rfl rfl) rfl ?_
  refine L.val (x_as (v := .bool _) rfl) rfl ?_
  refine L.nil ?_
  refine thn_n ?_
  refine W.ret (fin_mk (.inr rfl) ?_)
  exact ⟨vb (by simp [lacksS]), hB⟩
theorem strict_fn (A B : Nat → Prop) (s t : Sh) (cs ds : List Value) (first : Bool) (w : World) (_hs : ShC A w cs s) (_ht : ShC B w ds t) :
    Ret Try.prog 112 #[.agg cs.toArray, .agg ds.toArray, .bool first] w fun v w' => v = .bool (lacksS false s first) ∧ Bel w w' := by
  refine ret_of_W Try.func112 rfl (Nat.le_of_ble_eq_true rfl) (res1 rfl) ?_
  have hB := Gr.refl (fun _ => False) w
  refine W.seq ?_
  refine W.region ?_
  refine L.box (cs := cs) rfl rfl (fun w3 bx3 hw hz3 => ?_)
  have hB := hB.carry hw
  refine L.box (cs := ds) rfl rfl (fun w4 bx4 hw hz4 => ?_)
  have hB := hB.carry hw; have bx3 := bx3.carry hw
  refine L.val (x_as (v := .bool _) rfl) rfl ?_
  refine L.nil ?_
  refine thn_n ?_
  refine W.seq ?_
  refine W.region ?_
  refine L.val (x_as (v := .bool _) rfl) rfl ?_
  refine L.nil ?_
  refine thn_n ?_
  refine W.ret (fin_mk (.inr rfl) ?_)
  exact ⟨rfl, hB⟩
theorem loose_ok (w : World) : Ret Try.prog 81 #[] w fun v w' => (v = .pointer (some ⟨w.heap.size, 0, none⟩) ∧ Box w' w.heap.size 107 [.func (.func 108) #[] #[]]) ∧ Bel w w' := by
  refine ret_of_W Try.func81 rfl (Nat.le_of_ble_eq_true rfl) (res1 rfl) ?_
  have hB := Gr.refl (fun _ => False) w
  refine W.seq ?_
  refine W.region ?_
  refine L.val (x_as (v := .pointer _) rfl) rfl ?_
  refine L.nil ?_
  refine thn_n ?_
  refine W.seq ?_
  refine W.region ?_
  refine L.val (x_build (cells := [_]) kgrad3_si107 rfl rfl) rfl ?_
  refine L.box (cs := [.func (.func 108) #[] #[]]) rfl rfl (fun w2 bx2 hw hz2 => ?_)
  have hB := hB.carry hw
  refine L.val (x_as (v := .pointer _) rfl) rfl ?_
  refine L.nil ?_
  refine thn_n ?_
  refine W.ret (fin_mk (.inr rfl) ?_)
  exact ⟨⟨rfl, bx2⟩, hB⟩
theorem strict_ok (w : World) : Ret Try.prog 83 #[] w fun v w' => (v = .pointer (some ⟨w.heap.size, 0, none⟩) ∧ Box w' w.heap.size 107 [.func (.func 112) #[] #[]]) ∧ Bel w w' := by
  refine ret_of_W Try.func83 rfl (Nat.le_of_ble_eq_true rfl) (res1 rfl) ?_
  have hB := Gr.refl (fun _ => False) w
  refine W.seq ?_
  refine W.region ?_
  refine L.val (x_as (v := .pointer _) rfl) rfl ?_
  refine L.nil ?_
  refine thn_n ?_
  refine W.seq ?_
  refine W.region ?_
  refine L.val (x_build (cells := [_]) kgrad3_si107 rfl rfl) rfl ?_
  refine L.box (cs := [.func (.func 112) #[] #[]]) rfl rfl (fun w2 bx2 hw hz2 => ?_)
  have hB := hB.carry hw
  refine L.val (x_as (v := .pointer _) rfl) rfl ?_
  refine L.nil ?_
  refine thn_n ?_
  refine W.ret (fin_mk (.inr rfl) ?_)
  exact ⟨⟨rfl, bx2⟩, hB⟩
theorem fitclos_ok (A : Nat → Prop) (b4 : Nat) (a : Sh) (vn : Value) (p : Option Addr) (cap : Nat) (x : Str) (w : World) (hs : ShC A w [.int .i64 a.kind, S a.of, S a.name, vn, .slice p a.parts.length cap] a) (hfs : a.names = [] ∨ a.names.length = a.parts.length)
    (bx : Box w b4 25 [.int .i64 a.kind, S a.of, S a.name, vn, .slice p a.parts.length cap]) :
    Ret Try.prog 111 #[S x, .pointer (some ⟨b4, 0, none⟩)] w fun v w' => v = .bool (!decide (idxS x a.names < a.names.length)) ∧ Bel w w' := by
  refine ret_of_W Try.func111 rfl (Nat.le_of_ble_eq_true rfl) (res1 rfl) ?_
  have hB := Gr.refl (fun _ => False) w
  refine W.seq ?_
  refine W.region ?_
  refine L.val (x_as (v := .bool _) rfl) rfl ?_
  refine L.nil ?_
  refine thn_n ?_
  refine W.seq ?_
  refine W.region ?_
  refine L.val (x_ldn (vs := _) kgrad3_ag25 rfl rfl (bx.row rfl)) rfl ?_
  refine L.val (x_mv (v := S _) rfl) rfl ?_
  refine L.ret (x_call kgrad3_en109 rfl) rfl (find_ok A a x vn p cap w hs hfs) ?_
  rintro v6 w6 ⟨hf, hw⟩
  have hB := hB.carry hw
  obtain ⟨q, rfl, hq⟩ : ∃ q, v6 = .pointer q ∧ q.isNone = !decide (idxS x a.names < a.names.length) := by
    rcases hf with ⟨h1, rfl⟩ | ⟨h1, b, o, -, rfl⟩
    · exact ⟨none, rfl, by simp; omega⟩
    · exact ⟨_, rfl, by simp [h1]⟩
  refine L.val (x_eqp Try.underlying108 rfl rfl) rfl ?_
  refine L.val (x_as (v := .bool _) rfl) rfl ?_
  refine L.nil ?_
  refine thn_n ?_
  refine W.ret (fin_mk (.inr rfl) ?_)
  exact ⟨vb hq, hB⟩
set_option maxHeartbeats 4000000 in
theorem fitsG_ok (lo : Bool) (g : FuncId) (eg : Enters Try.prog g)
    (hL : ∀ (A B : Nat → Prop) (s t : Sh) (cs ds : List Value) (first : Bool) (w : World), ShC A w cs s → ShC B w ds t → Ret Try.prog g #[.agg cs.toArray, .agg ds.toArray, .bool first] w fun v w' => v = .bool (lacksS lo s first) ∧ Bel w w') :
    ∀ (N : Nat) (a b : Sh), SizeOf.sizeOf a + SizeOf.sizeOf b < N → a.size ≤ 400 → b.size ≤ 400 → a.allB fitsS = true → b.allB fitsS = true → ∀ (A0 B0 : Nat → Prop) (xs ys : List Value) (br : Nat) (w : World), ShC A0 w xs a → ShC B0 w ys b → Box w br 107 [.func (.func g) #[] #[]] →
    Ret Try.prog 82 #[.pointer (some ⟨br, 0, none⟩), .agg xs.toArray, .agg ys.toArray] w fun v w' => v = .bool (fitsN lo N a b) ∧ Bel w w' := by
  intro N
  induction N with
  | zero => intro a b h; omega
  | succ N ih =>
    intro a b hN hMa hMb hfa hfb A0 B0 xs ys br w ha0 hb0 hbr
    obtain ⟨A, ha, hA⟩ : ∃ A : Nat → Prop, ShC A w xs a ∧ (∀ k, w.heap.size ≤ k → A k) := ⟨_, ha0.up, fun _ => .inr⟩
    obtain ⟨B, hb, hBu⟩ : ∃ B : Nat → Prop, ShC B w ys b ∧ (∀ k, w.heap.size ≤ k → B k) := ⟨_, hb0.up, fun _ => .inr⟩
    clear ha0 hb0
    have hbr0 := hbr
    obtain ⟨vna, vpa, rfl, hna, hpa, -⟩ := id ha.inv
    obtain ⟨p, cap, rowa, rfl, p1, p2, p3, hra⟩ := hpa
    obtain ⟨pn, capn, rfl, n1, n2, n3, hLa, -⟩ := id hna
    obtain ⟨vnb, vpb, rfl, hnb, hpb, -⟩ := id hb.inv
    obtain ⟨q, capq, rowb, rfl, q1, q2, q3, hrb⟩ := hpb
    obtain ⟨qn, capqn, rfl, m1, m2, m3, hLb, -⟩ := id hnb
    have hfsa : a.names = [] ∨ a.names.length = a.parts.length := (fits_names (by rw [Sh.allB_eq] at hfa; simp at hfa; exact hfa.1)).imp id (·.1)
    have hfsb : b.names = [] ∨ b.names.length = b.parts.length := (fits_names (by rw [Sh.allB_eq] at hfb; simp at hfb; exact hfb.1)).imp id (·.1)
    have hpla := parts_le a
    have hplb := parts_le b
    have hpa : allL fitsS a.parts = true := by rw [Sh.allB_eq] at hfa; simp at hfa; exact hfa.2
    have hpb : allL fitsS b.parts = true := by rw [Sh.allB_eq] at hfb; simp at hfb; exact hfb.2
    have hIab := fun (i j : Nat) (hi : i < a.parts.length) (hj : j < b.parts.length) => ih (a.parts.getD i default) (b.parts.getD j default) (by have := Sh.part_lt hi; have := Sh.part_lt hj; omega) (by have := Sh.part_size hi; omega) (by have := Sh.part_size hj; omega) (allL_getD hpa hi) (allL_getD hpb hj)
    have hIba := fun (i j : Nat) (hi : i < a.parts.length) (hj : j < b.parts.length) => ih (b.parts.getD j default) (a.parts.getD i default) (by have := Sh.part_lt hi; have := Sh.part_lt hj; omega) (by have := Sh.part_size hj; omega) (by have := Sh.part_size hi; omega) (allL_getD hpb hj) (allL_getD hpa hi)
    refine ret_of_W Try.func82 rfl (Nat.le_of_ble_eq_true rfl) (res1 rfl) ?_
    have hB := Gr.refl (fun _ => False) w
    refine W.seq ?_
    refine W.region ?_
    refine L.box (cs := _) rfl rfl (fun w4 bx4 hw hz4 => ?_)
    have hB := hB.carry hw; have ha := ha.carry hw; have hb := hb.carry hw; have hna := hna.carry hw; have hra := hra.carry hw; have hnb := hnb.carry hw; have hrb := hrb.carry hw; have hbr := hbr.carry hw
    refine L.box (cs := _) rfl rfl (fun w5 bx5 hw hz5 => ?_)
    have hB := hB.carry hw; have ha := ha.carry hw; have hb := hb.carry hw; have hna := hna.carry hw; have hra := hra.carry hw; have hnb := hnb.carry hw; have hrb := hrb.carry hw; have hbr := hbr.carry hw; have bx4 := bx4.carry hw
    obtain ⟨b5, hb5⟩ : ∃ b5, b5 = w4.heap.size := ⟨_, rfl⟩
    rw [← hb5] at bx5 ⊢
    have hb45 : w.heap.size < b5 := by omega
    have hbrl : br < w.heap.size := hbr0.lt
    refine L.val (x_as (v := .bool _) rfl) rfl ?_
    refine L.nil ?_
    refine thn_n ?_
    refine W.seq ?_
    refine W.block ?_
    refine W.seq ?_
    refine W.region ?_
    refine L.val (x_fa kgrad3_fo25_0 rfl) rfl ?_
    refine L.val (x_ld (v := .int _ _) kgrad3_oc3 rfl (bx4.cell0 rfl)) rfl ?_
    refine L.val (x_eql rfl rfl) rfl ?_
    refine L.val (x_mv (v := .bool _) rfl) rfl ?_
    refine' L.group0 3 18 20 20 17 false rfl ?_ ?_ ?_
    rotate_left 1
    ·intro g17
     have h17 := of_decide_eq_false g17
     refine L.gyes' (dj := 17) (b := _) rfl rfl g17 ?_
     refine L.val (x_fa kgrad3_fo25_0 rfl) rfl ?_
     refine L.gyes' (dj := 17) (b := _) rfl rfl g17 ?_
     refine L.val (x_ld (v := .int _ _) kgrad3_oc3 rfl (bx5.cell0 rfl)) rfl ?_
     refine L.gyes' (dj := 17) (b := _) rfl rfl g17 ?_
     refine L.val (x_eql rfl rfl) rfl ?_
     refine L.nil ?_
     refine thn_n ⟨rfl, rfl, ?_, rfl⟩
     repeat (first | exact jeq.refl _ _ _ | refine jeq.upd rfl ?_ | refine jeq.jk rfl rfl ?_)
    ·intro g17
     refine L.gno (dj := 17) (b := _) rfl rfl g17 rfl ?_
     refine L.gno (dj := 17) (b := _) rfl rfl g17 rfl ?_
     refine L.gno (dj := 17) (b := _) rfl rfl g17 rfl ?_
     refine L.nil (thn_n ⟨rfl, rfl, ?_⟩)
     repeat (first | exact jeq.refl _ _ _ | refine jeq.upd rfl ?_ | refine jeq.jk rfl rfl ?_)
    intro J17 j17
    refine L.val (x_or rfl j17) rfl ?_
    refine L.val (x_as (v := .bool _) rfl) rfl ?_
    refine L.nil ?_
    refine thn_n ?_
    refine W.cond (b := _) rfl (fun g21 => ?_) (fun g21 => ?_)
    ·have h21 := g21
     refine W.seq ?_
     refine W.region ?_
     refine L.val (x_as (v := .bool _) rfl) rfl ?_
     refine L.nil ?_
     refine thn_n ?_
     refine W.ret (blk_r (thn_r (fin_mk (.inr rfl) ?_)))
     exact ⟨vb (by show true = fitsB lo (fitsN lo N) a b; rw [fitsB, if_pos (by simpa using h21)]), hB⟩
    ·have h21 := g21
     have e1 : ¬ (a.kind = 4 ∨ b.kind = 4) := by simp at h21; omega
     refine W.seq ?_
     refine W.region ?_
     refine L.val (x_fa kgrad3_fo25_0 rfl) rfl ?_
     refine L.val (x_ld (v := .int _ _) kgrad3_oc3 rfl (bx4.cell0 rfl)) rfl ?_
     refine L.val (x_fa kgrad3_fo25_0 rfl) rfl ?_
     refine L.val (x_ld (v := .int _ _) kgrad3_oc3 rfl (bx5.cell0 rfl)) rfl ?_
     refine L.val (x_neq rfl rfl) rfl ?_
     refine L.val (x_mv (v := .bool _) rfl) rfl ?_
     refine' L.group0 5 29 33 33 28 false rfl ?_ ?_ ?_
     rotate_left 1
     ·intro g28
      have h28 := dne_f g28
      refine L.gyes' (dj := 28) (b := _) rfl rfl g28 ?_
      refine L.val (x_fa kgrad3_fo25_1 rfl) rfl ?_
      refine L.gyes' (dj := 28) (b := _) rfl rfl g28 ?_
      refine L.val (x_ld (v := S _) kgrad3_oc9 rfl (bx4.cell0 rfl)) rfl ?_
      refine L.gyes' (dj := 28) (b := _) rfl rfl g28 ?_
      refine L.val (x_fa kgrad3_fo25_1 rfl) rfl ?_
      refine L.gyes' (dj := 28) (b := _) rfl rfl g28 ?_
      refine L.val (x_ld (v := S _) kgrad3_oc9 rfl (bx5.cell0 rfl)) rfl ?_
      refine L.gyes' (dj := 28) (b := _) rfl rfl g28 ?_
      refine L.val (x_nes rfl rfl) rfl ?_
      refine L.nil ?_
      refine thn_n ⟨rfl, rfl, ?_, rfl⟩
      repeat (first | exact jeq.refl _ _ _ | refine jeq.upd rfl ?_ | refine jeq.jk rfl rfl ?_)
     ·intro g28
      refine L.gno (dj := 28) (b := _) rfl rfl g28 rfl ?_
      refine L.gno (dj := 28) (b := _) rfl rfl g28 rfl ?_
      refine L.gno (dj := 28) (b := _) rfl rfl g28 rfl ?_
      refine L.gno (dj := 28) (b := _) rfl rfl g28 rfl ?_
      refine L.gno (dj := 28) (b := _) rfl rfl g28 rfl ?_
      refine L.nil (thn_n ⟨rfl, rfl, ?_⟩)
      repeat (first | exact jeq.refl _ _ _ | refine jeq.upd rfl ?_ | refine jeq.jk rfl rfl ?_)
     intro J28 j28
     refine L.val (x_or rfl j28) rfl ?_
     refine L.val (x_mv (v := .bool _) rfl) rfl ?_
     refine' L.group0 5 36 40 40 35 false rfl ?_ ?_ ?_
     rotate_left 1
     ·intro g35
      have h35 := g35
      refine L.gyes' (dj := 35) (b := _) rfl rfl g35 ?_
      refine L.val (x_fa kgrad3_fo25_2 rfl) rfl ?_
      refine L.gyes' (dj := 35) (b := _) rfl rfl g35 ?_
      refine L.val (x_ld (v := S _) kgrad3_oc9 rfl (bx4.cell0 rfl)) rfl ?_
      refine L.gyes' (dj := 35) (b := _) rfl rfl g35 ?_
      refine L.val (x_fa kgrad3_fo25_2 rfl) rfl ?_
      refine L.gyes' (dj := 35) (b := _) rfl rfl g35 ?_
      refine L.val (x_ld (v := S _) kgrad3_oc9 rfl (bx5.cell0 rfl)) rfl ?_
      refine L.gyes' (dj := 35) (b := _) rfl rfl g35 ?_
      refine L.val (x_nes rfl rfl) rfl ?_
      refine L.nil ?_
      refine thn_n ⟨rfl, rfl, ?_, rfl⟩
      repeat (first | exact jeq.refl _ _ _ | refine jeq.upd rfl ?_ | refine jeq.jk rfl rfl ?_)
     ·intro g35
      refine L.gno (dj := 35) (b := _) rfl rfl g35 rfl ?_
      refine L.gno (dj := 35) (b := _) rfl rfl g35 rfl ?_
      refine L.gno (dj := 35) (b := _) rfl rfl g35 rfl ?_
      refine L.gno (dj := 35) (b := _) rfl rfl g35 rfl ?_
      refine L.gno (dj := 35) (b := _) rfl rfl g35 rfl ?_
      refine L.nil (thn_n ⟨rfl, rfl, ?_⟩)
      repeat (first | exact jeq.refl _ _ _ | refine jeq.upd rfl ?_ | refine jeq.jk rfl rfl ?_)
     intro J35 j35
     refine L.val (x_or rfl j35) rfl ?_
     refine L.val (x_as (v := .bool _) rfl) rfl ?_
     refine L.nil ?_
     refine thn_n ?_
     refine W.cond (b := _) rfl (fun g41 => ?_) (fun g41 => ?_)
     ·have h41 := g41
      have e2 : a.kind ≠ b.kind ∨ a.of ≠ b.of ∨ a.name ≠ b.name := by simpa [or_assoc] using h41
      refine W.seq ?_
      refine W.region ?_
      refine L.val (x_as (v := .bool _) rfl) rfl ?_
      refine L.nil ?_
      refine thn_n ?_
      refine W.ret (blk_r (thn_r (fin_mk (.inr rfl) ?_)))
      exact ⟨vb (by show false = fitsB lo (fitsN lo N) a b; rw [fitsB, if_neg e1, if_pos e2]), hB⟩
     ·have h41 := g41
      have e2 : ¬ (a.kind ≠ b.kind ∨ a.of ≠ b.of ∨ a.name ≠ b.name) := fun h => by simp at h41; rcases h with h | h | h; exact h h41.1.1; exact h h41.1.2; exact h h41.2
      have hkk : a.kind = b.kind := Decidable.byContradiction fun h => e2 (.inl h)
      refine W.seq ?_
      refine W.region ?_
      refine L.val (x_fa kgrad3_fo25_0 rfl) rfl ?_
      refine L.val (x_ld (v := .int _ _) kgrad3_oc3 rfl (bx4.cell0 rfl)) rfl ?_
      refine L.val (x_eql rfl rfl) rfl ?_
      refine L.val (x_mv (v := .bool _) rfl) rfl ?_
      refine' L.group0 3 47 49 49 46 false rfl ?_ ?_ ?_
      rotate_left 1
      ·intro g46
       have h46 := of_decide_eq_false g46
       refine L.gyes' (dj := 46) (b := _) rfl rfl g46 ?_
       refine L.val (x_fa kgrad3_fo25_0 rfl) rfl ?_
       refine L.gyes' (dj := 46) (b := _) rfl rfl g46 ?_
       refine L.val (x_ld (v := .int _ _) kgrad3_oc3 rfl (bx4.cell0 rfl)) rfl ?_
       refine L.gyes' (dj := 46) (b := _) rfl rfl g46 ?_
       refine L.val (x_eql rfl rfl) rfl ?_
       refine L.nil ?_
       refine thn_n ⟨rfl, rfl, ?_, rfl⟩
       repeat (first | exact jeq.refl _ _ _ | refine jeq.upd rfl ?_ | refine jeq.jk rfl rfl ?_)
      ·intro g46
       refine L.gno (dj := 46) (b := _) rfl rfl g46 rfl ?_
       refine L.gno (dj := 46) (b := _) rfl rfl g46 rfl ?_
       refine L.gno (dj := 46) (b := _) rfl rfl g46 rfl ?_
       refine L.nil (thn_n ⟨rfl, rfl, ?_⟩)
       repeat (first | exact jeq.refl _ _ _ | refine jeq.upd rfl ?_ | refine jeq.jk rfl rfl ?_)
      intro J46 j46
      refine L.val (x_or rfl j46) rfl ?_
      refine L.val (x_as (v := .bool _) rfl) rfl ?_
      refine L.nil ?_
      refine thn_n ?_
      refine W.cond (b := _) rfl (fun g50 => ?_) (fun g50 => ?_)
      ·have h50 := g50
       have e3 : a.kind = 6 ∨ a.kind = 7 := by simpa using h50
       have hlna := rec_len (allB_fit hfa) e3
       have hlnb := rec_len (allB_fit hfb) (by rw [← hkk]; exact e3)
       refine W.seq ?_
       refine W.seq ?_
       refine W.region ?_
       refine L.val (x_fa kgrad3_fo25_3 rfl) rfl ?_
       refine L.val (x_ld (v := .slice _ _ _) kgrad3_oc22 rfl (bx4.cell0 rfl)) rfl ?_
       refine L.val (x_len_slice Try.underlying22 rfl) rfl ?_
       refine L.val (x_mv (v := .int _ _) rfl) rfl ?_
       refine L.nil ?_
       refine thn_n ?_
       refine W.block ?_
       refine W.loop (fun m' E w' => ∃ (i : Nat), m' = a.names.length - i ∧ E 0 = .pointer (some ⟨br, 0, none⟩) ∧ E 4 = .pointer (some ⟨w.heap.size, 0, none⟩) ∧ E 5 = .pointer (some ⟨b5, 0, none⟩) ∧ E 52 = .slice pn a.names.length capn ∧ E 53 = .int .i64 (a.names.length : Nat) ∧ E 54 = .int .i64 (i : Nat) ∧ (Bel w w') ∧ (ShC A w' [.int .i64 a.kind, S a.of, S a.name, .slice pn a.names.length capn, .slice p a.parts.length cap] a) ∧ (ShC B w' [.int .i64 b.kind, S b.of, S b.name, .slice qn b.names.length capqn, .slice q b.parts.length capq] b) ∧ (StrsAt A w' (.slice pn a.names.length capn) a.names) ∧ (ShRow A w' p rowa a.parts) ∧ (StrsAt B w' (.slice qn b.names.length capqn) b.names) ∧ (ShRow B w' q rowb b.parts) ∧ (Box w' br 107 [.func (.func g) #[] #[]]) ∧ (Box w' w.heap.size 25 [.int .i64 a.kind, S a.of, S a.name, .slice pn a.names.length capn, .slice p a.parts.length cap]) ∧ (Box w' b5 25 [.int .i64 b.kind, S b.of, S b.name, .slice qn b.names.length capqn, .slice q b.parts.length capq]) ∧ (i ≤ a.names.length) ∧ ((List.range i).all (recF lo (fitsN lo N) a b) = true)) (a.names.length) ?_ ?_
       ·exact ⟨0, by omega, by first | rfl | exact vi (by omega), by first | rfl | exact vi (by omega), by first | rfl | exact vi (by omega), by first | rfl | exact vi (by omega), by first | rfl | exact vi (by omega), by first | rfl | exact vi (by omega), (by first | assumption | omega | rfl), (by first | assumption | omega | rfl), (by first | assumption | omega | rfl), (by first | assumption | omega | rfl), (by first | assumption | omega | rfl), (by first | assumption | omega | rfl), (by first | assumption | omega | rfl), (by first | assumption | omega | rfl), (by first | assumption | omega | rfl), (by first | assumption | omega | rfl), (by first | assumption | omega | rfl), (by rfl)⟩
       ·rintro _ E wL55 ⟨i, em, e0, e4, e5, e52, e53, e54, hB, ha, hb, hna, hra, hnb, hrb, hbr, bx4, bx5, hi, hall⟩
        rw [upd_self e0, upd_self e4, upd_self e5, upd_self e52, upd_self e53, upd_self e54]
        refine W.seq ?_
        refine W.region ?_
        refine L.val (x_lss rfl rfl) rfl ?_
        refine L.nil ?_
        refine thn_n ?_
        refine W.seq ?_
        refine W.cond (b := _) rfl (fun g55 => ?_) (fun g55 => ?_)
        ·have h55 := of_decide_eq_true g55
         have hlt : i < a.names.length := by omega
         have hip : i < a.parts.length := by omega
         obtain ⟨an, ao, rfl, hcn⟩ := hna.elem hlt
         obtain ⟨bp, op, rfl, hcp⟩ := hra.elem hip
         refine W.skip ?_
         refine thn_n ?_
         refine W.seq ?_
         refine W.block ?_
         refine W.seq ?_
         refine W.region ?_
         refine L.val (x_mv (v := .int _ _) rfl) rfl ?_
         refine L.val (x_ia1 (j := i) Try.underlying22 kgrad3_sz9 rfl rfl (by omega) (by omega)) rfl ?_
         refine L.val (x_ld (v := S _) kgrad3_oc9 rfl hcn) rfl ?_
         refine L.val (x_as (v := .int _ _) rfl) rfl ?_
         refine L.val (x_as (v := S _) rfl) rfl ?_
         refine L.nil ?_
         refine thn_n ?_
         refine W.seq ?_
         refine W.region ?_
         refine L.val (x_ldn (vs := _) kgrad3_ag25 rfl rfl (bx5.row rfl)) rfl ?_
         refine L.val (x_mv (v := S _) rfl) rfl ?_
         refine L.ret (x_call kgrad3_en109 rfl) rfl (find_ok B b _ _ q capq _ hb hfsb) ?_
         rintro v61 w61 ⟨hf, hw⟩
         have hB := hB.carry hw; have ha := ha.carry hw; have hb := hb.carry hw; have hna := hna.carry hw; have hra := hra.carry hw; have hnb := hnb.carry hw; have hrb := hrb.carry hw; have hbr := hbr.carry hw; have bx4 := bx4.carry hw; have bx5 := bx5.carry hw
         obtain ⟨x, hx⟩ : ∃ x, x = a.names.getD i [] := ⟨_, rfl⟩
         obtain ⟨qv, rfl, hq⟩ : ∃ qv, v61 = .pointer qv ∧ ((b.names.length ≤ idxS (a.names.getD i []) b.names ∧ qv = none) ∨ (idxS (a.names.getD i []) b.names < b.names.length ∧ ∃ bb oo, q = some ⟨bb, oo, none⟩ ∧ qv = some ⟨bb, oo + idxS (a.names.getD i []) b.names * 5, none⟩)) := by
           rcases hf with ⟨h1, h2⟩ | ⟨h1, b', o', h2, h3⟩
           · exact ⟨none, h2, .inl ⟨h1, rfl⟩⟩
           · exact ⟨_, h3, .inr ⟨h1, _, _, h2, rfl⟩⟩
         refine L.val (x_as (v := .pointer _) rfl) rfl ?_
         refine L.nil ?_
         refine thn_n ?_
         refine W.seq ?_
         refine W.drawF 29 kgrad3_mixed (fun wF62 hB0 => ?_)
         refine LAC.takeN (i := 0) rfl (by kernel_rfl) (by kernel_rfl) (by kernel_rfl) (by kernel_rfl) (fun w hw => x_mv (v := .pointer _) rfl) rfl ?_
         refine LAC.takeN (i := 1) rfl (by kernel_rfl) (by kernel_rfl) (by kernel_rfl) (by kernel_rfl) (fun w hw => x_eqp Try.underlying108 rfl rfl) rfl ?_
         refine LAC.takeN (i := 2) rfl (by kernel_rfl) (by kernel_rfl) (by kernel_rfl) (by kernel_rfl) (fun w hw => x_mv (v := .bool _) rfl) rfl ?_
         refine LAC.split (dj := 64) (b := _) rfl (fun g64 => ?_) (fun g64 => ?_)
         ·have h64 := g64
          have hqn : qv = none := by cases qv; rfl; cases g64
          have hrec : recF lo (fitsN lo N) a b i = lacksS lo a true := by
            unfold recF
            rw [if_neg (by rcases hq with ⟨h1, -⟩ | ⟨h1, _, _, _, h2⟩; omega; rw [hqn] at h2; cases h2)]
          refine LAC.takeG (i := 3) rfl (by kernel_rfl) (by kernel_rfl) (by kernel_rfl) (by kernel_rfl) (dj := 64) (b := _) rfl rfl g64 (fun w hw => x_mv (v := .pointer _) rfl) rfl ?_
          refine LAC.takeG (i := 4) rfl (by kernel_rfl) (by kernel_rfl) (by kernel_rfl) (by kernel_rfl) (dj := 64) (b := _) rfl rfl g64 (fun w hw => x_nil rfl) rfl ?_
          refine LAC.takeG (i := 5) rfl (by kernel_rfl) (by kernel_rfl) (by kernel_rfl) (by kernel_rfl) (dj := 64) (b := _) rfl rfl g64 (fun w hw => x_fa kgrad3_fo107_0 rfl) rfl ?_
          refine LAC.takeG (i := 6) rfl (by kernel_rfl) (by kernel_rfl) (by kernel_rfl) (by kernel_rfl) (dj := 64) (b := _) rfl rfl g64 (fun w hw => x_ld (v := _) kgrad3_oc105 rfl (hw.keep (hbr.cell0 rfl))) rfl ?_
          refine LAC.takeG (i := 7) rfl (by kernel_rfl) (by kernel_rfl) (by kernel_rfl) (by kernel_rfl) (dj := 64) (b := _) rfl rfl g64 (fun w hw => x_ldn (vs := _) kgrad3_ag25 rfl rfl (hw.keepRow rfl (bx4.row rfl))) rfl ?_
          refine LAC.takeG (i := 8) rfl (by kernel_rfl) (by kernel_rfl) (by kernel_rfl) (by kernel_rfl) (dj := 64) (b := _) rfl rfl g64 (fun w hw => x_ldn (vs := _) kgrad3_ag25 rfl rfl (hw.keepRow rfl (bx5.row rfl))) rfl ?_
          refine LAC.step (rs := [9]) (fun _ => hB0) (by kernel_rfl) (by simp) ⟨⟨_, rfl, ?_⟩, trivial⟩
          refine L.gyes' (dj := 64) (b := _) rfl rfl g64 ?_
          refine L.ret (x_callv eg rfl rfl) rfl (hL A B a b _ _ true _ (ha.carry hB0) (hb.carry hB0)) ?_
          rintro _ w71 ⟨rfl, hw⟩
          have hB0 := hB0.carry hw
          refine L.nil ?_
          refine thn_n ?_
          refine LAC.takeG (i := 10) rfl (by kernel_rfl) (by kernel_rfl) (by kernel_rfl) (by kernel_rfl) (dj := 64) (b := _) rfl rfl g64 (fun w hw => x_not rfl) rfl ?_
          refine LAC.takeN (i := 11) rfl (by kernel_rfl) (by kernel_rfl) (by kernel_rfl) (by kernel_rfl) (fun w hw => x_pick_t (v := .bool _) (congrArg Value.bool g64) rfl) rfl ?_
          refine LAC.takeN (i := 12) rfl (by kernel_rfl) (by kernel_rfl) (by kernel_rfl) (by kernel_rfl) (fun w hw => x_mv (v := .bool _) rfl) rfl ?_
          refine LAC.split (dj := 74) (b := _) rfl (fun g74 => ?_) (fun g74 => ?_)
          ·have h74 := (not_t g74)
           refine LAC.takeU (i := 13) rfl (by kernel_rfl) (by kernel_rfl) (by kernel_rfl) (by kernel_rfl) (dj := 74) (b := _) rfl rfl g74 rfl ?_
           refine LAC.takeU (i := 14) rfl (by kernel_rfl) (by kernel_rfl) (by kernel_rfl) (by kernel_rfl) (dj := 74) (b := _) rfl rfl g74 rfl ?_
           refine LAC.takeU (i := 15) rfl (by kernel_rfl) (by kernel_rfl) (by kernel_rfl) (by kernel_rfl) (dj := 74) (b := _) rfl rfl g74 rfl ?_
           refine LAC.takeUU (i := 16) rfl (by kernel_rfl) (by kernel_rfl) (by kernel_rfl) (by kernel_rfl) (dj := 77) rfl rfl rfl ?_
           refine LAC.takeUU (i := 17) rfl (by kernel_rfl) (by kernel_rfl) (by kernel_rfl) (by kernel_rfl) (dj := 77) rfl rfl rfl ?_
           refine LAC.takeUU (i := 18) rfl (by kernel_rfl) (by kernel_rfl) (by kernel_rfl) (by kernel_rfl) (dj := 77) rfl rfl rfl ?_
           refine LAC.takeUU (i := 19) rfl (by kernel_rfl) (by kernel_rfl) (by kernel_rfl) (by kernel_rfl) (dj := 77) rfl rfl rfl ?_
           refine LAC.takeUU (i := 20) rfl (by kernel_rfl) (by kernel_rfl) (by kernel_rfl) (by kernel_rfl) (dj := 77) rfl rfl rfl ?_
           refine LAC.takeUU (i := 21) rfl (by kernel_rfl) (by kernel_rfl) (by kernel_rfl) (by kernel_rfl) (dj := 77) rfl rfl rfl ?_
           refine LAC.takeUU (i := 22) rfl (by kernel_rfl) (by kernel_rfl) (by kernel_rfl) (by kernel_rfl) (dj := 77) rfl rfl rfl ?_
           refine LAC.takeUU (i := 23) rfl (by kernel_rfl) (by kernel_rfl) (by kernel_rfl) (by kernel_rfl) (dj := 77) rfl rfl rfl ?_
           refine LAC.takeUU (i := 24) rfl (by kernel_rfl) (by kernel_rfl) (by kernel_rfl) (by kernel_rfl) (dj := 77) rfl rfl rfl ?_
           refine LAC.takeUU (i := 25) rfl (by kernel_rfl) (by kernel_rfl) (by kernel_rfl) (by kernel_rfl) (dj := 77) rfl rfl rfl ?_
           refine LAC.takeUU (i := 26) rfl (by kernel_rfl) (by kernel_rfl) (by kernel_rfl) (by kernel_rfl) (dj := 77) rfl rfl rfl ?_
           refine LAC.takeU (i := 27) rfl (by kernel_rfl) (by kernel_rfl) (by kernel_rfl) (by kernel_rfl) (dj := 74) (b := _) rfl rfl g74 rfl ?_
           refine LAC.takeN (i := 28) rfl (by kernel_rfl) (by kernel_rfl) (by kernel_rfl) (by kernel_rfl) (fun w hw => x_pick_t (v := .bool _) (congrArg Value.bool g74) rfl) rfl ?_
           refine LAC.doneF (by kernel_rfl) hB0 ?_
           have hB := hB.carry hB0; have ha := ha.carry hB0; have hb := hb.carry hB0; have hna := hna.carry hB0; have hra := hra.carry hB0; have hnb := hnb.carry hB0; have hrb := hrb.carry hB0; have hbr := hbr.carry hB0; have bx4 := bx4.carry hB0; have bx5 := bx5.carry hB0
           refine thn_n ?_
           refine W.cond (b := true) rfl (fun _ => ?_) (fun h => nomatch h)
           refine W.seq ?_
           refine W.region ?_
           refine L.val (x_as (v := .bool _) rfl) rfl ?_
           refine L.nil ?_
           refine thn_n ?_
           refine W.ret (blk_r (thn_r (thn_r (blk_r (thn_r (blk_r (thn_r (fin_mk (.inr rfl) ?_))))))))
           exact ⟨vb (by show false = fitsB lo (fitsN lo N) a b; rw [fitsB, if_neg e1, if_neg e2, if_pos e3, all_missR hlt (by rw [hrec]; first | simpa using g74 | simpa using g90)]; rfl), hB⟩
          ·have h74 := (not_f g74)
           refine LAC.takeG (i := 13) rfl (by kernel_rfl) (by kernel_rfl) (by kernel_rfl) (by kernel_rfl) (dj := 74) (b := _) rfl rfl g74 (fun w hw => x_mv (v := .pointer _) rfl) rfl ?_
           refine LAC.takeG (i := 14) rfl (by kernel_rfl) (by kernel_rfl) (by kernel_rfl) (by kernel_rfl) (dj := 74) (b := _) rfl rfl g74 (fun w hw => x_nep Try.underlying108 rfl rfl) rfl ?_
           refine LAC.takeG (i := 15) rfl (by kernel_rfl) (by kernel_rfl) (by kernel_rfl) (by kernel_rfl) (dj := 74) (b := _) rfl rfl g74 (fun w hw => x_mv (v := .bool _) rfl) rfl ?_
           refine LAC.split (dj := 77) (b := _) rfl (fun g77 => ?_) (fun g77 => ?_)
           ·have h77 := g77
            rw [hqn] at g77; cases g77
           ·have h77 := g77
            refine LAC.takeU (i := 16) rfl (by kernel_rfl) (by kernel_rfl) (by kernel_rfl) (by kernel_rfl) (dj := 77) (b := _) rfl rfl g77 rfl ?_
            refine LAC.takeU (i := 17) rfl (by kernel_rfl) (by kernel_rfl) (by kernel_rfl) (by kernel_rfl) (dj := 77) (b := _) rfl rfl g77 rfl ?_
            refine LAC.takeU (i := 18) rfl (by kernel_rfl) (by kernel_rfl) (by kernel_rfl) (by kernel_rfl) (dj := 77) (b := _) rfl rfl g77 rfl ?_
            refine LAC.takeU (i := 19) rfl (by kernel_rfl) (by kernel_rfl) (by kernel_rfl) (by kernel_rfl) (dj := 77) (b := _) rfl rfl g77 rfl ?_
            refine LAC.takeU (i := 20) rfl (by kernel_rfl) (by kernel_rfl) (by kernel_rfl) (by kernel_rfl) (dj := 77) (b := _) rfl rfl g77 rfl ?_
            refine LAC.takeU (i := 21) rfl (by kernel_rfl) (by kernel_rfl) (by kernel_rfl) (by kernel_rfl) (dj := 77) (b := _) rfl rfl g77 rfl ?_
            refine LAC.takeU (i := 22) rfl (by kernel_rfl) (by kernel_rfl) (by kernel_rfl) (by kernel_rfl) (dj := 77) (b := _) rfl rfl g77 rfl ?_
            refine LAC.takeU (i := 23) rfl (by kernel_rfl) (by kernel_rfl) (by kernel_rfl) (by kernel_rfl) (dj := 77) (b := _) rfl rfl g77 rfl ?_
            refine LAC.takeU (i := 24) rfl (by kernel_rfl) (by kernel_rfl) (by kernel_rfl) (by kernel_rfl) (dj := 77) (b := _) rfl rfl g77 rfl ?_
            refine LAC.takeU (i := 25) rfl (by kernel_rfl) (by kernel_rfl) (by kernel_rfl) (by kernel_rfl) (dj := 77) (b := _) rfl rfl g77 rfl ?_
            refine LAC.takeU (i := 26) rfl (by kernel_rfl) (by kernel_rfl) (by kernel_rfl) (by kernel_rfl) (dj := 77) (b := _) rfl rfl g77 rfl ?_
            refine LAC.takeG (i := 27) rfl (by kernel_rfl) (by kernel_rfl) (by kernel_rfl) (by kernel_rfl) (dj := 74) (b := _) rfl rfl g74 (fun w hw => x_pick_f (v := .bool _) (congrArg Value.bool g77) rfl) rfl ?_
            refine LAC.takeN (i := 28) rfl (by kernel_rfl) (by kernel_rfl) (by kernel_rfl) (by kernel_rfl) (fun w hw => x_pick_f (v := .bool _) (congrArg Value.bool g74) rfl) rfl ?_
            refine LAC.doneF (by kernel_rfl) hB0 ?_
            have hB := hB.carry hB0; have ha := ha.carry hB0; have hb := hb.carry hB0; have hna := hna.carry hB0; have hra := hra.carry hB0; have hnb := hnb.carry hB0; have hrb := hrb.carry hB0; have hbr := hbr.carry hB0; have bx4 := bx4.carry hB0; have bx5 := bx5.carry hB0
            refine thn_n ?_
            refine W.cond (b := false) rfl (fun h => nomatch h) (fun _ => ?_)
            refine W.skip ?_
            refine blk_n ?_
            refine thn_n ?_
            refine W.region ?_
            refine L.val (x_add rfl rfl (wr64 (by omega))) rfl ?_
            refine L.val (x_mv (v := .int _ _) rfl) rfl ?_
            refine L.nil ?_
            refine thn_n ⟨rfl, ?_⟩
            refine ⟨_, ?_, i + 1, rfl, by first | rfl | exact vi (by omega), by first | rfl | exact vi (by omega), by first | rfl | exact vi (by omega), by first | rfl | exact vi (by omega), by first | rfl | exact vi (by omega), by first | rfl | exact vi (by omega), (by first | assumption | omega | rfl), (by first | assumption | omega | rfl), (by first | assumption | omega | rfl), (by first | assumption | omega | rfl), (by first | assumption | omega | rfl), (by first | assumption | omega | rfl), (by first | assumption | omega | rfl), (by first | assumption | omega | rfl), (by first | assumption | omega | rfl), (by first | assumption | omega | rfl), (by first | assumption | omega | rfl), (by rw [all_succ, hall, hrec]; first | simpa using g74 | simpa using g90)⟩
            omega
         ·have h64 := g64
          obtain ⟨h1, bb, oo, hqe, rfl⟩ := hq.resolve_left (fun h => by rw [h.2] at g64; cases g64)
          subst hqe
          have hjp : idxS (a.names.getD i []) b.names < b.parts.length := by omega
          have hrec : recF lo (fitsN lo N) a b i = fitsN lo N (a.parts.getD i default) (b.parts.getD (idxS (a.names.getD i []) b.names) default) := by
            unfold recF
            rw [if_pos h1]
          refine LAC.takeU (i := 3) rfl (by kernel_rfl) (by kernel_rfl) (by kernel_rfl) (by kernel_rfl) (dj := 64) (b := _) rfl rfl g64 rfl ?_
          refine LAC.takeU (i := 4) rfl (by kernel_rfl) (by kernel_rfl) (by kernel_rfl) (by kernel_rfl) (dj := 64) (b := _) rfl rfl g64 rfl ?_
          refine LAC.takeU (i := 5) rfl (by kernel_rfl) (by kernel_rfl) (by kernel_rfl) (by kernel_rfl) (dj := 64) (b := _) rfl rfl g64 rfl ?_
          refine LAC.takeU (i := 6) rfl (by kernel_rfl) (by kernel_rfl) (by kernel_rfl) (by kernel_rfl) (dj := 64) (b := _) rfl rfl g64 rfl ?_
          refine LAC.takeU (i := 7) rfl (by kernel_rfl) (by kernel_rfl) (by kernel_rfl) (by kernel_rfl) (dj := 64) (b := _) rfl rfl g64 rfl ?_
          refine LAC.takeU (i := 8) rfl (by kernel_rfl) (by kernel_rfl) (by kernel_rfl) (by kernel_rfl) (dj := 64) (b := _) rfl rfl g64 rfl ?_
          refine LAC.takeU (i := 9) rfl (by kernel_rfl) (by kernel_rfl) (by kernel_rfl) (by kernel_rfl) (dj := 64) (b := _) rfl rfl g64 rfl ?_
          refine LAC.takeU (i := 10) rfl (by kernel_rfl) (by kernel_rfl) (by kernel_rfl) (by kernel_rfl) (dj := 64) (b := _) rfl rfl g64 rfl ?_
          refine LAC.takeN (i := 11) rfl (by kernel_rfl) (by kernel_rfl) (by kernel_rfl) (by kernel_rfl) (fun w hw => x_pick_f (v := .bool _) (congrArg Value.bool g64) rfl) rfl ?_
          refine LAC.takeN (i := 12) rfl (by kernel_rfl) (by kernel_rfl) (by kernel_rfl) (by kernel_rfl) (fun w hw => x_mv (v := .bool _) rfl) rfl ?_
          refine LAC.takeG (i := 13) rfl (by kernel_rfl) (by kernel_rfl) (by kernel_rfl) (by kernel_rfl) (dj := 74) (b := _) rfl rfl rfl (fun w hw => x_mv (v := .pointer _) rfl) rfl ?_
          refine LAC.takeG (i := 14) rfl (by kernel_rfl) (by kernel_rfl) (by kernel_rfl) (by kernel_rfl) (dj := 74) (b := _) rfl rfl rfl (fun w hw => x_nep Try.underlying108 rfl rfl) rfl ?_
          refine LAC.takeG (i := 15) rfl (by kernel_rfl) (by kernel_rfl) (by kernel_rfl) (by kernel_rfl) (dj := 74) (b := _) rfl rfl rfl (fun w hw => x_mv (v := .bool _) rfl) rfl ?_
          refine LAC.split (dj := 77) (b := _) rfl (fun g77 => ?_) (fun g77 => ?_)
          ·have h77 := g77
           refine LAC.takeG (i := 16) rfl (by kernel_rfl) (by kernel_rfl) (by kernel_rfl) (by kernel_rfl) (dj := 77) (b := _) rfl rfl g77 (fun w hw => x_mv (v := .pointer _) rfl) rfl ?_
           refine LAC.takeG (i := 17) rfl (by kernel_rfl) (by kernel_rfl) (by kernel_rfl) (by kernel_rfl) (dj := 77) (b := _) rfl rfl g77 (fun w hw => x_fa kgrad3_fo25_4 rfl) rfl ?_
           refine LAC.takeG (i := 18) rfl (by kernel_rfl) (by kernel_rfl) (by kernel_rfl) (by kernel_rfl) (dj := 77) (b := _) rfl rfl g77 (fun w hw => x_ld (v := .slice _ _ _) kgrad3_oc23 rfl (hw.keep (bx4.cell0 rfl))) rfl ?_
           refine LAC.takeG (i := 19) rfl (by kernel_rfl) (by kernel_rfl) (by kernel_rfl) (by kernel_rfl) (dj := 77) (b := _) rfl rfl g77 (fun w hw => x_mv (v := .int _ _) rfl) rfl ?_
           refine LAC.takeG (i := 20) rfl (by kernel_rfl) (by kernel_rfl) (by kernel_rfl) (by kernel_rfl) (dj := 77) (b := _) rfl rfl g77 (fun w hw => x_ia (j := i) Try.underlying23 kgrad3_sz25 rfl rfl (by omega) (by omega)) rfl ?_
           refine LAC.takeG (i := 21) rfl (by kernel_rfl) (by kernel_rfl) (by kernel_rfl) (by kernel_rfl) (dj := 77) (b := _) rfl rfl g77 (fun w hw => x_ldn (vs := rowa i) kgrad3_ag25 rfl (hra.five i hip) (hw.keepRow (hra.five i hip) (hra.elemAt hip))) rfl ?_
           refine LAC.takeG (i := 22) rfl (by kernel_rfl) (by kernel_rfl) (by kernel_rfl) (by kernel_rfl) (dj := 77) (b := _) rfl rfl g77 (fun w hw => x_mv (v := .pointer _) rfl) rfl ?_
           refine LAC.takeG (i := 23) rfl (by kernel_rfl) (by kernel_rfl) (by kernel_rfl) (by kernel_rfl) (dj := 77) (b := _) rfl rfl g77 (fun w hw => x_nil rfl) rfl ?_
           refine LAC.takeG (i := 24) rfl (by kernel_rfl) (by kernel_rfl) (by kernel_rfl) (by kernel_rfl) (dj := 77) (b := _) rfl rfl g77 (fun w hw => x_ldn (vs := rowb (idxS (a.names.getD i []) b.names)) kgrad3_ag25 rfl (hrb.five _ hjp) (hw.keepRow (hrb.five _ hjp) (hrb.elemAt hjp))) rfl ?_
           refine LAC.step (rs := [25]) (fun _ => hB0) (by kernel_rfl) (by simp) ⟨⟨_, rfl, ?_⟩, trivial⟩
           refine L.gyes' (dj := 77) (b := _) rfl rfl g77 ?_
           refine L.ret (x_call kgrad3_en82 rfl) rfl (hIab i _ hip hjp _ _ (rowa i) (rowb _) br _ ((hra.each i hip).carry hB0) ((hrb.each _ hjp).carry hB0) (hbr.carry hB0)) ?_
           rintro _ w87 ⟨rfl, hw⟩
           have hB0 := hB0.carry hw
           refine L.nil ?_
           refine thn_n ?_
           refine LAC.takeG (i := 26) rfl (by kernel_rfl) (by kernel_rfl) (by kernel_rfl) (by kernel_rfl) (dj := 77) (b := _) rfl rfl g77 (fun w hw => x_not rfl) rfl ?_
           refine LAC.takeG (i := 27) rfl (by kernel_rfl) (by kernel_rfl) (by kernel_rfl) (by kernel_rfl) (dj := 74) (b := _) rfl rfl rfl (fun w hw => x_pick_t (v := .bool _) (congrArg Value.bool g77) rfl) rfl ?_
           refine LAC.takeN (i := 28) rfl (by kernel_rfl) (by kernel_rfl) (by kernel_rfl) (by kernel_rfl) (fun w hw => x_pick_f (v := .bool _) rfl rfl) rfl ?_
           refine LAC.doneF (by kernel_rfl) hB0 ?_
           have hB := hB.carry hB0; have ha := ha.carry hB0; have hb := hb.carry hB0; have hna := hna.carry hB0; have hra := hra.carry hB0; have hnb := hnb.carry hB0; have hrb := hrb.carry hB0; have hbr := hbr.carry hB0; have bx4 := bx4.carry hB0; have bx5 := bx5.carry hB0
           refine thn_n ?_
           refine W.cond (b := _) rfl (fun g90 => ?_) (fun g90 => ?_)
           ·have h90 := g90
            refine W.seq ?_
            refine W.region ?_
            refine L.val (x_as (v := .bool _) rfl) rfl ?_
            refine L.nil ?_
            refine thn_n ?_
            refine W.ret (blk_r (thn_r (thn_r (blk_r (thn_r (blk_r (thn_r (fin_mk (.inr rfl) ?_))))))))
            exact ⟨vb (by show false = fitsB lo (fitsN lo N) a b; rw [fitsB, if_neg e1, if_neg e2, if_pos e3, all_missR hlt (by rw [hrec]; first | simpa using g74 | simpa using g90)]; rfl), hB⟩
           ·have h90 := g90
            refine W.skip ?_
            refine blk_n ?_
            refine thn_n ?_
            refine W.region ?_
            refine L.val (x_add rfl rfl (wr64 (by omega))) rfl ?_
            refine L.val (x_mv (v := .int _ _) rfl) rfl ?_
            refine L.nil ?_
            refine thn_n ⟨rfl, ?_⟩
            refine ⟨_, ?_, i + 1, rfl, by first | rfl | exact vi (by omega), by first | rfl | exact vi (by omega), by first | rfl | exact vi (by omega), by first | rfl | exact vi (by omega), by first | rfl | exact vi (by omega), by first | rfl | exact vi (by omega), (by first | assumption | omega | rfl), (by first | assumption | omega | rfl), (by first | assumption | omega | rfl), (by first | assumption | omega | rfl), (by first | assumption | omega | rfl), (by first | assumption | omega | rfl), (by first | assumption | omega | rfl), (by first | assumption | omega | rfl), (by first | assumption | omega | rfl), (by first | assumption | omega | rfl), (by first | assumption | omega | rfl), (by rw [all_succ, hall, hrec]; first | simpa using g74 | simpa using g90)⟩
            omega
          ·have h77 := g77
           cases g77
        ·have h55 := dlt_f g55
         have hal : (List.range a.names.length).all (recF lo (fitsN lo N) a b) = true := by rw [show a.names.length = i by omega]; exact hall
         refine W.exit (thn_x (thn_x (blk_hit ?_)))
         refine thn_n ?_
         refine W.seq ?_
         refine W.drawF 15 kgrad3_mixed (fun wF92 hB0 => ?_)
         refine LAC.takeN (i := 0) rfl (by kernel_rfl) (by kernel_rfl) (by kernel_rfl) (by kernel_rfl) (fun w hw => x_mv (v := .pointer _) rfl) rfl ?_
         refine LAC.takeN (i := 1) rfl (by kernel_rfl) (by kernel_rfl) (by kernel_rfl) (by kernel_rfl) (fun w hw => x_nil rfl) rfl ?_
         refine LAC.takeN (i := 2) rfl (by kernel_rfl) (by kernel_rfl) (by kernel_rfl) (by kernel_rfl) (fun w hw => x_fa kgrad3_fo107_0 rfl) rfl ?_
         refine LAC.takeN (i := 3) rfl (by kernel_rfl) (by kernel_rfl) (by kernel_rfl) (by kernel_rfl) (fun w hw => x_ld (v := _) kgrad3_oc105 rfl (hw.keep (hbr.cell0 rfl))) rfl ?_
         refine LAC.takeN (i := 4) rfl (by kernel_rfl) (by kernel_rfl) (by kernel_rfl) (by kernel_rfl) (fun w hw => x_ldn (vs := _) kgrad3_ag25 rfl rfl (hw.keepRow rfl (bx5.row rfl))) rfl ?_
         refine LAC.takeN (i := 5) rfl (by kernel_rfl) (by kernel_rfl) (by kernel_rfl) (by kernel_rfl) (fun w hw => x_ldn (vs := _) kgrad3_ag25 rfl rfl (hw.keepRow rfl (bx4.row rfl))) rfl ?_
         refine LAC.step (rs := [6]) (fun _ => hB0) (by kernel_rfl) (by simp) ⟨⟨_, rfl, ?_⟩, trivial⟩
         refine L.ret (x_callv eg rfl rfl) rfl (hL B A b a _ _ false _ (hb.carry hB0) (ha.carry hB0)) ?_
         rintro _ w98 ⟨rfl, hw⟩
         have hB0 := hB0.carry hw
         refine L.nil ?_
         refine thn_n ?_
         refine LAC.takeN (i := 7) rfl (by kernel_rfl) (by kernel_rfl) (by kernel_rfl) (by kernel_rfl) (fun w hw => x_mv (v := .bool _) rfl) rfl ?_
         refine LAC.split (dj := 99) (b := _) rfl (fun g99 => ?_) (fun g99 => ?_)
         ·have h99 := g99
          refine LAC.takeU (i := 8) rfl (by kernel_rfl) (by kernel_rfl) (by kernel_rfl) (by kernel_rfl) (dj := 99) (b := _) rfl rfl g99 rfl ?_
          refine LAC.takeU (i := 9) rfl (by kernel_rfl) (by kernel_rfl) (by kernel_rfl) (by kernel_rfl) (dj := 99) (b := _) rfl rfl g99 rfl ?_
          refine LAC.takeU (i := 10) rfl (by kernel_rfl) (by kernel_rfl) (by kernel_rfl) (by kernel_rfl) (dj := 99) (b := _) rfl rfl g99 rfl ?_
          refine LAC.takeU (i := 11) rfl (by kernel_rfl) (by kernel_rfl) (by kernel_rfl) (by kernel_rfl) (dj := 99) (b := _) rfl rfl g99 rfl ?_
          refine LAC.takeU (i := 12) rfl (by kernel_rfl) (by kernel_rfl) (by kernel_rfl) (by kernel_rfl) (dj := 99) (b := _) rfl rfl g99 rfl ?_
          refine LAC.takeN (i := 13) rfl (by kernel_rfl) (by kernel_rfl) (by kernel_rfl) (by kernel_rfl) (fun w hw => x_pick_t (v := .bool _) (congrArg Value.bool g99) rfl) rfl ?_
          refine LAC.takeN (i := 14) rfl (by kernel_rfl) (by kernel_rfl) (by kernel_rfl) (by kernel_rfl) (fun w hw => x_as (v := .bool _) rfl) rfl ?_
          refine LAC.doneF (by kernel_rfl) hB0 ?_
          have hB := hB.carry hB0; have ha := ha.carry hB0; have hb := hb.carry hB0; have hna := hna.carry hB0; have hra := hra.carry hB0; have hnb := hnb.carry hB0; have hrb := hrb.carry hB0; have hbr := hbr.carry hB0; have bx4 := bx4.carry hB0; have bx5 := bx5.carry hB0
          refine thn_n ?_
          refine W.ret (blk_r (thn_r (fin_mk (.inr rfl) ?_)))
          exact ⟨vb (by show _ = fitsB lo (fitsN lo N) a b; rw [fitsB, if_neg e1, if_neg e2, if_pos e3, hal, g99]; simp [restF]), hB⟩
         ·have h99 := g99
          refine LAC.takeG (i := 8) rfl (by kernel_rfl) (by kernel_rfl) (by kernel_rfl) (by kernel_rfl) (dj := 99) (b := _) rfl rfl g99 (fun w hw => x_fa kgrad3_fo25_3 rfl) rfl ?_
          refine LAC.takeG (i := 9) rfl (by kernel_rfl) (by kernel_rfl) (by kernel_rfl) (by kernel_rfl) (dj := 99) (b := _) rfl rfl g99 (fun w hw => x_ld (v := .slice _ _ _) kgrad3_oc22 rfl (hw.keep (bx5.cell0 rfl))) rfl ?_
          refine LAC.step (rs := [10]) (fun _ => hB0) (by kernel_rfl) (by simp) ⟨⟨_, rfl, ?_⟩, trivial⟩
          refine L.gyes' (dj := 99) (b := _) rfl rfl g99 ?_
          refine L.val (x_mkfn rfl rfl) rfl ?_
          refine L.nil ?_
          refine thn_n ?_
          refine LAC.step (rs := [11]) (fun _ => hB0) (by kernel_rfl) (by simp) ⟨⟨_, rfl, ?_⟩, trivial⟩
          refine L.gyes' (dj := 99) (b := _) rfl rfl g99 ?_
          refine L.ret (x_call kgrad3_en110 rfl) rfl (cfstr_ok 111 kgrad3_en111 [.pointer (some ⟨w.heap.size, 0, none⟩)] (fun i => !decide (idxS (b.names.getD i []) a.names < a.names.length)) B _ b.names _ (hnb.carry hB0) (fun w1 i g hi => fitclos_ok A _ a _ _ _ _ _ ((ha.carry hB0).carry g) hfsa ((bx4.carry hB0).carry g))) ?_
          rintro _ w103 ⟨rfl, hw⟩
          have hB0 := hB0.carry hw
          refine L.nil ?_
          refine thn_n ?_
          refine LAC.takeG (i := 12) rfl (by kernel_rfl) (by kernel_rfl) (by kernel_rfl) (by kernel_rfl) (dj := 99) (b := _) rfl rfl g99 (fun w hw => x_not rfl) rfl ?_
          refine LAC.takeN (i := 13) rfl (by kernel_rfl) (by kernel_rfl) (by kernel_rfl) (by kernel_rfl) (fun w hw => x_pick_f (v := .bool _) (congrArg Value.bool g99) rfl) rfl ?_
          refine LAC.takeN (i := 14) rfl (by kernel_rfl) (by kernel_rfl) (by kernel_rfl) (by kernel_rfl) (fun w hw => x_as (v := .bool _) rfl) rfl ?_
          refine LAC.doneF (by kernel_rfl) hB0 ?_
          have hB := hB.carry hB0; have ha := ha.carry hB0; have hb := hb.carry hB0; have hna := hna.carry hB0; have hra := hra.carry hB0; have hnb := hnb.carry hB0; have hrb := hrb.carry hB0; have hbr := hbr.carry hB0; have bx4 := bx4.carry hB0; have bx5 := bx5.carry hB0
          refine thn_n ?_
          refine W.ret (blk_r (thn_r (fin_mk (.inr rfl) ?_)))
          exact ⟨vb (by show _ = fitsB lo (fitsN lo N) a b; rw [fitsB, if_neg e1, if_neg e2, if_pos e3, hal, g99]; simp [restF]), hB⟩
      ·have h50 := g50
       have e3 : ¬ (a.kind = 6 ∨ a.kind = 7) := by simp at h50; omega
       refine W.seq ?_
       refine W.region ?_
       refine L.val (x_fa kgrad3_fo25_4 rfl) rfl ?_
       refine L.val (x_ld (v := .slice _ _ _) kgrad3_oc23 rfl (bx4.cell0 rfl)) rfl ?_
       refine L.val (x_len_slice Try.underlying23 rfl) rfl ?_
       refine L.val (x_fa kgrad3_fo25_4 rfl) rfl ?_
       refine L.val (x_ld (v := .slice _ _ _) kgrad3_oc23 rfl (bx5.cell0 rfl)) rfl ?_
       refine L.val (x_len_slice Try.underlying23 rfl) rfl ?_
       refine L.val (x_neq rfl rfl) rfl ?_
       refine L.val (x_as (v := .bool _) rfl) rfl ?_
       refine L.nil ?_
       refine thn_n ?_
       refine W.cond (b := _) rfl (fun g113 => ?_) (fun g113 => ?_)
       ·have h113 := dne_t g113
        refine W.seq ?_
        refine W.region ?_
        refine L.val (x_as (v := .bool _) rfl) rfl ?_
        refine L.nil ?_
        refine thn_n ?_
        refine W.ret (blk_r (thn_r (fin_mk (.inr rfl) ?_)))
        exact ⟨vb (by show false = fitsB lo (fitsN lo N) a b; rw [fitsB, if_neg e1, if_neg e2, if_neg e3, if_pos (by omega)]), hB⟩
       ·have h113 := dne_f g113
        have e4 : a.parts.length = b.parts.length := by omega
        refine W.skip ?_
        refine blk_n ?_
        refine thn_n ?_
        refine W.seq ?_
        refine W.seq ?_
        refine W.region ?_
        refine L.val (x_fa kgrad3_fo25_4 rfl) rfl ?_
        refine L.val (x_ld (v := .slice _ _ _) kgrad3_oc23 rfl (bx4.cell0 rfl)) rfl ?_
        refine L.val (x_len_slice Try.underlying23 rfl) rfl ?_
        refine L.val (x_mv (v := .int _ _) rfl) rfl ?_
        refine L.nil ?_
        refine thn_n ?_
        refine W.block ?_
        refine W.loop (fun m' E w' => ∃ (i : Nat), m' = a.parts.length - i ∧ E 0 = .pointer (some ⟨br, 0, none⟩) ∧ E 4 = .pointer (some ⟨w.heap.size, 0, none⟩) ∧ E 5 = .pointer (some ⟨b5, 0, none⟩) ∧ E 115 = .slice p a.parts.length cap ∧ E 116 = .int .i64 (a.parts.length : Nat) ∧ E 117 = .int .i64 (i : Nat) ∧ (Bel w w') ∧ (ShC A w' [.int .i64 a.kind, S a.of, S a.name, .slice pn a.names.length capn, .slice p a.parts.length cap] a) ∧ (ShC B w' [.int .i64 b.kind, S b.of, S b.name, .slice qn b.names.length capqn, .slice q b.parts.length capq] b) ∧ (StrsAt A w' (.slice pn a.names.length capn) a.names) ∧ (ShRow A w' p rowa a.parts) ∧ (StrsAt B w' (.slice qn b.names.length capqn) b.names) ∧ (ShRow B w' q rowb b.parts) ∧ (Box w' br 107 [.func (.func g) #[] #[]]) ∧ (Box w' w.heap.size 25 [.int .i64 a.kind, S a.of, S a.name, .slice pn a.names.length capn, .slice p a.parts.length cap]) ∧ (Box w' b5 25 [.int .i64 b.kind, S b.of, S b.name, .slice qn b.names.length capqn, .slice q b.parts.length capq]) ∧ (i ≤ a.parts.length) ∧ ((List.range i).all (funF (fitsN lo N) a b) = true)) (a.parts.length) ?_ ?_
        ·exact ⟨0, by omega, by first | rfl | exact vi (by omega), by first | rfl | exact vi (by omega), by first | rfl | exact vi (by omega), by first | rfl | exact vi (by omega), by first | rfl | exact vi (by omega), by first | rfl | exact vi (by omega), (by first | assumption | omega | rfl), (by first | assumption | omega | rfl), (by first | assumption | omega | rfl), (by first | assumption | omega | rfl), (by first | assumption | omega | rfl), (by first | assumption | omega | rfl), (by first | assumption | omega | rfl), (by first | assumption | omega | rfl), (by first | assumption | omega | rfl), (by first | assumption | omega | rfl), (by first | assumption | omega | rfl), (by rfl)⟩
        ·rintro _ E wL118 ⟨i, em, e0, e4, e5, e115, e116, e117, hB, ha, hb, hna, hra, hnb, hrb, hbr, bx4, bx5, hi, hall⟩
         rw [upd_self e0, upd_self e4, upd_self e5, upd_self e115, upd_self e116, upd_self e117]
         refine W.seq ?_
         refine W.region ?_
         refine L.val (x_lss rfl rfl) rfl ?_
         refine L.nil ?_
         refine thn_n ?_
         refine W.seq ?_
         refine W.cond (b := _) rfl (fun g118 => ?_) (fun g118 => ?_)
         ·have h118 := of_decide_eq_true g118
          have hip : i < a.parts.length := by omega
          have hjp : i < b.parts.length := by omega
          obtain ⟨bp, op, rfl, hcp⟩ := hra.elem hip
          obtain ⟨bq, oq, rfl, hcq⟩ := hrb.elem hjp
          have hx5 := bx5.lt
          refine W.skip ?_
          refine thn_n ?_
          refine W.seq ?_
          refine W.block ?_
          refine W.seq ?_
          refine W.region ?_
          refine L.val (x_mv (v := .int _ _) rfl) rfl ?_
          refine L.val (x_as (v := .int _ _) rfl) rfl ?_
          refine L.nil ?_
          refine thn_n ?_
          refine W.seq ?_
          refine W.drawF 14 kgrad3_mixed (fun wF120 hB0 => ?_)
          refine LAC.takeN (i := 0) rfl (by kernel_rfl) (by kernel_rfl) (by kernel_rfl) (by kernel_rfl) (fun w hw => x_fa kgrad3_fo25_4 rfl) rfl ?_
          refine LAC.takeN (i := 1) rfl (by kernel_rfl) (by kernel_rfl) (by kernel_rfl) (by kernel_rfl) (fun w hw => x_ld (v := .slice _ _ _) kgrad3_oc23 rfl (hw.keep (bx4.cell0 rfl))) rfl ?_
          refine LAC.takeN (i := 2) rfl (by kernel_rfl) (by kernel_rfl) (by kernel_rfl) (by kernel_rfl) (fun w hw => x_mv (v := .int _ _) rfl) rfl ?_
          refine LAC.takeN (i := 3) rfl (by kernel_rfl) (by kernel_rfl) (by kernel_rfl) (by kernel_rfl) (fun w hw => x_ia (j := i) Try.underlying23 kgrad3_sz25 rfl rfl (by omega) (by omega)) rfl ?_
          refine LAC.takeN (i := 4) rfl (by kernel_rfl) (by kernel_rfl) (by kernel_rfl) (by kernel_rfl) (fun w hw => x_ldn (vs := rowa i) kgrad3_ag25 rfl (hra.five i hip) (hw.keepRow (hra.five i hip) (hra.elemAt hip))) rfl ?_
          refine LAC.takeN (i := 5) rfl (by kernel_rfl) (by kernel_rfl) (by kernel_rfl) (by kernel_rfl) (fun w hw => x_fa kgrad3_fo25_4 rfl) rfl ?_
          refine LAC.takeN (i := 6) rfl (by kernel_rfl) (by kernel_rfl) (by kernel_rfl) (by kernel_rfl) (fun w hw => x_ld (v := .slice _ _ _) kgrad3_oc23 rfl (hw.keep (bx5.cell0 rfl))) rfl ?_
          refine LAC.takeN (i := 7) rfl (by kernel_rfl) (by kernel_rfl) (by kernel_rfl) (by kernel_rfl) (fun w hw => x_mv (v := .int _ _) rfl) rfl ?_
          refine LAC.takeN (i := 8) rfl (by kernel_rfl) (by kernel_rfl) (by kernel_rfl) (by kernel_rfl) (fun w hw => x_ia (j := i) Try.underlying23 kgrad3_sz25 rfl rfl (by omega) (by omega)) rfl ?_
          refine LAC.takeN (i := 9) rfl (by kernel_rfl) (by kernel_rfl) (by kernel_rfl) (by kernel_rfl) (fun w hw => x_ldn (vs := rowb i) kgrad3_ag25 rfl (hrb.five i hjp) (hw.keepRow (hrb.five i hjp) (hrb.elemAt hjp))) rfl ?_
          refine LAC.step (rs := [10, 11]) (fun _ => hB0) (by kernel_rfl) (by simp) ⟨⟨_, rfl, ?_⟩, ⟨_, rfl, ?_⟩, trivial⟩
          ·have hs11 := hB0.size
           refine L.alloc (cs := [Value.int .i64 0, S [], S [], Value.slice none 0 0, Value.slice none 0 0]) kgrad3_zr25 rfl rfl (fun w11 bx11 hw hz11 => ?_)
           have hB0 := hB0.carry hw
           refine L.nil ?_
           refine thn_n ?_
           refine LAC.step (rs := [11]) (fun _ => hB0) (by kernel_rfl) (by simp) ⟨⟨_, rfl, ?_⟩, trivial⟩
           have hs12 := hB0.size
           refine L.alloc (cs := [Value.int .i64 0, S [], S [], Value.slice none 0 0, Value.slice none 0 0]) kgrad3_zr25 rfl rfl (fun w12 bx12 hw hz12 => ?_)
           have hB0 := hB0.carry hw; have bx11 := bx11.carry hw
           refine L.nil ?_
           refine thn_n ?_
           refine LAC.step (rs := [12]) (fun _ => hB0) (by kernel_rfl) (by simp) ⟨⟨_, rfl, ?_⟩, trivial⟩
           refine L.setRow kgrad3_ag25 rfl rfl bx11 rfl (hra.five i hip) (ShC.one (hra.each i hip)) (fun wl133 bx11 hw hzl133 => ?_)
           have hB0 := hB0.set hw (by omega); have bx12 := bx12.carryR hw (by omega)
           refine L.nil ?_
           refine thn_n ?_
           refine LAC.step (rs := [13]) (fun _ => hB0) (by kernel_rfl) (by simp) ⟨⟨_, rfl, ?_⟩, trivial⟩
           refine L.setRow kgrad3_ag25 rfl rfl bx12 rfl (hrb.five i hjp) (ShC.one (hrb.each i hjp)) (fun wl134 bx12 hw hzl134 => ?_)
           have hB0 := hB0.set hw (by omega); have bx11 := bx11.carryR hw (by omega)
           refine L.nil ?_
           refine thn_n ?_
           refine LAC.doneF (by kernel_rfl) hB0 ?_
           have hB := hB.carry hB0; have ha := ha.carry hB0; have hb := hb.carry hB0; have hna := hna.carry hB0; have hra := hra.carry hB0; have hnb := hnb.carry hB0; have hrb := hrb.carry hB0; have hbr := hbr.carry hB0; have bx4 := bx4.carry hB0; have bx5 := bx5.carry hB0
           refine thn_n ?_
           refine W.seq ?_
           refine W.seq ?_
           refine W.region ?_
           refine L.val (x_fa kgrad3_fo25_0 rfl) rfl ?_
           refine L.val (x_ld (v := .int _ _) kgrad3_oc3 rfl (bx4.cell0 rfl)) rfl ?_
           refine L.val (x_eql rfl rfl) rfl ?_
           refine L.val (x_mv (v := .bool _) rfl) rfl ?_
           refine' L.group0 6 134 139 139 133 true rfl ?_ ?_ ?_
           rotate_left 1
           ·intro g133
            have h133 := of_decide_eq_true g133
            refine L.gyes' (dj := 133) (b := _) rfl rfl g133 ?_
            refine L.val (x_mv (v := .int _ _) rfl) rfl ?_
            refine L.gyes' (dj := 133) (b := _) rfl rfl g133 ?_
            refine L.val (x_fa kgrad3_fo25_4 rfl) rfl ?_
            refine L.gyes' (dj := 133) (b := _) rfl rfl g133 ?_
            refine L.val (x_ld (v := .slice _ _ _) kgrad3_oc23 rfl (bx4.cell0 rfl)) rfl ?_
            refine L.gyes' (dj := 133) (b := _) rfl rfl g133 ?_
            refine L.val (x_len_slice Try.underlying23 rfl) rfl ?_
            refine L.gyes' (dj := 133) (b := _) rfl rfl g133 ?_
            refine L.val (x_sub rfl rfl (wr64 (by omega))) rfl ?_
            refine L.gyes' (dj := 133) (b := _) rfl rfl g133 ?_
            refine L.val (x_lss rfl rfl) rfl ?_
            refine L.nil ?_
            refine thn_n ⟨rfl, rfl, ?_, rfl⟩
            repeat (first | exact jeq.refl _ _ _ | refine jeq.upd rfl ?_ | refine jeq.jk rfl rfl ?_)
           ·intro g133
            refine L.gno (dj := 133) (b := _) rfl rfl g133 rfl ?_
            refine L.gno (dj := 133) (b := _) rfl rfl g133 rfl ?_
            refine L.gno (dj := 133) (b := _) rfl rfl g133 rfl ?_
            refine L.gno (dj := 133) (b := _) rfl rfl g133 rfl ?_
            refine L.gno (dj := 133) (b := _) rfl rfl g133 rfl ?_
            refine L.gno (dj := 133) (b := _) rfl rfl g133 rfl ?_
            refine L.nil (thn_n ⟨rfl, rfl, ?_⟩)
            repeat (first | exact jeq.refl _ _ _ | refine jeq.upd rfl ?_ | refine jeq.jk rfl rfl ?_)
           intro J133 j133
           refine L.val (x_and rfl j133) rfl ?_
           refine L.nil ?_
           refine thn_n ?_
           refine W.cond (b := _) rfl (fun g140 => ?_) (fun g140 => ?_)
           ·have h140 := g140
            have hfun : funF (fitsN lo N) a b i = fitsN lo N (b.parts.getD i default) (a.parts.getD i default) := by
              unfold funF; rw [if_pos (by simp at h140; omega)]
            refine W.region ?_
            refine L.val (x_ldn (vs := rowb i) kgrad3_ag25 rfl (hrb.five i hjp) (bx12.row (hrb.five i hjp))) rfl ?_
            refine L.val (x_ldn (vs := rowa i) kgrad3_ag25 rfl (hra.five i hip) (bx11.row (hra.five i hip))) rfl ?_
            refine L.setRow kgrad3_ag25 rfl rfl bx11 (hra.five i hip) (hrb.five i hjp) (ShC.one (hrb.each i hjp)) (fun wl148 bx11 hw hzl148 => ?_)
            have hsz := hB.size
            have hB := hB.set hw (by omega); have ha := ha.carryR hw (fun j e => hA j (by have e : j = _ := e; omega)); have hb := hb.carryR hw (fun j e => hBu j (by have e : j = _ := e; omega)); have hna := hna.carryR hw (fun j e => hA j (by have e : j = _ := e; omega)); have hra := hra.carryR hw (fun j e => hA j (by have e : j = _ := e; omega)); have hnb := hnb.carryR hw (fun j e => hBu j (by have e : j = _ := e; omega)); have hrb := hrb.carryR hw (fun j e => hBu j (by have e : j = _ := e; omega)); have hbr := hbr.carryR hw (by omega); have bx4 := bx4.carryR hw (by omega); have bx5 := bx5.carryR hw (by omega); have bx12 := bx12.carryR hw (by omega)
            refine L.setRow kgrad3_ag25 rfl rfl bx12 (hrb.five i hjp) (hra.five i hip) (ShC.one (hra.each i hip)) (fun wl149 bx12 hw hzl149 => ?_)
            have hsz := hB.size
            have hB := hB.set hw (by omega); have ha := ha.carryR hw (fun j e => hA j (by have e : j = _ := e; omega)); have hb := hb.carryR hw (fun j e => hBu j (by have e : j = _ := e; omega)); have hna := hna.carryR hw (fun j e => hA j (by have e : j = _ := e; omega)); have hra := hra.carryR hw (fun j e => hA j (by have e : j = _ := e; omega)); have hnb := hnb.carryR hw (fun j e => hBu j (by have e : j = _ := e; omega)); have hrb := hrb.carryR hw (fun j e => hBu j (by have e : j = _ := e; omega)); have hbr := hbr.carryR hw (by omega); have bx4 := bx4.carryR hw (by omega); have bx5 := bx5.carryR hw (by omega); have bx11 := bx11.carryR hw (by omega)
            refine L.nil ?_
            refine thn_n ?_
            refine W.seq ?_
            refine W.region ?_
            refine L.val (x_mv (v := .pointer _) rfl) rfl ?_
            refine L.val (x_ldn (vs := rowb i) kgrad3_ag25 rfl (hrb.five i hjp) (bx11.row (hrb.five i hjp))) rfl ?_
            refine L.val (x_ldn (vs := rowa i) kgrad3_ag25 rfl (hra.five i hip) (bx12.row (hra.five i hip))) rfl ?_
            refine L.ret (x_call kgrad3_en82 rfl) rfl (hIba i i hip hjp _ _ (rowb i) (rowa i) br _ (hrb.each i hjp) (hra.each i hip) hbr) ?_
            rintro _ w146 ⟨rfl, hw⟩
            have hB := hB.carry hw; have ha := ha.carry hw; have hb := hb.carry hw; have hna := hna.carry hw; have hra := hra.carry hw; have hnb := hnb.carry hw; have hrb := hrb.carry hw; have hbr := hbr.carry hw; have bx4 := bx4.carry hw; have bx5 := bx5.carry hw; have bx11 := bx11.carry hw; have bx12 := bx12.carry hw
            refine L.val (x_not rfl) rfl ?_
            refine L.nil ?_
            refine thn_n ?_
            refine W.cond (b := _) rfl (fun g147 => ?_) (fun g147 => ?_)
            ·have h147 := (not_t g147)
             refine W.seq ?_
             refine W.region ?_
             refine L.val (x_as (v := .bool _) rfl) rfl ?_
             refine L.nil ?_
             refine thn_n ?_
             refine W.ret (blk_r (thn_r (thn_r (blk_r (thn_r (fin_mk (.inr rfl) ?_))))))
             exact ⟨vb (by show false = fitsB lo (fitsN lo N) a b; rw [fitsB, if_neg e1, if_neg e2, if_neg e3, if_neg (by omega), all_missR hip (by rw [hfun]; simpa using g147)]), hB⟩
            ·have h147 := (not_f g147)
             refine W.skip ?_
             refine blk_n ?_
             refine thn_n ?_
             refine W.region ?_
             refine L.val (x_add rfl rfl (wr64 (by omega))) rfl ?_
             refine L.val (x_mv (v := .int _ _) rfl) rfl ?_
             refine L.nil ?_
             refine thn_n ⟨rfl, ?_⟩
             refine ⟨_, ?_, i + 1, rfl, by first | rfl | exact vi (by omega), by first | rfl | exact vi (by omega), by first | rfl | exact vi (by omega), by first | rfl | exact vi (by omega), by first | rfl | exact vi (by omega), by first | rfl | exact vi (by omega), (by first | assumption | omega | rfl), (by first | assumption | omega | rfl), (by first | assumption | omega | rfl), (by first | assumption | omega | rfl), (by first | assumption | omega | rfl), (by first | assumption | omega | rfl), (by first | assumption | omega | rfl), (by first | assumption | omega | rfl), (by first | assumption | omega | rfl), (by first | assumption | omega | rfl), (by first | assumption | omega | rfl), (by rw [all_succ, hall, hfun]; simpa using g147)⟩
             omega
           ·have h140 := g140
            have hfun : funF (fitsN lo N) a b i = fitsN lo N (a.parts.getD i default) (b.parts.getD i default) := by
              unfold funF; rw [if_neg (by simp at h140; omega)]
            refine W.skip ?_
            refine thn_n ?_
            refine W.seq ?_
            refine W.region ?_
            refine L.val (x_mv (v := .pointer _) rfl) rfl ?_
            refine L.val (x_ldn (vs := rowa i) kgrad3_ag25 rfl (hra.five i hip) (bx11.row (hra.five i hip))) rfl ?_
            refine L.val (x_ldn (vs := rowb i) kgrad3_ag25 rfl (hrb.five i hjp) (bx12.row (hrb.five i hjp))) rfl ?_
            refine L.ret (x_call kgrad3_en82 rfl) rfl (hIab i i hip hjp _ _ (rowa i) (rowb i) br _ (hra.each i hip) (hrb.each i hjp) hbr) ?_
            rintro _ w146 ⟨rfl, hw⟩
            have hB := hB.carry hw; have ha := ha.carry hw; have hb := hb.carry hw; have hna := hna.carry hw; have hra := hra.carry hw; have hnb := hnb.carry hw; have hrb := hrb.carry hw; have hbr := hbr.carry hw; have bx4 := bx4.carry hw; have bx5 := bx5.carry hw; have bx11 := bx11.carry hw; have bx12 := bx12.carry hw
            refine L.val (x_not rfl) rfl ?_
            refine L.nil ?_
            refine thn_n ?_
            refine W.cond (b := _) rfl (fun g147 => ?_) (fun g147 => ?_)
            ·have h147 := (not_t g147)
             refine W.seq ?_
             refine W.region ?_
             refine L.val (x_as (v := .bool _) rfl) rfl ?_
             refine L.nil ?_
             refine thn_n ?_
             refine W.ret (blk_r (thn_r (thn_r (blk_r (thn_r (fin_mk (.inr rfl) ?_))))))
             exact ⟨vb (by show false = fitsB lo (fitsN lo N) a b; rw [fitsB, if_neg e1, if_neg e2, if_neg e3, if_neg (by omega), all_missR hip (by rw [hfun]; simpa using g147)]), hB⟩
            ·have h147 := (not_f g147)
             refine W.skip ?_
             refine blk_n ?_
             refine thn_n ?_
             refine W.region ?_
             refine L.val (x_add rfl rfl (wr64 (by omega))) rfl ?_
             refine L.val (x_mv (v := .int _ _) rfl) rfl ?_
             refine L.nil ?_
             refine thn_n ⟨rfl, ?_⟩
             refine ⟨_, ?_, i + 1, rfl, by first | rfl | exact vi (by omega), by first | rfl | exact vi (by omega), by first | rfl | exact vi (by omega), by first | rfl | exact vi (by omega), by first | rfl | exact vi (by omega), by first | rfl | exact vi (by omega), (by first | assumption | omega | rfl), (by first | assumption | omega | rfl), (by first | assumption | omega | rfl), (by first | assumption | omega | rfl), (by first | assumption | omega | rfl), (by first | assumption | omega | rfl), (by first | assumption | omega | rfl), (by first | assumption | omega | rfl), (by first | assumption | omega | rfl), (by first | assumption | omega | rfl), (by first | assumption | omega | rfl), (by rw [all_succ, hall, hfun]; simpa using g147)⟩
             omega
          ·have hs12 := hB0.size
           refine L.alloc (cs := [Value.int .i64 0, S [], S [], Value.slice none 0 0, Value.slice none 0 0]) kgrad3_zr25 rfl rfl (fun w12 bx12 hw hz12 => ?_)
           have hB0 := hB0.carry hw
           refine L.nil ?_
           refine thn_n ?_
           refine LAC.step (rs := [10]) (fun _ => hB0) (by kernel_rfl) (by simp) ⟨⟨_, rfl, ?_⟩, trivial⟩
           have hs11 := hB0.size
           refine L.alloc (cs := [Value.int .i64 0, S [], S [], Value.slice none 0 0, Value.slice none 0 0]) kgrad3_zr25 rfl rfl (fun w11 bx11 hw hz11 => ?_)
           have hB0 := hB0.carry hw; have bx12 := bx12.carry hw
           refine L.nil ?_
           refine thn_n ?_
           refine LAC.step (rs := [12]) (fun _ => hB0) (by kernel_rfl) (by simp) ⟨⟨_, rfl, ?_⟩, trivial⟩
           refine L.setRow kgrad3_ag25 rfl rfl bx11 rfl (hra.five i hip) (ShC.one (hra.each i hip)) (fun wl133 bx11 hw hzl133 => ?_)
           have hB0 := hB0.set hw (by omega); have bx12 := bx12.carryR hw (by omega)
           refine L.nil ?_
           refine thn_n ?_
           refine LAC.step (rs := [13]) (fun _ => hB0) (by kernel_rfl) (by simp) ⟨⟨_, rfl, ?_⟩, trivial⟩
           refine L.setRow kgrad3_ag25 rfl rfl bx12 rfl (hrb.five i hjp) (ShC.one (hrb.each i hjp)) (fun wl134 bx12 hw hzl134 => ?_)
           have hB0 := hB0.set hw (by omega); have bx11 := bx11.carryR hw (by omega)
           refine L.nil ?_
           refine thn_n ?_
           refine LAC.doneF (by kernel_rfl) hB0 ?_
           have hB := hB.carry hB0; have ha := ha.carry hB0; have hb := hb.carry hB0; have hna := hna.carry hB0; have hra := hra.carry hB0; have hnb := hnb.carry hB0; have hrb := hrb.carry hB0; have hbr := hbr.carry hB0; have bx4 := bx4.carry hB0; have bx5 := bx5.carry hB0
           refine thn_n ?_
           refine W.seq ?_
           refine W.seq ?_
           refine W.region ?_
           refine L.val (x_fa kgrad3_fo25_0 rfl) rfl ?_
           refine L.val (x_ld (v := .int _ _) kgrad3_oc3 rfl (bx4.cell0 rfl)) rfl ?_
           refine L.val (x_eql rfl rfl) rfl ?_
           refine L.val (x_mv (v := .bool _) rfl) rfl ?_
           refine' L.group0 6 134 139 139 133 true rfl ?_ ?_ ?_
           rotate_left 1
           ·intro g133
            have h133 := of_decide_eq_true g133
            refine L.gyes' (dj := 133) (b := _) rfl rfl g133 ?_
            refine L.val (x_mv (v := .int _ _) rfl) rfl ?_
            refine L.gyes' (dj := 133) (b := _) rfl rfl g133 ?_
            refine L.val (x_fa kgrad3_fo25_4 rfl) rfl ?_
            refine L.gyes' (dj := 133) (b := _) rfl rfl g133 ?_
            refine L.val (x_ld (v := .slice _ _ _) kgrad3_oc23 rfl (bx4.cell0 rfl)) rfl ?_
            refine L.gyes' (dj := 133) (b := _) rfl rfl g133 ?_
            refine L.val (x_len_slice Try.underlying23 rfl) rfl ?_
            refine L.gyes' (dj := 133) (b := _) rfl rfl g133 ?_
            refine L.val (x_sub rfl rfl (wr64 (by omega))) rfl ?_
            refine L.gyes' (dj := 133) (b := _) rfl rfl g133 ?_
            refine L.val (x_lss rfl rfl) rfl ?_
            refine L.nil ?_
            refine thn_n ⟨rfl, rfl, ?_, rfl⟩
            repeat (first | exact jeq.refl _ _ _ | refine jeq.upd rfl ?_ | refine jeq.jk rfl rfl ?_)
           ·intro g133
            refine L.gno (dj := 133) (b := _) rfl rfl g133 rfl ?_
            refine L.gno (dj := 133) (b := _) rfl rfl g133 rfl ?_
            refine L.gno (dj := 133) (b := _) rfl rfl g133 rfl ?_
            refine L.gno (dj := 133) (b := _) rfl rfl g133 rfl ?_
            refine L.gno (dj := 133) (b := _) rfl rfl g133 rfl ?_
            refine L.gno (dj := 133) (b := _) rfl rfl g133 rfl ?_
            refine L.nil (thn_n ⟨rfl, rfl, ?_⟩)
            repeat (first | exact jeq.refl _ _ _ | refine jeq.upd rfl ?_ | refine jeq.jk rfl rfl ?_)
           intro J133 j133
           refine L.val (x_and rfl j133) rfl ?_
           refine L.nil ?_
           refine thn_n ?_
           refine W.cond (b := _) rfl (fun g140 => ?_) (fun g140 => ?_)
           ·have h140 := g140
            have hfun : funF (fitsN lo N) a b i = fitsN lo N (b.parts.getD i default) (a.parts.getD i default) := by
              unfold funF; rw [if_pos (by simp at h140; omega)]
            refine W.region ?_
            refine L.val (x_ldn (vs := rowb i) kgrad3_ag25 rfl (hrb.five i hjp) (bx12.row (hrb.five i hjp))) rfl ?_
            refine L.val (x_ldn (vs := rowa i) kgrad3_ag25 rfl (hra.five i hip) (bx11.row (hra.five i hip))) rfl ?_
            refine L.setRow kgrad3_ag25 rfl rfl bx11 (hra.five i hip) (hrb.five i hjp) (ShC.one (hrb.each i hjp)) (fun wl148 bx11 hw hzl148 => ?_)
            have hsz := hB.size
            have hB := hB.set hw (by omega); have ha := ha.carryR hw (fun j e => hA j (by have e : j = _ := e; omega)); have hb := hb.carryR hw (fun j e => hBu j (by have e : j = _ := e; omega)); have hna := hna.carryR hw (fun j e => hA j (by have e : j = _ := e; omega)); have hra := hra.carryR hw (fun j e => hA j (by have e : j = _ := e; omega)); have hnb := hnb.carryR hw (fun j e => hBu j (by have e : j = _ := e; omega)); have hrb := hrb.carryR hw (fun j e => hBu j (by have e : j = _ := e; omega)); have hbr := hbr.carryR hw (by omega); have bx4 := bx4.carryR hw (by omega); have bx5 := bx5.carryR hw (by omega); have bx12 := bx12.carryR hw (by omega)
            refine L.setRow kgrad3_ag25 rfl rfl bx12 (hrb.five i hjp) (hra.five i hip) (ShC.one (hra.each i hip)) (fun wl149 bx12 hw hzl149 => ?_)
            have hsz := hB.size
            have hB := hB.set hw (by omega); have ha := ha.carryR hw (fun j e => hA j (by have e : j = _ := e; omega)); have hb := hb.carryR hw (fun j e => hBu j (by have e : j = _ := e; omega)); have hna := hna.carryR hw (fun j e => hA j (by have e : j = _ := e; omega)); have hra := hra.carryR hw (fun j e => hA j (by have e : j = _ := e; omega)); have hnb := hnb.carryR hw (fun j e => hBu j (by have e : j = _ := e; omega)); have hrb := hrb.carryR hw (fun j e => hBu j (by have e : j = _ := e; omega)); have hbr := hbr.carryR hw (by omega); have bx4 := bx4.carryR hw (by omega); have bx5 := bx5.carryR hw (by omega); have bx11 := bx11.carryR hw (by omega)
            refine L.nil ?_
            refine thn_n ?_
            refine W.seq ?_
            refine W.region ?_
            refine L.val (x_mv (v := .pointer _) rfl) rfl ?_
            refine L.val (x_ldn (vs := rowb i) kgrad3_ag25 rfl (hrb.five i hjp) (bx11.row (hrb.five i hjp))) rfl ?_
            refine L.val (x_ldn (vs := rowa i) kgrad3_ag25 rfl (hra.five i hip) (bx12.row (hra.five i hip))) rfl ?_
            refine L.ret (x_call kgrad3_en82 rfl) rfl (hIba i i hip hjp _ _ (rowb i) (rowa i) br _ (hrb.each i hjp) (hra.each i hip) hbr) ?_
            rintro _ w146 ⟨rfl, hw⟩
            have hB := hB.carry hw; have ha := ha.carry hw; have hb := hb.carry hw; have hna := hna.carry hw; have hra := hra.carry hw; have hnb := hnb.carry hw; have hrb := hrb.carry hw; have hbr := hbr.carry hw; have bx4 := bx4.carry hw; have bx5 := bx5.carry hw; have bx11 := bx11.carry hw; have bx12 := bx12.carry hw
            refine L.val (x_not rfl) rfl ?_
            refine L.nil ?_
            refine thn_n ?_
            refine W.cond (b := _) rfl (fun g147 => ?_) (fun g147 => ?_)
            ·have h147 := (not_t g147)
             refine W.seq ?_
             refine W.region ?_
             refine L.val (x_as (v := .bool _) rfl) rfl ?_
             refine L.nil ?_
             refine thn_n ?_
             refine W.ret (blk_r (thn_r (thn_r (blk_r (thn_r (fin_mk (.inr rfl) ?_))))))
             exact ⟨vb (by show false = fitsB lo (fitsN lo N) a b; rw [fitsB, if_neg e1, if_neg e2, if_neg e3, if_neg (by omega), all_missR hip (by rw [hfun]; simpa using g147)]), hB⟩
            ·have h147 := (not_f g147)
             refine W.skip ?_
             refine blk_n ?_
             refine thn_n ?_
             refine W.region ?_
             refine L.val (x_add rfl rfl (wr64 (by omega))) rfl ?_
             refine L.val (x_mv (v := .int _ _) rfl) rfl ?_
             refine L.nil ?_
             refine thn_n ⟨rfl, ?_⟩
             refine ⟨_, ?_, i + 1, rfl, by first | rfl | exact vi (by omega), by first | rfl | exact vi (by omega), by first | rfl | exact vi (by omega), by first | rfl | exact vi (by omega), by first | rfl | exact vi (by omega), by first | rfl | exact vi (by omega), (by first | assumption | omega | rfl), (by first | assumption | omega | rfl), (by first | assumption | omega | rfl), (by first | assumption | omega | rfl), (by first | assumption | omega | rfl), (by first | assumption | omega | rfl), (by first | assumption | omega | rfl), (by first | assumption | omega | rfl), (by first | assumption | omega | rfl), (by first | assumption | omega | rfl), (by first | assumption | omega | rfl), (by rw [all_succ, hall, hfun]; simpa using g147)⟩
             omega
           ·have h140 := g140
            have hfun : funF (fitsN lo N) a b i = fitsN lo N (a.parts.getD i default) (b.parts.getD i default) := by
              unfold funF; rw [if_neg (by simp at h140; omega)]
            refine W.skip ?_
            refine thn_n ?_
            refine W.seq ?_
            refine W.region ?_
            refine L.val (x_mv (v := .pointer _) rfl) rfl ?_
            refine L.val (x_ldn (vs := rowa i) kgrad3_ag25 rfl (hra.five i hip) (bx11.row (hra.five i hip))) rfl ?_
            refine L.val (x_ldn (vs := rowb i) kgrad3_ag25 rfl (hrb.five i hjp) (bx12.row (hrb.five i hjp))) rfl ?_
            refine L.ret (x_call kgrad3_en82 rfl) rfl (hIab i i hip hjp _ _ (rowa i) (rowb i) br _ (hra.each i hip) (hrb.each i hjp) hbr) ?_
            rintro _ w146 ⟨rfl, hw⟩
            have hB := hB.carry hw; have ha := ha.carry hw; have hb := hb.carry hw; have hna := hna.carry hw; have hra := hra.carry hw; have hnb := hnb.carry hw; have hrb := hrb.carry hw; have hbr := hbr.carry hw; have bx4 := bx4.carry hw; have bx5 := bx5.carry hw; have bx11 := bx11.carry hw; have bx12 := bx12.carry hw
            refine L.val (x_not rfl) rfl ?_
            refine L.nil ?_
            refine thn_n ?_
            refine W.cond (b := _) rfl (fun g147 => ?_) (fun g147 => ?_)
            ·have h147 := (not_t g147)
             refine W.seq ?_
             refine W.region ?_
             refine L.val (x_as (v := .bool _) rfl) rfl ?_
             refine L.nil ?_
             refine thn_n ?_
             refine W.ret (blk_r (thn_r (thn_r (blk_r (thn_r (fin_mk (.inr rfl) ?_))))))
             exact ⟨vb (by show false = fitsB lo (fitsN lo N) a b; rw [fitsB, if_neg e1, if_neg e2, if_neg e3, if_neg (by omega), all_missR hip (by rw [hfun]; simpa using g147)]), hB⟩
            ·have h147 := (not_f g147)
             refine W.skip ?_
             refine blk_n ?_
             refine thn_n ?_
             refine W.region ?_
             refine L.val (x_add rfl rfl (wr64 (by omega))) rfl ?_
             refine L.val (x_mv (v := .int _ _) rfl) rfl ?_
             refine L.nil ?_
             refine thn_n ⟨rfl, ?_⟩
             refine ⟨_, ?_, i + 1, rfl, by first | rfl | exact vi (by omega), by first | rfl | exact vi (by omega), by first | rfl | exact vi (by omega), by first | rfl | exact vi (by omega), by first | rfl | exact vi (by omega), by first | rfl | exact vi (by omega), (by first | assumption | omega | rfl), (by first | assumption | omega | rfl), (by first | assumption | omega | rfl), (by first | assumption | omega | rfl), (by first | assumption | omega | rfl), (by first | assumption | omega | rfl), (by first | assumption | omega | rfl), (by first | assumption | omega | rfl), (by first | assumption | omega | rfl), (by first | assumption | omega | rfl), (by first | assumption | omega | rfl), (by rw [all_succ, hall, hfun]; simpa using g147)⟩
             omega
         ·have h118 := dlt_f g118
          refine W.exit (thn_x (thn_x (blk_hit ?_)))
          refine thn_n ?_
          refine W.seq ?_
          refine W.region ?_
          refine L.val (x_as (v := .bool _) rfl) rfl ?_
          refine L.nil ?_
          refine thn_n ?_
          refine W.ret (fin_mk (.inr rfl) ?_)
          exact ⟨vb (by show true = fitsB lo (fitsN lo N) a b; rw [fitsB, if_neg e1, if_neg e2, if_neg e3, if_neg (by omega), show a.parts.length = i by omega, hall]), hB⟩
end Go.Gx
