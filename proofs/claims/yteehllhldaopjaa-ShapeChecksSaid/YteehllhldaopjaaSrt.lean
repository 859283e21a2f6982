/- The library's sort of strings: insertion, heap, partitions, pivots, each as the plain function. Conditions: none. -/
import Derived.Sort.Walk0
import Derived.Sort.AssemblyPlain
import Derived.Test.YteehllhldaopjaaDraw
import Derived.Test.YteehllhldaopjaaProg
namespace Go.Gx
open Go.Proofs Go.Sort
theorem ksrt_en183 : Go.Proofs.Enters Try.prog 183 := Go.Proofs.enters_of Try.func183 (by kernel_rfl) rfl
theorem ksrt_en187 : Go.Proofs.Enters Try.prog 187 := Go.Proofs.enters_of Try.func187 (by kernel_rfl) rfl
theorem ksrt_en190 : Go.Proofs.Enters Try.prog 190 := Go.Proofs.enters_of Try.func190 (by kernel_rfl) rfl
theorem ksrt_mixed : Try.prog.follows .mixedOrders = true := by kernel_rfl
theorem ksrt_oc9 : oneCellT Try.prog 9 = true := by kernel_rfl
theorem ksrt_sz9 : (Try.prog.info? 9).map (·.size) = some 1 := by kernel_rfl

theorem nan_ok (x : Str) (w : World) : Ret Try.prog 190 #[S x] w fun v w' => v = .bool false ∧ Bel w w' := by
  refine ret_of_W Try.func190 rfl (Nat.le_of_ble_eq_true rfl) (res1 rfl) ?_
  have hB := Gr.refl (fun _ => False) w
  refine W.seq ?_
  refine W.region ?_
  refine L.val (x_as (v := .bool _) rfl) rfl ?_
  refine L.nil ?_
  refine thn_n ?_
  refine W.seq ?_
  refine W.region ?_
  refine L.val (x_mv (v := S _) rfl) rfl ?_
  refine L.val (x_mv (v := S _) rfl) rfl ?_
  refine L.val (x_nes rfl rfl) rfl ?_
  refine L.val (x_as (v := .bool _) rfl) rfl ?_
  refine L.nil ?_
  refine thn_n ?_
  refine W.ret (fin_mk (.inr rfl) ?_)
  exact ⟨vb (by simp), hB⟩
theorem less_ok (x y : Str) (w : World) : Ret Try.prog 183 #[S x, S y] w fun v w' => v = .bool (ltStr x y) ∧ Bel w w' := by
  refine ret_of_W Try.func183 rfl (Nat.le_of_ble_eq_true rfl) (res1 rfl) ?_
  have hB := Gr.refl (fun _ => False) w
  refine W.seq ?_
  refine W.region ?_
  refine L.val (x_as (v := .bool _) rfl) rfl ?_
  refine L.nil ?_
  refine thn_n ?_
  refine W.seq ?_
  refine W.region ?_
  refine L.val (x_mv (v := S _) rfl) rfl ?_
  refine L.ret (x_call ksrt_en190 rfl) rfl (nan_ok x _) ?_
  rintro _ w6 ⟨rfl, hw⟩
  have hB := hB.carry hw
  refine L.val (x_mv (v := .bool _) rfl) rfl ?_
  refine' L.group 3 8 10 10 7 true rfl ?_ ?_ ?_
  rotate_left 1
  ·intro g7 hg7
   have h7 := g7
   refine L.gyes' (dj := 7) (b := _) rfl rfl g7 ?_
   refine L.val (x_mv (v := S _) rfl) rfl ?_
   refine L.gyes' (dj := 7) (b := _) rfl rfl g7 ?_
   refine L.ret (x_call ksrt_en190 rfl) rfl (nan_ok y _) ?_
   rintro _ w9 ⟨rfl, hw⟩
   have hB := hB.carry hw; have hg7 := hg7.carry hw
   refine L.gyes' (dj := 7) (b := _) rfl rfl g7 ?_
   refine L.val (x_not rfl) rfl ?_
   refine L.nil ?_
   refine thn_n ⟨rfl, ?_, ?_, fun _ => rfl⟩
   ·exact hg7
   ·repeat (first | exact jeq.refl _ _ _ | refine jeq.upd rfl ?_ | refine jeq.jk rfl rfl ?_)
  ·intro g7
   refine L.gno (dj := 7) (b := _) rfl rfl g7 rfl ?_
   refine L.gno (dj := 7) (b := _) rfl rfl g7 rfl ?_
   refine L.gno (dj := 7) (b := _) rfl rfl g7 rfl ?_
   refine L.nil (thn_n ⟨rfl, Gr.refl _ _, ?_⟩)
   refine ⟨?_, fun h => h.elim⟩
   repeat (first | exact jeq.refl _ _ _ | refine jeq.upd rfl ?_ | refine jeq.jk rfl rfl ?_)
  intro J7 w7 hw j7
  have hB := hB.carry hw
  refine L.val (x_and rfl j7) rfl ?_
  refine L.val (x_mv (v := .bool _) rfl) rfl ?_
  refine' L.group0 3 13 15 15 12 false rfl ?_ ?_ ?_
  rotate_left 1
  ·intro g12
   have h12 := g12
   refine L.gyes' (dj := 12) (b := _) rfl rfl g12 ?_
   refine L.val (x_mv (v := S _) rfl) rfl ?_
   refine L.gyes' (dj := 12) (b := _) rfl rfl g12 ?_
   refine L.val (x_mv (v := S _) rfl) rfl ?_
   refine L.gyes' (dj := 12) (b := _) rfl rfl g12 ?_
   refine L.val (x_lts rfl rfl) rfl ?_
   refine L.nil ?_
   refine thn_n ⟨rfl, rfl, ?_, rfl⟩
   repeat (first | exact jeq.refl _ _ _ | refine jeq.upd rfl ?_ | refine jeq.jk rfl rfl ?_)
  ·intro g12
   refine L.gno (dj := 12) (b := _) rfl rfl g12 rfl ?_
   refine L.gno (dj := 12) (b := _) rfl rfl g12 rfl ?_
   refine L.gno (dj := 12) (b := _) rfl rfl g12 rfl ?_
   refine L.nil (thn_n ⟨rfl, rfl, ?_⟩)
   repeat (first | exact jeq.refl _ _ _ | refine jeq.upd rfl ?_ | refine jeq.jk rfl rfl ?_)
  intro J12 j12
  refine L.val (x_or rfl j12) rfl ?_
  refine L.val (x_as (v := .bool _) rfl) rfl ?_
  refine L.nil ?_
  refine thn_n ?_
  refine W.ret (fin_mk (.inr rfl) ?_)
  exact ⟨vb (by simp [Go.Proofs.bytesLess_eq, ltStr]), hB⟩

theorem bneg {b : Bool} (h : b = false) : ¬ b = true := by rw [h]; simp
theorem and1 {p : Prop} [Decidable p] {c : Bool} (h : (decide p && c) = true) : p := by simp at h; exact h.1
theorem ins_go {α : Type} [Inhabited α] {lt : α → α → Bool} {a j : Nat} {q : Array α} (h : (decide ((a : Int) < (j : Int)) && lt q[j]! q[j - 1]!) = true) : insInner lt a (j - 1) (swp q j (j - 1)) = insInner lt a j q := by
  cases j with
  | zero => have := and1 h; omega
  | succ j =>
    have h1 := and1 h
    rw [Nat.add_sub_cancel] at h ⊢
    conv => rhs; rw [insInner]
    rw [if_pos]
    simp only [Bool.and_eq_true] at h ⊢
    exact ⟨by simp; omega, h.2⟩
theorem ins_stop {α : Type} [Inhabited α] {lt : α → α → Bool} {a j : Nat} {q : Array α} (h : (decide ((a : Int) < (j : Int)) && lt q[j]! q[j - 1]!) = false) : insInner lt a j q = q := by
  cases j with
  | zero => rfl
  | succ j =>
    rw [Nat.add_sub_cancel] at h
    rw [insInner, if_neg]
    intro h2
    simp only [Bool.and_eq_true, decide_eq_true_eq] at h2
    have h3 : (a : Int) < ((j + 1 : Nat) : Int) := by omega
    rw [h2.2, decide_eq_true h3] at h
    cases h

theorem insertion_ok (b o a e cap n : Nat) (T : TypeId) (hd tl : List Value) (d : Array Str) (w : World) (hR : Row S w b o T hd d tl) (hn : d.size = n) (hc : n ≤ 4000000000000000000) (hae : a ≤ e) (he : e ≤ n) :
    Ret Try.prog 177 #[.slice (some ⟨b, o, none⟩) n cap, .int .i64 a, .int .i64 e] w fun v w' => v = .tuple #[] ∧ Gr (· = b) w w' ∧ Row S w' b o T hd (insertionSort ltStr d a e) tl := by
  refine ret_of_W Try.func177 rfl (Nat.le_of_ble_eq_true rfl) (res0 rfl) ?_
  have hB := Gr.refl (· = b) w
  refine W.seq ?_
  refine W.region ?_
  refine L.val (x_mv (v := .int _ _) rfl) rfl ?_
  refine L.val (x_add rfl rfl (wr64 (by omega))) rfl ?_
  refine L.val (x_as (v := .int _ _) rfl) rfl ?_
  refine L.nil ?_
  refine thn_n ?_
  refine W.block ?_
  refine W.loop (fun m' E w' => ∃ (i : Nat) (c : Array Str), m' = e - i ∧ E 0 = .slice (some ⟨b, o, none⟩) n cap ∧ E 1 = .int .i64 (a : Nat) ∧ E 2 = .int .i64 (e : Nat) ∧ E 6 = .int .i64 (i : Nat) ∧ (Gr (· = b) w w') ∧ (Row S w' b o T hd c tl) ∧ (c.size = n) ∧ (a < i) ∧ (insOuter ltStr a e i c = insertionSort ltStr d a e)) (e - (a + 1)) ?_ ?_
  ·exact ⟨a + 1, d, by omega, by first | rfl | exact vi (by omega) | exact vs (by first | assumption | (rw [hst]; done) | (rw [hst]; simp only [List.append_assoc])), by first | rfl | exact vi (by omega) | exact vs (by first | assumption | (rw [hst]; done) | (rw [hst]; simp only [List.append_assoc])), by first | rfl | exact vi (by omega) | exact vs (by first | assumption | (rw [hst]; done) | (rw [hst]; simp only [List.append_assoc])), by first | rfl | exact vi (by omega) | exact vs (by first | assumption | (rw [hst]; done) | (rw [hst]; simp only [List.append_assoc])), (by first | assumption | omega | rfl), (by first | assumption | omega | rfl), (by first | assumption | omega | rfl), (by first | assumption | omega | rfl), (by first | assumption | omega | rfl)⟩
  ·rintro _ E wL10 ⟨i, c, em, e0, e1, e2, e6, hB, hR, hn, hi, hq⟩
   rw [upd_self e0, upd_self e1, upd_self e2, upd_self e6]
   refine W.seq ?_
   refine W.seq ?_
   refine W.region ?_
   refine L.val (x_mv (v := .int _ _) rfl) rfl ?_
   refine L.val (x_mv (v := .int _ _) rfl) rfl ?_
   refine L.val (x_lss rfl rfl) rfl ?_
   refine L.nil ?_
   refine thn_n ?_
   refine W.cond (b := _) rfl (fun g12 => ?_) (fun g12 => ?_)
   ·have h12 := of_decide_eq_true g12
    refine W.skip ?_
    refine thn_n ?_
    refine W.seq ?_
    refine W.block ?_
    refine W.seq ?_
    refine W.region ?_
    refine L.val (x_mv (v := .int _ _) rfl) rfl ?_
    refine L.val (x_as (v := .int _ _) rfl) rfl ?_
    refine L.nil ?_
    refine thn_n ?_
    refine W.block ?_
    refine W.loop (fun m' E w' => ∃ (j : Nat) (q : Array Str), m' = j ∧ E 0 = .slice (some ⟨b, o, none⟩) n cap ∧ E 1 = .int .i64 (a : Nat) ∧ E 2 = .int .i64 (e : Nat) ∧ E 6 = .int .i64 (i : Nat) ∧ E 7 = .int .i64 (j : Nat) ∧ (Gr (· = b) w w') ∧ (Row S w' b o T hd q tl) ∧ (q.size = n) ∧ (j ≤ i) ∧ (insInner ltStr a j q = insInner ltStr a i c)) (i) ?_ ?_
    ·exact ⟨i, c, by omega, by first | rfl | exact vi (by omega) | exact vs (by first | assumption | (rw [hst]; done) | (rw [hst]; simp only [List.append_assoc])), by first | rfl | exact vi (by omega) | exact vs (by first | assumption | (rw [hst]; done) | (rw [hst]; simp only [List.append_assoc])), by first | rfl | exact vi (by omega) | exact vs (by first | assumption | (rw [hst]; done) | (rw [hst]; simp only [List.append_assoc])), by first | rfl | exact vi (by omega) | exact vs (by first | assumption | (rw [hst]; done) | (rw [hst]; simp only [List.append_assoc])), by first | rfl | exact vi (by omega) | exact vs (by first | assumption | (rw [hst]; done) | (rw [hst]; simp only [List.append_assoc])), (by first | assumption | omega | rfl), (by first | assumption | omega | rfl), (by first | assumption | omega | rfl), (by first | assumption | omega | rfl), (by first | assumption | omega | rfl)⟩
    ·rintro _ E wL16 ⟨j, q, em, e0, e1, e2, e6, e7, hB, hR, hn, hj, hq2⟩
     rw [upd_self e0, upd_self e1, upd_self e2, upd_self e6, upd_self e7]
     refine W.seq ?_
     refine W.seq ?_
     refine W.drawB ksrt_mixed (by kernel_rfl) ?_
     refine LQ.val (fun w hw => x_mv (v := .int _ _) rfl) rfl ?_
     refine LQ.val (fun w hw => x_mv (v := .int _ _) rfl) rfl ?_
     refine LQ.val (fun w hw => x_gtr rfl rfl) rfl ?_
     refine LQ.val (fun w hw => x_mv (v := .bool _) rfl) rfl ?_
     refine' LQ.group 10 20 29 29 19 true rfl ?_ ?_ ?_
     rotate_left 1
     ·intro g19
      have h19 := of_decide_eq_true g19
      refine LQ.gyes' (dj := 19) (b := _) rfl rfl g19 ?_
      refine LQ.val (fun w hw => x_mv (v := .slice _ _ _) rfl) rfl ?_
      refine LQ.gyes' (dj := 19) (b := _) rfl rfl g19 ?_
      refine LQ.val (fun w hw => x_mv (v := .int _ _) rfl) rfl ?_
      refine LQ.gyes' (dj := 19) (b := _) rfl rfl g19 ?_
      refine LQ.val (fun w hw => x_ia1 (j := j) Try.underlying22 ksrt_sz9 rfl rfl (by omega) (by omega)) rfl ?_
      refine LQ.gyes' (dj := 19) (b := _) rfl rfl g19 ?_
      refine LQ.val (fun w hw => x_ld (v := S _) ksrt_oc9 rfl (hw.keep (hR.at (i := j) (by omega)))) rfl ?_
      refine LQ.gyes' (dj := 19) (b := _) rfl rfl g19 ?_
      refine LQ.val (fun w hw => x_mv (v := .slice _ _ _) rfl) rfl ?_
      refine LQ.gyes' (dj := 19) (b := _) rfl rfl g19 ?_
      refine LQ.val (fun w hw => x_mv (v := .int _ _) rfl) rfl ?_
      refine LQ.gyes' (dj := 19) (b := _) rfl rfl g19 ?_
      refine LQ.val (fun w hw => x_sub rfl rfl (wr64 (by omega))) rfl ?_
      refine LQ.gyes' (dj := 19) (b := _) rfl rfl g19 ?_
      refine LQ.val (fun w hw => x_ia1 (j := j - 1) Try.underlying22 ksrt_sz9 rfl rfl (by omega) (by omega)) rfl ?_
      refine LQ.gyes' (dj := 19) (b := _) rfl rfl g19 ?_
      refine LQ.val (fun w hw => x_ld (v := S _) ksrt_oc9 rfl (hw.keep (hR.at (i := j - 1) (by omega)))) rfl ?_
      refine LQ.gyes' (dj := 19) (b := _) rfl rfl g19 ?_
      refine LQ.ret (fun w => x_call ksrt_en183 rfl) (fun w hw => Ret.mono (less_ok _ _ _) (fun _ _ h => ⟨h.1, Gr.trans hw h.2⟩)) rfl ?_
      refine LQ.nil ?_
      refine ⟨?_, rfl⟩
      repeat (first | exact jeq.refl _ _ _ | refine jeq.upd rfl ?_ | refine jeq.jk rfl rfl ?_)
     ·intro g19
      refine LQ.gno (dj := 19) (b := _) rfl rfl g19 rfl ?_
      refine LQ.gno (dj := 19) (b := _) rfl rfl g19 rfl ?_
      refine LQ.gno (dj := 19) (b := _) rfl rfl g19 rfl ?_
      refine LQ.gno (dj := 19) (b := _) rfl rfl g19 rfl ?_
      refine LQ.gno (dj := 19) (b := _) rfl rfl g19 rfl ?_
      refine LQ.gno (dj := 19) (b := _) rfl rfl g19 rfl ?_
      refine LQ.gno (dj := 19) (b := _) rfl rfl g19 rfl ?_
      refine LQ.gno (dj := 19) (b := _) rfl rfl g19 rfl ?_
      refine LQ.gno (dj := 19) (b := _) rfl rfl g19 rfl ?_
      refine LQ.gno (dj := 19) (b := _) rfl rfl g19 rfl ?_
      refine LQ.nil ?_
      repeat (first | exact jeq.refl _ _ _ | refine jeq.upd rfl ?_ | refine jeq.jk rfl rfl ?_)
     intro J19 j19
     refine LQ.val (fun w hw => x_and rfl j19) rfl ?_
     refine LQ.nil ?_
     intro w16 hw
     have hB := hB.carry hw; have hR := hR.carry hw
     refine thn_n ?_
     refine W.cond (b := _) rfl (fun g30 => ?_) (fun g30 => ?_)
     ·have h30 := g30
      have hj' := and1 h30
      refine W.skip ?_
      refine thn_n ?_
      refine W.seq ?_
      refine W.block ?_
      refine W.drawS ksrt_mixed ?_
      have hB := hB.carry (bel_drew _); have hR := hR.carry (bel_drew _)
      refine LA.take (i := 0) rfl (by kernel_rfl) (by kernel_rfl) (by kernel_rfl) (fun w => x_mv (v := .slice _ _ _) rfl) rfl ?_
      refine LA.take (i := 1) rfl (by kernel_rfl) (by kernel_rfl) (by kernel_rfl) (fun w => x_mv (v := .int _ _) rfl) rfl ?_
      refine LA.take (i := 2) rfl (by kernel_rfl) (by kernel_rfl) (by kernel_rfl) (fun w => x_mv (v := .slice _ _ _) rfl) rfl ?_
      refine LA.take (i := 3) rfl (by kernel_rfl) (by kernel_rfl) (by kernel_rfl) (fun w => x_mv (v := .int _ _) rfl) rfl ?_
      refine LA.take (i := 4) rfl (by kernel_rfl) (by kernel_rfl) (by kernel_rfl) (fun w => x_sub rfl rfl (wr64 (by omega))) rfl ?_
      refine LA.take (i := 5) rfl (by kernel_rfl) (by kernel_rfl) (by kernel_rfl) (fun w => x_mv (v := .slice _ _ _) rfl) rfl ?_
      refine LA.take (i := 6) rfl (by kernel_rfl) (by kernel_rfl) (by kernel_rfl) (fun w => x_mv (v := .int _ _) rfl) rfl ?_
      refine LA.take (i := 7) rfl (by kernel_rfl) (by kernel_rfl) (by kernel_rfl) (fun w => x_sub rfl rfl (wr64 (by omega))) rfl ?_
      refine LA.take (i := 8) rfl (by kernel_rfl) (by kernel_rfl) (by kernel_rfl) (fun w => x_ia1 (j := j - 1) Try.underlying22 ksrt_sz9 rfl rfl (by omega) (by omega)) rfl ?_
      refine LA.take (i := 10) rfl (by kernel_rfl) (by kernel_rfl) (by kernel_rfl) (fun w => x_mv (v := .slice _ _ _) rfl) rfl ?_
      refine LA.take (i := 11) rfl (by kernel_rfl) (by kernel_rfl) (by kernel_rfl) (fun w => x_mv (v := .int _ _) rfl) rfl ?_
      refine LA.take (i := 12) rfl (by kernel_rfl) (by kernel_rfl) (by kernel_rfl) (fun w => x_ia1 (j := j) Try.underlying22 ksrt_sz9 rfl rfl (by omega) (by omega)) rfl ?_
      refine LA.pair (i := 9) (j := 13) rfl rfl (by kernel_rfl) (by kernel_rfl) (by kernel_rfl) rfl rfl (x_ld (v := S _) ksrt_oc9 rfl (hR.at (i := j - 1) (by omega))) (x_ld (v := S _) ksrt_oc9 rfl (hR.at (i := j) (by omega))) (x_ld (v := S _) ksrt_oc9 rfl (hR.at (i := j) (by omega))) (x_ld (v := S _) ksrt_oc9 rfl (hR.at (i := j - 1) (by omega))) rfl rfl ?_
      refine LA.take (i := 14) rfl (by kernel_rfl) (by kernel_rfl) (by kernel_rfl) (fun w => x_ia1 (j := j) Try.underlying22 ksrt_sz9 rfl rfl (by omega) (by omega)) rfl ?_
      refine LA.step (rs := [15]) (by kernel_rfl) (by simp) ⟨⟨_, rfl, ?_⟩, trivial⟩
      refine L.setAt (enc := S) (j := j) ksrt_sz9 rfl rfl rfl hR (by omega) (fun wl39 hR hsl39 hw hzl39 => ?_)
      have hB := hB.trans hw
      refine L.nil ?_
      refine thn_n ?_
      refine LA.take (i := 16) rfl (by kernel_rfl) (by kernel_rfl) (by kernel_rfl) (fun w => x_ia1 (j := j - 1) Try.underlying22 ksrt_sz9 rfl rfl (by omega) (by omega)) rfl ?_
      refine LA.step (rs := [17]) (by kernel_rfl) (by simp) ⟨⟨_, rfl, ?_⟩, trivial⟩
      refine L.setAt (enc := S) (j := j - 1) ksrt_sz9 rfl rfl rfl hR (by omega) (fun wl41 hR hsl41 hw hzl41 => ?_)
      have hB := hB.trans hw
      refine L.nil ?_
      refine thn_n ?_
      refine LA.done (by kernel_rfl) ?_
      refine nrm_n ?_
      refine blk_n ?_
      refine thn_n ?_
      refine W.region ?_
      refine L.val (x_mv (v := .int _ _) rfl) rfl ?_
      refine L.val (x_sub rfl rfl (wr64 (by omega))) rfl ?_
      refine L.val (x_as (v := .int _ _) rfl) rfl ?_
      refine L.nil ?_
      refine thn_n ⟨rfl, ?_⟩
      refine ⟨_, ?_, j - 1, swp q j (j - 1), rfl, by first | rfl | exact vi (by omega) | exact vs (by first | assumption | (rw [hst]; done) | (rw [hst]; simp only [List.append_assoc])), by first | rfl | exact vi (by omega) | exact vs (by first | assumption | (rw [hst]; done) | (rw [hst]; simp only [List.append_assoc])), by first | rfl | exact vi (by omega) | exact vs (by first | assumption | (rw [hst]; done) | (rw [hst]; simp only [List.append_assoc])), by first | rfl | exact vi (by omega) | exact vs (by first | assumption | (rw [hst]; done) | (rw [hst]; simp only [List.append_assoc])), by first | rfl | exact vi (by omega) | exact vs (by first | assumption | (rw [hst]; done) | (rw [hst]; simp only [List.append_assoc])), (by first | assumption | omega | rfl), (by first | assumption | omega | rfl), (by rw [size_swp]; exact hn), (by first | assumption | omega | rfl), (by rw [← hq2]; exact ins_go h30)⟩
      omega
     ·have h30 := g30
      refine W.exit (thn_x (thn_x (blk_hit ?_)))
      refine blk_n ?_
      refine thn_n ?_
      refine W.region ?_
      refine L.val (x_mv (v := .int _ _) rfl) rfl ?_
      refine L.val (x_add rfl rfl (wr64 (by omega))) rfl ?_
      refine L.val (x_as (v := .int _ _) rfl) rfl ?_
      refine L.nil ?_
      refine thn_n ⟨rfl, ?_⟩
      refine ⟨_, ?_, i + 1, q, rfl, by first | rfl | exact vi (by omega) | exact vs (by first | assumption | (rw [hst]; done) | (rw [hst]; simp only [List.append_assoc])), by first | rfl | exact vi (by omega) | exact vs (by first | assumption | (rw [hst]; done) | (rw [hst]; simp only [List.append_assoc])), by first | rfl | exact vi (by omega) | exact vs (by first | assumption | (rw [hst]; done) | (rw [hst]; simp only [List.append_assoc])), by first | rfl | exact vi (by omega) | exact vs (by first | assumption | (rw [hst]; done) | (rw [hst]; simp only [List.append_assoc])), (by first | assumption | omega | rfl), (by first | assumption | omega | rfl), (by first | assumption | omega | rfl), (by first | assumption | omega | rfl), (by rw [← ins_stop (lt := ltStr) h30, hq2, ← hq]; conv => rhs; rw [insOuter, if_pos (by omega)])⟩
      omega
   ·have h12 := dlt_f g12
    refine W.exit (thn_x (thn_x (blk_hit ?_)))
    refine fin_mk (.inl rfl) ?_
    exact ⟨rfl, hB, by have := hq; rw [insOuter, if_neg (by omega)] at this; rw [← this]; exact hR⟩

theorem reverse_ok (b o a e cap n : Nat) (T : TypeId) (hd tl : List Value) (d : Array Str) (w : World) (hR : Row S w b o T hd d tl) (hn : d.size = n) (hc : n ≤ 4000000000000000000) (hae : a < e) (he : e ≤ n) :
    Ret Try.prog 181 #[.slice (some ⟨b, o, none⟩) n cap, .int .i64 a, .int .i64 e] w fun v w' => v = .tuple #[] ∧ Gr (· = b) w w' ∧ Row S w' b o T hd (reverseRange d a e) tl := by
  refine ret_of_W Try.func181 rfl (Nat.le_of_ble_eq_true rfl) (res0 rfl) ?_
  have hB := Gr.refl (· = b) w
  refine W.seq ?_
  refine W.region ?_
  refine L.val (x_mv (v := .int _ _) rfl) rfl ?_
  refine L.val (x_as (v := .int _ _) rfl) rfl ?_
  refine L.nil ?_
  refine thn_n ?_
  refine W.seq ?_
  refine W.region ?_
  refine L.val (x_mv (v := .int _ _) rfl) rfl ?_
  refine L.val (x_sub rfl rfl (wr64 (by omega))) rfl ?_
  refine L.val (x_as (v := .int _ _) rfl) rfl ?_
  refine L.nil ?_
  refine thn_n ?_
  refine W.block ?_
  refine W.loop (fun m' E w' => ∃ (i j : Nat) (c : Array Str), m' = j ∧ E 0 = .slice (some ⟨b, o, none⟩) n cap ∧ E 6 = .int .i64 (i : Nat) ∧ E 7 = .int .i64 (j : Nat) ∧ (Gr (· = b) w w') ∧ (Row S w' b o T hd c tl) ∧ (c.size = n) ∧ (j < n) ∧ (reverseLoop i j c = reverseRange d a e)) (e - 1) ?_ ?_
  ·exact ⟨a, e - 1, d, by omega, by first | rfl | exact vi (by omega) | exact vs (by first | assumption | (rw [hst]; done) | (rw [hst]; simp only [List.append_assoc])), by first | rfl | exact vi (by omega) | exact vs (by first | assumption | (rw [hst]; done) | (rw [hst]; simp only [List.append_assoc])), by first | rfl | exact vi (by omega) | exact vs (by first | assumption | (rw [hst]; done) | (rw [hst]; simp only [List.append_assoc])), (by first | assumption | omega | rfl), (by first | assumption | omega | rfl), (by first | assumption | omega | rfl), (by first | assumption | omega | rfl), (by first | assumption | omega | rfl)⟩
  ·rintro _ E wL11 ⟨i, j, c, em, e0, e6, e7, hB, hR, hn, hj, hq⟩
   rw [upd_self e0, upd_self e6, upd_self e7]
   refine W.seq ?_
   refine W.seq ?_
   refine W.region ?_
   refine L.val (x_mv (v := .int _ _) rfl) rfl ?_
   refine L.val (x_mv (v := .int _ _) rfl) rfl ?_
   refine L.val (x_lss rfl rfl) rfl ?_
   refine L.nil ?_
   refine thn_n ?_
   refine W.cond (b := _) rfl (fun g13 => ?_) (fun g13 => ?_)
   ·have h13 := of_decide_eq_true g13
    refine W.skip ?_
    refine thn_n ?_
    refine W.block ?_
    refine W.seq ?_
    refine W.drawS ksrt_mixed ?_
    have hB := hB.carry (bel_drew _); have hR := hR.carry (bel_drew _)
    refine LA.take (i := 0) rfl (by kernel_rfl) (by kernel_rfl) (by kernel_rfl) (fun w => x_mv (v := .slice _ _ _) rfl) rfl ?_
    refine LA.take (i := 1) rfl (by kernel_rfl) (by kernel_rfl) (by kernel_rfl) (fun w => x_mv (v := .int _ _) rfl) rfl ?_
    refine LA.take (i := 2) rfl (by kernel_rfl) (by kernel_rfl) (by kernel_rfl) (fun w => x_mv (v := .slice _ _ _) rfl) rfl ?_
    refine LA.take (i := 3) rfl (by kernel_rfl) (by kernel_rfl) (by kernel_rfl) (fun w => x_mv (v := .int _ _) rfl) rfl ?_
    refine LA.take (i := 4) rfl (by kernel_rfl) (by kernel_rfl) (by kernel_rfl) (fun w => x_mv (v := .slice _ _ _) rfl) rfl ?_
    refine LA.take (i := 5) rfl (by kernel_rfl) (by kernel_rfl) (by kernel_rfl) (fun w => x_mv (v := .int _ _) rfl) rfl ?_
    refine LA.take (i := 6) rfl (by kernel_rfl) (by kernel_rfl) (by kernel_rfl) (fun w => x_ia1 (j := j) Try.underlying22 ksrt_sz9 rfl rfl (by omega) (by omega)) rfl ?_
    refine LA.take (i := 8) rfl (by kernel_rfl) (by kernel_rfl) (by kernel_rfl) (fun w => x_mv (v := .slice _ _ _) rfl) rfl ?_
    refine LA.take (i := 9) rfl (by kernel_rfl) (by kernel_rfl) (by kernel_rfl) (fun w => x_mv (v := .int _ _) rfl) rfl ?_
    refine LA.take (i := 10) rfl (by kernel_rfl) (by kernel_rfl) (by kernel_rfl) (fun w => x_ia1 (j := i) Try.underlying22 ksrt_sz9 rfl rfl (by omega) (by omega)) rfl ?_
    refine LA.pair (i := 7) (j := 11) rfl rfl (by kernel_rfl) (by kernel_rfl) (by kernel_rfl) rfl rfl (x_ld (v := S _) ksrt_oc9 rfl (hR.at (i := j) (by omega))) (x_ld (v := S _) ksrt_oc9 rfl (hR.at (i := i) (by omega))) (x_ld (v := S _) ksrt_oc9 rfl (hR.at (i := i) (by omega))) (x_ld (v := S _) ksrt_oc9 rfl (hR.at (i := j) (by omega))) rfl rfl ?_
    refine LA.take (i := 12) rfl (by kernel_rfl) (by kernel_rfl) (by kernel_rfl) (fun w => x_ia1 (j := i) Try.underlying22 ksrt_sz9 rfl rfl (by omega) (by omega)) rfl ?_
    refine LA.step (rs := [13]) (by kernel_rfl) (by simp) ⟨⟨_, rfl, ?_⟩, trivial⟩
    refine L.setAt (enc := S) (j := i) ksrt_sz9 rfl rfl rfl hR (by omega) (fun wl22 hR hsl22 hw hzl22 => ?_)
    have hB := hB.trans hw
    refine L.nil ?_
    refine thn_n ?_
    refine LA.take (i := 14) rfl (by kernel_rfl) (by kernel_rfl) (by kernel_rfl) (fun w => x_ia1 (j := j) Try.underlying22 ksrt_sz9 rfl rfl (by omega) (by omega)) rfl ?_
    refine LA.step (rs := [15]) (by kernel_rfl) (by simp) ⟨⟨_, rfl, ?_⟩, trivial⟩
    refine L.setAt (enc := S) (j := j) ksrt_sz9 rfl rfl rfl hR (by omega) (fun wl24 hR hsl24 hw hzl24 => ?_)
    have hB := hB.trans hw
    refine L.nil ?_
    refine thn_n ?_
    refine LA.done (by kernel_rfl) ?_
    refine nrm_n ?_
    refine thn_n ?_
    refine W.seq ?_
    refine W.region ?_
    refine L.val (x_mv (v := .int _ _) rfl) rfl ?_
    refine L.val (x_add rfl rfl (wr64 (by omega))) rfl ?_
    refine L.val (x_as (v := .int _ _) rfl) rfl ?_
    refine L.nil ?_
    refine thn_n ?_
    refine W.region ?_
    refine L.val (x_mv (v := .int _ _) rfl) rfl ?_
    refine L.val (x_sub rfl rfl (wr64 (by omega))) rfl ?_
    refine L.val (x_as (v := .int _ _) rfl) rfl ?_
    refine L.nil ?_
    refine blk_n ?_
    refine thn_n ⟨rfl, ?_⟩
    refine ⟨_, ?_, i + 1, j - 1, swp c i j, rfl, by first | rfl | exact vi (by omega) | exact vs (by first | assumption | (rw [hst]; done) | (rw [hst]; simp only [List.append_assoc])), by first | rfl | exact vi (by omega) | exact vs (by first | assumption | (rw [hst]; done) | (rw [hst]; simp only [List.append_assoc])), by first | rfl | exact vi (by omega) | exact vs (by first | assumption | (rw [hst]; done) | (rw [hst]; simp only [List.append_assoc])), (by first | assumption | omega | rfl), (by first | assumption | omega | rfl), (by rw [size_swp]; exact hn), (by first | assumption | omega | rfl), (by rw [← hq]; conv => rhs; rw [reverseLoop, if_pos (by omega)])⟩
    omega
   ·have h13 := dlt_f g13
    refine W.exit (thn_x (thn_x (blk_hit ?_)))
    refine fin_mk (.inl rfl) ?_
    exact ⟨rfl, hB, by have := hq; rw [reverseLoop, if_neg (by omega)] at this; rw [← this]; exact hR⟩

theorem and2 {b c : Bool} (h : (b && c) = true) : c = true := by simp at h; exact h.2
theorem and0 {p : Prop} [Decidable p] {c : Bool} (h : (decide p && c) = false) : ¬ (p ∧ c = true) := by
  rintro ⟨h1, h2⟩; rw [decide_eq_true h1, h2] at h; cases h
theorem sift_step {α : Type} [Inhabited α] {lt : α → α → Bool} {hi first r ch : Nat} {d : Array α} (h : 2 * r + 1 < hi)
    (hc : (2 * r + 2 < hi ∧ lt d[first + (2 * r + 1)]! d[first + (2 * r + 1) + 1]! = true ∧ ch = 2 * r + 2) ∨ (¬ (2 * r + 2 < hi ∧ lt d[first + (2 * r + 1)]! d[first + (2 * r + 1) + 1]! = true) ∧ ch = 2 * r + 1)) :
    siftDown lt hi first r d = if lt d[first + r]! d[first + ch]! = true then siftDown lt hi first ch (swp d (first + r) (first + ch)) else d := by
  rw [siftDown, dif_neg (by omega)]
  rcases hc with ⟨h1, h2, rfl⟩ | ⟨h1, rfl⟩
  · rw [if_pos (by rw [h2]; simp; omega), dif_pos h1]
    cases lt d[first + r]! d[first + (2 * r + 2)]! <;> simp
  · rw [if_neg (by simp only [Bool.and_eq_true, decide_eq_true_eq]; exact h1)]
    cases lt d[first + r]! d[first + (2 * r + 1)]! <;> simp

theorem sift_ok (b o lo hi fs cap n : Nat) (T : TypeId) (hd tl : List Value) (d : Array Str) (w : World) (hR : Row S w b o T hd d tl) (hn : d.size = n) (hc : n ≤ 2000000000000000000) (hae : lo ≤ hi) (he : fs + hi ≤ n) :
    Ret Try.prog 187 #[.slice (some ⟨b, o, none⟩) n cap, .int .i64 lo, .int .i64 hi, .int .i64 fs] w fun v w' => v = .tuple #[] ∧ Gr (· = b) w w' ∧ Row S w' b o T hd (siftDown ltStr hi fs lo d) tl := by
  refine ret_of_W Try.func187 rfl (Nat.le_of_ble_eq_true rfl) (res0 rfl) ?_
  have hB := Gr.refl (· = b) w
  refine W.seq ?_
  refine W.region ?_
  refine L.val (x_mv (v := .int _ _) rfl) rfl ?_
  refine L.val (x_as (v := .int _ _) rfl) rfl ?_
  refine L.nil ?_
  refine thn_n ?_
  refine W.block ?_
  refine W.loop (fun m' E w' => ∃ (r : Nat) (c : Array Str), m' = hi - r ∧ E 0 = .slice (some ⟨b, o, none⟩) n cap ∧ E 2 = .int .i64 (hi : Nat) ∧ E 3 = .int .i64 (fs : Nat) ∧ E 8 = .int .i64 (r : Nat) ∧ (Gr (· = b) w w') ∧ (Row S w' b o T hd c tl) ∧ (c.size = n) ∧ (r ≤ hi) ∧ (siftDown ltStr hi fs r c = siftDown ltStr hi fs lo d)) (hi - lo) ?_ ?_
  ·exact ⟨lo, d, by omega, by first | rfl | exact vi (by omega) | exact vs (by first | assumption | (rw [hst]; done) | (rw [hst]; simp only [List.append_assoc])), by first | rfl | exact vi (by omega) | exact vs (by first | assumption | (rw [hst]; done) | (rw [hst]; simp only [List.append_assoc])), by first | rfl | exact vi (by omega) | exact vs (by first | assumption | (rw [hst]; done) | (rw [hst]; simp only [List.append_assoc])), by first | rfl | exact vi (by omega) | exact vs (by first | assumption | (rw [hst]; done) | (rw [hst]; simp only [List.append_assoc])), (by first | assumption | omega | rfl), (by first | assumption | omega | rfl), (by first | assumption | omega | rfl), (by first | assumption | omega | rfl), (by first | assumption | omega | rfl)⟩
  ·rintro _ E wL11 ⟨r, c, em, e0, e2, e3, e8, hB, hR, hn, hj, hq⟩
   rw [upd_self e0, upd_self e2, upd_self e3, upd_self e8]
   refine W.block ?_
   refine W.seq ?_
   refine W.region ?_
   refine L.val (x_mv (v := .int _ _) rfl) rfl ?_
   refine L.val (x_mul rfl rfl (wr64 (by omega))) rfl ?_
   refine L.val (x_add rfl rfl (wr64 (by omega))) rfl ?_
   refine L.val (x_as (v := .int _ _) rfl) rfl ?_
   refine L.nil ?_
   refine thn_n ?_
   refine W.seq ?_
   refine W.seq ?_
   refine W.region ?_
   refine L.val (x_mv (v := .int _ _) rfl) rfl ?_
   refine L.val (x_mv (v := .int _ _) rfl) rfl ?_
   refine L.val (x_geq rfl rfl) rfl ?_
   refine L.nil ?_
   refine thn_n ?_
   refine W.cond (b := _) rfl (fun g16 => ?_) (fun g16 => ?_)
   ·have h16 := of_decide_eq_true g16
    refine W.exit (thn_x (blk_miss rfl (thn_x (blk_hit ?_))))
    refine fin_mk (.inl rfl) ?_
    exact ⟨rfl, hB, by have := hq; rw [siftDown, dif_pos (by omega)] at this; rw [← this]; exact hR⟩
   ·have h16 := dle_f g16
    refine W.skip ?_
    refine thn_n ?_
    refine W.seq ?_
    refine W.seq ?_
    refine W.drawB ksrt_mixed (by kernel_rfl) ?_
    refine LQ.val (fun w hw => x_mv (v := .int _ _) rfl) rfl ?_
    refine LQ.val (fun w hw => x_add rfl rfl (wr64 (by omega))) rfl ?_
    refine LQ.val (fun w hw => x_mv (v := .int _ _) rfl) rfl ?_
    refine LQ.val (fun w hw => x_lss rfl rfl) rfl ?_
    refine LQ.val (fun w hw => x_mv (v := .bool _) rfl) rfl ?_
    refine' LQ.group 14 22 35 35 21 true rfl ?_ ?_ ?_
    rotate_left 1
    ·intro g21
     have h21 := of_decide_eq_true g21
     refine LQ.gyes' (dj := 21) (b := _) rfl rfl g21 ?_
     refine LQ.val (fun w hw => x_mv (v := .slice _ _ _) rfl) rfl ?_
     refine LQ.gyes' (dj := 21) (b := _) rfl rfl g21 ?_
     refine LQ.val (fun w hw => x_mv (v := .int _ _) rfl) rfl ?_
     refine LQ.gyes' (dj := 21) (b := _) rfl rfl g21 ?_
     refine LQ.val (fun w hw => x_mv (v := .int _ _) rfl) rfl ?_
     refine LQ.gyes' (dj := 21) (b := _) rfl rfl g21 ?_
     refine LQ.val (fun w hw => x_add rfl rfl (wr64 (by omega))) rfl ?_
     refine LQ.gyes' (dj := 21) (b := _) rfl rfl g21 ?_
     refine LQ.val (fun w hw => x_ia1 (j := fs + (2 * r + 1)) Try.underlying22 ksrt_sz9 rfl rfl (by omega) (by omega)) rfl ?_
     refine LQ.gyes' (dj := 21) (b := _) rfl rfl g21 ?_
     refine LQ.val (fun w hw => x_ld (v := S _) ksrt_oc9 rfl (hw.keep (hR.at (i := fs + (2 * r + 1)) (by omega)))) rfl ?_
     refine LQ.gyes' (dj := 21) (b := _) rfl rfl g21 ?_
     refine LQ.val (fun w hw => x_mv (v := .slice _ _ _) rfl) rfl ?_
     refine LQ.gyes' (dj := 21) (b := _) rfl rfl g21 ?_
     refine LQ.val (fun w hw => x_mv (v := .int _ _) rfl) rfl ?_
     refine LQ.gyes' (dj := 21) (b := _) rfl rfl g21 ?_
     refine LQ.val (fun w hw => x_mv (v := .int _ _) rfl) rfl ?_
     refine LQ.gyes' (dj := 21) (b := _) rfl rfl g21 ?_
     refine LQ.val (fun w hw => x_add rfl rfl (wr64 (by omega))) rfl ?_
     refine LQ.gyes' (dj := 21) (b := _) rfl rfl g21 ?_
     refine LQ.val (fun w hw => x_add rfl rfl (wr64 (by omega))) rfl ?_
     refine LQ.gyes' (dj := 21) (b := _) rfl rfl g21 ?_
     refine LQ.val (fun w hw => x_ia1 (j := fs + (2 * r + 1) + 1) Try.underlying22 ksrt_sz9 rfl rfl (by omega) (by omega)) rfl ?_
     refine LQ.gyes' (dj := 21) (b := _) rfl rfl g21 ?_
     refine LQ.val (fun w hw => x_ld (v := S _) ksrt_oc9 rfl (hw.keep (hR.at (i := fs + (2 * r + 1) + 1) (by omega)))) rfl ?_
     refine LQ.gyes' (dj := 21) (b := _) rfl rfl g21 ?_
     refine LQ.ret (fun w => x_call ksrt_en183 rfl) (fun w hw => Ret.mono (less_ok _ _ _) (fun _ _ h => ⟨h.1, Gr.trans hw h.2⟩)) rfl ?_
     refine LQ.nil ?_
     refine ⟨?_, rfl⟩
     repeat (first | exact jeq.refl _ _ _ | refine jeq.upd rfl ?_ | refine jeq.jk rfl rfl ?_)
    ·intro g21
     refine LQ.gno (dj := 21) (b := _) rfl rfl g21 rfl ?_
     refine LQ.gno (dj := 21) (b := _) rfl rfl g21 rfl ?_
     refine LQ.gno (dj := 21) (b := _) rfl rfl g21 rfl ?_
     refine LQ.gno (dj := 21) (b := _) rfl rfl g21 rfl ?_
     refine LQ.gno (dj := 21) (b := _) rfl rfl g21 rfl ?_
     refine LQ.gno (dj := 21) (b := _) rfl rfl g21 rfl ?_
     refine LQ.gno (dj := 21) (b := _) rfl rfl g21 rfl ?_
     refine LQ.gno (dj := 21) (b := _) rfl rfl g21 rfl ?_
     refine LQ.gno (dj := 21) (b := _) rfl rfl g21 rfl ?_
     refine LQ.gno (dj := 21) (b := _) rfl rfl g21 rfl ?_
     refine LQ.gno (dj := 21) (b := _) rfl rfl g21 rfl ?_
     refine LQ.gno (dj := 21) (b := _) rfl rfl g21 rfl ?_
     refine LQ.gno (dj := 21) (b := _) rfl rfl g21 rfl ?_
     refine LQ.gno (dj := 21) (b := _) rfl rfl g21 rfl ?_
     refine LQ.nil ?_
     repeat (first | exact jeq.refl _ _ _ | refine jeq.upd rfl ?_ | refine jeq.jk rfl rfl ?_)
    intro J21 j21
    refine LQ.val (fun w hw => x_and rfl j21) rfl ?_
    refine LQ.nil ?_
    intro w17 hw
    have hB := hB.carry hw; have hR := hR.carry hw
    refine thn_n ?_
    refine W.cond (b := _) rfl (fun g36 => ?_) (fun g36 => ?_)
    ·have h36 := g36
     have h36' := and1 h36
     have h36'' := and2 h36
     obtain ⟨ch, hch⟩ : ∃ ch, (2 * r + 2 < hi ∧ ltStr c[fs + (2 * r + 1)]! c[fs + (2 * r + 1) + 1]! = true ∧ ch = 2 * r + 2) ∨ (¬ (2 * r + 2 < hi ∧ ltStr c[fs + (2 * r + 1)]! c[fs + (2 * r + 1) + 1]! = true) ∧ ch = 2 * r + 1) := ⟨_, .inl ⟨by omega, h36'', rfl⟩⟩
     have hce : ch = 2 * r + 2 := by rcases hch with h | h; exact h.2.2; exact absurd ⟨by omega, h36''⟩ h.1
     refine W.region ?_
     refine L.val (x_mv (v := .int _ _) rfl) rfl ?_
     refine L.val (x_add rfl rfl (wr64 (by omega))) rfl ?_
     refine L.val (x_as (v := .int _ _) rfl) rfl ?_
     refine L.nil ?_
     refine thn_n ?_
     refine W.seq ?_
     refine W.seq ?_
     refine W.drawB ksrt_mixed (by kernel_rfl) ?_
     refine LQ.val (fun w hw => x_mv (v := .slice _ _ _) rfl) rfl ?_
     refine LQ.val (fun w hw => x_mv (v := .int _ _) rfl) rfl ?_
     refine LQ.val (fun w hw => x_mv (v := .int _ _) rfl) rfl ?_
     refine LQ.val (fun w hw => x_add rfl rfl (wr64 (by omega))) rfl ?_
     refine LQ.val (fun w hw => x_ia1 (j := fs + r) Try.underlying22 ksrt_sz9 rfl rfl (by omega) (by omega)) rfl ?_
     refine LQ.val (fun w hw => x_ld (v := S _) ksrt_oc9 rfl (hw.keep (hR.at (i := fs + r) (by omega)))) rfl ?_
     refine LQ.val (fun w hw => x_mv (v := .slice _ _ _) rfl) rfl ?_
     refine LQ.val (fun w hw => x_mv (v := .int _ _) rfl) rfl ?_
     refine LQ.val (fun w hw => x_mv (v := .int _ _) rfl) rfl ?_
     refine LQ.val (fun w hw => x_add rfl rfl (wr64 (by omega))) rfl ?_
     refine LQ.val (fun w hw => x_ia1 (j := fs + ch) Try.underlying22 ksrt_sz9 rfl rfl (by omega) (by omega)) rfl ?_
     refine LQ.val (fun w hw => x_ld (v := S _) ksrt_oc9 rfl (hw.keep (hR.at (i := fs + ch) (by omega)))) rfl ?_
     refine LQ.ret (fun w => x_call ksrt_en183 rfl) (fun w hw => Ret.mono (less_ok _ _ _) (fun _ _ h => ⟨h.1, Gr.trans hw h.2⟩)) rfl ?_
     refine LQ.val (fun w hw => x_not rfl) rfl ?_
     refine LQ.nil ?_
     intro w39 hw
     have hB := hB.carry hw; have hR := hR.carry hw
     refine thn_n ?_
     refine W.cond (b := _) rfl (fun g52 => ?_) (fun g52 => ?_)
     ·have h52 := (not_t g52)
      refine W.ret (thn_r (blk_r (thn_r (blk_r (fin_mk (.inr rfl) ?_)))))
      exact ⟨rfl, hB, by rw [← hq, sift_step (ch := ch) (by omega) hch, if_neg (bneg h52)]; exact hR⟩
     ·have h52 := (not_f g52)
      refine W.skip ?_
      refine thn_n ?_
      refine W.seq ?_
      refine W.drawS ksrt_mixed ?_
      have hB := hB.carry (bel_drew _); have hR := hR.carry (bel_drew _)
      refine LA.take (i := 0) rfl (by kernel_rfl) (by kernel_rfl) (by kernel_rfl) (fun w => x_mv (v := .slice _ _ _) rfl) rfl ?_
      refine LA.take (i := 1) rfl (by kernel_rfl) (by kernel_rfl) (by kernel_rfl) (fun w => x_mv (v := .int _ _) rfl) rfl ?_
      refine LA.take (i := 2) rfl (by kernel_rfl) (by kernel_rfl) (by kernel_rfl) (fun w => x_mv (v := .int _ _) rfl) rfl ?_
      refine LA.take (i := 3) rfl (by kernel_rfl) (by kernel_rfl) (by kernel_rfl) (fun w => x_add rfl rfl (wr64 (by omega))) rfl ?_
      refine LA.take (i := 4) rfl (by kernel_rfl) (by kernel_rfl) (by kernel_rfl) (fun w => x_mv (v := .slice _ _ _) rfl) rfl ?_
      refine LA.take (i := 5) rfl (by kernel_rfl) (by kernel_rfl) (by kernel_rfl) (fun w => x_mv (v := .int _ _) rfl) rfl ?_
      refine LA.take (i := 6) rfl (by kernel_rfl) (by kernel_rfl) (by kernel_rfl) (fun w => x_mv (v := .int _ _) rfl) rfl ?_
      refine LA.take (i := 7) rfl (by kernel_rfl) (by kernel_rfl) (by kernel_rfl) (fun w => x_add rfl rfl (wr64 (by omega))) rfl ?_
      refine LA.take (i := 8) rfl (by kernel_rfl) (by kernel_rfl) (by kernel_rfl) (fun w => x_mv (v := .slice _ _ _) rfl) rfl ?_
      refine LA.take (i := 9) rfl (by kernel_rfl) (by kernel_rfl) (by kernel_rfl) (fun w => x_mv (v := .int _ _) rfl) rfl ?_
      refine LA.take (i := 10) rfl (by kernel_rfl) (by kernel_rfl) (by kernel_rfl) (fun w => x_mv (v := .int _ _) rfl) rfl ?_
      refine LA.take (i := 11) rfl (by kernel_rfl) (by kernel_rfl) (by kernel_rfl) (fun w => x_add rfl rfl (wr64 (by omega))) rfl ?_
      refine LA.take (i := 12) rfl (by kernel_rfl) (by kernel_rfl) (by kernel_rfl) (fun w => x_ia1 (j := fs + ch) Try.underlying22 ksrt_sz9 rfl rfl (by omega) (by omega)) rfl ?_
      refine LA.take (i := 14) rfl (by kernel_rfl) (by kernel_rfl) (by kernel_rfl) (fun w => x_mv (v := .slice _ _ _) rfl) rfl ?_
      refine LA.take (i := 15) rfl (by kernel_rfl) (by kernel_rfl) (by kernel_rfl) (fun w => x_mv (v := .int _ _) rfl) rfl ?_
      refine LA.take (i := 16) rfl (by kernel_rfl) (by kernel_rfl) (by kernel_rfl) (fun w => x_mv (v := .int _ _) rfl) rfl ?_
      refine LA.take (i := 17) rfl (by kernel_rfl) (by kernel_rfl) (by kernel_rfl) (fun w => x_add rfl rfl (wr64 (by omega))) rfl ?_
      refine LA.take (i := 18) rfl (by kernel_rfl) (by kernel_rfl) (by kernel_rfl) (fun w => x_ia1 (j := fs + r) Try.underlying22 ksrt_sz9 rfl rfl (by omega) (by omega)) rfl ?_
      refine LA.pair (i := 13) (j := 19) rfl rfl (by kernel_rfl) (by kernel_rfl) (by kernel_rfl) rfl rfl (x_ld (v := S _) ksrt_oc9 rfl (hR.at (i := fs + ch) (by omega))) (x_ld (v := S _) ksrt_oc9 rfl (hR.at (i := fs + r) (by omega))) (x_ld (v := S _) ksrt_oc9 rfl (hR.at (i := fs + r) (by omega))) (x_ld (v := S _) ksrt_oc9 rfl (hR.at (i := fs + ch) (by omega))) rfl rfl ?_
      refine LA.take (i := 20) rfl (by kernel_rfl) (by kernel_rfl) (by kernel_rfl) (fun w => x_ia1 (j := fs + r) Try.underlying22 ksrt_sz9 rfl rfl (by omega) (by omega)) rfl ?_
      refine LA.step (rs := [21]) (by kernel_rfl) (by simp) ⟨⟨_, rfl, ?_⟩, trivial⟩
      refine L.setAt (enc := S) (j := fs + r) ksrt_sz9 rfl rfl rfl hR (by omega) (fun wl68 hR hsl68 hw hzl68 => ?_)
      have hB := hB.trans hw
      refine L.nil ?_
      refine thn_n ?_
      refine LA.take (i := 22) rfl (by kernel_rfl) (by kernel_rfl) (by kernel_rfl) (fun w => x_ia1 (j := fs + ch) Try.underlying22 ksrt_sz9 rfl rfl (by omega) (by omega)) rfl ?_
      refine LA.step (rs := [23]) (by kernel_rfl) (by simp) ⟨⟨_, rfl, ?_⟩, trivial⟩
      refine L.setAt (enc := S) (j := fs + ch) ksrt_sz9 rfl rfl rfl hR (by omega) (fun wl70 hR hsl70 hw hzl70 => ?_)
      have hB := hB.trans hw
      refine L.nil ?_
      refine thn_n ?_
      refine LA.done (by kernel_rfl) ?_
      refine nrm_n ?_
      refine thn_n ?_
      refine W.region ?_
      refine L.val (x_mv (v := .int _ _) rfl) rfl ?_
      refine L.val (x_as (v := .int _ _) rfl) rfl ?_
      refine L.nil ?_
      refine blk_n ?_
      refine thn_n ⟨rfl, ?_⟩
      refine ⟨_, ?_, ch, swp c (fs + r) (fs + ch), rfl, by first | rfl | exact vi (by omega) | exact vs (by first | assumption | (rw [hst]; done) | (rw [hst]; simp only [List.append_assoc])), by first | rfl | exact vi (by omega) | exact vs (by first | assumption | (rw [hst]; done) | (rw [hst]; simp only [List.append_assoc])), by first | rfl | exact vi (by omega) | exact vs (by first | assumption | (rw [hst]; done) | (rw [hst]; simp only [List.append_assoc])), by first | rfl | exact vi (by omega) | exact vs (by first | assumption | (rw [hst]; done) | (rw [hst]; simp only [List.append_assoc])), (by first | assumption | omega | rfl), (by first | assumption | omega | rfl), (by rw [size_swp]; exact hn), (by first | assumption | omega | rfl), (by rw [← hq, sift_step (ch := ch) (by omega) hch, if_pos h52])⟩
      omega
    ·have h36 := g36
     have h36' := and0 h36
     obtain ⟨ch, hch⟩ : ∃ ch, (2 * r + 2 < hi ∧ ltStr c[fs + (2 * r + 1)]! c[fs + (2 * r + 1) + 1]! = true ∧ ch = 2 * r + 2) ∨ (¬ (2 * r + 2 < hi ∧ ltStr c[fs + (2 * r + 1)]! c[fs + (2 * r + 1) + 1]! = true) ∧ ch = 2 * r + 1) := ⟨_, .inr ⟨fun h => h36' ⟨by omega, h.2⟩, rfl⟩⟩
     have hce : ch = 2 * r + 1 := by rcases hch with h | h; exact absurd ⟨by omega, h.2.1⟩ h36'; exact h.2
     refine W.skip ?_
     refine thn_n ?_
     refine W.seq ?_
     refine W.seq ?_
     refine W.drawB ksrt_mixed (by kernel_rfl) ?_
     refine LQ.val (fun w hw => x_mv (v := .slice _ _ _) rfl) rfl ?_
     refine LQ.val (fun w hw => x_mv (v := .int _ _) rfl) rfl ?_
     refine LQ.val (fun w hw => x_mv (v := .int _ _) rfl) rfl ?_
     refine LQ.val (fun w hw => x_add rfl rfl (wr64 (by omega))) rfl ?_
     refine LQ.val (fun w hw => x_ia1 (j := fs + r) Try.underlying22 ksrt_sz9 rfl rfl (by omega) (by omega)) rfl ?_
     refine LQ.val (fun w hw => x_ld (v := S _) ksrt_oc9 rfl (hw.keep (hR.at (i := fs + r) (by omega)))) rfl ?_
     refine LQ.val (fun w hw => x_mv (v := .slice _ _ _) rfl) rfl ?_
     refine LQ.val (fun w hw => x_mv (v := .int _ _) rfl) rfl ?_
     refine LQ.val (fun w hw => x_mv (v := .int _ _) rfl) rfl ?_
     refine LQ.val (fun w hw => x_add rfl rfl (wr64 (by omega))) rfl ?_
     refine LQ.val (fun w hw => x_ia1 (j := fs + ch) Try.underlying22 ksrt_sz9 rfl rfl (by omega) (by omega)) rfl ?_
     refine LQ.val (fun w hw => x_ld (v := S _) ksrt_oc9 rfl (hw.keep (hR.at (i := fs + ch) (by omega)))) rfl ?_
     refine LQ.ret (fun w => x_call ksrt_en183 rfl) (fun w hw => Ret.mono (less_ok _ _ _) (fun _ _ h => ⟨h.1, Gr.trans hw h.2⟩)) rfl ?_
     refine LQ.val (fun w hw => x_not rfl) rfl ?_
     refine LQ.nil ?_
     intro w39 hw
     have hB := hB.carry hw; have hR := hR.carry hw
     refine thn_n ?_
     refine W.cond (b := _) rfl (fun g52 => ?_) (fun g52 => ?_)
     ·have h52 := (not_t g52)
      refine W.ret (thn_r (blk_r (thn_r (blk_r (fin_mk (.inr rfl) ?_)))))
      exact ⟨rfl, hB, by rw [← hq, sift_step (ch := ch) (by omega) hch, if_neg (bneg h52)]; exact hR⟩
     ·have h52 := (not_f g52)
      refine W.skip ?_
      refine thn_n ?_
      refine W.seq ?_
      refine W.drawS ksrt_mixed ?_
      have hB := hB.carry (bel_drew _); have hR := hR.carry (bel_drew _)
      refine LA.take (i := 0) rfl (by kernel_rfl) (by kernel_rfl) (by kernel_rfl) (fun w => x_mv (v := .slice _ _ _) rfl) rfl ?_
      refine LA.take (i := 1) rfl (by kernel_rfl) (by kernel_rfl) (by kernel_rfl) (fun w => x_mv (v := .int _ _) rfl) rfl ?_
      refine LA.take (i := 2) rfl (by kernel_rfl) (by kernel_rfl) (by kernel_rfl) (fun w => x_mv (v := .int _ _) rfl) rfl ?_
      refine LA.take (i := 3) rfl (by kernel_rfl) (by kernel_rfl) (by kernel_rfl) (fun w => x_add rfl rfl (wr64 (by omega))) rfl ?_
      refine LA.take (i := 4) rfl (by kernel_rfl) (by kernel_rfl) (by kernel_rfl) (fun w => x_mv (v := .slice _ _ _) rfl) rfl ?_
      refine LA.take (i := 5) rfl (by kernel_rfl) (by kernel_rfl) (by kernel_rfl) (fun w => x_mv (v := .int _ _) rfl) rfl ?_
      refine LA.take (i := 6) rfl (by kernel_rfl) (by kernel_rfl) (by kernel_rfl) (fun w => x_mv (v := .int _ _) rfl) rfl ?_
      refine LA.take (i := 7) rfl (by kernel_rfl) (by kernel_rfl) (by kernel_rfl) (fun w => x_add rfl rfl (wr64 (by omega))) rfl ?_
      refine LA.take (i := 8) rfl (by kernel_rfl) (by kernel_rfl) (by kernel_rfl) (fun w => x_mv (v := .slice _ _ _) rfl) rfl ?_
      refine LA.take (i := 9) rfl (by kernel_rfl) (by kernel_rfl) (by kernel_rfl) (fun w => x_mv (v := .int _ _) rfl) rfl ?_
      refine LA.take (i := 10) rfl (by kernel_rfl) (by kernel_rfl) (by kernel_rfl) (fun w => x_mv (v := .int _ _) rfl) rfl ?_
      refine LA.take (i := 11) rfl (by kernel_rfl) (by kernel_rfl) (by kernel_rfl) (fun w => x_add rfl rfl (wr64 (by omega))) rfl ?_
      refine LA.take (i := 12) rfl (by kernel_rfl) (by kernel_rfl) (by kernel_rfl) (fun w => x_ia1 (j := fs + ch) Try.underlying22 ksrt_sz9 rfl rfl (by omega) (by omega)) rfl ?_
      refine LA.take (i := 14) rfl (by kernel_rfl) (by kernel_rfl) (by kernel_rfl) (fun w => x_mv (v := .slice _ _ _) rfl) rfl ?_
      refine LA.take (i := 15) rfl (by kernel_rfl) (by kernel_rfl) (by kernel_rfl) (fun w => x_mv (v := .int _ _) rfl) rfl ?_
      refine LA.take (i := 16) rfl (by kernel_rfl) (by kernel_rfl) (by kernel_rfl) (fun w => x_mv (v := .int _ _) rfl) rfl ?_
      refine LA.take (i := 17) rfl (by kernel_rfl) (by kernel_rfl) (by kernel_rfl) (fun w => x_add rfl rfl (wr64 (by omega))) rfl ?_
      refine LA.take (i := 18) rfl (by kernel_rfl) (by kernel_rfl) (by kernel_rfl) (fun w => x_ia1 (j := fs + r) Try.underlying22 ksrt_sz9 rfl rfl (by omega) (by omega)) rfl ?_
      refine LA.pair (i := 13) (j := 19) rfl rfl (by kernel_rfl) (by kernel_rfl) (by kernel_rfl) rfl rfl (x_ld (v := S _) ksrt_oc9 rfl (hR.at (i := fs + ch) (by omega))) (x_ld (v := S _) ksrt_oc9 rfl (hR.at (i := fs + r) (by omega))) (x_ld (v := S _) ksrt_oc9 rfl (hR.at (i := fs + r) (by omega))) (x_ld (v := S _) ksrt_oc9 rfl (hR.at (i := fs + ch) (by omega))) rfl rfl ?_
      refine LA.take (i := 20) rfl (by kernel_rfl) (by kernel_rfl) (by kernel_rfl) (fun w => x_ia1 (j := fs + r) Try.underlying22 ksrt_sz9 rfl rfl (by omega) (by omega)) rfl ?_
      refine LA.step (rs := [21]) (by kernel_rfl) (by simp) ⟨⟨_, rfl, ?_⟩, trivial⟩
      refine L.setAt (enc := S) (j := fs + r) ksrt_sz9 rfl rfl rfl hR (by omega) (fun wl68 hR hsl68 hw hzl68 => ?_)
      have hB := hB.trans hw
      refine L.nil ?_
      refine thn_n ?_
      refine LA.take (i := 22) rfl (by kernel_rfl) (by kernel_rfl) (by kernel_rfl) (fun w => x_ia1 (j := fs + ch) Try.underlying22 ksrt_sz9 rfl rfl (by omega) (by omega)) rfl ?_
      refine LA.step (rs := [23]) (by kernel_rfl) (by simp) ⟨⟨_, rfl, ?_⟩, trivial⟩
      refine L.setAt (enc := S) (j := fs + ch) ksrt_sz9 rfl rfl rfl hR (by omega) (fun wl70 hR hsl70 hw hzl70 => ?_)
      have hB := hB.trans hw
      refine L.nil ?_
      refine thn_n ?_
      refine LA.done (by kernel_rfl) ?_
      refine nrm_n ?_
      refine thn_n ?_
      refine W.region ?_
      refine L.val (x_mv (v := .int _ _) rfl) rfl ?_
      refine L.val (x_as (v := .int _ _) rfl) rfl ?_
      refine L.nil ?_
      refine blk_n ?_
      refine thn_n ⟨rfl, ?_⟩
      refine ⟨_, ?_, ch, swp c (fs + r) (fs + ch), rfl, by first | rfl | exact vi (by omega) | exact vs (by first | assumption | (rw [hst]; done) | (rw [hst]; simp only [List.append_assoc])), by first | rfl | exact vi (by omega) | exact vs (by first | assumption | (rw [hst]; done) | (rw [hst]; simp only [List.append_assoc])), by first | rfl | exact vi (by omega) | exact vs (by first | assumption | (rw [hst]; done) | (rw [hst]; simp only [List.append_assoc])), by first | rfl | exact vi (by omega) | exact vs (by first | assumption | (rw [hst]; done) | (rw [hst]; simp only [List.append_assoc])), (by first | assumption | omega | rfl), (by first | assumption | omega | rfl), (by rw [size_swp]; exact hn), (by first | assumption | omega | rfl), (by rw [← hq, sift_step (ch := ch) (by omega) hch, if_pos h52])⟩
      omega

theorem size_sift {α : Type} [Inhabited α] {lt : α → α → Bool} {hi first : Nat} : ∀ (N r : Nat) (d : Array α), hi - r < N → (siftDown lt hi first r d).size = d.size := by
  intro N
  induction N with
  | zero => intro r d h; omega
  | succ N ih =>
    intro r d h
    rw [siftDown]
    split
    · rfl
    · split
      · split
        · rfl
        · split
          · rw [ih _ _ (by omega), size_swp]
          · rfl
      · split
        · rfl
        · rw [ih _ _ (by omega), size_swp]
theorem build_pred {α : Type} [Inhabited α] {lt : α → α → Bool} {hi f k : Nat} {c : Array α} (h : 0 < k) : heapBuild lt hi f (k - 1) (siftDown lt hi f (k - 1) c) = heapBuild lt hi f k c := by
  cases k with
  | zero => omega
  | succ k => rfl
theorem pop_pred {α : Type} [Inhabited α] {lt : α → α → Bool} {f k : Nat} {c : Array α} (h : 0 < k) : heapPop lt f (k - 1) (siftDown lt (k - 1) f 0 (swp c f (f + (k - 1)))) = heapPop lt f k c := by
  cases k with
  | zero => omega
  | succ k => rfl
theorem heap_ok (b o a e cap n : Nat) (T : TypeId) (hd tl : List Value) (d : Array Str) (w : World) (hR : Row S w b o T hd d tl) (hn : d.size = n) (hc : n ≤ 2000000000000000000) (hae : a < e) (he : e ≤ n) :
    Ret Try.prog 178 #[.slice (some ⟨b, o, none⟩) n cap, .int .i64 a, .int .i64 e] w fun v w' => v = .tuple #[] ∧ Gr (· = b) w w' ∧ Row S w' b o T hd (heapSort ltStr d a e) tl := by
  refine ret_of_W Try.func178 rfl (Nat.le_of_ble_eq_true rfl) (res0 rfl) ?_
  have hB := Gr.refl (· = b) w
  refine W.seq ?_
  refine W.region ?_
  refine L.val (x_mv (v := .int _ _) rfl) rfl ?_
  refine L.val (x_as (v := .int _ _) rfl) rfl ?_
  refine L.nil ?_
  refine thn_n ?_
  refine W.seq ?_
  refine W.region ?_
  refine L.val (x_as (v := .int _ _) rfl) rfl ?_
  refine L.nil ?_
  refine thn_n ?_
  refine W.seq ?_
  refine W.region ?_
  refine L.val (x_mv (v := .int _ _) rfl) rfl ?_
  refine L.val (x_mv (v := .int _ _) rfl) rfl ?_
  refine L.val (x_sub rfl rfl (wr64 (by omega))) rfl ?_
  refine L.val (x_as (v := .int _ _) rfl) rfl ?_
  refine L.nil ?_
  refine thn_n ?_
  refine W.seq ?_
  refine W.seq ?_
  refine W.region ?_
  refine L.val (x_mv (v := .int _ _) rfl) rfl ?_
  refine L.val (x_sub rfl rfl (wr64 (by omega))) rfl ?_
  refine L.val (x_quo rfl rfl (by decide) (wq64 (by omega) (by decide))) rfl ?_
  refine L.val (x_as (v := .int _ _) rfl) rfl ?_
  refine L.nil ?_
  refine thn_n ?_
  refine W.block ?_
  refine W.loop (fun m' E w' => ∃ (k : Nat) (c : Array Str), m' = k ∧ E 0 = .slice (some ⟨b, o, none⟩) n cap ∧ E 6 = .int .i64 (a : Nat) ∧ E 7 = .int .i64 0 ∧ E 8 = .int .i64 ((e : Nat) - (a : Nat)) ∧ E 9 = .int .i64 ((k : Nat) - 1) ∧ (Gr (· = b) w w') ∧ (Row S w' b o T hd c tl) ∧ (c.size = n) ∧ (k ≤ (e - a - 1) / 2 + 1) ∧ (heapBuild ltStr (e - a) a k c = heapBuild ltStr (e - a) a ((e - a - 1) / 2 + 1) d)) ((e - a - 1) / 2 + 1) ?_ ?_
  ·exact ⟨(e - a - 1) / 2 + 1, d, by omega, by first | rfl | exact vi (by omega) | exact vs (by first | assumption | (rw [hst]; done) | (rw [hst]; simp only [List.append_assoc])), by first | rfl | exact vi (by omega) | exact vs (by first | assumption | (rw [hst]; done) | (rw [hst]; simp only [List.append_assoc])), by first | rfl | exact vi (by omega) | exact vs (by first | assumption | (rw [hst]; done) | (rw [hst]; simp only [List.append_assoc])), by first | rfl | exact vi (by omega) | exact vs (by first | assumption | (rw [hst]; done) | (rw [hst]; simp only [List.append_assoc])), by first | rfl | exact vi (by omega) | exact vs (by first | assumption | (rw [hst]; done) | (rw [hst]; simp only [List.append_assoc])), (by first | assumption | omega | rfl), (by first | assumption | omega | rfl), (by first | assumption | omega | rfl), (by first | assumption | omega | rfl), (by first | assumption | omega | rfl)⟩
  ·rintro _ E wL18 ⟨k, c, em, e0, e6, e7, e8, e9, hB, hR, hn, hk, hq⟩
   rw [upd_self e0, upd_self e6, upd_self e7, upd_self e8, upd_self e9]
   refine W.seq ?_
   refine W.seq ?_
   refine W.region ?_
   refine L.val (x_mv (v := .int _ _) rfl) rfl ?_
   refine L.val (x_geq rfl rfl) rfl ?_
   refine L.nil ?_
   refine thn_n ?_
   refine W.cond (b := _) rfl (fun g19 => ?_) (fun g19 => ?_)
   ·have h19 := of_decide_eq_true g19
    refine W.skip ?_
    refine thn_n ?_
    refine W.seq ?_
    refine W.block ?_
    refine W.region ?_
    refine L.val (x_mv (v := .slice _ _ _) rfl) rfl ?_
    refine L.val (x_mv (v := .int _ _) rfl) rfl ?_
    refine L.val (x_mv (v := .int _ _) rfl) rfl ?_
    refine L.val (x_mv (v := .int _ _) rfl) rfl ?_
    have hke : ((k : Nat) : Int) - 1 = ((k - 1 : Nat) : Int) := by omega
    have hee : ((e : Nat) : Int) - (a : Nat) = ((e - a : Nat) : Int) := by omega
    rw [hke, hee]
    refine L.ret (x_call ksrt_en187 rfl) rfl (sift_ok b o (k - 1) (e - a) a cap n T hd tl c _ hR hn hc (by omega) (by omega)) ?_
    rintro _ w26 ⟨rfl, hg, hR⟩
    have hB := hB.trans hg
    refine L.nil ?_
    refine blk_n ?_
    refine thn_n ?_
    refine W.region ?_
    refine L.val (x_mv (v := .int _ _) rfl) rfl ?_
    refine L.val (x_sub rfl rfl (wr64 (by omega))) rfl ?_
    refine L.val (x_as (v := .int _ _) rfl) rfl ?_
    refine L.nil ?_
    refine thn_n ⟨rfl, ?_⟩
    refine ⟨_, ?_, k - 1, siftDown ltStr (e - a) a (k - 1) c, rfl, by first | rfl | exact vi (by omega) | exact vs (by first | assumption | (rw [hst]; done) | (rw [hst]; simp only [List.append_assoc])), by first | rfl | exact vi (by omega) | exact vs (by first | assumption | (rw [hst]; done) | (rw [hst]; simp only [List.append_assoc])), by first | rfl | exact vi (by omega) | exact vs (by first | assumption | (rw [hst]; done) | (rw [hst]; simp only [List.append_assoc])), by first | rfl | exact vi (by omega) | exact vs (by first | assumption | (rw [hst]; done) | (rw [hst]; simp only [List.append_assoc])), by first | rfl | exact vi (by omega) | exact vs (by first | assumption | (rw [hst]; done) | (rw [hst]; simp only [List.append_assoc])), (by first | assumption | omega | rfl), (by first | assumption | omega | rfl), (by rw [size_sift _ _ _ (Nat.lt_succ_self _)]; exact hn), (by first | assumption | omega | rfl), (by rw [← hq]; exact build_pred (by omega))⟩
    omega
   ·have h19 := dle_f g19
    refine W.exit (thn_x (thn_x (blk_hit ?_)))
    refine thn_n ?_
    refine W.seq ?_
    refine W.region ?_
    refine L.val (x_mv (v := .int _ _) rfl) rfl ?_
    refine L.val (x_sub rfl rfl (wr64 (by omega))) rfl ?_
    refine L.val (x_as (v := .int _ _) rfl) rfl ?_
    refine L.nil ?_
    refine thn_n ?_
    refine W.block ?_
    refine W.loop (fun m' E w' => ∃ (k : Nat) (c : Array Str), m' = k ∧ E 0 = .slice (some ⟨b, o, none⟩) n cap ∧ E 6 = .int .i64 (a : Nat) ∧ E 7 = .int .i64 0 ∧ E 10 = .int .i64 ((k : Nat) - 1) ∧ (Gr (· = b) w w') ∧ (Row S w' b o T hd c tl) ∧ (c.size = n) ∧ (k ≤ e - a) ∧ (heapPop ltStr a k c = heapSort ltStr d a e)) (e - a) ?_ ?_
    ·exact ⟨e - a, c, by omega, by first | rfl | exact vi (by omega) | exact vs (by first | assumption | (rw [hst]; done) | (rw [hst]; simp only [List.append_assoc])), by first | rfl | exact vi (by omega) | exact vs (by first | assumption | (rw [hst]; done) | (rw [hst]; simp only [List.append_assoc])), by first | rfl | exact vi (by omega) | exact vs (by first | assumption | (rw [hst]; done) | (rw [hst]; simp only [List.append_assoc])), by first | rfl | exact vi (by omega) | exact vs (by first | assumption | (rw [hst]; done) | (rw [hst]; simp only [List.append_assoc])), (by first | assumption | omega | rfl), (by first | assumption | omega | rfl), (by first | assumption | omega | rfl), (by first | assumption | omega | rfl), (by rw [heapSort, ← hq, show k = 0 by omega]; rfl)⟩
    ·rintro _ E wL29 ⟨k, c, em, e0, e6, e7, e10, hB, hR, hn, hk, hq⟩
     rw [upd_self e0, upd_self e6, upd_self e7, upd_self e10]
     refine W.seq ?_
     refine W.seq ?_
     refine W.region ?_
     refine L.val (x_mv (v := .int _ _) rfl) rfl ?_
     refine L.val (x_geq rfl rfl) rfl ?_
     refine L.nil ?_
     refine thn_n ?_
     refine W.cond (b := _) rfl (fun g30 => ?_) (fun g30 => ?_)
     ·have h30 := of_decide_eq_true g30
      refine W.skip ?_
      refine thn_n ?_
      refine W.seq ?_
      refine W.block ?_
      refine W.seq ?_
      refine W.drawS ksrt_mixed ?_
      have hB := hB.carry (bel_drew _); have hR := hR.carry (bel_drew _)
      refine LA.take (i := 0) rfl (by kernel_rfl) (by kernel_rfl) (by kernel_rfl) (fun w => x_mv (v := .slice _ _ _) rfl) rfl ?_
      refine LA.take (i := 1) rfl (by kernel_rfl) (by kernel_rfl) (by kernel_rfl) (fun w => x_mv (v := .int _ _) rfl) rfl ?_
      refine LA.take (i := 2) rfl (by kernel_rfl) (by kernel_rfl) (by kernel_rfl) (fun w => x_mv (v := .slice _ _ _) rfl) rfl ?_
      refine LA.take (i := 3) rfl (by kernel_rfl) (by kernel_rfl) (by kernel_rfl) (fun w => x_mv (v := .int _ _) rfl) rfl ?_
      refine LA.take (i := 4) rfl (by kernel_rfl) (by kernel_rfl) (by kernel_rfl) (fun w => x_mv (v := .int _ _) rfl) rfl ?_
      refine LA.take (i := 5) rfl (by kernel_rfl) (by kernel_rfl) (by kernel_rfl) (fun w => x_add rfl rfl (wr64 (by omega))) rfl ?_
      refine LA.take (i := 6) rfl (by kernel_rfl) (by kernel_rfl) (by kernel_rfl) (fun w => x_mv (v := .slice _ _ _) rfl) rfl ?_
      refine LA.take (i := 7) rfl (by kernel_rfl) (by kernel_rfl) (by kernel_rfl) (fun w => x_mv (v := .int _ _) rfl) rfl ?_
      refine LA.take (i := 8) rfl (by kernel_rfl) (by kernel_rfl) (by kernel_rfl) (fun w => x_mv (v := .int _ _) rfl) rfl ?_
      refine LA.take (i := 9) rfl (by kernel_rfl) (by kernel_rfl) (by kernel_rfl) (fun w => x_add rfl rfl (wr64 (by omega))) rfl ?_
      refine LA.take (i := 10) rfl (by kernel_rfl) (by kernel_rfl) (by kernel_rfl) (fun w => x_ia1 (j := a + (k - 1)) Try.underlying22 ksrt_sz9 rfl rfl (by omega) (by omega)) rfl ?_
      refine LA.take (i := 12) rfl (by kernel_rfl) (by kernel_rfl) (by kernel_rfl) (fun w => x_mv (v := .slice _ _ _) rfl) rfl ?_
      refine LA.take (i := 13) rfl (by kernel_rfl) (by kernel_rfl) (by kernel_rfl) (fun w => x_mv (v := .int _ _) rfl) rfl ?_
      refine LA.take (i := 14) rfl (by kernel_rfl) (by kernel_rfl) (by kernel_rfl) (fun w => x_ia1 (j := a) Try.underlying22 ksrt_sz9 rfl rfl (by omega) (by omega)) rfl ?_
      refine LA.pair (i := 11) (j := 15) rfl rfl (by kernel_rfl) (by kernel_rfl) (by kernel_rfl) rfl rfl (x_ld (v := S _) ksrt_oc9 rfl (hR.at (i := a + (k - 1)) (by omega))) (x_ld (v := S _) ksrt_oc9 rfl (hR.at (i := a) (by omega))) (x_ld (v := S _) ksrt_oc9 rfl (hR.at (i := a) (by omega))) (x_ld (v := S _) ksrt_oc9 rfl (hR.at (i := a + (k - 1)) (by omega))) rfl rfl ?_
      refine LA.take (i := 16) rfl (by kernel_rfl) (by kernel_rfl) (by kernel_rfl) (fun w => x_ia1 (j := a) Try.underlying22 ksrt_sz9 rfl rfl (by omega) (by omega)) rfl ?_
      refine LA.step (rs := [17]) (by kernel_rfl) (by simp) ⟨⟨_, rfl, ?_⟩, trivial⟩
      refine L.setAt (enc := S) (j := a) ksrt_sz9 rfl rfl rfl hR (by omega) (fun wl44 hR hsl44 hw hzl44 => ?_)
      have hB := hB.trans hw
      refine L.nil ?_
      refine thn_n ?_
      refine LA.take (i := 18) rfl (by kernel_rfl) (by kernel_rfl) (by kernel_rfl) (fun w => x_ia1 (j := a + (k - 1)) Try.underlying22 ksrt_sz9 rfl rfl (by omega) (by omega)) rfl ?_
      refine LA.step (rs := [19]) (by kernel_rfl) (by simp) ⟨⟨_, rfl, ?_⟩, trivial⟩
      refine L.setAt (enc := S) (j := a + (k - 1)) ksrt_sz9 rfl rfl rfl hR (by omega) (fun wl46 hR hsl46 hw hzl46 => ?_)
      have hB := hB.trans hw
      refine L.nil ?_
      refine thn_n ?_
      refine LA.done (by kernel_rfl) ?_
      refine nrm_n ?_
      refine thn_n ?_
      refine W.region ?_
      refine L.val (x_mv (v := .slice _ _ _) rfl) rfl ?_
      refine L.val (x_mv (v := .int _ _) rfl) rfl ?_
      refine L.val (x_mv (v := .int _ _) rfl) rfl ?_
      refine L.val (x_mv (v := .int _ _) rfl) rfl ?_
      have hke : ((k : Nat) : Int) - 1 = ((k - 1 : Nat) : Int) := by omega
      rw [hke]
      refine L.ret (x_call ksrt_en187 rfl) rfl (sift_ok b o 0 (k - 1) a cap n T hd tl (swp c a (a + (k - 1))) _ hR (by rw [size_swp]; exact hn) hc (by omega) (by omega)) ?_
      rintro _ w55 ⟨rfl, hg, hR⟩
      have hB := hB.trans hg
      refine L.nil ?_
      refine blk_n ?_
      refine thn_n ?_
      refine W.region ?_
      refine L.val (x_mv (v := .int _ _) rfl) rfl ?_
      refine L.val (x_sub rfl rfl (wr64 (by omega))) rfl ?_
      refine L.val (x_as (v := .int _ _) rfl) rfl ?_
      refine L.nil ?_
      refine thn_n ⟨rfl, ?_⟩
      refine ⟨_, ?_, k - 1, siftDown ltStr (k - 1) a 0 (swp c a (a + (k - 1))), rfl, by first | rfl | exact vi (by omega) | exact vs (by first | assumption | (rw [hst]; done) | (rw [hst]; simp only [List.append_assoc])), by first | rfl | exact vi (by omega) | exact vs (by first | assumption | (rw [hst]; done) | (rw [hst]; simp only [List.append_assoc])), by first | rfl | exact vi (by omega) | exact vs (by first | assumption | (rw [hst]; done) | (rw [hst]; simp only [List.append_assoc])), by first | rfl | exact vi (by omega) | exact vs (by first | assumption | (rw [hst]; done) | (rw [hst]; simp only [List.append_assoc])), (by first | assumption | omega | rfl), (by first | assumption | omega | rfl), (by rw [size_sift _ _ _ (Nat.lt_succ_self _), size_swp]; exact hn), (by first | assumption | omega | rfl), (by rw [← hq]; exact pop_pred (by omega))⟩
      omega
     ·have h30 := dle_f g30
      refine W.exit (thn_x (thn_x (blk_hit ?_)))
      refine fin_mk (.inl rfl) ?_
      exact ⟨rfl, hB, by have := hq; rw [show k = 0 by omega] at this; rw [← this]; exact hR⟩
end Go.Gx

