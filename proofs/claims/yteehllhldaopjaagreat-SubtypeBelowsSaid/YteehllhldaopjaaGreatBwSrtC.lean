/- The library's sort by a comparison: each part as the plain function; a sorted permutation. Conditions: none. -/
import Derived.Test.YteehllhldaopjaaGreatBwSrtP
namespace Go.Gx
open Go.Proofs Go.Sort
theorem ksrtc_en157 : Go.Proofs.Enters Tryz.prog 157 := Go.Proofs.enters_of Tryz.func157 (by kernel_rfl) rfl
theorem ksrtc_en180 : Go.Proofs.Enters Tryz.prog 180 := Go.Proofs.enters_of Tryz.func180 (by kernel_rfl) rfl
theorem ksrtc_en181 : Go.Proofs.Enters Tryz.prog 181 := Go.Proofs.enters_of Tryz.func181 (by kernel_rfl) rfl
theorem ksrtc_en182 : Go.Proofs.Enters Tryz.prog 182 := Go.Proofs.enters_of Tryz.func182 (by kernel_rfl) rfl
theorem ksrtc_en183 : Go.Proofs.Enters Tryz.prog 183 := Go.Proofs.enters_of Tryz.func183 (by kernel_rfl) rfl
theorem ksrtc_en184 : Go.Proofs.Enters Tryz.prog 184 := Go.Proofs.enters_of Tryz.func184 (by kernel_rfl) rfl
theorem ksrtc_en185 : Go.Proofs.Enters Tryz.prog 185 := Go.Proofs.enters_of Tryz.func185 (by kernel_rfl) rfl
theorem ksrtc_en186 : Go.Proofs.Enters Tryz.prog 186 := Go.Proofs.enters_of Tryz.func186 (by kernel_rfl) rfl
theorem ksrtc_en187 : Go.Proofs.Enters Tryz.prog 187 := Go.Proofs.enters_of Tryz.func187 (by kernel_rfl) rfl
theorem ksrtc_en199 : Go.Proofs.Enters Tryz.prog 199 := Go.Proofs.enters_of Tryz.func199 (by kernel_rfl) rfl
theorem ksrtc_en200 : Go.Proofs.Enters Tryz.prog 200 := Go.Proofs.enters_of Tryz.func200 (by kernel_rfl) rfl
theorem ksrtc_en201 : Go.Proofs.Enters Tryz.prog 201 := Go.Proofs.enters_of Tryz.func201 (by kernel_rfl) rfl
theorem ksrtc_en202 : Go.Proofs.Enters Tryz.prog 202 := Go.Proofs.enters_of Tryz.func202 (by kernel_rfl) rfl
theorem ksrtc_en203 : Go.Proofs.Enters Tryz.prog 203 := Go.Proofs.enters_of Tryz.func203 (by kernel_rfl) rfl
theorem ksrtc_en208 : Go.Proofs.Enters Tryz.prog 208 := Go.Proofs.enters_of Tryz.func208 (by kernel_rfl) rfl
theorem ksrtc_mixed : Tryz.prog.follows .mixedOrders = true := by kernel_rfl
theorem ksrtc_oc3 : oneCellT Tryz.prog 3 = true := by kernel_rfl
theorem ksrtc_sz168 : (Tryz.prog.info? 168).map (·.size) = some 1 := by kernel_rfl
theorem ksrtc_sz3 : (Tryz.prog.info? 3).map (·.size) = some 1 := by kernel_rfl
theorem ksrtc_zr168 : (Tryz.prog.info? 168).bind (·.zero) = some (Value.int .u64 0) := by kernel_rfl
theorem ksrtc_zr3 : (Tryz.prog.info? 3).bind (·.zero) = some (Value.int .i64 0) := by kernel_rfl
abbrev ltc {α : Type} (cf : α → α → Int) : α → α → Bool := fun x y => decide (cf x y < 0)
structure Cmp {α : Type} (P : Program) (enc : α → Value) (gF : Nat) (cp : List Value) (cf : α → α → Int) (b N0 : Nat) (w : World) : Prop where
  size : N0 ≤ w.heap.size
  less : ∀ w', Gr (fun k => k = b ∨ N0 ≤ k) w w' → ∀ x y, Ret P gF ([enc x, enc y] ++ cp).toArray w' fun v w'' => v = .int .i64 (cf x y) ∧ Bel w' w''
section
variable {α : Type} {enc : α → Value} {gF : Nat} {cp : List Value} {cf : α → α → Int} {b N0 : Nat} {P : Program} {w w1 : World}
theorem Cmp.mv (h : Cmp P enc gF cp cf b N0 w) (k : Gr (· = b) w w1) : Cmp P enc gF cp cf b N0 w1 :=
  ⟨Nat.le_trans h.size k.size, fun w' g' => h.less w' ((k.mono fun _ _ e => .inl e).trans g')⟩
theorem Cmp.mvB (h : Cmp P enc gF cp cf b N0 w) (k : Bel w w1) : Cmp P enc gF cp cf b N0 w1 := h.mv (k.mono fun _ _ f => f.elim)
theorem Cmp.mvp {p : Nat} (h : Cmp P enc gF cp cf b N0 w) (hp : N0 ≤ p) (k : Gr (· = p) w w1) : Cmp P enc gF cp cf b N0 w1 :=
  ⟨Nat.le_trans h.size k.size, fun w' g' => h.less w' ((k.mono fun _ _ e => .inr (by have e : _ = p := e; omega)).trans g')⟩
theorem Cmp.atB {w2 : World} (h : Cmp P enc gF cp cf b N0 w1) (k : Bel w1 w2) (x y : α) : Ret P gF ([enc x, enc y] ++ cp).toArray w2 fun v w'' => v = .int .i64 (cf x y) ∧ Bel w2 w'' :=
  h.less w2 (k.mono fun _ _ f => f.elim) x y
theorem Cmp.via {w2 : World} (h : Cmp P enc gF cp cf b N0 w) (k : Gr (· = b) w w1) (k2 : Bel w1 w2) (x y : α) : Ret P gF ([enc x, enc y] ++ cp).toArray w2 fun v w'' => v = .int .i64 (cf x y) ∧ Bel w2 w'' :=
  (h.mv k).atB k2 x y
theorem Cmp.viap {p : Nat} {w2 : World} (h : Cmp P enc gF cp cf b N0 w) (hp : N0 ≤ p) (k : Gr (· = p) w w1) (k2 : Bel w1 w2) (x y : α) : Ret P gF ([enc x, enc y] ++ cp).toArray w2 fun v w'' => v = .int .i64 (cf x y) ∧ Bel w2 w'' :=
  (h.mvp hp k).atB k2 x y
end
section
variable {α : Type} [Inhabited α] {enc : α → Value} {gF : Nat} {cp : List Value} {cf : α → α → Int} {N0 : Nat} (eg : Enters Tryz.prog gF) (he1 : ∀ x, (enc x).oneCell' = true)
include eg he1
set_option linter.unusedSectionVars false
set_option linter.unusedVariables false
theorem insertion_okC (b o a e cap n : Nat) (T : TypeId) (hd tl : List Value) (d : Array α) (w : World) (hC : Cmp Tryz.prog enc gF cp cf b N0 w) (hR : Row enc w b o T hd d tl) (hn : d.size = n) (hc : n ≤ 4000000000000000000) (hae : a ≤ e) (he : e ≤ n) :
    Ret Tryz.prog 180 #[.slice (some ⟨b, o, none⟩) n cap, .int .i64 a, .int .i64 e, .func (.func gF) #[] cp.toArray] w fun v w' => v = .tuple #[] ∧ Gr (· = b) w w' ∧ Row enc w' b o T hd (insertionSort (ltc cf) d a e) tl := by
  refine ret_of_W Tryz.func180 rfl (Nat.le_of_ble_eq_true rfl) (res0 rfl) ?_
  have hB := Gr.refl (· = b) w
  refine W.seq ?_
  refine W.region ?_
  refine L.val (x_mv (v := .int _ _) rfl) rfl ?_
  refine L.val (x_add rfl rfl (wr64 (by omega))) rfl ?_
  refine L.val (x_as (v := .int _ _) rfl) rfl ?_
  refine L.nil ?_
  refine thn_n ?_
  refine W.block ?_
  refine W.loop (fun m' E w' => ∃ (i : Nat) (c : Array α), m' = e - i ∧ E 0 = .slice (some ⟨b, o, none⟩) n cap ∧ E 1 = .int .i64 (a : Nat) ∧ E 2 = .int .i64 (e : Nat) ∧ E 8 = .int .i64 (i : Nat) ∧ E 3 = .func (.func gF) #[] cp.toArray ∧ (Gr (· = b) w w') ∧ (Row enc w' b o T hd c tl) ∧ (c.size = n) ∧ (a < i) ∧ (insOuter (ltc cf) a e i c = insertionSort (ltc cf) d a e)) (e - (a + 1)) ?_ ?_
  ·exact ⟨a + 1, d, by omega, by first | rfl | exact vi (by omega), by first | rfl | exact vi (by omega), by first | rfl | exact vi (by omega), by first | rfl | exact vi (by omega), by first | rfl | exact vi (by omega), (by first | assumption | omega | rfl), (by first | assumption | omega | rfl), (by first | assumption | omega | rfl), (by first | assumption | omega | rfl), (by first | assumption | omega | rfl)⟩
  ·rintro _ E wL12 ⟨i, c, em, e0, e1, e2, e8, e3, hB, hR, hn, hi, hq⟩
   rw [upd_self e0, upd_self e1, upd_self e2, upd_self e8, upd_self e3]
   refine W.seq ?_
   refine W.seq ?_
   refine W.region ?_
   refine L.val (x_mv (v := .int _ _) rfl) rfl ?_
   refine L.val (x_mv (v := .int _ _) rfl) rfl ?_
   refine L.val (x_lss rfl rfl) rfl ?_
   refine L.nil ?_
   refine thn_n ?_
   refine W.cond (b := _) rfl (fun g14 => ?_) (fun g14 => ?_)
   ·have h14 := of_decide_eq_true g14
    refine W.skip ?_
    refine thn_n ?_
    refine W.seq ?_
    refine W.block ?_
    refine W.seq ?_
    refine W.region ?_
    refine L.val (x_mv (v := .int _ _) rfl) rfl ?_
    refine L.val (x_as (v := .int _ _) rfl) rfl ?_
    refine L.nil ?_
    refine thn_n ?_
    refine W.block ?_
    refine W.loop (fun m' E w' => ∃ (j : Nat) (q : Array α), m' = j ∧ E 0 = .slice (some ⟨b, o, none⟩) n cap ∧ E 1 = .int .i64 (a : Nat) ∧ E 2 = .int .i64 (e : Nat) ∧ E 8 = .int .i64 (i : Nat) ∧ E 9 = .int .i64 (j : Nat) ∧ E 3 = .func (.func gF) #[] cp.toArray ∧ (Gr (· = b) w w') ∧ (Row enc w' b o T hd q tl) ∧ (q.size = n) ∧ (j ≤ i) ∧ (insInner (ltc cf) a j q = insInner (ltc cf) a i c)) (i) ?_ ?_
    ·exact ⟨i, c, by omega, by first | rfl | exact vi (by omega), by first | rfl | exact vi (by omega), by first | rfl | exact vi (by omega), by first | rfl | exact vi (by omega), by first | rfl | exact vi (by omega), by first | rfl | exact vi (by omega), (by first | assumption | omega | rfl), (by first | assumption | omega | rfl), (by first | assumption | omega | rfl), (by first | assumption | omega | rfl), (by first | assumption | omega | rfl)⟩
    ·rintro _ E wL18 ⟨j, q, em, e0, e1, e2, e8, e9, e3, hB, hR, hn, hj, hq2⟩
     rw [upd_self e0, upd_self e1, upd_self e2, upd_self e8, upd_self e9, upd_self e3]
     refine W.seq ?_
     refine W.seq ?_
     refine W.drawB ksrtc_mixed (by kernel_rfl) ?_
     refine LQ.val (fun w hw => x_mv (v := .int _ _) rfl) rfl ?_
     refine LQ.val (fun w hw => x_mv (v := .int _ _) rfl) rfl ?_
     refine LQ.val (fun w hw => x_gtr rfl rfl) rfl ?_
     refine LQ.val (fun w hw => x_mv (v := .bool _) rfl) rfl ?_
     refine' LQ.group 12 22 33 33 21 true rfl ?_ ?_ ?_
     rotate_left 1
     ·intro g21
      have h21 := of_decide_eq_true g21
      refine LQ.gyes' (dj := 21) (b := _) rfl rfl g21 ?_
      refine LQ.val (fun w hw => x_mv (v := .func _ _ _) rfl) rfl ?_
      refine LQ.gyes' (dj := 21) (b := _) rfl rfl g21 ?_
      refine LQ.val (fun w hw => x_mv (v := .slice _ _ _) rfl) rfl ?_
      refine LQ.gyes' (dj := 21) (b := _) rfl rfl g21 ?_
      refine LQ.val (fun w hw => x_mv (v := .int _ _) rfl) rfl ?_
      refine LQ.gyes' (dj := 21) (b := _) rfl rfl g21 ?_
      refine LQ.val (fun w hw => x_ia1 (j := j) Tryz.underlying106 ksrtc_sz3 rfl rfl (by omega) (by omega)) rfl ?_
      refine LQ.gyes' (dj := 21) (b := _) rfl rfl g21 ?_
      refine LQ.val (fun w hw => x_ld (v := enc _) ksrtc_oc3 rfl (hw.keep (hR.at (i := j) (by omega)))) rfl ?_
      refine LQ.gyes' (dj := 21) (b := _) rfl rfl g21 ?_
      refine LQ.val (fun w hw => x_mv (v := .slice _ _ _) rfl) rfl ?_
      refine LQ.gyes' (dj := 21) (b := _) rfl rfl g21 ?_
      refine LQ.val (fun w hw => x_mv (v := .int _ _) rfl) rfl ?_
      refine LQ.gyes' (dj := 21) (b := _) rfl rfl g21 ?_
      refine LQ.val (fun w hw => x_sub rfl rfl (wr64 (by omega))) rfl ?_
      refine LQ.gyes' (dj := 21) (b := _) rfl rfl g21 ?_
      refine LQ.val (fun w hw => x_ia1 (j := j - 1) Tryz.underlying106 ksrtc_sz3 rfl rfl (by omega) (by omega)) rfl ?_
      refine LQ.gyes' (dj := 21) (b := _) rfl rfl g21 ?_
      refine LQ.val (fun w hw => x_ld (v := enc _) ksrtc_oc3 rfl (hw.keep (hR.at (i := j - 1) (by omega)))) rfl ?_
      refine LQ.gyes' (dj := 21) (b := _) rfl rfl g21 ?_
      refine LQ.ret (fun w => x_callv eg rfl rfl) (fun w hw => Ret.mono (hC.via hB hw _ _) (fun _ _ h => ⟨h.1, Gr.trans hw h.2⟩)) rfl ?_
      refine LQ.gyes' (dj := 21) (b := _) rfl rfl g21 ?_
      refine LQ.val (fun w hw => x_lss rfl rfl) rfl ?_
      refine LQ.nil ?_
      refine ⟨?_, rfl⟩
      repeat (first | exact jeq.refl _ _ _ | refine jeq.upd rfl ?_ | refine jeq.jk rfl rfl ?_)
     ·intro g21
      refine LQ.gno (dj := 21) (b := _) rfl rfl g21 rfl ?_
      refine LQ.gno (dj := 21) (b := _) rfl rfl g21 rfl ?_
      refine LQ.gno (dj := 21) (b := _) rfl rfl g21 rfl ?_
      refine LQ.gno (dj := 21) (b := _) rfl rfl g21 rfl ?_
      refine LQ.gno (dj := 21) (b := _) rfl rfl g21 rfl ?_
      refine LQ.gno (dj := 21) (b := _) rfl rfl g21 rfl ?_
      refine LQ.gno (dj := 21) (b := _) rfl rfl g21 rfl ?_
      refine LQ.gno (dj := 21) (b := _) rfl rfl g21 rfl ?_
      refine LQ.gno (dj := 21) (b := _) rfl rfl g21 rfl ?_
      refine LQ.gno (dj := 21) (b := _) rfl rfl g21 rfl ?_
      refine LQ.gno (dj := 21) (b := _) rfl rfl g21 rfl ?_
      refine LQ.gno (dj := 21) (b := _) rfl rfl g21 rfl ?_
      refine LQ.nil ?_
      repeat (first | exact jeq.refl _ _ _ | refine jeq.upd rfl ?_ | refine jeq.jk rfl rfl ?_)
     intro J21 j21
     refine LQ.val (fun w hw => x_and rfl j21) rfl ?_
     refine LQ.nil ?_
     intro w18 hw
     have hB := hB.carry hw; have hR := hR.carry hw
     refine thn_n ?_
     refine W.cond (b := _) rfl (fun g34 => ?_) (fun g34 => ?_)
     ·have h34 := g34
      have hj' := and1 h34
      refine W.skip ?_
      refine thn_n ?_
      refine W.seq ?_
      refine W.block ?_
      refine W.drawS ksrtc_mixed ?_
      have hB := hB.carry (bel_drew _); have hR := hR.carry (bel_drew _)
      refine LA.take (i := 0) rfl (by kernel_rfl) (by kernel_rfl) (by kernel_rfl) (fun w => x_mv (v := .slice _ _ _) rfl) rfl ?_
      refine LA.take (i := 1) rfl (by kernel_rfl) (by kernel_rfl) (by kernel_rfl) (fun w => x_mv (v := .int _ _) rfl) rfl ?_
      refine LA.take (i := 2) rfl (by kernel_rfl) (by kernel_rfl) (by kernel_rfl) (fun w => x_mv (v := .slice _ _ _) rfl) rfl ?_
      refine LA.take (i := 3) rfl (by kernel_rfl) (by kernel_rfl) (by kernel_rfl) (fun w => x_mv (v := .int _ _) rfl) rfl ?_
      refine LA.take (i := 4) rfl (by kernel_rfl) (by kernel_rfl) (by kernel_rfl) (fun w => x_sub rfl rfl (wr64 (by omega))) rfl ?_
      refine LA.take (i := 5) rfl (by kernel_rfl) (by kernel_rfl) (by kernel_rfl) (fun w => x_mv (v := .slice _ _ _) rfl) rfl ?_
      refine LA.take (i := 6) rfl (by kernel_rfl) (by kernel_rfl) (by kernel_rfl) (fun w => x_mv (v := .int _ _) rfl) rfl ?_
      refine LA.take (i := 7) rfl (by kernel_rfl) (by kernel_rfl) (by kernel_rfl) (fun w => x_sub rfl rfl (wr64 (by omega))) rfl ?_
      refine LA.take (i := 8) rfl (by kernel_rfl) (by kernel_rfl) (by kernel_rfl) (fun w => x_ia1 (j := j - 1) Tryz.underlying106 ksrtc_sz3 rfl rfl (by omega) (by omega)) rfl ?_
      refine LA.take (i := 10) rfl (by kernel_rfl) (by kernel_rfl) (by kernel_rfl) (fun w => x_mv (v := .slice _ _ _) rfl) rfl ?_
      refine LA.take (i := 11) rfl (by kernel_rfl) (by kernel_rfl) (by kernel_rfl) (fun w => x_mv (v := .int _ _) rfl) rfl ?_
      refine LA.take (i := 12) rfl (by kernel_rfl) (by kernel_rfl) (by kernel_rfl) (fun w => x_ia1 (j := j) Tryz.underlying106 ksrtc_sz3 rfl rfl (by omega) (by omega)) rfl ?_
      refine LA.pair (i := 9) (j := 13) rfl rfl (by kernel_rfl) (by kernel_rfl) (by kernel_rfl) rfl rfl (x_ld (v := enc _) ksrtc_oc3 rfl (hR.at (i := j - 1) (by omega))) (x_ld (v := enc _) ksrtc_oc3 rfl (hR.at (i := j) (by omega))) (x_ld (v := enc _) ksrtc_oc3 rfl (hR.at (i := j) (by omega))) (x_ld (v := enc _) ksrtc_oc3 rfl (hR.at (i := j - 1) (by omega))) rfl rfl ?_
      refine LA.take (i := 14) rfl (by kernel_rfl) (by kernel_rfl) (by kernel_rfl) (fun w => x_ia1 (j := j) Tryz.underlying106 ksrtc_sz3 rfl rfl (by omega) (by omega)) rfl ?_
      refine LA.step (rs := [15]) (by kernel_rfl) (by simp) ⟨⟨_, rfl, ?_⟩, trivial⟩
      refine L.setAt (enc := enc) (j := j) ksrtc_sz3 rfl rfl (he1 _) hR (by omega) (fun wl41 hR hsl41 hw hzl41 => ?_)
      have hB := hB.trans hw
      refine L.nil ?_
      refine thn_n ?_
      refine LA.take (i := 16) rfl (by kernel_rfl) (by kernel_rfl) (by kernel_rfl) (fun w => x_ia1 (j := j - 1) Tryz.underlying106 ksrtc_sz3 rfl rfl (by omega) (by omega)) rfl ?_
      refine LA.step (rs := [17]) (by kernel_rfl) (by simp) ⟨⟨_, rfl, ?_⟩, trivial⟩
      refine L.setAt (enc := enc) (j := j - 1) ksrtc_sz3 rfl rfl (he1 _) hR (by omega) (fun wl43 hR hsl43 hw hzl43 => ?_)
      have hB := hB.trans hw
      refine L.nil ?_
      refine thn_n ?_
      refine LA.done (by kernel_rfl) ?_
      refine nrm_n ?_
      refine blk_n ?_
      refine thn_n ?_
      refine W.region ?_
      refine L.val (x_mv (v := .int _ _) rfl) rfl ?_
      refine L.val (x_sub rfl rfl (wr64 (by omega))) rfl ?_
      refine L.val (x_as (v := .int _ _) rfl) rfl ?_
      refine L.nil ?_
      refine thn_n ⟨rfl, ?_⟩
      refine ⟨_, ?_, j - 1, swp q j (j - 1), rfl, by first | rfl | exact vi (by omega), by first | rfl | exact vi (by omega), by first | rfl | exact vi (by omega), by first | rfl | exact vi (by omega), by first | rfl | exact vi (by omega), by first | rfl | exact vi (by omega), (by first | assumption | omega | rfl), (by first | assumption | omega | rfl), (by rw [size_swp]; exact hn), (by first | assumption | omega | rfl), (by rw [← hq2]; exact ins_go h34)⟩
      omega
     ·have h34 := g34
      refine W.exit (thn_x (thn_x (blk_hit ?_)))
      refine blk_n ?_
      refine thn_n ?_
      refine W.region ?_
      refine L.val (x_mv (v := .int _ _) rfl) rfl ?_
      refine L.val (x_add rfl rfl (wr64 (by omega))) rfl ?_
      refine L.val (x_as (v := .int _ _) rfl) rfl ?_
      refine L.nil ?_
      refine thn_n ⟨rfl, ?_⟩
      refine ⟨_, ?_, i + 1, q, rfl, by first | rfl | exact vi (by omega), by first | rfl | exact vi (by omega), by first | rfl | exact vi (by omega), by first | rfl | exact vi (by omega), by first | rfl | exact vi (by omega), (by first | assumption | omega | rfl), (by first | assumption | omega | rfl), (by first | assumption | omega | rfl), (by first | assumption | omega | rfl), (by rw [← ins_stop (lt := (ltc cf)) h34, hq2, ← hq]; conv => rhs; rw [insOuter, if_pos (by omega)])⟩
      omega
   ·have h14 := dlt_f g14
    refine W.exit (thn_x (thn_x (blk_hit ?_)))
    refine fin_mk (.inl rfl) ?_
    exact ⟨rfl, hB, by have := hq; rw [insOuter, if_neg (by omega)] at this; rw [← this]; exact hR⟩
theorem reverse_okC (b o a e cap n : Nat) (T : TypeId) (hd tl : List Value) (d : Array α) (w : World) (hC : Cmp Tryz.prog enc gF cp cf b N0 w) (hR : Row enc w b o T hd d tl) (hn : d.size = n) (hc : n ≤ 4000000000000000000) (hae : a < e) (he : e ≤ n) :
    Ret Tryz.prog 184 #[.slice (some ⟨b, o, none⟩) n cap, .int .i64 a, .int .i64 e, .func (.func gF) #[] cp.toArray] w fun v w' => v = .tuple #[] ∧ Gr (· = b) w w' ∧ Row enc w' b o T hd (reverseRange d a e) tl := by
  refine ret_of_W Tryz.func184 rfl (Nat.le_of_ble_eq_true rfl) (res0 rfl) ?_
  have hB := Gr.refl (· = b) w
  refine W.seq ?_
  refine W.region ?_
  refine L.val (x_mv (v := .int _ _) rfl) rfl ?_
  refine L.val (x_as (v := .int _ _) rfl) rfl ?_
  refine L.nil ?_
  refine thn_n ?_
  refine W.seq ?_
  refine W.region ?_
  refine L.val (x_mv (v := .int _ _) rfl) rfl ?_
  refine L.val (x_sub rfl rfl (wr64 (by omega))) rfl ?_
  refine L.val (x_as (v := .int _ _) rfl) rfl ?_
  refine L.nil ?_
  refine thn_n ?_
  refine W.block ?_
  refine W.loop (fun m' E w' => ∃ (i j : Nat) (c : Array α), m' = j ∧ E 0 = .slice (some ⟨b, o, none⟩) n cap ∧ E 8 = .int .i64 (i : Nat) ∧ E 9 = .int .i64 (j : Nat) ∧ E 3 = .func (.func gF) #[] cp.toArray ∧ (Gr (· = b) w w') ∧ (Row enc w' b o T hd c tl) ∧ (c.size = n) ∧ (j < n) ∧ (reverseLoop i j c = reverseRange d a e)) (e - 1) ?_ ?_
  ·exact ⟨a, e - 1, d, by omega, by first | rfl | exact vi (by omega), by first | rfl | exact vi (by omega), by first | rfl | exact vi (by omega), by first | rfl | exact vi (by omega), (by first | assumption | omega | rfl), (by first | assumption | omega | rfl), (by first | assumption | omega | rfl), (by first | assumption | omega | rfl), (by first | assumption | omega | rfl)⟩
  ·rintro _ E wL13 ⟨i, j, c, em, e0, e8, e9, e3, hB, hR, hn, hj, hq⟩
   rw [upd_self e0, upd_self e8, upd_self e9, upd_self e3]
   refine W.seq ?_
   refine W.seq ?_
   refine W.region ?_
   refine L.val (x_mv (v := .int _ _) rfl) rfl ?_
   refine L.val (x_mv (v := .int _ _) rfl) rfl ?_
   refine L.val (x_lss rfl rfl) rfl ?_
   refine L.nil ?_
   refine thn_n ?_
   refine W.cond (b := _) rfl (fun g15 => ?_) (fun g15 => ?_)
   ·have h15 := of_decide_eq_true g15
    refine W.skip ?_
    refine thn_n ?_
    refine W.block ?_
    refine W.seq ?_
    refine W.drawS ksrtc_mixed ?_
    have hB := hB.carry (bel_drew _); have hR := hR.carry (bel_drew _)
    refine LA.take (i := 0) rfl (by kernel_rfl) (by kernel_rfl) (by kernel_rfl) (fun w => x_mv (v := .slice _ _ _) rfl) rfl ?_
    refine LA.take (i := 1) rfl (by kernel_rfl) (by kernel_rfl) (by kernel_rfl) (fun w => x_mv (v := .int _ _) rfl) rfl ?_
    refine LA.take (i := 2) rfl (by kernel_rfl) (by kernel_rfl) (by kernel_rfl) (fun w => x_mv (v := .slice _ _ _) rfl) rfl ?_
    refine LA.take (i := 3) rfl (by kernel_rfl) (by kernel_rfl) (by kernel_rfl) (fun w => x_mv (v := .int _ _) rfl) rfl ?_
    refine LA.take (i := 4) rfl (by kernel_rfl) (by kernel_rfl) (by kernel_rfl) (fun w => x_mv (v := .slice _ _ _) rfl) rfl ?_
    refine LA.take (i := 5) rfl (by kernel_rfl) (by kernel_rfl) (by kernel_rfl) (fun w => x_mv (v := .int _ _) rfl) rfl ?_
    refine LA.take (i := 6) rfl (by kernel_rfl) (by kernel_rfl) (by kernel_rfl) (fun w => x_ia1 (j := j) Tryz.underlying106 ksrtc_sz3 rfl rfl (by omega) (by omega)) rfl ?_
    refine LA.take (i := 8) rfl (by kernel_rfl) (by kernel_rfl) (by kernel_rfl) (fun w => x_mv (v := .slice _ _ _) rfl) rfl ?_
    refine LA.take (i := 9) rfl (by kernel_rfl) (by kernel_rfl) (by kernel_rfl) (fun w => x_mv (v := .int _ _) rfl) rfl ?_
    refine LA.take (i := 10) rfl (by kernel_rfl) (by kernel_rfl) (by kernel_rfl) (fun w => x_ia1 (j := i) Tryz.underlying106 ksrtc_sz3 rfl rfl (by omega) (by omega)) rfl ?_
    refine LA.pair (i := 7) (j := 11) rfl rfl (by kernel_rfl) (by kernel_rfl) (by kernel_rfl) rfl rfl (x_ld (v := enc _) ksrtc_oc3 rfl (hR.at (i := j) (by omega))) (x_ld (v := enc _) ksrtc_oc3 rfl (hR.at (i := i) (by omega))) (x_ld (v := enc _) ksrtc_oc3 rfl (hR.at (i := i) (by omega))) (x_ld (v := enc _) ksrtc_oc3 rfl (hR.at (i := j) (by omega))) rfl rfl ?_
    refine LA.take (i := 12) rfl (by kernel_rfl) (by kernel_rfl) (by kernel_rfl) (fun w => x_ia1 (j := i) Tryz.underlying106 ksrtc_sz3 rfl rfl (by omega) (by omega)) rfl ?_
    refine LA.step (rs := [13]) (by kernel_rfl) (by simp) ⟨⟨_, rfl, ?_⟩, trivial⟩
    refine L.setAt (enc := enc) (j := i) ksrtc_sz3 rfl rfl (he1 _) hR (by omega) (fun wl22 hR hsl22 hw hzl22 => ?_)
    have hB := hB.trans hw
    refine L.nil ?_
    refine thn_n ?_
    refine LA.take (i := 14) rfl (by kernel_rfl) (by kernel_rfl) (by kernel_rfl) (fun w => x_ia1 (j := j) Tryz.underlying106 ksrtc_sz3 rfl rfl (by omega) (by omega)) rfl ?_
    refine LA.step (rs := [15]) (by kernel_rfl) (by simp) ⟨⟨_, rfl, ?_⟩, trivial⟩
    refine L.setAt (enc := enc) (j := j) ksrtc_sz3 rfl rfl (he1 _) hR (by omega) (fun wl24 hR hsl24 hw hzl24 => ?_)
    have hB := hB.trans hw
    refine L.nil ?_
    refine thn_n ?_
    refine LA.done (by kernel_rfl) ?_
    refine nrm_n ?_
    refine thn_n ?_
    refine W.seq ?_
    refine W.region ?_
    refine L.val (x_mv (v := .int _ _) rfl) rfl ?_
    refine L.val (x_add rfl rfl (wr64 (by omega))) rfl ?_
    refine L.val (x_as (v := .int _ _) rfl) rfl ?_
    refine L.nil ?_
    refine thn_n ?_
    refine W.region ?_
    refine L.val (x_mv (v := .int _ _) rfl) rfl ?_
    refine L.val (x_sub rfl rfl (wr64 (by omega))) rfl ?_
    refine L.val (x_as (v := .int _ _) rfl) rfl ?_
    refine L.nil ?_
    refine blk_n ?_
    refine thn_n ⟨rfl, ?_⟩
    refine ⟨_, ?_, i + 1, j - 1, swp c i j, rfl, by first | rfl | exact vi (by omega), by first | rfl | exact vi (by omega), by first | rfl | exact vi (by omega), by first | rfl | exact vi (by omega), (by first | assumption | omega | rfl), (by first | assumption | omega | rfl), (by rw [size_swp]; exact hn), (by first | assumption | omega | rfl), (by rw [← hq]; conv => rhs; rw [reverseLoop, if_pos (by omega)])⟩
    omega
   ·have h15 := dlt_f g15
    refine W.exit (thn_x (thn_x (blk_hit ?_)))
    refine fin_mk (.inl rfl) ?_
    exact ⟨rfl, hB, by have := hq; rw [reverseLoop, if_neg (by omega)] at this; rw [← this]; exact hR⟩
theorem sift_okC (b o lo hi fs cap n : Nat) (T : TypeId) (hd tl : List Value) (d : Array α) (w : World) (hC : Cmp Tryz.prog enc gF cp cf b N0 w) (hR : Row enc w b o T hd d tl) (hn : d.size = n) (hc : n ≤ 2000000000000000000) (hae : lo ≤ hi) (he : fs + hi ≤ n) :
    Ret Tryz.prog 199 #[.slice (some ⟨b, o, none⟩) n cap, .int .i64 lo, .int .i64 hi, .int .i64 fs, .func (.func gF) #[] cp.toArray] w fun v w' => v = .tuple #[] ∧ Gr (· = b) w w' ∧ Row enc w' b o T hd (siftDown (ltc cf) hi fs lo d) tl := by
  refine ret_of_W Tryz.func199 rfl (Nat.le_of_ble_eq_true rfl) (res0 rfl) ?_
  have hB := Gr.refl (· = b) w
  refine W.seq ?_
  refine W.region ?_
  refine L.val (x_mv (v := .int _ _) rfl) rfl ?_
  refine L.val (x_as (v := .int _ _) rfl) rfl ?_
  refine L.nil ?_
  refine thn_n ?_
  refine W.block ?_
  refine W.loop (fun m' E w' => ∃ (r : Nat) (c : Array α), m' = hi - r ∧ E 0 = .slice (some ⟨b, o, none⟩) n cap ∧ E 2 = .int .i64 (hi : Nat) ∧ E 3 = .int .i64 (fs : Nat) ∧ E 10 = .int .i64 (r : Nat) ∧ E 4 = .func (.func gF) #[] cp.toArray ∧ (Gr (· = b) w w') ∧ (Row enc w' b o T hd c tl) ∧ (c.size = n) ∧ (r ≤ hi) ∧ (siftDown (ltc cf) hi fs r c = siftDown (ltc cf) hi fs lo d)) (hi - lo) ?_ ?_
  ·exact ⟨lo, d, by omega, by first | rfl | exact vi (by omega), by first | rfl | exact vi (by omega), by first | rfl | exact vi (by omega), by first | rfl | exact vi (by omega), by first | rfl | exact vi (by omega), (by first | assumption | omega | rfl), (by first | assumption | omega | rfl), (by first | assumption | omega | rfl), (by first | assumption | omega | rfl), (by first | assumption | omega | rfl)⟩
  ·rintro _ E wL13 ⟨r, c, em, e0, e2, e3, e10, e4, hB, hR, hn, hj, hq⟩
   rw [upd_self e0, upd_self e2, upd_self e3, upd_self e10, upd_self e4]
   refine W.block ?_
   refine W.seq ?_
   refine W.region ?_
   refine L.val (x_mv (v := .int _ _) rfl) rfl ?_
   refine L.val (x_mul rfl rfl (wr64 (by omega))) rfl ?_
   refine L.val (x_add rfl rfl (wr64 (by omega))) rfl ?_
   refine L.val (x_as (v := .int _ _) rfl) rfl ?_
   refine L.nil ?_
   refine thn_n ?_
   refine W.seq ?_
   refine W.seq ?_
   refine W.region ?_
   refine L.val (x_mv (v := .int _ _) rfl) rfl ?_
   refine L.val (x_mv (v := .int _ _) rfl) rfl ?_
   refine L.val (x_geq rfl rfl) rfl ?_
   refine L.nil ?_
   refine thn_n ?_
   refine W.cond (b := _) rfl (fun g18 => ?_) (fun g18 => ?_)
   ·have h18 := of_decide_eq_true g18
    refine W.exit (thn_x (blk_miss rfl (thn_x (blk_hit ?_))))
    refine fin_mk (.inl rfl) ?_
    exact ⟨rfl, hB, by have := hq; rw [siftDown, dif_pos (by omega)] at this; rw [← this]; exact hR⟩
   ·have h18 := dle_f g18
    refine W.skip ?_
    refine thn_n ?_
    refine W.seq ?_
    refine W.seq ?_
    refine W.drawB ksrtc_mixed (by kernel_rfl) ?_
    refine LQ.val (fun w hw => x_mv (v := .int _ _) rfl) rfl ?_
    refine LQ.val (fun w hw => x_add rfl rfl (wr64 (by omega))) rfl ?_
    refine LQ.val (fun w hw => x_mv (v := .int _ _) rfl) rfl ?_
    refine LQ.val (fun w hw => x_lss rfl rfl) rfl ?_
    refine LQ.val (fun w hw => x_mv (v := .bool _) rfl) rfl ?_
    refine' LQ.group 16 24 39 39 23 true rfl ?_ ?_ ?_
    rotate_left 1
    ·intro g23
     have h23 := of_decide_eq_true g23
     refine LQ.gyes' (dj := 23) (b := _) rfl rfl g23 ?_
     refine LQ.val (fun w hw => x_mv (v := .func _ _ _) rfl) rfl ?_
     refine LQ.gyes' (dj := 23) (b := _) rfl rfl g23 ?_
     refine LQ.val (fun w hw => x_mv (v := .slice _ _ _) rfl) rfl ?_
     refine LQ.gyes' (dj := 23) (b := _) rfl rfl g23 ?_
     refine LQ.val (fun w hw => x_mv (v := .int _ _) rfl) rfl ?_
     refine LQ.gyes' (dj := 23) (b := _) rfl rfl g23 ?_
     refine LQ.val (fun w hw => x_mv (v := .int _ _) rfl) rfl ?_
     refine LQ.gyes' (dj := 23) (b := _) rfl rfl g23 ?_
     refine LQ.val (fun w hw => x_add rfl rfl (wr64 (by omega))) rfl ?_
     refine LQ.gyes' (dj := 23) (b := _) rfl rfl g23 ?_
     refine LQ.val (fun w hw => x_ia1 (j := fs + (2 * r + 1)) Tryz.underlying106 ksrtc_sz3 rfl rfl (by omega) (by omega)) rfl ?_
     refine LQ.gyes' (dj := 23) (b := _) rfl rfl g23 ?_
     refine LQ.val (fun w hw => x_ld (v := enc _) ksrtc_oc3 rfl (hw.keep (hR.at (i := fs + (2 * r + 1)) (by omega)))) rfl ?_
     refine LQ.gyes' (dj := 23) (b := _) rfl rfl g23 ?_
     refine LQ.val (fun w hw => x_mv (v := .slice _ _ _) rfl) rfl ?_
     refine LQ.gyes' (dj := 23) (b := _) rfl rfl g23 ?_
     refine LQ.val (fun w hw => x_mv (v := .int _ _) rfl) rfl ?_
     refine LQ.gyes' (dj := 23) (b := _) rfl rfl g23 ?_
     refine LQ.val (fun w hw => x_mv (v := .int _ _) rfl) rfl ?_
     refine LQ.gyes' (dj := 23) (b := _) rfl rfl g23 ?_
     refine LQ.val (fun w hw => x_add rfl rfl (wr64 (by omega))) rfl ?_
     refine LQ.gyes' (dj := 23) (b := _) rfl rfl g23 ?_
     refine LQ.val (fun w hw => x_add rfl rfl (wr64 (by omega))) rfl ?_
     refine LQ.gyes' (dj := 23) (b := _) rfl rfl g23 ?_
     refine LQ.val (fun w hw => x_ia1 (j := fs + (2 * r + 1) + 1) Tryz.underlying106 ksrtc_sz3 rfl rfl (by omega) (by omega)) rfl ?_
     refine LQ.gyes' (dj := 23) (b := _) rfl rfl g23 ?_
     refine LQ.val (fun w hw => x_ld (v := enc _) ksrtc_oc3 rfl (hw.keep (hR.at (i := fs + (2 * r + 1) + 1) (by omega)))) rfl ?_
     refine LQ.gyes' (dj := 23) (b := _) rfl rfl g23 ?_
     refine LQ.ret (fun w => x_callv eg rfl rfl) (fun w hw => Ret.mono (hC.via hB hw _ _) (fun _ _ h => ⟨h.1, Gr.trans hw h.2⟩)) rfl ?_
     refine LQ.gyes' (dj := 23) (b := _) rfl rfl g23 ?_
     refine LQ.val (fun w hw => x_lss rfl rfl) rfl ?_
     refine LQ.nil ?_
     refine ⟨?_, rfl⟩
     repeat (first | exact jeq.refl _ _ _ | refine jeq.upd rfl ?_ | refine jeq.jk rfl rfl ?_)
    ·intro g23
     refine LQ.gno (dj := 23) (b := _) rfl rfl g23 rfl ?_
     refine LQ.gno (dj := 23) (b := _) rfl rfl g23 rfl ?_
     refine LQ.gno (dj := 23) (b := _) rfl rfl g23 rfl ?_
     refine LQ.gno (dj := 23) (b := _) rfl rfl g23 rfl ?_
     refine LQ.gno (dj := 23) (b := _) rfl rfl g23 rfl ?_
     refine LQ.gno (dj := 23) (b := _) rfl rfl g23 rfl ?_
     refine LQ.gno (dj := 23) (b := _) rfl rfl g23 rfl ?_
     refine LQ.gno (dj := 23) (b := _) rfl rfl g23 rfl ?_
     refine LQ.gno (dj := 23) (b := _) rfl rfl g23 rfl ?_
     refine LQ.gno (dj := 23) (b := _) rfl rfl g23 rfl ?_
     refine LQ.gno (dj := 23) (b := _) rfl rfl g23 rfl ?_
     refine LQ.gno (dj := 23) (b := _) rfl rfl g23 rfl ?_
     refine LQ.gno (dj := 23) (b := _) rfl rfl g23 rfl ?_
     refine LQ.gno (dj := 23) (b := _) rfl rfl g23 rfl ?_
     refine LQ.gno (dj := 23) (b := _) rfl rfl g23 rfl ?_
     refine LQ.gno (dj := 23) (b := _) rfl rfl g23 rfl ?_
     refine LQ.nil ?_
     repeat (first | exact jeq.refl _ _ _ | refine jeq.upd rfl ?_ | refine jeq.jk rfl rfl ?_)
    intro J23 j23
    refine LQ.val (fun w hw => x_and rfl j23) rfl ?_
    refine LQ.nil ?_
    intro w19 hw
    have hB := hB.carry hw; have hR := hR.carry hw
    refine thn_n ?_
    refine W.cond (b := _) rfl (fun g40 => ?_) (fun g40 => ?_)
    ·have h40 := g40
     have h40' := and1 h40
     have h40'' := and2 h40
     obtain ⟨ch, hch⟩ : ∃ ch, (2 * r + 2 < hi ∧ (ltc cf) c[fs + (2 * r + 1)]! c[fs + (2 * r + 1) + 1]! = true ∧ ch = 2 * r + 2) ∨ (¬ (2 * r + 2 < hi ∧ (ltc cf) c[fs + (2 * r + 1)]! c[fs + (2 * r + 1) + 1]! = true) ∧ ch = 2 * r + 1) := ⟨_, .inl ⟨by omega, h40'', rfl⟩⟩
     have hce : ch = 2 * r + 2 := by rcases hch with h | h; exact h.2.2; exact absurd ⟨by omega, h40''⟩ h.1
     refine W.region ?_
     refine L.val (x_mv (v := .int _ _) rfl) rfl ?_
     refine L.val (x_add rfl rfl (wr64 (by omega))) rfl ?_
     refine L.val (x_as (v := .int _ _) rfl) rfl ?_
     refine L.nil ?_
     refine thn_n ?_
     refine W.seq ?_
     refine W.seq ?_
     refine W.drawB ksrtc_mixed (by kernel_rfl) ?_
     refine LQ.val (fun w hw => x_mv (v := .func _ _ _) rfl) rfl ?_
     refine LQ.val (fun w hw => x_mv (v := .slice _ _ _) rfl) rfl ?_
     refine LQ.val (fun w hw => x_mv (v := .int _ _) rfl) rfl ?_
     refine LQ.val (fun w hw => x_mv (v := .int _ _) rfl) rfl ?_
     refine LQ.val (fun w hw => x_add rfl rfl (wr64 (by omega))) rfl ?_
     refine LQ.val (fun w hw => x_ia1 (j := fs + r) Tryz.underlying106 ksrtc_sz3 rfl rfl (by omega) (by omega)) rfl ?_
     refine LQ.val (fun w hw => x_ld (v := enc _) ksrtc_oc3 rfl (hw.keep (hR.at (i := fs + r) (by omega)))) rfl ?_
     refine LQ.val (fun w hw => x_mv (v := .slice _ _ _) rfl) rfl ?_
     refine LQ.val (fun w hw => x_mv (v := .int _ _) rfl) rfl ?_
     refine LQ.val (fun w hw => x_mv (v := .int _ _) rfl) rfl ?_
     refine LQ.val (fun w hw => x_add rfl rfl (wr64 (by omega))) rfl ?_
     refine LQ.val (fun w hw => x_ia1 (j := fs + ch) Tryz.underlying106 ksrtc_sz3 rfl rfl (by omega) (by omega)) rfl ?_
     refine LQ.val (fun w hw => x_ld (v := enc _) ksrtc_oc3 rfl (hw.keep (hR.at (i := fs + ch) (by omega)))) rfl ?_
     refine LQ.ret (fun w => x_callv eg rfl rfl) (fun w hw => Ret.mono (hC.via hB hw _ _) (fun _ _ h => ⟨h.1, Gr.trans hw h.2⟩)) rfl ?_
     refine LQ.val (fun w hw => x_lss rfl rfl) rfl ?_
     refine LQ.val (fun w hw => x_not rfl) rfl ?_
     refine LQ.nil ?_
     intro w43 hw
     have hB := hB.carry hw; have hR := hR.carry hw
     refine thn_n ?_
     refine W.cond (b := _) rfl (fun g58 => ?_) (fun g58 => ?_)
     ·have h58 := (not_t g58)
      refine W.ret (thn_r (blk_r (thn_r (blk_r (fin_mk (.inr rfl) ?_)))))
      exact ⟨rfl, hB, by rw [← hq, sift_step (ch := ch) (by omega) hch, if_neg (bneg h58)]; exact hR⟩
     ·have h58 := (not_f g58)
      refine W.skip ?_
      refine thn_n ?_
      refine W.seq ?_
      refine W.drawS ksrtc_mixed ?_
      have hB := hB.carry (bel_drew _); have hR := hR.carry (bel_drew _)
      refine LA.take (i := 0) rfl (by kernel_rfl) (by kernel_rfl) (by kernel_rfl) (fun w => x_mv (v := .slice _ _ _) rfl) rfl ?_
      refine LA.take (i := 1) rfl (by kernel_rfl) (by kernel_rfl) (by kernel_rfl) (fun w => x_mv (v := .int _ _) rfl) rfl ?_
      refine LA.take (i := 2) rfl (by kernel_rfl) (by kernel_rfl) (by kernel_rfl) (fun w => x_mv (v := .int _ _) rfl) rfl ?_
      refine LA.take (i := 3) rfl (by kernel_rfl) (by kernel_rfl) (by kernel_rfl) (fun w => x_add rfl rfl (wr64 (by omega))) rfl ?_
      refine LA.take (i := 4) rfl (by kernel_rfl) (by kernel_rfl) (by kernel_rfl) (fun w => x_mv (v := .slice _ _ _) rfl) rfl ?_
      refine LA.take (i := 5) rfl (by kernel_rfl) (by kernel_rfl) (by kernel_rfl) (fun w => x_mv (v := .int _ _) rfl) rfl ?_
      refine LA.take (i := 6) rfl (by kernel_rfl) (by kernel_rfl) (by kernel_rfl) (fun w => x_mv (v := .int _ _) rfl) rfl ?_
      refine LA.take (i := 7) rfl (by kernel_rfl) (by kernel_rfl) (by kernel_rfl) (fun w => x_add rfl rfl (wr64 (by omega))) rfl ?_
      refine LA.take (i := 8) rfl (by kernel_rfl) (by kernel_rfl) (by kernel_rfl) (fun w => x_mv (v := .slice _ _ _) rfl) rfl ?_
      refine LA.take (i := 9) rfl (by kernel_rfl) (by kernel_rfl) (by kernel_rfl) (fun w => x_mv (v := .int _ _) rfl) rfl ?_
      refine LA.take (i := 10) rfl (by kernel_rfl) (by kernel_rfl) (by kernel_rfl) (fun w => x_mv (v := .int _ _) rfl) rfl ?_
      refine LA.take (i := 11) rfl (by kernel_rfl) (by kernel_rfl) (by kernel_rfl) (fun w => x_add rfl rfl (wr64 (by omega))) rfl ?_
      refine LA.take (i := 12) rfl (by kernel_rfl) (by kernel_rfl) (by kernel_rfl) (fun w => x_ia1 (j := fs + ch) Tryz.underlying106 ksrtc_sz3 rfl rfl (by omega) (by omega)) rfl ?_
      refine LA.take (i := 14) rfl (by kernel_rfl) (by kernel_rfl) (by kernel_rfl) (fun w => x_mv (v := .slice _ _ _) rfl) rfl ?_
      refine LA.take (i := 15) rfl (by kernel_rfl) (by kernel_rfl) (by kernel_rfl) (fun w => x_mv (v := .int _ _) rfl) rfl ?_
      refine LA.take (i := 16) rfl (by kernel_rfl) (by kernel_rfl) (by kernel_rfl) (fun w => x_mv (v := .int _ _) rfl) rfl ?_
      refine LA.take (i := 17) rfl (by kernel_rfl) (by kernel_rfl) (by kernel_rfl) (fun w => x_add rfl rfl (wr64 (by omega))) rfl ?_
      refine LA.take (i := 18) rfl (by kernel_rfl) (by kernel_rfl) (by kernel_rfl) (fun w => x_ia1 (j := fs + r) Tryz.underlying106 ksrtc_sz3 rfl rfl (by omega) (by omega)) rfl ?_
      refine LA.pair (i := 13) (j := 19) rfl rfl (by kernel_rfl) (by kernel_rfl) (by kernel_rfl) rfl rfl (x_ld (v := enc _) ksrtc_oc3 rfl (hR.at (i := fs + ch) (by omega))) (x_ld (v := enc _) ksrtc_oc3 rfl (hR.at (i := fs + r) (by omega))) (x_ld (v := enc _) ksrtc_oc3 rfl (hR.at (i := fs + r) (by omega))) (x_ld (v := enc _) ksrtc_oc3 rfl (hR.at (i := fs + ch) (by omega))) rfl rfl ?_
      refine LA.take (i := 20) rfl (by kernel_rfl) (by kernel_rfl) (by kernel_rfl) (fun w => x_ia1 (j := fs + r) Tryz.underlying106 ksrtc_sz3 rfl rfl (by omega) (by omega)) rfl ?_
      refine LA.step (rs := [21]) (by kernel_rfl) (by simp) ⟨⟨_, rfl, ?_⟩, trivial⟩
      refine L.setAt (enc := enc) (j := fs + r) ksrtc_sz3 rfl rfl (he1 _) hR (by omega) (fun wl72 hR hsl72 hw hzl72 => ?_)
      have hB := hB.trans hw
      refine L.nil ?_
      refine thn_n ?_
      refine LA.take (i := 22) rfl (by kernel_rfl) (by kernel_rfl) (by kernel_rfl) (fun w => x_ia1 (j := fs + ch) Tryz.underlying106 ksrtc_sz3 rfl rfl (by omega) (by omega)) rfl ?_
      refine LA.step (rs := [23]) (by kernel_rfl) (by simp) ⟨⟨_, rfl, ?_⟩, trivial⟩
      refine L.setAt (enc := enc) (j := fs + ch) ksrtc_sz3 rfl rfl (he1 _) hR (by omega) (fun wl74 hR hsl74 hw hzl74 => ?_)
      have hB := hB.trans hw
      refine L.nil ?_
      refine thn_n ?_
      refine LA.done (by kernel_rfl) ?_
      refine nrm_n ?_
      refine thn_n ?_
      refine W.region ?_
      refine L.val (x_mv (v := .int _ _) rfl) rfl ?_
      refine L.val (x_as (v := .int _ _) rfl) rfl ?_
      refine L.nil ?_
      refine blk_n ?_
      refine thn_n ⟨rfl, ?_⟩
      refine ⟨_, ?_, ch, swp c (fs + r) (fs + ch), rfl, by first | rfl | exact vi (by omega), by first | rfl | exact vi (by omega), by first | rfl | exact vi (by omega), by first | rfl | exact vi (by omega), by first | rfl | exact vi (by omega), (by first | assumption | omega | rfl), (by first | assumption | omega | rfl), (by rw [size_swp]; exact hn), (by first | assumption | omega | rfl), (by rw [← hq, sift_step (ch := ch) (by omega) hch, if_pos h58])⟩
      omega
    ·have h40 := g40
     have h40' := and0 h40
     obtain ⟨ch, hch⟩ : ∃ ch, (2 * r + 2 < hi ∧ (ltc cf) c[fs + (2 * r + 1)]! c[fs + (2 * r + 1) + 1]! = true ∧ ch = 2 * r + 2) ∨ (¬ (2 * r + 2 < hi ∧ (ltc cf) c[fs + (2 * r + 1)]! c[fs + (2 * r + 1) + 1]! = true) ∧ ch = 2 * r + 1) := ⟨_, .inr ⟨fun h => h40' ⟨by omega, h.2⟩, rfl⟩⟩
     have hce : ch = 2 * r + 1 := by rcases hch with h | h; exact absurd ⟨by omega, h.2.1⟩ h40'; exact h.2
     refine W.skip ?_
     refine thn_n ?_
     refine W.seq ?_
     refine W.seq ?_
     refine W.drawB ksrtc_mixed (by kernel_rfl) ?_
     refine LQ.val (fun w hw => x_mv (v := .func _ _ _) rfl) rfl ?_
     refine LQ.val (fun w hw => x_mv (v := .slice _ _ _) rfl) rfl ?_
     refine LQ.val (fun w hw => x_mv (v := .int _ _) rfl) rfl ?_
     refine LQ.val (fun w hw => x_mv (v := .int _ _) rfl) rfl ?_
     refine LQ.val (fun w hw => x_add rfl rfl (wr64 (by omega))) rfl ?_
     refine LQ.val (fun w hw => x_ia1 (j := fs + r) Tryz.underlying106 ksrtc_sz3 rfl rfl (by omega) (by omega)) rfl ?_
     refine LQ.val (fun w hw => x_ld (v := enc _) ksrtc_oc3 rfl (hw.keep (hR.at (i := fs + r) (by omega)))) rfl ?_
     refine LQ.val (fun w hw => x_mv (v := .slice _ _ _) rfl) rfl ?_
     refine LQ.val (fun w hw => x_mv (v := .int _ _) rfl) rfl ?_
     refine LQ.val (fun w hw => x_mv (v := .int _ _) rfl) rfl ?_
     refine LQ.val (fun w hw => x_add rfl rfl (wr64 (by omega))) rfl ?_
     refine LQ.val (fun w hw => x_ia1 (j := fs + ch) Tryz.underlying106 ksrtc_sz3 rfl rfl (by omega) (by omega)) rfl ?_
     refine LQ.val (fun w hw => x_ld (v := enc _) ksrtc_oc3 rfl (hw.keep (hR.at (i := fs + ch) (by omega)))) rfl ?_
     refine LQ.ret (fun w => x_callv eg rfl rfl) (fun w hw => Ret.mono (hC.via hB hw _ _) (fun _ _ h => ⟨h.1, Gr.trans hw h.2⟩)) rfl ?_
     refine LQ.val (fun w hw => x_lss rfl rfl) rfl ?_
     refine LQ.val (fun w hw => x_not rfl) rfl ?_
     refine LQ.nil ?_
     intro w43 hw
     have hB := hB.carry hw; have hR := hR.carry hw
     refine thn_n ?_
     refine W.cond (b := _) rfl (fun g58 => ?_) (fun g58 => ?_)
     ·have h58 := (not_t g58)
      refine W.ret (thn_r (blk_r (thn_r (blk_r (fin_mk (.inr rfl) ?_)))))
      exact ⟨rfl, hB, by rw [← hq, sift_step (ch := ch) (by omega) hch, if_neg (bneg h58)]; exact hR⟩
     ·have h58 := (not_f g58)
      refine W.skip ?_
      refine thn_n ?_
      refine W.seq ?_
      refine W.drawS ksrtc_mixed ?_
      have hB := hB.carry (bel_drew _); have hR := hR.carry (bel_drew _)
      refine LA.take (i := 0) rfl (by kernel_rfl) (by kernel_rfl) (by kernel_rfl) (fun w => x_mv (v := .slice _ _ _) rfl) rfl ?_
      refine LA.take (i := 1) rfl (by kernel_rfl) (by kernel_rfl) (by kernel_rfl) (fun w => x_mv (v := .int _ _) rfl) rfl ?_
      refine LA.take (i := 2) rfl (by kernel_rfl) (by kernel_rfl) (by kernel_rfl) (fun w => x_mv (v := .int _ _) rfl) rfl ?_
      refine LA.take (i := 3) rfl (by kernel_rfl) (by kernel_rfl) (by kernel_rfl) (fun w => x_add rfl rfl (wr64 (by omega))) rfl ?_
      refine LA.take (i := 4) rfl (by kernel_rfl) (by kernel_rfl) (by kernel_rfl) (fun w => x_mv (v := .slice _ _ _) rfl) rfl ?_
      refine LA.take (i := 5) rfl (by kernel_rfl) (by kernel_rfl) (by kernel_rfl) (fun w => x_mv (v := .int _ _) rfl) rfl ?_
      refine LA.take (i := 6) rfl (by kernel_rfl) (by kernel_rfl) (by kernel_rfl) (fun w => x_mv (v := .int _ _) rfl) rfl ?_
      refine LA.take (i := 7) rfl (by kernel_rfl) (by kernel_rfl) (by kernel_rfl) (fun w => x_add rfl rfl (wr64 (by omega))) rfl ?_
      refine LA.take (i := 8) rfl (by kernel_rfl) (by kernel_rfl) (by kernel_rfl) (fun w => x_mv (v := .slice _ _ _) rfl) rfl ?_
      refine LA.take (i := 9) rfl (by kernel_rfl) (by kernel_rfl) (by kernel_rfl) (fun w => x_mv (v := .int _ _) rfl) rfl ?_
      refine LA.take (i := 10) rfl (by kernel_rfl) (by kernel_rfl) (by kernel_rfl) (fun w => x_mv (v := .int _ _) rfl) rfl ?_
      refine LA.take (i := 11) rfl (by kernel_rfl) (by kernel_rfl) (by kernel_rfl) (fun w => x_add rfl rfl (wr64 (by omega))) rfl ?_
      refine LA.take (i := 12) rfl (by kernel_rfl) (by kernel_rfl) (by kernel_rfl) (fun w => x_ia1 (j := fs + ch) Tryz.underlying106 ksrtc_sz3 rfl rfl (by omega) (by omega)) rfl ?_
      refine LA.take (i := 14) rfl (by kernel_rfl) (by kernel_rfl) (by kernel_rfl) (fun w => x_mv (v := .slice _ _ _) rfl) rfl ?_
      refine LA.take (i := 15) rfl (by kernel_rfl) (by kernel_rfl) (by kernel_rfl) (fun w => x_mv (v := .int _ _) rfl) rfl ?_
      refine LA.take (i := 16) rfl (by kernel_rfl) (by kernel_rfl) (by kernel_rfl) (fun w => x_mv (v := .int _ _) rfl) rfl ?_
      refine LA.take (i := 17) rfl (by kernel_rfl) (by kernel_rfl) (by kernel_rfl) (fun w => x_add rfl rfl (wr64 (by omega))) rfl ?_
      refine LA.take (i := 18) rfl (by kernel_rfl) (by kernel_rfl) (by kernel_rfl) (fun w => x_ia1 (j := fs + r) Tryz.underlying106 ksrtc_sz3 rfl rfl (by omega) (by omega)) rfl ?_
      refine LA.pair (i := 13) (j := 19) rfl rfl (by kernel_rfl) (by kernel_rfl) (by kernel_rfl) rfl rfl (x_ld (v := enc _) ksrtc_oc3 rfl (hR.at (i := fs + ch) (by omega))) (x_ld (v := enc _) ksrtc_oc3 rfl (hR.at (i := fs + r) (by omega))) (x_ld (v := enc _) ksrtc_oc3 rfl (hR.at (i := fs + r) (by omega))) (x_ld (v := enc _) ksrtc_oc3 rfl (hR.at (i := fs + ch) (by omega))) rfl rfl ?_
      refine LA.take (i := 20) rfl (by kernel_rfl) (by kernel_rfl) (by kernel_rfl) (fun w => x_ia1 (j := fs + r) Tryz.underlying106 ksrtc_sz3 rfl rfl (by omega) (by omega)) rfl ?_
      refine LA.step (rs := [21]) (by kernel_rfl) (by simp) ⟨⟨_, rfl, ?_⟩, trivial⟩
      refine L.setAt (enc := enc) (j := fs + r) ksrtc_sz3 rfl rfl (he1 _) hR (by omega) (fun wl72 hR hsl72 hw hzl72 => ?_)
      have hB := hB.trans hw
      refine L.nil ?_
      refine thn_n ?_
      refine LA.take (i := 22) rfl (by kernel_rfl) (by kernel_rfl) (by kernel_rfl) (fun w => x_ia1 (j := fs + ch) Tryz.underlying106 ksrtc_sz3 rfl rfl (by omega) (by omega)) rfl ?_
      refine LA.step (rs := [23]) (by kernel_rfl) (by simp) ⟨⟨_, rfl, ?_⟩, trivial⟩
      refine L.setAt (enc := enc) (j := fs + ch) ksrtc_sz3 rfl rfl (he1 _) hR (by omega) (fun wl74 hR hsl74 hw hzl74 => ?_)
      have hB := hB.trans hw
      refine L.nil ?_
      refine thn_n ?_
      refine LA.done (by kernel_rfl) ?_
      refine nrm_n ?_
      refine thn_n ?_
      refine W.region ?_
      refine L.val (x_mv (v := .int _ _) rfl) rfl ?_
      refine L.val (x_as (v := .int _ _) rfl) rfl ?_
      refine L.nil ?_
      refine blk_n ?_
      refine thn_n ⟨rfl, ?_⟩
      refine ⟨_, ?_, ch, swp c (fs + r) (fs + ch), rfl, by first | rfl | exact vi (by omega), by first | rfl | exact vi (by omega), by first | rfl | exact vi (by omega), by first | rfl | exact vi (by omega), by first | rfl | exact vi (by omega), (by first | assumption | omega | rfl), (by first | assumption | omega | rfl), (by rw [size_swp]; exact hn), (by first | assumption | omega | rfl), (by rw [← hq, sift_step (ch := ch) (by omega) hch, if_pos h58])⟩
      omega
theorem heap_okC (b o a e cap n : Nat) (T : TypeId) (hd tl : List Value) (d : Array α) (w : World) (hC : Cmp Tryz.prog enc gF cp cf b N0 w) (hR : Row enc w b o T hd d tl) (hn : d.size = n) (hc : n ≤ 2000000000000000000) (hae : a < e) (he : e ≤ n) :
    Ret Tryz.prog 181 #[.slice (some ⟨b, o, none⟩) n cap, .int .i64 a, .int .i64 e, .func (.func gF) #[] cp.toArray] w fun v w' => v = .tuple #[] ∧ Gr (· = b) w w' ∧ Row enc w' b o T hd (heapSort (ltc cf) d a e) tl := by
  refine ret_of_W Tryz.func181 rfl (Nat.le_of_ble_eq_true rfl) (res0 rfl) ?_
  have hB := Gr.refl (· = b) w
  refine W.seq ?_
  refine W.region ?_
  refine L.val (x_mv (v := .int _ _) rfl) rfl ?_
  refine L.val (x_as (v := .int _ _) rfl) rfl ?_
  refine L.nil ?_
  refine thn_n ?_
  refine W.seq ?_
  refine W.region ?_
  refine L.val (x_as (v := .int _ _) rfl) rfl ?_
  refine L.nil ?_
  refine thn_n ?_
  refine W.seq ?_
  refine W.region ?_
  refine L.val (x_mv (v := .int _ _) rfl) rfl ?_
  refine L.val (x_mv (v := .int _ _) rfl) rfl ?_
  refine L.val (x_sub rfl rfl (wr64 (by omega))) rfl ?_
  refine L.val (x_as (v := .int _ _) rfl) rfl ?_
  refine L.nil ?_
  refine thn_n ?_
  refine W.seq ?_
  refine W.seq ?_
  refine W.region ?_
  refine L.val (x_mv (v := .int _ _) rfl) rfl ?_
  refine L.val (x_sub rfl rfl (wr64 (by omega))) rfl ?_
  refine L.val (x_quo rfl rfl (by decide) (wq64 (by omega) (by decide))) rfl ?_
  refine L.val (x_as (v := .int _ _) rfl) rfl ?_
  refine L.nil ?_
  refine thn_n ?_
  refine W.block ?_
  refine W.loop (fun m' E w' => ∃ (k : Nat) (c : Array α), m' = k ∧ E 0 = .slice (some ⟨b, o, none⟩) n cap ∧ E 8 = .int .i64 (a : Nat) ∧ E 9 = .int .i64 0 ∧ E 10 = .int .i64 ((e : Nat) - (a : Nat)) ∧ E 11 = .int .i64 ((k : Nat) - 1) ∧ E 3 = .func (.func gF) #[] cp.toArray ∧ (Gr (· = b) w w') ∧ (Row enc w' b o T hd c tl) ∧ (c.size = n) ∧ (k ≤ (e - a - 1) / 2 + 1) ∧ (heapBuild (ltc cf) (e - a) a k c = heapBuild (ltc cf) (e - a) a ((e - a - 1) / 2 + 1) d)) ((e - a - 1) / 2 + 1) ?_ ?_
  ·exact ⟨(e - a - 1) / 2 + 1, d, by omega, by first | rfl | exact vi (by omega), by first | rfl | exact vi (by omega), by first | rfl | exact vi (by omega), by first | rfl | exact vi (by omega), by first | rfl | exact vi (by omega), by first | rfl | exact vi (by omega), (by first | assumption | omega | rfl), (by first | assumption | omega | rfl), (by first | assumption | omega | rfl), (by first | assumption | omega | rfl), (by first | assumption | omega | rfl)⟩
  ·rintro _ E wL20 ⟨k, c, em, e0, e8, e9, e10, e11, e3, hB, hR, hn, hk, hq⟩
   rw [upd_self e0, upd_self e8, upd_self e9, upd_self e10, upd_self e11, upd_self e3]
   refine W.seq ?_
   refine W.seq ?_
   refine W.region ?_
   refine L.val (x_mv (v := .int _ _) rfl) rfl ?_
   refine L.val (x_geq rfl rfl) rfl ?_
   refine L.nil ?_
   refine thn_n ?_
   refine W.cond (b := _) rfl (fun g21 => ?_) (fun g21 => ?_)
   ·have h21 := of_decide_eq_true g21
    refine W.skip ?_
    refine thn_n ?_
    refine W.seq ?_
    refine W.block ?_
    refine W.region ?_
    refine L.val (x_mv (v := .slice _ _ _) rfl) rfl ?_
    refine L.val (x_mv (v := .int _ _) rfl) rfl ?_
    refine L.val (x_mv (v := .int _ _) rfl) rfl ?_
    refine L.val (x_mv (v := .int _ _) rfl) rfl ?_
    refine L.val (x_mv (v := .func _ _ _) rfl) rfl ?_
    have hke : ((k : Nat) : Int) - 1 = ((k - 1 : Nat) : Int) := by omega
    have hee : ((e : Nat) : Int) - (a : Nat) = ((e - a : Nat) : Int) := by omega
    rw [hke, hee]
    refine L.ret (x_call ksrtc_en199 rfl) rfl (sift_okC eg he1 b o (k - 1) (e - a) a cap n T hd tl c _ (hC.mv hB) hR hn hc (by omega) (by omega)) ?_
    rintro _ w26 ⟨rfl, hg, hR⟩
    have hB := hB.trans hg
    refine L.nil ?_
    refine blk_n ?_
    refine thn_n ?_
    refine W.region ?_
    refine L.val (x_mv (v := .int _ _) rfl) rfl ?_
    refine L.val (x_sub rfl rfl (wr64 (by omega))) rfl ?_
    refine L.val (x_as (v := .int _ _) rfl) rfl ?_
    refine L.nil ?_
    refine thn_n ⟨rfl, ?_⟩
    refine ⟨_, ?_, k - 1, siftDown (ltc cf) (e - a) a (k - 1) c, rfl, by first | rfl | exact vi (by omega), by first | rfl | exact vi (by omega), by first | rfl | exact vi (by omega), by first | rfl | exact vi (by omega), by first | rfl | exact vi (by omega), by first | rfl | exact vi (by omega), (by first | assumption | omega | rfl), (by first | assumption | omega | rfl), (by rw [size_sift _ _ _ (Nat.lt_succ_self _)]; exact hn), (by first | assumption | omega | rfl), (by rw [← hq]; exact build_pred (by omega))⟩
    omega
   ·have h21 := dle_f g21
    refine W.exit (thn_x (thn_x (blk_hit ?_)))
    refine thn_n ?_
    refine W.seq ?_
    refine W.region ?_
    refine L.val (x_mv (v := .int _ _) rfl) rfl ?_
    refine L.val (x_sub rfl rfl (wr64 (by omega))) rfl ?_
    refine L.val (x_as (v := .int _ _) rfl) rfl ?_
    refine L.nil ?_
    refine thn_n ?_
    refine W.block ?_
    refine W.loop (fun m' E w' => ∃ (k : Nat) (c : Array α), m' = k ∧ E 0 = .slice (some ⟨b, o, none⟩) n cap ∧ E 8 = .int .i64 (a : Nat) ∧ E 9 = .int .i64 0 ∧ E 12 = .int .i64 ((k : Nat) - 1) ∧ E 3 = .func (.func gF) #[] cp.toArray ∧ (Gr (· = b) w w') ∧ (Row enc w' b o T hd c tl) ∧ (c.size = n) ∧ (k ≤ e - a) ∧ (heapPop (ltc cf) a k c = heapSort (ltc cf) d a e)) (e - a) ?_ ?_
    ·exact ⟨e - a, c, by omega, by first | rfl | exact vi (by omega), by first | rfl | exact vi (by omega), by first | rfl | exact vi (by omega), by first | rfl | exact vi (by omega), by first | rfl | exact vi (by omega), (by first | assumption | omega | rfl), (by first | assumption | omega | rfl), (by first | assumption | omega | rfl), (by first | assumption | omega | rfl), (by rw [heapSort, ← hq, show k = 0 by omega]; rfl)⟩
    ·rintro _ E wL32 ⟨k, c, em, e0, e8, e9, e12, e3, hB, hR, hn, hk, hq⟩
     rw [upd_self e0, upd_self e8, upd_self e9, upd_self e12, upd_self e3]
     refine W.seq ?_
     refine W.seq ?_
     refine W.region ?_
     refine L.val (x_mv (v := .int _ _) rfl) rfl ?_
     refine L.val (x_geq rfl rfl) rfl ?_
     refine L.nil ?_
     refine thn_n ?_
     refine W.cond (b := _) rfl (fun g33 => ?_) (fun g33 => ?_)
     ·have h33 := of_decide_eq_true g33
      refine W.skip ?_
      refine thn_n ?_
      refine W.seq ?_
      refine W.block ?_
      refine W.seq ?_
      refine W.drawS ksrtc_mixed ?_
      have hB := hB.carry (bel_drew _); have hR := hR.carry (bel_drew _)
      refine LA.take (i := 0) rfl (by kernel_rfl) (by kernel_rfl) (by kernel_rfl) (fun w => x_mv (v := .slice _ _ _) rfl) rfl ?_
      refine LA.take (i := 1) rfl (by kernel_rfl) (by kernel_rfl) (by kernel_rfl) (fun w => x_mv (v := .int _ _) rfl) rfl ?_
      refine LA.take (i := 2) rfl (by kernel_rfl) (by kernel_rfl) (by kernel_rfl) (fun w => x_mv (v := .slice _ _ _) rfl) rfl ?_
      refine LA.take (i := 3) rfl (by kernel_rfl) (by kernel_rfl) (by kernel_rfl) (fun w => x_mv (v := .int _ _) rfl) rfl ?_
      refine LA.take (i := 4) rfl (by kernel_rfl) (by kernel_rfl) (by kernel_rfl) (fun w => x_mv (v := .int _ _) rfl) rfl ?_
      refine LA.take (i := 5) rfl (by kernel_rfl) (by kernel_rfl) (by kernel_rfl) (fun w => x_add rfl rfl (wr64 (by omega))) rfl ?_
      refine LA.take (i := 6) rfl (by kernel_rfl) (by kernel_rfl) (by kernel_rfl) (fun w => x_mv (v := .slice _ _ _) rfl) rfl ?_
      refine LA.take (i := 7) rfl (by kernel_rfl) (by kernel_rfl) (by kernel_rfl) (fun w => x_mv (v := .int _ _) rfl) rfl ?_
      refine LA.take (i := 8) rfl (by kernel_rfl) (by kernel_rfl) (by kernel_rfl) (fun w => x_mv (v := .int _ _) rfl) rfl ?_
      refine LA.take (i := 9) rfl (by kernel_rfl) (by kernel_rfl) (by kernel_rfl) (fun w => x_add rfl rfl (wr64 (by omega))) rfl ?_
      refine LA.take (i := 10) rfl (by kernel_rfl) (by kernel_rfl) (by kernel_rfl) (fun w => x_ia1 (j := a + (k - 1)) Tryz.underlying106 ksrtc_sz3 rfl rfl (by omega) (by omega)) rfl ?_
      refine LA.take (i := 12) rfl (by kernel_rfl) (by kernel_rfl) (by kernel_rfl) (fun w => x_mv (v := .slice _ _ _) rfl) rfl ?_
      refine LA.take (i := 13) rfl (by kernel_rfl) (by kernel_rfl) (by kernel_rfl) (fun w => x_mv (v := .int _ _) rfl) rfl ?_
      refine LA.take (i := 14) rfl (by kernel_rfl) (by kernel_rfl) (by kernel_rfl) (fun w => x_ia1 (j := a) Tryz.underlying106 ksrtc_sz3 rfl rfl (by omega) (by omega)) rfl ?_
      refine LA.pair (i := 11) (j := 15) rfl rfl (by kernel_rfl) (by kernel_rfl) (by kernel_rfl) rfl rfl (x_ld (v := enc _) ksrtc_oc3 rfl (hR.at (i := a + (k - 1)) (by omega))) (x_ld (v := enc _) ksrtc_oc3 rfl (hR.at (i := a) (by omega))) (x_ld (v := enc _) ksrtc_oc3 rfl (hR.at (i := a) (by omega))) (x_ld (v := enc _) ksrtc_oc3 rfl (hR.at (i := a + (k - 1)) (by omega))) rfl rfl ?_
      refine LA.take (i := 16) rfl (by kernel_rfl) (by kernel_rfl) (by kernel_rfl) (fun w => x_ia1 (j := a) Tryz.underlying106 ksrtc_sz3 rfl rfl (by omega) (by omega)) rfl ?_
      refine LA.step (rs := [17]) (by kernel_rfl) (by simp) ⟨⟨_, rfl, ?_⟩, trivial⟩
      refine L.setAt (enc := enc) (j := a) ksrtc_sz3 rfl rfl (he1 _) hR (by omega) (fun wl45 hR hsl45 hw hzl45 => ?_)
      have hB := hB.trans hw
      refine L.nil ?_
      refine thn_n ?_
      refine LA.take (i := 18) rfl (by kernel_rfl) (by kernel_rfl) (by kernel_rfl) (fun w => x_ia1 (j := a + (k - 1)) Tryz.underlying106 ksrtc_sz3 rfl rfl (by omega) (by omega)) rfl ?_
      refine LA.step (rs := [19]) (by kernel_rfl) (by simp) ⟨⟨_, rfl, ?_⟩, trivial⟩
      refine L.setAt (enc := enc) (j := a + (k - 1)) ksrtc_sz3 rfl rfl (he1 _) hR (by omega) (fun wl47 hR hsl47 hw hzl47 => ?_)
      have hB := hB.trans hw
      refine L.nil ?_
      refine thn_n ?_
      refine LA.done (by kernel_rfl) ?_
      refine nrm_n ?_
      refine thn_n ?_
      refine W.region ?_
      refine L.val (x_mv (v := .slice _ _ _) rfl) rfl ?_
      refine L.val (x_mv (v := .int _ _) rfl) rfl ?_
      refine L.val (x_mv (v := .int _ _) rfl) rfl ?_
      refine L.val (x_mv (v := .int _ _) rfl) rfl ?_
      refine L.val (x_mv (v := .func _ _ _) rfl) rfl ?_
      have hke : ((k : Nat) : Int) - 1 = ((k - 1 : Nat) : Int) := by omega
      rw [hke]
      refine L.ret (x_call ksrtc_en199 rfl) rfl (sift_okC eg he1 b o 0 (k - 1) a cap n T hd tl (swp c a (a + (k - 1))) _ (hC.mv hB) hR (by rw [size_swp]; exact hn) hc (by omega) (by omega)) ?_
      rintro _ w55 ⟨rfl, hg, hR⟩
      have hB := hB.trans hg
      refine L.nil ?_
      refine blk_n ?_
      refine thn_n ?_
      refine W.region ?_
      refine L.val (x_mv (v := .int _ _) rfl) rfl ?_
      refine L.val (x_sub rfl rfl (wr64 (by omega))) rfl ?_
      refine L.val (x_as (v := .int _ _) rfl) rfl ?_
      refine L.nil ?_
      refine thn_n ⟨rfl, ?_⟩
      refine ⟨_, ?_, k - 1, siftDown (ltc cf) (k - 1) a 0 (swp c a (a + (k - 1))), rfl, by first | rfl | exact vi (by omega), by first | rfl | exact vi (by omega), by first | rfl | exact vi (by omega), by first | rfl | exact vi (by omega), by first | rfl | exact vi (by omega), (by first | assumption | omega | rfl), (by first | assumption | omega | rfl), (by rw [size_sift _ _ _ (Nat.lt_succ_self _), size_swp]; exact hn), (by first | assumption | omega | rfl), (by rw [← hq]; exact pop_pred (by omega))⟩
      omega
     ·have h33 := dle_f g33
      refine W.exit (thn_x (thn_x (blk_hit ?_)))
      refine fin_mk (.inl rfl) ?_
      exact ⟨rfl, hB, by have := hq; rw [show k = 0 by omega] at this; rw [← this]; exact hR⟩
theorem order2_okC (b o a e p s cap n : Nat) (T : TypeId) (hd tl : List Value) (d : Array α) (w : World) (hC : Cmp Tryz.prog enc gF cp cf b N0 w) (hR : Row enc w b o T hd d tl) (hn : d.size = n) (_hc : n ≤ 2000000000000000000) (ha : a < n) (he : e < n)
    (hs : s ≤ 100) (hp : Box w p 3 [.int .i64 (s : Nat)]) (hne : b ≠ p) (hNp : N0 ≤ p) :
    Ret Tryz.prog 208 #[.slice (some ⟨b, o, none⟩) n cap, .int .i64 a, .int .i64 e, .pointer (some ⟨p, 0, none⟩), .func (.func gF) #[] cp.toArray] w fun v w' => ∃ x y s' : Nat, v = .tuple #[.int .i64 x, .int .i64 y] ∧ ((x = a ∧ y = e) ∨ (x = e ∧ y = a)) ∧ s' ≤ s + 1 ∧ Gr (· = p) w w' ∧ Box w' p 3 [.int .i64 (s' : Nat)] := by
  refine ret_of_W Tryz.func208 rfl (Nat.le_of_ble_eq_true rfl) (res2 rfl) ?_
  have hB := Gr.refl (· = p) w
  refine W.seq ?_
  refine W.region ?_
  refine L.val (x_as (v := .int _ _) rfl) rfl ?_
  refine L.val (x_as (v := .int _ _) rfl) rfl ?_
  refine L.nil ?_
  refine thn_n ?_
  refine W.seq ?_
  refine W.seq ?_
  refine W.drawB ksrtc_mixed (by kernel_rfl) ?_
  refine LQ.val (fun w hw => x_mv (v := .func _ _ _) rfl) rfl ?_
  refine LQ.val (fun w hw => x_mv (v := .slice _ _ _) rfl) rfl ?_
  refine LQ.val (fun w hw => x_mv (v := .int _ _) rfl) rfl ?_
  refine LQ.val (fun w hw => x_ia1 (j := e) Tryz.underlying106 ksrtc_sz3 rfl rfl (by omega) (by omega)) rfl ?_
  refine LQ.val (fun w hw => x_ld (v := enc _) ksrtc_oc3 rfl (hw.keep (hR.at (i := e) (by omega)))) rfl ?_
  refine LQ.val (fun w hw => x_mv (v := .slice _ _ _) rfl) rfl ?_
  refine LQ.val (fun w hw => x_mv (v := .int _ _) rfl) rfl ?_
  refine LQ.val (fun w hw => x_ia1 (j := a) Tryz.underlying106 ksrtc_sz3 rfl rfl (by omega) (by omega)) rfl ?_
  refine LQ.val (fun w hw => x_ld (v := enc _) ksrtc_oc3 rfl (hw.keep (hR.at (i := a) (by omega)))) rfl ?_
  refine LQ.ret (fun w => x_callv eg rfl rfl) (fun w hw => Ret.mono (hC.viap hNp hB hw _ _) (fun _ _ h => ⟨h.1, Gr.trans hw h.2⟩)) rfl ?_
  refine LQ.val (fun w hw => x_lss rfl rfl) rfl ?_
  refine LQ.nil ?_
  intro w12 hw
  have hB := hB.carry hw; have hR := hR.carry hw; have hp := hp.carry hw
  refine thn_n ?_
  refine W.cond (b := _) rfl (fun g22 => ?_) (fun g22 => ?_)
  ·have h22 := g22
   refine W.seq ?_
   refine W.region ?_
   refine L.val (x_mv (v := .pointer _) rfl) rfl ?_
   refine L.val (x_nil rfl) rfl ?_
   refine L.val (x_ld (v := .int _ _) ksrtc_oc3 rfl (hp.cell (i := 0) rfl)) rfl ?_
   refine L.val (x_add rfl rfl (wr64 (by omega))) rfl ?_
   refine L.val (x_nil rfl) rfl ?_
   refine L.set (v := .int _ _) ksrtc_sz3 rfl rfl rfl hp rfl (fun wl19 hp hw hzl19 => ?_)
   have hB := hB.trans hw; have hR := hR.carryR hw (by omega)
   refine L.nil ?_
   refine thn_n ?_
   refine W.seq ?_
   refine W.region ?_
   refine L.val (x_mv (v := .int _ _) rfl) rfl ?_
   refine L.val (x_mv (v := .int _ _) rfl) rfl ?_
   refine L.val (x_as (v := .int _ _) rfl) rfl ?_
   refine L.val (x_as (v := .int _ _) rfl) rfl ?_
   refine L.nil ?_
   refine thn_n ?_
   refine W.ret (thn_r (fin_mk (.inr rfl) ?_))
   exact ⟨e, a, s + 1, rfl, .inr ⟨rfl, rfl⟩, Nat.le_refl _, hB, hp⟩
  ·have h22 := g22
   refine W.skip ?_
   refine thn_n ?_
   refine W.seq ?_
   refine W.region ?_
   refine L.val (x_mv (v := .int _ _) rfl) rfl ?_
   refine L.val (x_mv (v := .int _ _) rfl) rfl ?_
   refine L.val (x_as (v := .int _ _) rfl) rfl ?_
   refine L.val (x_as (v := .int _ _) rfl) rfl ?_
   refine L.nil ?_
   refine thn_n ?_
   refine W.ret (fin_mk (.inr rfl) ?_)
   exact ⟨a, e, s, rfl, .inl ⟨rfl, rfl⟩, by omega, hB, hp⟩
theorem median_okC (b o x y z p s cap n : Nat) (T : TypeId) (hd tl : List Value) (d : Array α) (w : World) (hC : Cmp Tryz.prog enc gF cp cf b N0 w) (hR : Row enc w b o T hd d tl) (hn : d.size = n) (hc : n ≤ 2000000000000000000) (hx : x < n) (hy : y < n) (hz : z < n)
    (hs : s ≤ 90) (hp : Box w p 3 [.int .i64 (s : Nat)]) (hne : b ≠ p) (hNp : N0 ≤ p) :
    Ret Tryz.prog 203 #[.slice (some ⟨b, o, none⟩) n cap, .int .i64 x, .int .i64 y, .int .i64 z, .pointer (some ⟨p, 0, none⟩), .func (.func gF) #[] cp.toArray] w fun v w' => ∃ m s' : Nat, v = .int .i64 m ∧ (m = x ∨ m = y ∨ m = z) ∧ s' ≤ s + 3 ∧ Gr (· = p) w w' ∧ Box w' p 3 [.int .i64 (s' : Nat)] := by
  refine ret_of_W Tryz.func203 rfl (Nat.le_of_ble_eq_true rfl) (res1 rfl) ?_
  have hB := Gr.refl (· = p) w
  refine W.seq ?_
  refine W.region ?_
  refine L.val (x_as (v := .int _ _) rfl) rfl ?_
  refine L.nil ?_
  refine thn_n ?_
  refine W.seq ?_
  refine W.region ?_
  refine L.val (x_mv (v := .slice _ _ _) rfl) rfl ?_
  refine L.val (x_mv (v := .int _ _) rfl) rfl ?_
  refine L.val (x_mv (v := .int _ _) rfl) rfl ?_
  refine L.val (x_mv (v := .pointer _) rfl) rfl ?_
  refine L.val (x_mv (v := .func _ _ _) rfl) rfl ?_
  refine L.ret (x_call ksrtc_en208 rfl) rfl (order2_okC eg he1 b o x y p s cap n T hd tl d _ (hC.mvp hNp hB) hR hn hc hx hy (by omega) hp hne hNp) ?_
  rintro _ w16 ⟨x1, y1, s1, rfl, h1, k1, hg, hp⟩
  have hB := hB.trans hg
  have hR := hR.carryR hg hne
  refine L.val (x_mv (v := _) rfl) rfl ?_
  refine L.val (x_ext (v := .int _ _) rfl rfl) rfl ?_
  refine L.val (x_ext (v := .int _ _) rfl rfl) rfl ?_
  refine L.val (x_as (v := .int _ _) rfl) rfl ?_
  refine L.val (x_as (v := .int _ _) rfl) rfl ?_
  refine L.nil ?_
  refine thn_n ?_
  refine W.seq ?_
  refine W.region ?_
  refine L.val (x_mv (v := .slice _ _ _) rfl) rfl ?_
  refine L.val (x_mv (v := .int _ _) rfl) rfl ?_
  refine L.val (x_mv (v := .int _ _) rfl) rfl ?_
  refine L.val (x_mv (v := .pointer _) rfl) rfl ?_
  refine L.val (x_mv (v := .func _ _ _) rfl) rfl ?_
  refine L.ret (x_call ksrtc_en208 rfl) rfl (order2_okC eg he1 b o y1 z p s1 cap n T hd tl d _ (hC.mvp hNp hB) hR hn hc (by omega) hz (by omega) hp hne hNp) ?_
  rintro _ w24 ⟨y2, z2, s2, rfl, h2, k2, hg, hp⟩
  have hB := hB.trans hg
  have hR := hR.carryR hg hne
  refine L.val (x_mv (v := _) rfl) rfl ?_
  refine L.val (x_ext (v := .int _ _) rfl rfl) rfl ?_
  refine L.val (x_ext (v := .int _ _) rfl rfl) rfl ?_
  refine L.val (x_as (v := .int _ _) rfl) rfl ?_
  refine L.val (x_as (v := .int _ _) rfl) rfl ?_
  refine L.nil ?_
  refine thn_n ?_
  refine W.seq ?_
  refine W.region ?_
  refine L.val (x_mv (v := .slice _ _ _) rfl) rfl ?_
  refine L.val (x_mv (v := .int _ _) rfl) rfl ?_
  refine L.val (x_mv (v := .int _ _) rfl) rfl ?_
  refine L.val (x_mv (v := .pointer _) rfl) rfl ?_
  refine L.val (x_mv (v := .func _ _ _) rfl) rfl ?_
  refine L.ret (x_call ksrtc_en208 rfl) rfl (order2_okC eg he1 b o x1 y2 p s2 cap n T hd tl d _ (hC.mvp hNp hB) hR hn hc (by omega) (by omega) (by omega) hp hne hNp) ?_
  rintro _ w32 ⟨x3, y3, s3, rfl, h3, k3, hg, hp⟩
  have hB := hB.trans hg
  refine L.val (x_mv (v := _) rfl) rfl ?_
  refine L.val (x_ext (v := .int _ _) rfl rfl) rfl ?_
  refine L.val (x_ext (v := .int _ _) rfl rfl) rfl ?_
  refine L.val (x_as (v := .int _ _) rfl) rfl ?_
  refine L.val (x_as (v := .int _ _) rfl) rfl ?_
  refine L.nil ?_
  refine thn_n ?_
  refine W.seq ?_
  refine W.region ?_
  refine L.val (x_mv (v := .int _ _) rfl) rfl ?_
  refine L.val (x_as (v := .int _ _) rfl) rfl ?_
  refine L.nil ?_
  refine thn_n ?_
  refine W.ret (fin_mk (.inr rfl) ?_)
  exact ⟨y3, s3, rfl, by omega, by omega, hB, hp⟩
theorem medadj_okC (b o x p s cap n : Nat) (T : TypeId) (hd tl : List Value) (d : Array α) (w : World) (hC : Cmp Tryz.prog enc gF cp cf b N0 w) (hR : Row enc w b o T hd d tl) (hn : d.size = n) (hc : n ≤ 2000000000000000000) (h0 : 1 ≤ x) (hx : x + 1 < n)
    (hs : s ≤ 90) (hp : Box w p 3 [.int .i64 (s : Nat)]) (hne : b ≠ p) (hNp : N0 ≤ p) :
    Ret Tryz.prog 202 #[.slice (some ⟨b, o, none⟩) n cap, .int .i64 x, .pointer (some ⟨p, 0, none⟩), .func (.func gF) #[] cp.toArray] w fun v w' => ∃ m s' : Nat, v = .int .i64 m ∧ (x ≤ m + 1 ∧ m ≤ x + 1) ∧ s' ≤ s + 3 ∧ Gr (· = p) w w' ∧ Box w' p 3 [.int .i64 (s' : Nat)] := by
  refine ret_of_W Tryz.func202 rfl (Nat.le_of_ble_eq_true rfl) (res1 rfl) ?_
  have hB := Gr.refl (· = p) w
  refine W.seq ?_
  refine W.region ?_
  refine L.val (x_as (v := .int _ _) rfl) rfl ?_
  refine L.nil ?_
  refine thn_n ?_
  refine W.seq ?_
  refine W.region ?_
  refine L.val (x_mv (v := .slice _ _ _) rfl) rfl ?_
  refine L.val (x_mv (v := .int _ _) rfl) rfl ?_
  refine L.val (x_sub rfl rfl (wr64 (by omega))) rfl ?_
  refine L.val (x_mv (v := .int _ _) rfl) rfl ?_
  refine L.val (x_mv (v := .int _ _) rfl) rfl ?_
  refine L.val (x_add rfl rfl (wr64 (by omega))) rfl ?_
  refine L.val (x_mv (v := .pointer _) rfl) rfl ?_
  refine L.val (x_mv (v := .func _ _ _) rfl) rfl ?_
  have e1 : (x : Int) - 1 = ((x - 1 : Nat) : Int) := by omega
  have e2 : (x : Int) + 1 = ((x + 1 : Nat) : Int) := by omega
  rw [e1, e2]
  refine L.ret (x_call ksrtc_en203 rfl) rfl (median_okC eg he1 b o (x - 1) x (x + 1) p s cap n T hd tl d _ (hC.mvp hNp hB) hR hn hc (by omega) (by omega) (by omega) hs hp hne hNp) ?_
  rintro _ w14 ⟨m, s1, rfl, h1, k1, hg, hp⟩
  have hB := hB.trans hg
  refine L.val (x_as (v := .int _ _) rfl) rfl ?_
  refine L.nil ?_
  refine thn_n ?_
  refine W.ret (fin_mk (.inr rfl) ?_)
  exact ⟨m, s1, rfl, by omega, by omega, hB, hp⟩
theorem pivot_okC (b o a e cap n : Nat) (T : TypeId) (hd tl : List Value) (d : Array α) (w : World) (hC : Cmp Tryz.prog enc gF cp cf b N0 w) (hR : Row enc w b o T hd d tl) (hn : d.size = n) (hc : n ≤ 2000000000000000000) (hae : a < e) (he : e ≤ n) :
    Ret Tryz.prog 183 #[.slice (some ⟨b, o, none⟩) n cap, .int .i64 a, .int .i64 e, .func (.func gF) #[] cp.toArray] w fun v w' => ∃ m h : Nat, v = .tuple #[.int .i64 m, .int .i64 h] ∧ a ≤ m ∧ m < e ∧ Bel w w' := by
  refine ret_of_W Tryz.func183 rfl (Nat.le_of_ble_eq_true rfl) (res2 rfl) ?_
  have hB := Gr.refl (fun _ => False) w
  have hbl := hR.lt
  have hCs := hC.size
  obtain ⟨l, hl⟩ : ∃ l, l = e - a := ⟨_, rfl⟩
  refine W.seq ?_
  refine W.region ?_
  refine L.val (x_as (v := .int _ _) rfl) rfl ?_
  refine L.val (x_as (v := .int _ _) rfl) rfl ?_
  refine L.nil ?_
  refine thn_n ?_
  refine W.seq ?_
  refine W.region ?_
  refine L.val (x_mv (v := .int _ _) rfl) rfl ?_
  refine L.val (x_mv (v := .int _ _) rfl) rfl ?_
  refine L.val (x_sub rfl rfl (wr64 (by omega))) rfl ?_
  refine L.val (x_as (v := .int _ _) rfl) rfl ?_
  refine L.nil ?_
  refine thn_n ?_
  refine W.seq ?_
  refine W.region ?_
  refine L.alloc (cs := [Value.int .i64 0]) ksrtc_zr3 rfl rfl (fun w11 bx11 hw hz11 => ?_)
  have hB := hB.carry hw; have hR := hR.carry hw
  refine L.nil ?_
  refine thn_n ?_
  refine W.seq ?_
  refine W.region ?_
  refine L.val (x_mv (v := .int _ _) rfl) rfl ?_
  refine L.val (x_mv (v := .int _ _) rfl) rfl ?_
  refine L.val (x_quo rfl rfl (by decide) (wq64 (by omega) (by decide))) rfl ?_
  refine L.val (x_mul rfl rfl (wr64 (by omega))) rfl ?_
  refine L.val (x_add rfl rfl (wr64 (by omega))) rfl ?_
  refine L.val (x_as (v := .int _ _) rfl) rfl ?_
  refine L.nil ?_
  refine thn_n ?_
  refine W.seq ?_
  refine W.region ?_
  refine L.val (x_mv (v := .int _ _) rfl) rfl ?_
  refine L.val (x_mv (v := .int _ _) rfl) rfl ?_
  refine L.val (x_quo rfl rfl (by decide) (wq64 (by omega) (by decide))) rfl ?_
  refine L.val (x_mul rfl rfl (wr64 (by omega))) rfl ?_
  refine L.val (x_add rfl rfl (wr64 (by omega))) rfl ?_
  refine L.val (x_as (v := .int _ _) rfl) rfl ?_
  refine L.nil ?_
  refine thn_n ?_
  refine W.seq ?_
  refine W.region ?_
  refine L.val (x_mv (v := .int _ _) rfl) rfl ?_
  refine L.val (x_mv (v := .int _ _) rfl) rfl ?_
  refine L.val (x_quo rfl rfl (by decide) (wq64 (by omega) (by decide))) rfl ?_
  refine L.val (x_mul rfl rfl (wr64 (by omega))) rfl ?_
  refine L.val (x_add rfl rfl (wr64 (by omega))) rfl ?_
  refine L.val (x_as (v := .int _ _) rfl) rfl ?_
  refine L.nil ?_
  refine thn_n ?_
  refine W.cut (fun D' E' w' => D' = [] ∧ E' 3 = .func (.func gF) #[] cp.toArray ∧ ∃ m s : Nat, E' 11 = .pointer (some ⟨w.heap.size, 0, none⟩) ∧ E' 13 = .int .i64 m ∧ a ≤ m ∧ m < e ∧ Bel w w' ∧ Box w' w.heap.size 3 [.int .i64 (s : Nat)]) ?_ ?_
  ·refine W.seq ?_
   refine W.region ?_
   refine L.val (x_mv (v := .int _ _) rfl) rfl ?_
   refine L.val (x_geq rfl rfl) rfl ?_
   refine L.nil ?_
   refine thn_n ?_
   refine W.cond (b := _) rfl (fun g34 => ?_) (fun g34 => ?_)
   ·have h34 := of_decide_eq_true g34
    refine W.cut (fun D' E' w' => D' = [] ∧ E' 3 = .func (.func gF) #[] cp.toArray ∧ ∃ m1 m2 m3 s3 : Nat, E' 0 = .slice (some ⟨b, o, none⟩) n cap ∧ E' 11 = .pointer (some ⟨w.heap.size, 0, none⟩) ∧ E' 12 = .int .i64 m1 ∧ E' 13 = .int .i64 m2 ∧ E' 14 = .int .i64 m3 ∧ a ≤ m1 ∧ m1 < e ∧ a ≤ m2 ∧ m2 < e ∧ a ≤ m3 ∧ m3 < e ∧ s3 ≤ 9 ∧ Bel w w' ∧ Row enc w' b o T hd d tl ∧ Box w' w.heap.size 3 [.int .i64 (s3 : Nat)]) ?_ ?_
    ·refine W.seq ?_
     refine W.region ?_
     refine L.val (x_mv (v := .int _ _) rfl) rfl ?_
     refine L.val (x_geq rfl rfl) rfl ?_
     refine L.nil ?_
     refine thn_n ?_
     refine W.cond (b := _) rfl (fun g36 => ?_) (fun g36 => ?_)
     ·have h36 := of_decide_eq_true g36
      refine W.seq ?_
      refine W.region ?_
      refine L.val (x_mv (v := .slice _ _ _) rfl) rfl ?_
      refine L.val (x_mv (v := .int _ _) rfl) rfl ?_
      refine L.val (x_mv (v := .func _ _ _) rfl) rfl ?_
      have e1 : (a : Int) + ((e : Int) - a) / 4 * 1 = ((a + l / 4 * 1 : Nat) : Int) := by omega
      rw [e1]
      refine L.ret (x_call ksrtc_en202 rfl) rfl (medadj_okC eg he1 b o (a + l / 4 * 1) w.heap.size 0 cap n T hd tl d _ (hC.mvB hB) hR hn hc (by omega) (by omega) (by omega) bx11 (by omega) (by omega)) ?_
      rintro _ w37 ⟨m1, s1, rfl, h1, k1, hg, bx11⟩
      have hB := hB.set hg (by omega)
      have hR := hR.carryR hg (by omega)
      refine L.val (x_as (v := .int _ _) rfl) rfl ?_
      refine L.nil ?_
      refine thn_n ?_
      refine W.seq ?_
      refine W.region ?_
      refine L.val (x_mv (v := .slice _ _ _) rfl) rfl ?_
      refine L.val (x_mv (v := .int _ _) rfl) rfl ?_
      refine L.val (x_mv (v := .func _ _ _) rfl) rfl ?_
      have e1 : (a : Int) + ((e : Int) - a) / 4 * 2 = ((a + l / 4 * 2 : Nat) : Int) := by omega
      rw [e1]
      refine L.ret (x_call ksrtc_en202 rfl) rfl (medadj_okC eg he1 b o (a + l / 4 * 2) w.heap.size s1 cap n T hd tl d _ (hC.mvB hB) hR hn hc (by omega) (by omega) (by omega) bx11 (by omega) (by omega)) ?_
      rintro _ w40 ⟨m2, s2, rfl, h2, k2, hg, bx11⟩
      have hB := hB.set hg (by omega)
      have hR := hR.carryR hg (by omega)
      refine L.val (x_as (v := .int _ _) rfl) rfl ?_
      refine L.nil ?_
      refine thn_n ?_
      refine W.region ?_
      refine L.val (x_mv (v := .slice _ _ _) rfl) rfl ?_
      refine L.val (x_mv (v := .int _ _) rfl) rfl ?_
      refine L.val (x_mv (v := .func _ _ _) rfl) rfl ?_
      have e1 : (a : Int) + ((e : Int) - a) / 4 * 3 = ((a + l / 4 * 3 : Nat) : Int) := by omega
      rw [e1]
      refine L.ret (x_call ksrtc_en202 rfl) rfl (medadj_okC eg he1 b o (a + l / 4 * 3) w.heap.size s2 cap n T hd tl d _ (hC.mvB hB) hR hn hc (by omega) (by omega) (by omega) bx11 (by omega) (by omega)) ?_
      rintro _ w43 ⟨m3, s3, rfl, h3, k3, hg, bx11⟩
      have hB := hB.set hg (by omega)
      have hR := hR.carryR hg (by omega)
      refine L.val (x_as (v := .int _ _) rfl) rfl ?_
      refine L.nil ?_
      refine thn_n ?_
      first
        | exact ⟨rfl, rfl, m1, m2, m3, s3, rfl, rfl, rfl, rfl, rfl, by omega, by omega, by omega, by omega, by omega, by omega, by omega, hB, hR, bx11⟩
        | exact ⟨rfl, rfl, a + l / 4 * 1, a + l / 4 * 2, a + l / 4 * 3, 0, rfl, rfl, vi (by omega), vi (by omega), vi (by omega), by omega, by omega, by omega, by omega, by omega, by omega, by omega, hB, hR, bx11⟩
     ·have h36 := dle_f g36
      refine W.skip ?_
      refine thn_n ?_
      first
        | exact ⟨rfl, rfl, m1, m2, m3, s3, rfl, rfl, rfl, rfl, rfl, by omega, by omega, by omega, by omega, by omega, by omega, by omega, hB, hR, bx11⟩
        | exact ⟨rfl, rfl, a + l / 4 * 1, a + l / 4 * 2, a + l / 4 * 3, 0, rfl, rfl, vi (by omega), vi (by omega), vi (by omega), by omega, by omega, by omega, by omega, by omega, by omega, by omega, hB, hR, bx11⟩
    ·rintro D E w44 ⟨rfl, eK, m1, m2, m3, s3, e0, e9, e10, e11, e12, a1, a2, a3, a4, a5, a6, a7, hB, hR, bx11⟩
     rw [upd_self eK, upd_self e0, upd_self e9, upd_self e10, upd_self e11, upd_self e12]
     refine W.region ?_
     refine L.val (x_mv (v := .slice _ _ _) rfl) rfl ?_
     refine L.val (x_mv (v := .int _ _) rfl) rfl ?_
     refine L.val (x_mv (v := .int _ _) rfl) rfl ?_
     refine L.val (x_mv (v := .int _ _) rfl) rfl ?_
     refine L.val (x_mv (v := .func _ _ _) rfl) rfl ?_
     refine L.ret (x_call ksrtc_en203 rfl) rfl (median_okC eg he1 b o m1 m2 m3 w.heap.size s3 cap n T hd tl d _ (hC.mvB hB) hR hn hc (by omega) (by omega) (by omega) (by omega) bx11 (by omega) (by omega)) ?_
     rintro _ w48 ⟨m4, s4, rfl, h4, k4, hg, bx11⟩
     have hB := hB.set hg (by omega)
     have hR := hR.carryR hg (by omega)
     refine L.val (x_as (v := .int _ _) rfl) rfl ?_
     refine L.nil ?_
     refine thn_n ?_
     first
       | exact ⟨rfl, rfl, m4, s4, rfl, rfl, by omega, by omega, hB, bx11⟩
       | exact ⟨rfl, rfl, a + l / 4 * 2, 0, rfl, vi (by omega), by omega, by omega, hB, bx11⟩
   ·have h34 := dle_f g34
    refine W.skip ?_
    refine thn_n ?_
    first
      | exact ⟨rfl, rfl, m4, s4, rfl, rfl, by omega, by omega, hB, bx11⟩
      | exact ⟨rfl, rfl, a + l / 4 * 2, 0, rfl, vi (by omega), by omega, by omega, hB, bx11⟩
  ·rintro D E w49 ⟨rfl, eK, m, s, e9, e11, a1, a2, hB, bx11⟩
   rw [upd_self eK, upd_self e9, upd_self e11]
   refine W.seq ?_
   refine W.region ?_
   refine L.val (x_ld (v := .int _ _) ksrtc_oc3 rfl (bx11.cell (i := 0) rfl)) rfl ?_
   refine L.nil ?_
   refine thn_n ?_
   refine W.block ?_
   refine W.seq ?_
   refine W.region ?_
   refine L.val (x_eql rfl rfl) rfl ?_
   refine L.val (x_as (v := .bool _) rfl) rfl ?_
   refine L.nil ?_
   refine thn_n ?_
   refine W.cond (b := _) rfl (fun g58 => ?_) (fun g58 => ?_)
   ·have h58 := of_decide_eq_true g58
    refine W.seq ?_
    refine W.region ?_
    refine L.val (x_mv (v := .int _ _) rfl) rfl ?_
    refine L.val (x_as (v := .int _ _) rfl) rfl ?_
    refine L.val (x_as (v := .int _ _) rfl) rfl ?_
    refine L.nil ?_
    refine thn_n ?_
    refine W.ret (blk_r (fin_mk (.inr rfl) ?_))
    exact ⟨m, 1, rfl, a1, a2, hB⟩
   ·have h58 := of_decide_eq_false g58
    refine W.seq ?_
    refine W.region ?_
    refine L.val (x_eql rfl rfl) rfl ?_
    refine L.val (x_as (v := .bool _) rfl) rfl ?_
    refine L.nil ?_
    refine thn_n ?_
    refine W.cond (b := _) rfl (fun g61 => ?_) (fun g61 => ?_)
    ·have h61 := of_decide_eq_true g61
     refine W.seq ?_
     refine W.region ?_
     refine L.val (x_mv (v := .int _ _) rfl) rfl ?_
     refine L.val (x_as (v := .int _ _) rfl) rfl ?_
     refine L.val (x_as (v := .int _ _) rfl) rfl ?_
     refine L.nil ?_
     refine thn_n ?_
     refine W.ret (blk_r (fin_mk (.inr rfl) ?_))
     exact ⟨m, 2, rfl, a1, a2, hB⟩
    ·have h61 := of_decide_eq_false g61
     refine W.seq ?_
     refine W.region ?_
     refine L.val (x_mv (v := .int _ _) rfl) rfl ?_
     refine L.val (x_as (v := .int _ _) rfl) rfl ?_
     refine L.val (x_as (v := .int _ _) rfl) rfl ?_
     refine L.nil ?_
     refine thn_n ?_
     refine W.ret (blk_r (fin_mk (.inr rfl) ?_))
     exact ⟨m, 0, rfl, a1, a2, hB⟩
theorem partition_okC (b o a e q cap n : Nat) (T : TypeId) (hd tl : List Value) (d : Array α) (w : World) (hC : Cmp Tryz.prog enc gF cp cf b N0 w) (hR : Row enc w b o T hd d tl) (hn : d.size = n) (hc : n ≤ 2000000000000000000) (haq : a ≤ q) (hqe : q < e) (he : e ≤ n) :
    Ret Tryz.prog 187 #[.slice (some ⟨b, o, none⟩) n cap, .int .i64 a, .int .i64 e, .int .i64 q, .func (.func gF) #[] cp.toArray] w fun v w' => v = .tuple #[.int .i64 (partition (ltc cf) d a e q).1, .bool (partition (ltc cf) d a e q).2.1] ∧ Gr (· = b) w w' ∧ Row enc w' b o T hd (partition (ltc cf) d a e q).2.2 tl := by
  refine ret_of_W Tryz.func187 rfl (Nat.le_of_ble_eq_true rfl) (res2 rfl) ?_
  have hB := Gr.refl (· = b) w
  obtain ⟨c, hcd⟩ : ∃ c, c = swp d a q := ⟨_, rfl⟩
  have hn2 : c.size = n := by rw [hcd, size_swp]; exact hn
  refine W.seq ?_
  refine W.region ?_
  refine L.val (x_as (v := .int _ _) rfl) rfl ?_
  refine L.val (x_as (v := .bool _) rfl) rfl ?_
  refine L.nil ?_
  refine thn_n ?_
  refine W.seq ?_
  refine W.drawS ksrtc_mixed ?_
  have hB := hB.carry (bel_drew _); have hR := hR.carry (bel_drew _)
  refine LA.take (i := 0) rfl (by kernel_rfl) (by kernel_rfl) (by kernel_rfl) (fun w => x_mv (v := .slice _ _ _) rfl) rfl ?_
  refine LA.take (i := 1) rfl (by kernel_rfl) (by kernel_rfl) (by kernel_rfl) (fun w => x_mv (v := .int _ _) rfl) rfl ?_
  refine LA.take (i := 2) rfl (by kernel_rfl) (by kernel_rfl) (by kernel_rfl) (fun w => x_mv (v := .slice _ _ _) rfl) rfl ?_
  refine LA.take (i := 3) rfl (by kernel_rfl) (by kernel_rfl) (by kernel_rfl) (fun w => x_mv (v := .int _ _) rfl) rfl ?_
  refine LA.take (i := 4) rfl (by kernel_rfl) (by kernel_rfl) (by kernel_rfl) (fun w => x_mv (v := .slice _ _ _) rfl) rfl ?_
  refine LA.take (i := 5) rfl (by kernel_rfl) (by kernel_rfl) (by kernel_rfl) (fun w => x_mv (v := .int _ _) rfl) rfl ?_
  refine LA.take (i := 6) rfl (by kernel_rfl) (by kernel_rfl) (by kernel_rfl) (fun w => x_ia1 (j := q) Tryz.underlying106 ksrtc_sz3 rfl rfl (by omega) (by omega)) rfl ?_
  refine LA.take (i := 8) rfl (by kernel_rfl) (by kernel_rfl) (by kernel_rfl) (fun w => x_mv (v := .slice _ _ _) rfl) rfl ?_
  refine LA.take (i := 9) rfl (by kernel_rfl) (by kernel_rfl) (by kernel_rfl) (fun w => x_mv (v := .int _ _) rfl) rfl ?_
  refine LA.take (i := 10) rfl (by kernel_rfl) (by kernel_rfl) (by kernel_rfl) (fun w => x_ia1 (j := a) Tryz.underlying106 ksrtc_sz3 rfl rfl (by omega) (by omega)) rfl ?_
  refine LA.pair (i := 7) (j := 11) rfl rfl (by kernel_rfl) (by kernel_rfl) (by kernel_rfl) rfl rfl (x_ld (v := enc _) ksrtc_oc3 rfl (hR.at (i := q) (by omega))) (x_ld (v := enc _) ksrtc_oc3 rfl (hR.at (i := a) (by omega))) (x_ld (v := enc _) ksrtc_oc3 rfl (hR.at (i := a) (by omega))) (x_ld (v := enc _) ksrtc_oc3 rfl (hR.at (i := q) (by omega))) rfl rfl ?_
  refine LA.take (i := 12) rfl (by kernel_rfl) (by kernel_rfl) (by kernel_rfl) (fun w => x_ia1 (j := a) Tryz.underlying106 ksrtc_sz3 rfl rfl (by omega) (by omega)) rfl ?_
  refine LA.step (rs := [13]) (by kernel_rfl) (by simp) ⟨⟨_, rfl, ?_⟩, trivial⟩
  refine L.setAt (enc := enc) (j := a) ksrtc_sz3 rfl rfl (he1 _) hR (by omega) (fun wl16 hR hsl16 hw hzl16 => ?_)
  have hB := hB.trans hw
  refine L.nil ?_
  refine thn_n ?_
  refine LA.take (i := 14) rfl (by kernel_rfl) (by kernel_rfl) (by kernel_rfl) (fun w => x_ia1 (j := q) Tryz.underlying106 ksrtc_sz3 rfl rfl (by omega) (by omega)) rfl ?_
  refine LA.step (rs := [15]) (by kernel_rfl) (by simp) ⟨⟨_, rfl, ?_⟩, trivial⟩
  refine L.setAt (enc := enc) (j := q) ksrtc_sz3 rfl rfl (he1 _) hR (by omega) (fun wl18 hR hsl18 hw hzl18 => ?_)
  have hB := hB.trans hw
  have hR : Row enc wl18 b o T hd c tl := by rw [hcd]; exact hR
  refine L.nil ?_
  refine thn_n ?_
  refine LA.done (by kernel_rfl) ?_
  refine nrm_n ?_
  refine thn_n ?_
  refine W.seq ?_
  refine W.region ?_
  refine L.val (x_mv (v := .int _ _) rfl) rfl ?_
  refine L.val (x_add rfl rfl (wr64 (by omega))) rfl ?_
  refine L.val (x_mv (v := .int _ _) rfl) rfl ?_
  refine L.val (x_sub rfl rfl (wr64 (by omega))) rfl ?_
  refine L.val (x_as (v := .int _ _) rfl) rfl ?_
  refine L.val (x_as (v := .int _ _) rfl) rfl ?_
  refine L.nil ?_
  refine thn_n ?_
  refine W.seq ?_
  refine W.block ?_
  refine W.loop (fun m' E w' => ∃ (i : Nat), m' = e - i ∧ E 0 = .slice (some ⟨b, o, none⟩) n cap ∧ E 1 = .int .i64 (a : Nat) ∧ E 12 = .int .i64 (i : Nat) ∧ E 13 = .int .i64 ((e - 1 : Nat) : Nat) ∧ E 4 = .func (.func gF) #[] cp.toArray ∧ (Gr (· = b) w w') ∧ (Row enc w' b o T hd c tl) ∧ (a < i ∧ i ≤ e) ∧ (scanUp (fun x => (ltc cf) x c[a]!) c (e - 1) i = scanUp (fun x => (ltc cf) x c[a]!) c (e - 1) (a + 1))) (e - (a + 1)) ?_ ?_
  ·exact ⟨a + 1, by omega, by first | rfl | exact vi (by omega), by first | rfl | exact vi (by omega), by first | rfl | exact vi (by omega), by first | rfl | exact vi (by omega), by first | rfl | exact vi (by omega), (by first | assumption | omega | rfl), (by first | assumption | omega | rfl), (by first | assumption | omega | rfl), (by first | assumption | omega | rfl)⟩
  ·rintro _ E wL32 ⟨i, em, e0, e1, e12, e13, e4, hB, hR, hi, hq1⟩
   rw [upd_self e0, upd_self e1, upd_self e12, upd_self e13, upd_self e4]
   refine W.seq ?_
   refine W.seq ?_
   refine W.drawB ksrtc_mixed (by kernel_rfl) ?_
   refine LQ.val (fun w hw => x_mv (v := .int _ _) rfl) rfl ?_
   refine LQ.val (fun w hw => x_mv (v := .int _ _) rfl) rfl ?_
   refine LQ.val (fun w hw => x_leq rfl rfl) rfl ?_
   refine LQ.val (fun w hw => x_mv (v := .bool _) rfl) rfl ?_
   refine' LQ.group 11 36 46 46 35 true rfl ?_ ?_ ?_
   rotate_left 1
   ·intro g35
    have h35 := of_decide_eq_true g35
    refine LQ.gyes' (dj := 35) (b := _) rfl rfl g35 ?_
    refine LQ.val (fun w hw => x_mv (v := .func _ _ _) rfl) rfl ?_
    refine LQ.gyes' (dj := 35) (b := _) rfl rfl g35 ?_
    refine LQ.val (fun w hw => x_mv (v := .slice _ _ _) rfl) rfl ?_
    refine LQ.gyes' (dj := 35) (b := _) rfl rfl g35 ?_
    refine LQ.val (fun w hw => x_mv (v := .int _ _) rfl) rfl ?_
    refine LQ.gyes' (dj := 35) (b := _) rfl rfl g35 ?_
    refine LQ.val (fun w hw => x_ia1 (j := i) Tryz.underlying106 ksrtc_sz3 rfl rfl (by omega) (by omega)) rfl ?_
    refine LQ.gyes' (dj := 35) (b := _) rfl rfl g35 ?_
    refine LQ.val (fun w hw => x_ld (v := enc _) ksrtc_oc3 rfl (hw.keep (hR.at (i := i) (by omega)))) rfl ?_
    refine LQ.gyes' (dj := 35) (b := _) rfl rfl g35 ?_
    refine LQ.val (fun w hw => x_mv (v := .slice _ _ _) rfl) rfl ?_
    refine LQ.gyes' (dj := 35) (b := _) rfl rfl g35 ?_
    refine LQ.val (fun w hw => x_mv (v := .int _ _) rfl) rfl ?_
    refine LQ.gyes' (dj := 35) (b := _) rfl rfl g35 ?_
    refine LQ.val (fun w hw => x_ia1 (j := a) Tryz.underlying106 ksrtc_sz3 rfl rfl (by omega) (by omega)) rfl ?_
    refine LQ.gyes' (dj := 35) (b := _) rfl rfl g35 ?_
    refine LQ.val (fun w hw => x_ld (v := enc _) ksrtc_oc3 rfl (hw.keep (hR.at (i := a) (by omega)))) rfl ?_
    refine LQ.gyes' (dj := 35) (b := _) rfl rfl g35 ?_
    refine LQ.ret (fun w => x_callv eg rfl rfl) (fun w hw => Ret.mono (hC.via hB hw _ _) (fun _ _ h => ⟨h.1, Gr.trans hw h.2⟩)) rfl ?_
    refine LQ.gyes' (dj := 35) (b := _) rfl rfl g35 ?_
    refine LQ.val (fun w hw => x_lss rfl rfl) rfl ?_
    refine LQ.nil ?_
    refine ⟨?_, rfl⟩
    repeat (first | exact jeq.refl _ _ _ | refine jeq.upd rfl ?_ | refine jeq.jk rfl rfl ?_)
   ·intro g35
    refine LQ.gno (dj := 35) (b := _) rfl rfl g35 rfl ?_
    refine LQ.gno (dj := 35) (b := _) rfl rfl g35 rfl ?_
    refine LQ.gno (dj := 35) (b := _) rfl rfl g35 rfl ?_
    refine LQ.gno (dj := 35) (b := _) rfl rfl g35 rfl ?_
    refine LQ.gno (dj := 35) (b := _) rfl rfl g35 rfl ?_
    refine LQ.gno (dj := 35) (b := _) rfl rfl g35 rfl ?_
    refine LQ.gno (dj := 35) (b := _) rfl rfl g35 rfl ?_
    refine LQ.gno (dj := 35) (b := _) rfl rfl g35 rfl ?_
    refine LQ.gno (dj := 35) (b := _) rfl rfl g35 rfl ?_
    refine LQ.gno (dj := 35) (b := _) rfl rfl g35 rfl ?_
    refine LQ.gno (dj := 35) (b := _) rfl rfl g35 rfl ?_
    refine LQ.nil ?_
    repeat (first | exact jeq.refl _ _ _ | refine jeq.upd rfl ?_ | refine jeq.jk rfl rfl ?_)
   intro J35 j35
   refine LQ.val (fun w hw => x_and rfl j35) rfl ?_
   refine LQ.nil ?_
   intro w32 hw
   have hB := hB.carry hw; have hR := hR.carry hw
   refine thn_n ?_
   refine W.cond (b := _) rfl (fun g47 => ?_) (fun g47 => ?_)
   ·have h47 := g47
    have hie := and1 h47
    refine W.skip ?_
    refine thn_n ?_
    refine W.block ?_
    refine W.region ?_
    refine L.val (x_mv (v := .int _ _) rfl) rfl ?_
    refine L.val (x_add rfl rfl (wr64 (by omega))) rfl ?_
    refine L.val (x_as (v := .int _ _) rfl) rfl ?_
    refine L.nil ?_
    refine blk_n ?_
    refine thn_n ⟨rfl, ?_⟩
    refine ⟨_, ?_, i + 1, rfl, by first | rfl | exact vi (by omega), by first | rfl | exact vi (by omega), by first | rfl | exact vi (by omega), by first | rfl | exact vi (by omega), by first | rfl | exact vi (by omega), (by first | assumption | omega | rfl), (by first | assumption | omega | rfl), (by omega), (by rw [← hq1]; exact up_go (p := fun x => (ltc cf) x c[a]!) h47)⟩
    omega
   ·have h47 := g47
    have hq1 := (up_stop (p := fun x => (ltc cf) x c[a]!) h47).symm.trans hq1
    refine W.exit (thn_x (thn_x (blk_hit ?_)))
    refine thn_n ?_
    refine W.seq ?_
    refine W.block ?_
    refine W.loop (fun m' E w' => ∃ (j : Nat), m' = j ∧ E 0 = .slice (some ⟨b, o, none⟩) n cap ∧ E 1 = .int .i64 (a : Nat) ∧ E 12 = .int .i64 (i : Nat) ∧ E 13 = .int .i64 (j : Nat) ∧ E 4 = .func (.func gF) #[] cp.toArray ∧ (Gr (· = b) w w') ∧ (Row enc w' b o T hd c tl) ∧ (i ≤ j + 1 ∧ j < e) ∧ (scanDown (fun x => !(ltc cf) x c[a]!) c i j = scanDown (fun x => !(ltc cf) x c[a]!) c i (e - 1))) (e - 1) ?_ ?_
    ·exact ⟨e - 1, by omega, by first | rfl | exact vi (by omega), by first | rfl | exact vi (by omega), by first | rfl | exact vi (by omega), by first | rfl | exact vi (by omega), by first | rfl | exact vi (by omega), (by first | assumption | omega | rfl), (by first | assumption | omega | rfl), (by first | assumption | omega | rfl), (by first | assumption | omega | rfl)⟩
    ·rintro _ E wL50 ⟨j, em, e0, e1, e12, e13, e4, hB, hR, hj, hq2⟩
     rw [upd_self e0, upd_self e1, upd_self e12, upd_self e13, upd_self e4]
     refine W.seq ?_
     refine W.seq ?_
     refine W.drawB ksrtc_mixed (by kernel_rfl) ?_
     refine LQ.val (fun w hw => x_mv (v := .int _ _) rfl) rfl ?_
     refine LQ.val (fun w hw => x_mv (v := .int _ _) rfl) rfl ?_
     refine LQ.val (fun w hw => x_leq rfl rfl) rfl ?_
     refine LQ.val (fun w hw => x_mv (v := .bool _) rfl) rfl ?_
     refine' LQ.group 12 54 65 65 53 true rfl ?_ ?_ ?_
     rotate_left 1
     ·intro g53
      have h53 := of_decide_eq_true g53
      refine LQ.gyes' (dj := 53) (b := _) rfl rfl g53 ?_
      refine LQ.val (fun w hw => x_mv (v := .func _ _ _) rfl) rfl ?_
      refine LQ.gyes' (dj := 53) (b := _) rfl rfl g53 ?_
      refine LQ.val (fun w hw => x_mv (v := .slice _ _ _) rfl) rfl ?_
      refine LQ.gyes' (dj := 53) (b := _) rfl rfl g53 ?_
      refine LQ.val (fun w hw => x_mv (v := .int _ _) rfl) rfl ?_
      refine LQ.gyes' (dj := 53) (b := _) rfl rfl g53 ?_
      refine LQ.val (fun w hw => x_ia1 (j := j) Tryz.underlying106 ksrtc_sz3 rfl rfl (by omega) (by omega)) rfl ?_
      refine LQ.gyes' (dj := 53) (b := _) rfl rfl g53 ?_
      refine LQ.val (fun w hw => x_ld (v := enc _) ksrtc_oc3 rfl (hw.keep (hR.at (i := j) (by omega)))) rfl ?_
      refine LQ.gyes' (dj := 53) (b := _) rfl rfl g53 ?_
      refine LQ.val (fun w hw => x_mv (v := .slice _ _ _) rfl) rfl ?_
      refine LQ.gyes' (dj := 53) (b := _) rfl rfl g53 ?_
      refine LQ.val (fun w hw => x_mv (v := .int _ _) rfl) rfl ?_
      refine LQ.gyes' (dj := 53) (b := _) rfl rfl g53 ?_
      refine LQ.val (fun w hw => x_ia1 (j := a) Tryz.underlying106 ksrtc_sz3 rfl rfl (by omega) (by omega)) rfl ?_
      refine LQ.gyes' (dj := 53) (b := _) rfl rfl g53 ?_
      refine LQ.val (fun w hw => x_ld (v := enc _) ksrtc_oc3 rfl (hw.keep (hR.at (i := a) (by omega)))) rfl ?_
      refine LQ.gyes' (dj := 53) (b := _) rfl rfl g53 ?_
      refine LQ.ret (fun w => x_callv eg rfl rfl) (fun w hw => Ret.mono (hC.via hB hw _ _) (fun _ _ h => ⟨h.1, Gr.trans hw h.2⟩)) rfl ?_
      refine LQ.gyes' (dj := 53) (b := _) rfl rfl g53 ?_
      refine LQ.val (fun w hw => x_lss rfl rfl) rfl ?_
      refine LQ.gyes' (dj := 53) (b := _) rfl rfl g53 ?_
      refine LQ.val (fun w hw => x_not rfl) rfl ?_
      refine LQ.nil ?_
      refine ⟨?_, rfl⟩
      repeat (first | exact jeq.refl _ _ _ | refine jeq.upd rfl ?_ | refine jeq.jk rfl rfl ?_)
     ·intro g53
      refine LQ.gno (dj := 53) (b := _) rfl rfl g53 rfl ?_
      refine LQ.gno (dj := 53) (b := _) rfl rfl g53 rfl ?_
      refine LQ.gno (dj := 53) (b := _) rfl rfl g53 rfl ?_
      refine LQ.gno (dj := 53) (b := _) rfl rfl g53 rfl ?_
      refine LQ.gno (dj := 53) (b := _) rfl rfl g53 rfl ?_
      refine LQ.gno (dj := 53) (b := _) rfl rfl g53 rfl ?_
      refine LQ.gno (dj := 53) (b := _) rfl rfl g53 rfl ?_
      refine LQ.gno (dj := 53) (b := _) rfl rfl g53 rfl ?_
      refine LQ.gno (dj := 53) (b := _) rfl rfl g53 rfl ?_
      refine LQ.gno (dj := 53) (b := _) rfl rfl g53 rfl ?_
      refine LQ.gno (dj := 53) (b := _) rfl rfl g53 rfl ?_
      refine LQ.gno (dj := 53) (b := _) rfl rfl g53 rfl ?_
      refine LQ.nil ?_
      repeat (first | exact jeq.refl _ _ _ | refine jeq.upd rfl ?_ | refine jeq.jk rfl rfl ?_)
     intro J53 j53
     refine LQ.val (fun w hw => x_and rfl j53) rfl ?_
     refine LQ.nil ?_
     intro w50 hw
     have hB := hB.carry hw; have hR := hR.carry hw
     refine thn_n ?_
     refine W.cond (b := _) rfl (fun g66 => ?_) (fun g66 => ?_)
     ·have h66 := g66
      have hie := and1 h66
      refine W.skip ?_
      refine thn_n ?_
      refine W.block ?_
      refine W.region ?_
      refine L.val (x_mv (v := .int _ _) rfl) rfl ?_
      refine L.val (x_sub rfl rfl (wr64 (by omega))) rfl ?_
      refine L.val (x_as (v := .int _ _) rfl) rfl ?_
      refine L.nil ?_
      refine blk_n ?_
      refine thn_n ⟨rfl, ?_⟩
      refine ⟨_, ?_, j - 1, rfl, by first | rfl | exact vi (by omega), by first | rfl | exact vi (by omega), by first | rfl | exact vi (by omega), by first | rfl | exact vi (by omega), by first | rfl | exact vi (by omega), (by first | assumption | omega | rfl), (by first | assumption | omega | rfl), (by omega), (by rw [← hq2]; exact down_go (p := fun x => !(ltc cf) x c[a]!) (by omega) h66)⟩
      omega
     ·have h66 := g66
      have hq2 := (down_stop (p := fun x => !(ltc cf) x c[a]!) h66).symm.trans hq2
      refine W.exit (thn_x (thn_x (blk_hit ?_)))
      refine thn_n ?_
      refine W.seq ?_
      refine W.seq ?_
      refine W.region ?_
      refine L.val (x_mv (v := .int _ _) rfl) rfl ?_
      refine L.val (x_mv (v := .int _ _) rfl) rfl ?_
      refine L.val (x_gtr rfl rfl) rfl ?_
      refine L.nil ?_
      refine thn_n ?_
      refine W.cond (b := _) rfl (fun g71 => ?_) (fun g71 => ?_)
      ·have h71 := of_decide_eq_true g71
       refine W.seq ?_
       refine W.drawS ksrtc_mixed ?_
       have hB := hB.carry (bel_drew _); have hR := hR.carry (bel_drew _)
       refine LA.take (i := 0) rfl (by kernel_rfl) (by kernel_rfl) (by kernel_rfl) (fun w => x_mv (v := .slice _ _ _) rfl) rfl ?_
       refine LA.take (i := 1) rfl (by kernel_rfl) (by kernel_rfl) (by kernel_rfl) (fun w => x_mv (v := .int _ _) rfl) rfl ?_
       refine LA.take (i := 2) rfl (by kernel_rfl) (by kernel_rfl) (by kernel_rfl) (fun w => x_mv (v := .slice _ _ _) rfl) rfl ?_
       refine LA.take (i := 3) rfl (by kernel_rfl) (by kernel_rfl) (by kernel_rfl) (fun w => x_mv (v := .int _ _) rfl) rfl ?_
       refine LA.take (i := 4) rfl (by kernel_rfl) (by kernel_rfl) (by kernel_rfl) (fun w => x_mv (v := .slice _ _ _) rfl) rfl ?_
       refine LA.take (i := 5) rfl (by kernel_rfl) (by kernel_rfl) (by kernel_rfl) (fun w => x_mv (v := .int _ _) rfl) rfl ?_
       refine LA.take (i := 6) rfl (by kernel_rfl) (by kernel_rfl) (by kernel_rfl) (fun w => x_ia1 (j := a) Tryz.underlying106 ksrtc_sz3 rfl rfl (by omega) (by omega)) rfl ?_
       refine LA.take (i := 8) rfl (by kernel_rfl) (by kernel_rfl) (by kernel_rfl) (fun w => x_mv (v := .slice _ _ _) rfl) rfl ?_
       refine LA.take (i := 9) rfl (by kernel_rfl) (by kernel_rfl) (by kernel_rfl) (fun w => x_mv (v := .int _ _) rfl) rfl ?_
       refine LA.take (i := 10) rfl (by kernel_rfl) (by kernel_rfl) (by kernel_rfl) (fun w => x_ia1 (j := j) Tryz.underlying106 ksrtc_sz3 rfl rfl (by omega) (by omega)) rfl ?_
       refine LA.pair (i := 7) (j := 11) rfl rfl (by kernel_rfl) (by kernel_rfl) (by kernel_rfl) rfl rfl (x_ld (v := enc _) ksrtc_oc3 rfl (hR.at (i := a) (by omega))) (x_ld (v := enc _) ksrtc_oc3 rfl (hR.at (i := j) (by omega))) (x_ld (v := enc _) ksrtc_oc3 rfl (hR.at (i := j) (by omega))) (x_ld (v := enc _) ksrtc_oc3 rfl (hR.at (i := a) (by omega))) rfl rfl ?_
       refine LA.take (i := 12) rfl (by kernel_rfl) (by kernel_rfl) (by kernel_rfl) (fun w => x_ia1 (j := j) Tryz.underlying106 ksrtc_sz3 rfl rfl (by omega) (by omega)) rfl ?_
       refine LA.step (rs := [13]) (by kernel_rfl) (by simp) ⟨⟨_, rfl, ?_⟩, trivial⟩
       refine L.setAt (enc := enc) (j := j) ksrtc_sz3 rfl rfl (he1 _) hR (by omega) (fun wl80 hR hsl80 hw hzl80 => ?_)
       have hB := hB.trans hw
       refine L.nil ?_
       refine thn_n ?_
       refine LA.take (i := 14) rfl (by kernel_rfl) (by kernel_rfl) (by kernel_rfl) (fun w => x_ia1 (j := a) Tryz.underlying106 ksrtc_sz3 rfl rfl (by omega) (by omega)) rfl ?_
       refine LA.step (rs := [15]) (by kernel_rfl) (by simp) ⟨⟨_, rfl, ?_⟩, trivial⟩
       refine L.setAt (enc := enc) (j := a) ksrtc_sz3 rfl rfl (he1 _) hR (by omega) (fun wl82 hR hsl82 hw hzl82 => ?_)
       have hB := hB.trans hw
       refine L.nil ?_
       refine thn_n ?_
       refine LA.done (by kernel_rfl) ?_
       refine nrm_n ?_
       refine thn_n ?_
       refine W.seq ?_
       refine W.region ?_
       refine L.val (x_mv (v := .int _ _) rfl) rfl ?_
       refine L.val (x_as (v := .int _ _) rfl) rfl ?_
       refine L.val (x_as (v := .bool _) rfl) rfl ?_
       refine L.nil ?_
       refine thn_n ?_
       refine W.ret (thn_r (fin_mk (.inr rfl) ?_))
       have hpart : partition (ltc cf) d a e q = (j, true, swp c j a) := by
         unfold partition
         simp only [← hcd, ← hq1, ← hq2]
         rw [if_pos (by omega)]
       rw [hpart]; exact ⟨rfl, hB, hR⟩
      ·have h71 := dlt_f g71
       refine W.skip ?_
       refine thn_n ?_
       refine W.seq ?_
       refine W.drawS ksrtc_mixed ?_
       have hB := hB.carry (bel_drew _); have hR := hR.carry (bel_drew _)
       refine LA.take (i := 0) rfl (by kernel_rfl) (by kernel_rfl) (by kernel_rfl) (fun w => x_mv (v := .slice _ _ _) rfl) rfl ?_
       refine LA.take (i := 1) rfl (by kernel_rfl) (by kernel_rfl) (by kernel_rfl) (fun w => x_mv (v := .int _ _) rfl) rfl ?_
       refine LA.take (i := 2) rfl (by kernel_rfl) (by kernel_rfl) (by kernel_rfl) (fun w => x_mv (v := .slice _ _ _) rfl) rfl ?_
       refine LA.take (i := 3) rfl (by kernel_rfl) (by kernel_rfl) (by kernel_rfl) (fun w => x_mv (v := .int _ _) rfl) rfl ?_
       refine LA.take (i := 4) rfl (by kernel_rfl) (by kernel_rfl) (by kernel_rfl) (fun w => x_mv (v := .slice _ _ _) rfl) rfl ?_
       refine LA.take (i := 5) rfl (by kernel_rfl) (by kernel_rfl) (by kernel_rfl) (fun w => x_mv (v := .int _ _) rfl) rfl ?_
       refine LA.take (i := 6) rfl (by kernel_rfl) (by kernel_rfl) (by kernel_rfl) (fun w => x_ia1 (j := j) Tryz.underlying106 ksrtc_sz3 rfl rfl (by omega) (by omega)) rfl ?_
       refine LA.take (i := 8) rfl (by kernel_rfl) (by kernel_rfl) (by kernel_rfl) (fun w => x_mv (v := .slice _ _ _) rfl) rfl ?_
       refine LA.take (i := 9) rfl (by kernel_rfl) (by kernel_rfl) (by kernel_rfl) (fun w => x_mv (v := .int _ _) rfl) rfl ?_
       refine LA.take (i := 10) rfl (by kernel_rfl) (by kernel_rfl) (by kernel_rfl) (fun w => x_ia1 (j := i) Tryz.underlying106 ksrtc_sz3 rfl rfl (by omega) (by omega)) rfl ?_
       refine LA.pair (i := 7) (j := 11) rfl rfl (by kernel_rfl) (by kernel_rfl) (by kernel_rfl) rfl rfl (x_ld (v := enc _) ksrtc_oc3 rfl (hR.at (i := j) (by omega))) (x_ld (v := enc _) ksrtc_oc3 rfl (hR.at (i := i) (by omega))) (x_ld (v := enc _) ksrtc_oc3 rfl (hR.at (i := i) (by omega))) (x_ld (v := enc _) ksrtc_oc3 rfl (hR.at (i := j) (by omega))) rfl rfl ?_
       refine LA.take (i := 12) rfl (by kernel_rfl) (by kernel_rfl) (by kernel_rfl) (fun w => x_ia1 (j := i) Tryz.underlying106 ksrtc_sz3 rfl rfl (by omega) (by omega)) rfl ?_
       refine LA.step (rs := [13]) (by kernel_rfl) (by simp) ⟨⟨_, rfl, ?_⟩, trivial⟩
       refine L.setAt (enc := enc) (j := i) ksrtc_sz3 rfl rfl (he1 _) hR (by omega) (fun wl99 hR hsl99 hw hzl99 => ?_)
       have hB := hB.trans hw
       refine L.nil ?_
       refine thn_n ?_
       refine LA.take (i := 14) rfl (by kernel_rfl) (by kernel_rfl) (by kernel_rfl) (fun w => x_ia1 (j := j) Tryz.underlying106 ksrtc_sz3 rfl rfl (by omega) (by omega)) rfl ?_
       refine LA.step (rs := [15]) (by kernel_rfl) (by simp) ⟨⟨_, rfl, ?_⟩, trivial⟩
       refine L.setAt (enc := enc) (j := j) ksrtc_sz3 rfl rfl (he1 _) hR (by omega) (fun wl101 hR hsl101 hw hzl101 => ?_)
       have hB := hB.trans hw
       refine L.nil ?_
       refine thn_n ?_
       refine LA.done (by kernel_rfl) ?_
       refine nrm_n ?_
       refine thn_n ?_
       refine W.seq ?_
       refine W.region ?_
       refine L.val (x_mv (v := .int _ _) rfl) rfl ?_
       refine L.val (x_add rfl rfl (wr64 (by omega))) rfl ?_
       refine L.val (x_as (v := .int _ _) rfl) rfl ?_
       refine L.nil ?_
       refine thn_n ?_
       refine W.seq ?_
       refine W.region ?_
       refine L.val (x_mv (v := .int _ _) rfl) rfl ?_
       refine L.val (x_sub rfl rfl (wr64 (by omega))) rfl ?_
       refine L.val (x_as (v := .int _ _) rfl) rfl ?_
       refine L.nil ?_
       refine thn_n ?_
       refine W.seq ?_
       refine W.block ?_
       refine W.loop (fun m' E w' => ∃ (i2 j2 : Nat) (g : Array α), m' = j2 + 1 - i2 ∧ E 0 = .slice (some ⟨b, o, none⟩) n cap ∧ E 1 = .int .i64 (a : Nat) ∧ E 12 = .int .i64 (i2 : Nat) ∧ E 13 = .int .i64 (j2 : Nat) ∧ E 4 = .func (.func gF) #[] cp.toArray ∧ (Gr (· = b) w w') ∧ (Row enc w' b o T hd g tl) ∧ (g.size = n) ∧ (a < i2 ∧ i2 ≤ j2 + 2 ∧ j2 < e) ∧ (partLoop (ltc cf) a i2 j2 g = partLoop (ltc cf) a (i + 1) (j - 1) (swp c i j))) (j - 1 + 1 - (i + 1)) ?_ ?_
       ·exact ⟨i + 1, j - 1, swp c i j, by omega, by first | rfl | exact vi (by omega), by first | rfl | exact vi (by omega), by first | rfl | exact vi (by omega), by first | rfl | exact vi (by omega), by first | rfl | exact vi (by omega), (by first | assumption | omega | rfl), (by first | assumption | omega | rfl), (by rw [size_swp]; exact hn2), (by omega), (by first | assumption | omega | rfl)⟩
       ·rintro _ E wL105 ⟨i2, j2, g, em, e0, e1, e12, e13, e4, hB, hR, hn3, hij, hq3⟩
        rw [upd_self e0, upd_self e1, upd_self e12, upd_self e13, upd_self e4]
        refine W.block ?_
        refine W.seq ?_
        refine W.block ?_
        refine W.loop (fun m' E w' => ∃ (i3 : Nat), m' = e - i3 ∧ E 0 = .slice (some ⟨b, o, none⟩) n cap ∧ E 1 = .int .i64 (a : Nat) ∧ E 12 = .int .i64 (i3 : Nat) ∧ E 13 = .int .i64 (j2 : Nat) ∧ E 4 = .func (.func gF) #[] cp.toArray ∧ (Gr (· = b) w w') ∧ (Row enc w' b o T hd g tl) ∧ (i2 ≤ i3 ∧ i3 ≤ j2 + 2) ∧ (scanUp (fun x => (ltc cf) x g[a]!) g j2 i3 = scanUp (fun x => (ltc cf) x g[a]!) g j2 i2)) (e - i2) ?_ ?_
        ·exact ⟨i2, by omega, by first | rfl | exact vi (by omega), by first | rfl | exact vi (by omega), by first | rfl | exact vi (by omega), by first | rfl | exact vi (by omega), by first | rfl | exact vi (by omega), (by first | assumption | omega | rfl), (by first | assumption | omega | rfl), (by omega), (by first | assumption | omega | rfl)⟩
        ·rintro _ E wL105b ⟨i3, em, e0, e1, e12, e13, e4, hB, hR, hi3, hq4⟩
         rw [upd_self e0, upd_self e1, upd_self e12, upd_self e13, upd_self e4]
         refine W.seq ?_
         refine W.seq ?_
         refine W.drawB ksrtc_mixed (by kernel_rfl) ?_
         refine LQ.val (fun w hw => x_mv (v := .int _ _) rfl) rfl ?_
         refine LQ.val (fun w hw => x_mv (v := .int _ _) rfl) rfl ?_
         refine LQ.val (fun w hw => x_leq rfl rfl) rfl ?_
         refine LQ.val (fun w hw => x_mv (v := .bool _) rfl) rfl ?_
         refine' LQ.group 11 109 119 119 108 true rfl ?_ ?_ ?_
         rotate_left 1
         ·intro g108
          have h108 := of_decide_eq_true g108
          refine LQ.gyes' (dj := 108) (b := _) rfl rfl g108 ?_
          refine LQ.val (fun w hw => x_mv (v := .func _ _ _) rfl) rfl ?_
          refine LQ.gyes' (dj := 108) (b := _) rfl rfl g108 ?_
          refine LQ.val (fun w hw => x_mv (v := .slice _ _ _) rfl) rfl ?_
          refine LQ.gyes' (dj := 108) (b := _) rfl rfl g108 ?_
          refine LQ.val (fun w hw => x_mv (v := .int _ _) rfl) rfl ?_
          refine LQ.gyes' (dj := 108) (b := _) rfl rfl g108 ?_
          refine LQ.val (fun w hw => x_ia1 (j := i3) Tryz.underlying106 ksrtc_sz3 rfl rfl (by omega) (by omega)) rfl ?_
          refine LQ.gyes' (dj := 108) (b := _) rfl rfl g108 ?_
          refine LQ.val (fun w hw => x_ld (v := enc _) ksrtc_oc3 rfl (hw.keep (hR.at (i := i3) (by omega)))) rfl ?_
          refine LQ.gyes' (dj := 108) (b := _) rfl rfl g108 ?_
          refine LQ.val (fun w hw => x_mv (v := .slice _ _ _) rfl) rfl ?_
          refine LQ.gyes' (dj := 108) (b := _) rfl rfl g108 ?_
          refine LQ.val (fun w hw => x_mv (v := .int _ _) rfl) rfl ?_
          refine LQ.gyes' (dj := 108) (b := _) rfl rfl g108 ?_
          refine LQ.val (fun w hw => x_ia1 (j := a) Tryz.underlying106 ksrtc_sz3 rfl rfl (by omega) (by omega)) rfl ?_
          refine LQ.gyes' (dj := 108) (b := _) rfl rfl g108 ?_
          refine LQ.val (fun w hw => x_ld (v := enc _) ksrtc_oc3 rfl (hw.keep (hR.at (i := a) (by omega)))) rfl ?_
          refine LQ.gyes' (dj := 108) (b := _) rfl rfl g108 ?_
          refine LQ.ret (fun w => x_callv eg rfl rfl) (fun w hw => Ret.mono (hC.via hB hw _ _) (fun _ _ h => ⟨h.1, Gr.trans hw h.2⟩)) rfl ?_
          refine LQ.gyes' (dj := 108) (b := _) rfl rfl g108 ?_
          refine LQ.val (fun w hw => x_lss rfl rfl) rfl ?_
          refine LQ.nil ?_
          refine ⟨?_, rfl⟩
          repeat (first | exact jeq.refl _ _ _ | refine jeq.upd rfl ?_ | refine jeq.jk rfl rfl ?_)
         ·intro g108
          refine LQ.gno (dj := 108) (b := _) rfl rfl g108 rfl ?_
          refine LQ.gno (dj := 108) (b := _) rfl rfl g108 rfl ?_
          refine LQ.gno (dj := 108) (b := _) rfl rfl g108 rfl ?_
          refine LQ.gno (dj := 108) (b := _) rfl rfl g108 rfl ?_
          refine LQ.gno (dj := 108) (b := _) rfl rfl g108 rfl ?_
          refine LQ.gno (dj := 108) (b := _) rfl rfl g108 rfl ?_
          refine LQ.gno (dj := 108) (b := _) rfl rfl g108 rfl ?_
          refine LQ.gno (dj := 108) (b := _) rfl rfl g108 rfl ?_
          refine LQ.gno (dj := 108) (b := _) rfl rfl g108 rfl ?_
          refine LQ.gno (dj := 108) (b := _) rfl rfl g108 rfl ?_
          refine LQ.gno (dj := 108) (b := _) rfl rfl g108 rfl ?_
          refine LQ.nil ?_
          repeat (first | exact jeq.refl _ _ _ | refine jeq.upd rfl ?_ | refine jeq.jk rfl rfl ?_)
         intro J108 j108
         refine LQ.val (fun w hw => x_and rfl j108) rfl ?_
         refine LQ.nil ?_
         intro w105 hw
         have hB := hB.carry hw; have hR := hR.carry hw
         refine thn_n ?_
         refine W.cond (b := _) rfl (fun g120 => ?_) (fun g120 => ?_)
         ·have h120 := g120
          have hie := and1 h120
          refine W.skip ?_
          refine thn_n ?_
          refine W.block ?_
          refine W.region ?_
          refine L.val (x_mv (v := .int _ _) rfl) rfl ?_
          refine L.val (x_add rfl rfl (wr64 (by omega))) rfl ?_
          refine L.val (x_as (v := .int _ _) rfl) rfl ?_
          refine L.nil ?_
          refine blk_n ?_
          refine thn_n ⟨rfl, ?_⟩
          refine ⟨_, ?_, i3 + 1, rfl, by first | rfl | exact vi (by omega), by first | rfl | exact vi (by omega), by first | rfl | exact vi (by omega), by first | rfl | exact vi (by omega), by first | rfl | exact vi (by omega), (by first | assumption | omega | rfl), (by first | assumption | omega | rfl), (by omega), (by rw [← hq4]; exact up_go (p := fun x => (ltc cf) x g[a]!) h120)⟩
          omega
         ·have h120 := g120
          have hq4 := (up_stop (p := fun x => (ltc cf) x g[a]!) h120).symm.trans hq4
          refine W.exit (thn_x (thn_x (blk_hit ?_)))
          refine thn_n ?_
          refine W.seq ?_
          refine W.block ?_
          refine W.loop (fun m' E w' => ∃ (j3 : Nat), m' = j3 ∧ E 0 = .slice (some ⟨b, o, none⟩) n cap ∧ E 1 = .int .i64 (a : Nat) ∧ E 12 = .int .i64 (i3 : Nat) ∧ E 13 = .int .i64 (j3 : Nat) ∧ E 4 = .func (.func gF) #[] cp.toArray ∧ (Gr (· = b) w w') ∧ (Row enc w' b o T hd g tl) ∧ (i3 ≤ j3 + 2 ∧ j3 ≤ j2) ∧ (scanDown (fun x => !(ltc cf) x g[a]!) g i3 j3 = scanDown (fun x => !(ltc cf) x g[a]!) g i3 j2)) (j2) ?_ ?_
          ·exact ⟨j2, by omega, by first | rfl | exact vi (by omega), by first | rfl | exact vi (by omega), by first | rfl | exact vi (by omega), by first | rfl | exact vi (by omega), by first | rfl | exact vi (by omega), (by first | assumption | omega | rfl), (by first | assumption | omega | rfl), (by omega), (by first | assumption | omega | rfl)⟩
          ·rintro _ E wL123 ⟨j3, em, e0, e1, e12, e13, e4, hB, hR, hj3, hq5⟩
           rw [upd_self e0, upd_self e1, upd_self e12, upd_self e13, upd_self e4]
           refine W.seq ?_
           refine W.seq ?_
           refine W.drawB ksrtc_mixed (by kernel_rfl) ?_
           refine LQ.val (fun w hw => x_mv (v := .int _ _) rfl) rfl ?_
           refine LQ.val (fun w hw => x_mv (v := .int _ _) rfl) rfl ?_
           refine LQ.val (fun w hw => x_leq rfl rfl) rfl ?_
           refine LQ.val (fun w hw => x_mv (v := .bool _) rfl) rfl ?_
           refine' LQ.group 12 127 138 138 126 true rfl ?_ ?_ ?_
           rotate_left 1
           ·intro g126
            have h126 := of_decide_eq_true g126
            refine LQ.gyes' (dj := 126) (b := _) rfl rfl g126 ?_
            refine LQ.val (fun w hw => x_mv (v := .func _ _ _) rfl) rfl ?_
            refine LQ.gyes' (dj := 126) (b := _) rfl rfl g126 ?_
            refine LQ.val (fun w hw => x_mv (v := .slice _ _ _) rfl) rfl ?_
            refine LQ.gyes' (dj := 126) (b := _) rfl rfl g126 ?_
            refine LQ.val (fun w hw => x_mv (v := .int _ _) rfl) rfl ?_
            refine LQ.gyes' (dj := 126) (b := _) rfl rfl g126 ?_
            refine LQ.val (fun w hw => x_ia1 (j := j3) Tryz.underlying106 ksrtc_sz3 rfl rfl (by omega) (by omega)) rfl ?_
            refine LQ.gyes' (dj := 126) (b := _) rfl rfl g126 ?_
            refine LQ.val (fun w hw => x_ld (v := enc _) ksrtc_oc3 rfl (hw.keep (hR.at (i := j3) (by omega)))) rfl ?_
            refine LQ.gyes' (dj := 126) (b := _) rfl rfl g126 ?_
            refine LQ.val (fun w hw => x_mv (v := .slice _ _ _) rfl) rfl ?_
            refine LQ.gyes' (dj := 126) (b := _) rfl rfl g126 ?_
            refine LQ.val (fun w hw => x_mv (v := .int _ _) rfl) rfl ?_
            refine LQ.gyes' (dj := 126) (b := _) rfl rfl g126 ?_
            refine LQ.val (fun w hw => x_ia1 (j := a) Tryz.underlying106 ksrtc_sz3 rfl rfl (by omega) (by omega)) rfl ?_
            refine LQ.gyes' (dj := 126) (b := _) rfl rfl g126 ?_
            refine LQ.val (fun w hw => x_ld (v := enc _) ksrtc_oc3 rfl (hw.keep (hR.at (i := a) (by omega)))) rfl ?_
            refine LQ.gyes' (dj := 126) (b := _) rfl rfl g126 ?_
            refine LQ.ret (fun w => x_callv eg rfl rfl) (fun w hw => Ret.mono (hC.via hB hw _ _) (fun _ _ h => ⟨h.1, Gr.trans hw h.2⟩)) rfl ?_
            refine LQ.gyes' (dj := 126) (b := _) rfl rfl g126 ?_
            refine LQ.val (fun w hw => x_lss rfl rfl) rfl ?_
            refine LQ.gyes' (dj := 126) (b := _) rfl rfl g126 ?_
            refine LQ.val (fun w hw => x_not rfl) rfl ?_
            refine LQ.nil ?_
            refine ⟨?_, rfl⟩
            repeat (first | exact jeq.refl _ _ _ | refine jeq.upd rfl ?_ | refine jeq.jk rfl rfl ?_)
           ·intro g126
            refine LQ.gno (dj := 126) (b := _) rfl rfl g126 rfl ?_
            refine LQ.gno (dj := 126) (b := _) rfl rfl g126 rfl ?_
            refine LQ.gno (dj := 126) (b := _) rfl rfl g126 rfl ?_
            refine LQ.gno (dj := 126) (b := _) rfl rfl g126 rfl ?_
            refine LQ.gno (dj := 126) (b := _) rfl rfl g126 rfl ?_
            refine LQ.gno (dj := 126) (b := _) rfl rfl g126 rfl ?_
            refine LQ.gno (dj := 126) (b := _) rfl rfl g126 rfl ?_
            refine LQ.gno (dj := 126) (b := _) rfl rfl g126 rfl ?_
            refine LQ.gno (dj := 126) (b := _) rfl rfl g126 rfl ?_
            refine LQ.gno (dj := 126) (b := _) rfl rfl g126 rfl ?_
            refine LQ.gno (dj := 126) (b := _) rfl rfl g126 rfl ?_
            refine LQ.gno (dj := 126) (b := _) rfl rfl g126 rfl ?_
            refine LQ.nil ?_
            repeat (first | exact jeq.refl _ _ _ | refine jeq.upd rfl ?_ | refine jeq.jk rfl rfl ?_)
           intro J126 j126
           refine LQ.val (fun w hw => x_and rfl j126) rfl ?_
           refine LQ.nil ?_
           intro w123 hw
           have hB := hB.carry hw; have hR := hR.carry hw
           refine thn_n ?_
           refine W.cond (b := _) rfl (fun g139 => ?_) (fun g139 => ?_)
           ·have h139 := g139
            have hie := and1 h139
            refine W.skip ?_
            refine thn_n ?_
            refine W.block ?_
            refine W.region ?_
            refine L.val (x_mv (v := .int _ _) rfl) rfl ?_
            refine L.val (x_sub rfl rfl (wr64 (by omega))) rfl ?_
            refine L.val (x_as (v := .int _ _) rfl) rfl ?_
            refine L.nil ?_
            refine blk_n ?_
            refine thn_n ⟨rfl, ?_⟩
            refine ⟨_, ?_, j3 - 1, rfl, by first | rfl | exact vi (by omega), by first | rfl | exact vi (by omega), by first | rfl | exact vi (by omega), by first | rfl | exact vi (by omega), by first | rfl | exact vi (by omega), (by first | assumption | omega | rfl), (by first | assumption | omega | rfl), (by omega), (by rw [← hq5]; exact down_go (p := fun x => !(ltc cf) x g[a]!) (by omega) h139)⟩
            omega
           ·have h139 := g139
            have hq5 := (down_stop (p := fun x => !(ltc cf) x g[a]!) h139).symm.trans hq5
            refine W.exit (thn_x (thn_x (blk_hit ?_)))
            refine thn_n ?_
            refine W.seq ?_
            refine W.seq ?_
            refine W.region ?_
            refine L.val (x_mv (v := .int _ _) rfl) rfl ?_
            refine L.val (x_mv (v := .int _ _) rfl) rfl ?_
            refine L.val (x_gtr rfl rfl) rfl ?_
            refine L.nil ?_
            refine thn_n ?_
            refine W.cond (b := _) rfl (fun g144 => ?_) (fun g144 => ?_)
            ·have h144 := of_decide_eq_true g144
             have hq3 := (part_stop hq4.symm hq5.symm (by omega)).symm.trans hq3
             refine W.exit (thn_x (blk_miss rfl (thn_x (blk_hit ?_))))
             refine thn_n ?_
             refine W.seq ?_
             refine W.drawS ksrtc_mixed ?_
             have hB := hB.carry (bel_drew _); have hR := hR.carry (bel_drew _)
             refine LA.take (i := 0) rfl (by kernel_rfl) (by kernel_rfl) (by kernel_rfl) (fun w => x_mv (v := .slice _ _ _) rfl) rfl ?_
             refine LA.take (i := 1) rfl (by kernel_rfl) (by kernel_rfl) (by kernel_rfl) (fun w => x_mv (v := .int _ _) rfl) rfl ?_
             refine LA.take (i := 2) rfl (by kernel_rfl) (by kernel_rfl) (by kernel_rfl) (fun w => x_mv (v := .slice _ _ _) rfl) rfl ?_
             refine LA.take (i := 3) rfl (by kernel_rfl) (by kernel_rfl) (by kernel_rfl) (fun w => x_mv (v := .int _ _) rfl) rfl ?_
             refine LA.take (i := 4) rfl (by kernel_rfl) (by kernel_rfl) (by kernel_rfl) (fun w => x_mv (v := .slice _ _ _) rfl) rfl ?_
             refine LA.take (i := 5) rfl (by kernel_rfl) (by kernel_rfl) (by kernel_rfl) (fun w => x_mv (v := .int _ _) rfl) rfl ?_
             refine LA.take (i := 6) rfl (by kernel_rfl) (by kernel_rfl) (by kernel_rfl) (fun w => x_ia1 (j := a) Tryz.underlying106 ksrtc_sz3 rfl rfl (by omega) (by omega)) rfl ?_
             refine LA.take (i := 8) rfl (by kernel_rfl) (by kernel_rfl) (by kernel_rfl) (fun w => x_mv (v := .slice _ _ _) rfl) rfl ?_
             refine LA.take (i := 9) rfl (by kernel_rfl) (by kernel_rfl) (by kernel_rfl) (fun w => x_mv (v := .int _ _) rfl) rfl ?_
             refine LA.take (i := 10) rfl (by kernel_rfl) (by kernel_rfl) (by kernel_rfl) (fun w => x_ia1 (j := j3) Tryz.underlying106 ksrtc_sz3 rfl rfl (by omega) (by omega)) rfl ?_
             refine LA.pair (i := 7) (j := 11) rfl rfl (by kernel_rfl) (by kernel_rfl) (by kernel_rfl) rfl rfl (x_ld (v := enc _) ksrtc_oc3 rfl (hR.at (i := a) (by omega))) (x_ld (v := enc _) ksrtc_oc3 rfl (hR.at (i := j3) (by omega))) (x_ld (v := enc _) ksrtc_oc3 rfl (hR.at (i := j3) (by omega))) (x_ld (v := enc _) ksrtc_oc3 rfl (hR.at (i := a) (by omega))) rfl rfl ?_
             refine LA.take (i := 12) rfl (by kernel_rfl) (by kernel_rfl) (by kernel_rfl) (fun w => x_ia1 (j := j3) Tryz.underlying106 ksrtc_sz3 rfl rfl (by omega) (by omega)) rfl ?_
             refine LA.step (rs := [13]) (by kernel_rfl) (by simp) ⟨⟨_, rfl, ?_⟩, trivial⟩
             refine L.setAt (enc := enc) (j := j3) ksrtc_sz3 rfl rfl (he1 _) hR (by omega) (fun wl185 hR hsl185 hw hzl185 => ?_)
             have hB := hB.trans hw
             refine L.nil ?_
             refine thn_n ?_
             refine LA.take (i := 14) rfl (by kernel_rfl) (by kernel_rfl) (by kernel_rfl) (fun w => x_ia1 (j := a) Tryz.underlying106 ksrtc_sz3 rfl rfl (by omega) (by omega)) rfl ?_
             refine LA.step (rs := [15]) (by kernel_rfl) (by simp) ⟨⟨_, rfl, ?_⟩, trivial⟩
             refine L.setAt (enc := enc) (j := a) ksrtc_sz3 rfl rfl (he1 _) hR (by omega) (fun wl187 hR hsl187 hw hzl187 => ?_)
             have hB := hB.trans hw
             refine L.nil ?_
             refine thn_n ?_
             refine LA.done (by kernel_rfl) ?_
             refine nrm_n ?_
             refine thn_n ?_
             refine W.seq ?_
             refine W.region ?_
             refine L.val (x_mv (v := .int _ _) rfl) rfl ?_
             refine L.val (x_as (v := .int _ _) rfl) rfl ?_
             refine L.val (x_as (v := .bool _) rfl) rfl ?_
             refine L.nil ?_
             refine thn_n ?_
             refine W.ret (fin_mk (.inr rfl) ?_)
             have hpart : partition (ltc cf) d a e q = (j3, false, swp g j3 a) := by
               unfold partition
               simp only [← hcd, ← hq1, ← hq2]
               rw [if_neg (by omega), ← hq3]
             rw [hpart]; exact ⟨rfl, hB, hR⟩
            ·have h144 := dlt_f g144
             refine W.skip ?_
             refine thn_n ?_
             refine W.seq ?_
             refine W.drawS ksrtc_mixed ?_
             have hB := hB.carry (bel_drew _); have hR := hR.carry (bel_drew _)
             refine LA.take (i := 0) rfl (by kernel_rfl) (by kernel_rfl) (by kernel_rfl) (fun w => x_mv (v := .slice _ _ _) rfl) rfl ?_
             refine LA.take (i := 1) rfl (by kernel_rfl) (by kernel_rfl) (by kernel_rfl) (fun w => x_mv (v := .int _ _) rfl) rfl ?_
             refine LA.take (i := 2) rfl (by kernel_rfl) (by kernel_rfl) (by kernel_rfl) (fun w => x_mv (v := .slice _ _ _) rfl) rfl ?_
             refine LA.take (i := 3) rfl (by kernel_rfl) (by kernel_rfl) (by kernel_rfl) (fun w => x_mv (v := .int _ _) rfl) rfl ?_
             refine LA.take (i := 4) rfl (by kernel_rfl) (by kernel_rfl) (by kernel_rfl) (fun w => x_mv (v := .slice _ _ _) rfl) rfl ?_
             refine LA.take (i := 5) rfl (by kernel_rfl) (by kernel_rfl) (by kernel_rfl) (fun w => x_mv (v := .int _ _) rfl) rfl ?_
             refine LA.take (i := 6) rfl (by kernel_rfl) (by kernel_rfl) (by kernel_rfl) (fun w => x_ia1 (j := j3) Tryz.underlying106 ksrtc_sz3 rfl rfl (by omega) (by omega)) rfl ?_
             refine LA.take (i := 8) rfl (by kernel_rfl) (by kernel_rfl) (by kernel_rfl) (fun w => x_mv (v := .slice _ _ _) rfl) rfl ?_
             refine LA.take (i := 9) rfl (by kernel_rfl) (by kernel_rfl) (by kernel_rfl) (fun w => x_mv (v := .int _ _) rfl) rfl ?_
             refine LA.take (i := 10) rfl (by kernel_rfl) (by kernel_rfl) (by kernel_rfl) (fun w => x_ia1 (j := i3) Tryz.underlying106 ksrtc_sz3 rfl rfl (by omega) (by omega)) rfl ?_
             refine LA.pair (i := 7) (j := 11) rfl rfl (by kernel_rfl) (by kernel_rfl) (by kernel_rfl) rfl rfl (x_ld (v := enc _) ksrtc_oc3 rfl (hR.at (i := j3) (by omega))) (x_ld (v := enc _) ksrtc_oc3 rfl (hR.at (i := i3) (by omega))) (x_ld (v := enc _) ksrtc_oc3 rfl (hR.at (i := i3) (by omega))) (x_ld (v := enc _) ksrtc_oc3 rfl (hR.at (i := j3) (by omega))) rfl rfl ?_
             refine LA.take (i := 12) rfl (by kernel_rfl) (by kernel_rfl) (by kernel_rfl) (fun w => x_ia1 (j := i3) Tryz.underlying106 ksrtc_sz3 rfl rfl (by omega) (by omega)) rfl ?_
             refine LA.step (rs := [13]) (by kernel_rfl) (by simp) ⟨⟨_, rfl, ?_⟩, trivial⟩
             refine L.setAt (enc := enc) (j := i3) ksrtc_sz3 rfl rfl (he1 _) hR (by omega) (fun wl163 hR hsl163 hw hzl163 => ?_)
             have hB := hB.trans hw
             refine L.nil ?_
             refine thn_n ?_
             refine LA.take (i := 14) rfl (by kernel_rfl) (by kernel_rfl) (by kernel_rfl) (fun w => x_ia1 (j := j3) Tryz.underlying106 ksrtc_sz3 rfl rfl (by omega) (by omega)) rfl ?_
             refine LA.step (rs := [15]) (by kernel_rfl) (by simp) ⟨⟨_, rfl, ?_⟩, trivial⟩
             refine L.setAt (enc := enc) (j := j3) ksrtc_sz3 rfl rfl (he1 _) hR (by omega) (fun wl165 hR hsl165 hw hzl165 => ?_)
             have hB := hB.trans hw
             refine L.nil ?_
             refine thn_n ?_
             refine LA.done (by kernel_rfl) ?_
             refine nrm_n ?_
             refine thn_n ?_
             refine W.seq ?_
             refine W.region ?_
             refine L.val (x_mv (v := .int _ _) rfl) rfl ?_
             refine L.val (x_add rfl rfl (wr64 (by omega))) rfl ?_
             refine L.val (x_as (v := .int _ _) rfl) rfl ?_
             refine L.nil ?_
             refine thn_n ?_
             refine W.region ?_
             refine L.val (x_mv (v := .int _ _) rfl) rfl ?_
             refine L.val (x_sub rfl rfl (wr64 (by omega))) rfl ?_
             refine L.val (x_as (v := .int _ _) rfl) rfl ?_
             refine L.nil ?_
             refine blk_n ?_
             refine thn_n ⟨rfl, ?_⟩
             refine ⟨_, ?_, i3 + 1, j3 - 1, swp g i3 j3, rfl, by first | rfl | exact vi (by omega), by first | rfl | exact vi (by omega), by first | rfl | exact vi (by omega), by first | rfl | exact vi (by omega), by first | rfl | exact vi (by omega), (by first | assumption | omega | rfl), (by first | assumption | omega | rfl), (by rw [size_swp]; exact hn3), (by omega), (by rw [← hq3]; exact part_go hq4.symm hq5.symm (by omega) (by omega) (by omega) (by omega))⟩
             omega
theorem parteq_okC (b o a e q cap n : Nat) (T : TypeId) (hd tl : List Value) (d : Array α) (w : World) (hC : Cmp Tryz.prog enc gF cp cf b N0 w) (hR : Row enc w b o T hd d tl) (hn : d.size = n) (hc : n ≤ 2000000000000000000) (haq : a ≤ q) (hqe : q < e) (he : e ≤ n) :
    Ret Tryz.prog 186 #[.slice (some ⟨b, o, none⟩) n cap, .int .i64 a, .int .i64 e, .int .i64 q, .func (.func gF) #[] cp.toArray] w fun v w' => v = .int .i64 (partitionEqual (ltc cf) d a e q).1 ∧ Gr (· = b) w w' ∧ Row enc w' b o T hd (partitionEqual (ltc cf) d a e q).2 tl := by
  refine ret_of_W Tryz.func186 rfl (Nat.le_of_ble_eq_true rfl) (res1 rfl) ?_
  have hB := Gr.refl (· = b) w
  obtain ⟨c, hcd⟩ : ∃ c, c = swp d a q := ⟨_, rfl⟩
  have hn2 : c.size = n := by rw [hcd, size_swp]; exact hn
  refine W.seq ?_
  refine W.region ?_
  refine L.val (x_as (v := .int _ _) rfl) rfl ?_
  refine L.nil ?_
  refine thn_n ?_
  refine W.seq ?_
  refine W.drawS ksrtc_mixed ?_
  have hB := hB.carry (bel_drew _); have hR := hR.carry (bel_drew _)
  refine LA.take (i := 0) rfl (by kernel_rfl) (by kernel_rfl) (by kernel_rfl) (fun w => x_mv (v := .slice _ _ _) rfl) rfl ?_
  refine LA.take (i := 1) rfl (by kernel_rfl) (by kernel_rfl) (by kernel_rfl) (fun w => x_mv (v := .int _ _) rfl) rfl ?_
  refine LA.take (i := 2) rfl (by kernel_rfl) (by kernel_rfl) (by kernel_rfl) (fun w => x_mv (v := .slice _ _ _) rfl) rfl ?_
  refine LA.take (i := 3) rfl (by kernel_rfl) (by kernel_rfl) (by kernel_rfl) (fun w => x_mv (v := .int _ _) rfl) rfl ?_
  refine LA.take (i := 4) rfl (by kernel_rfl) (by kernel_rfl) (by kernel_rfl) (fun w => x_mv (v := .slice _ _ _) rfl) rfl ?_
  refine LA.take (i := 5) rfl (by kernel_rfl) (by kernel_rfl) (by kernel_rfl) (fun w => x_mv (v := .int _ _) rfl) rfl ?_
  refine LA.take (i := 6) rfl (by kernel_rfl) (by kernel_rfl) (by kernel_rfl) (fun w => x_ia1 (j := q) Tryz.underlying106 ksrtc_sz3 rfl rfl (by omega) (by omega)) rfl ?_
  refine LA.take (i := 8) rfl (by kernel_rfl) (by kernel_rfl) (by kernel_rfl) (fun w => x_mv (v := .slice _ _ _) rfl) rfl ?_
  refine LA.take (i := 9) rfl (by kernel_rfl) (by kernel_rfl) (by kernel_rfl) (fun w => x_mv (v := .int _ _) rfl) rfl ?_
  refine LA.take (i := 10) rfl (by kernel_rfl) (by kernel_rfl) (by kernel_rfl) (fun w => x_ia1 (j := a) Tryz.underlying106 ksrtc_sz3 rfl rfl (by omega) (by omega)) rfl ?_
  refine LA.pair (i := 7) (j := 11) rfl rfl (by kernel_rfl) (by kernel_rfl) (by kernel_rfl) rfl rfl (x_ld (v := enc _) ksrtc_oc3 rfl (hR.at (i := q) (by omega))) (x_ld (v := enc _) ksrtc_oc3 rfl (hR.at (i := a) (by omega))) (x_ld (v := enc _) ksrtc_oc3 rfl (hR.at (i := a) (by omega))) (x_ld (v := enc _) ksrtc_oc3 rfl (hR.at (i := q) (by omega))) rfl rfl ?_
  refine LA.take (i := 12) rfl (by kernel_rfl) (by kernel_rfl) (by kernel_rfl) (fun w => x_ia1 (j := a) Tryz.underlying106 ksrtc_sz3 rfl rfl (by omega) (by omega)) rfl ?_
  refine LA.step (rs := [13]) (by kernel_rfl) (by simp) ⟨⟨_, rfl, ?_⟩, trivial⟩
  refine L.setAt (enc := enc) (j := a) ksrtc_sz3 rfl rfl (he1 _) hR (by omega) (fun wl15 hR hsl15 hw hzl15 => ?_)
  have hB := hB.trans hw
  refine L.nil ?_
  refine thn_n ?_
  refine LA.take (i := 14) rfl (by kernel_rfl) (by kernel_rfl) (by kernel_rfl) (fun w => x_ia1 (j := q) Tryz.underlying106 ksrtc_sz3 rfl rfl (by omega) (by omega)) rfl ?_
  refine LA.step (rs := [15]) (by kernel_rfl) (by simp) ⟨⟨_, rfl, ?_⟩, trivial⟩
  refine L.setAt (enc := enc) (j := q) ksrtc_sz3 rfl rfl (he1 _) hR (by omega) (fun wl17 hR hsl17 hw hzl17 => ?_)
  have hB := hB.trans hw
  have hR : Row enc wl17 b o T hd c tl := by rw [hcd]; exact hR
  refine L.nil ?_
  refine thn_n ?_
  refine LA.done (by kernel_rfl) ?_
  refine nrm_n ?_
  refine thn_n ?_
  refine W.seq ?_
  refine W.region ?_
  refine L.val (x_mv (v := .int _ _) rfl) rfl ?_
  refine L.val (x_add rfl rfl (wr64 (by omega))) rfl ?_
  refine L.val (x_mv (v := .int _ _) rfl) rfl ?_
  refine L.val (x_sub rfl rfl (wr64 (by omega))) rfl ?_
  refine L.val (x_as (v := .int _ _) rfl) rfl ?_
  refine L.val (x_as (v := .int _ _) rfl) rfl ?_
  refine L.nil ?_
  refine thn_n ?_
  refine W.seq ?_
  refine W.block ?_
  refine W.loop (fun m' E w' => ∃ (i2 j2 : Nat) (g : Array α), m' = j2 + 1 - i2 ∧ E 0 = .slice (some ⟨b, o, none⟩) n cap ∧ E 1 = .int .i64 (a : Nat) ∧ E 11 = .int .i64 (i2 : Nat) ∧ E 12 = .int .i64 (j2 : Nat) ∧ E 4 = .func (.func gF) #[] cp.toArray ∧ (Gr (· = b) w w') ∧ (Row enc w' b o T hd g tl) ∧ (g.size = n) ∧ (a < i2 ∧ i2 ≤ j2 + 2 ∧ j2 < e) ∧ (partEqLoop (ltc cf) a i2 j2 g = partEqLoop (ltc cf) a (a + 1) (e - 1) c)) (e - 1 + 1 - (a + 1)) ?_ ?_
  ·exact ⟨a + 1, e - 1, c, by omega, by first | rfl | exact vi (by omega), by first | rfl | exact vi (by omega), by first | rfl | exact vi (by omega), by first | rfl | exact vi (by omega), by first | rfl | exact vi (by omega), (by first | assumption | omega | rfl), (by first | assumption | omega | rfl), (by first | assumption | omega | rfl), (by omega), (by first | assumption | omega | rfl)⟩
  ·rintro _ E wL31 ⟨i2, j2, g, em, e0, e1, e11, e12, e4, hB, hR, hn3, hij, hq3⟩
   rw [upd_self e0, upd_self e1, upd_self e11, upd_self e12, upd_self e4]
   refine W.block ?_
   refine W.seq ?_
   refine W.block ?_
   refine W.loop (fun m' E w' => ∃ (i3 : Nat), m' = e - i3 ∧ E 0 = .slice (some ⟨b, o, none⟩) n cap ∧ E 1 = .int .i64 (a : Nat) ∧ E 11 = .int .i64 (i3 : Nat) ∧ E 12 = .int .i64 (j2 : Nat) ∧ E 4 = .func (.func gF) #[] cp.toArray ∧ (Gr (· = b) w w') ∧ (Row enc w' b o T hd g tl) ∧ (i2 ≤ i3 ∧ i3 ≤ j2 + 2) ∧ (scanUp (fun x => !(ltc cf) g[a]! x) g j2 i3 = scanUp (fun x => !(ltc cf) g[a]! x) g j2 i2)) (e - i2) ?_ ?_
   ·exact ⟨i2, by omega, by first | rfl | exact vi (by omega), by first | rfl | exact vi (by omega), by first | rfl | exact vi (by omega), by first | rfl | exact vi (by omega), by first | rfl | exact vi (by omega), (by first | assumption | omega | rfl), (by first | assumption | omega | rfl), (by omega), (by first | assumption | omega | rfl)⟩
   ·rintro _ E wL31b ⟨i3, em, e0, e1, e11, e12, e4, hB, hR, hi3, hq4⟩
    rw [upd_self e0, upd_self e1, upd_self e11, upd_self e12, upd_self e4]
    refine W.seq ?_
    refine W.seq ?_
    refine W.drawB ksrtc_mixed (by kernel_rfl) ?_
    refine LQ.val (fun w hw => x_mv (v := .int _ _) rfl) rfl ?_
    refine LQ.val (fun w hw => x_mv (v := .int _ _) rfl) rfl ?_
    refine LQ.val (fun w hw => x_leq rfl rfl) rfl ?_
    refine LQ.val (fun w hw => x_mv (v := .bool _) rfl) rfl ?_
    refine' LQ.group 12 35 46 46 34 true rfl ?_ ?_ ?_
    rotate_left 1
    ·intro g34
     have h34 := of_decide_eq_true g34
     refine LQ.gyes' (dj := 34) (b := _) rfl rfl g34 ?_
     refine LQ.val (fun w hw => x_mv (v := .func _ _ _) rfl) rfl ?_
     refine LQ.gyes' (dj := 34) (b := _) rfl rfl g34 ?_
     refine LQ.val (fun w hw => x_mv (v := .slice _ _ _) rfl) rfl ?_
     refine LQ.gyes' (dj := 34) (b := _) rfl rfl g34 ?_
     refine LQ.val (fun w hw => x_mv (v := .int _ _) rfl) rfl ?_
     refine LQ.gyes' (dj := 34) (b := _) rfl rfl g34 ?_
     refine LQ.val (fun w hw => x_ia1 (j := a) Tryz.underlying106 ksrtc_sz3 rfl rfl (by omega) (by omega)) rfl ?_
     refine LQ.gyes' (dj := 34) (b := _) rfl rfl g34 ?_
     refine LQ.val (fun w hw => x_ld (v := enc _) ksrtc_oc3 rfl (hw.keep (hR.at (i := a) (by omega)))) rfl ?_
     refine LQ.gyes' (dj := 34) (b := _) rfl rfl g34 ?_
     refine LQ.val (fun w hw => x_mv (v := .slice _ _ _) rfl) rfl ?_
     refine LQ.gyes' (dj := 34) (b := _) rfl rfl g34 ?_
     refine LQ.val (fun w hw => x_mv (v := .int _ _) rfl) rfl ?_
     refine LQ.gyes' (dj := 34) (b := _) rfl rfl g34 ?_
     refine LQ.val (fun w hw => x_ia1 (j := i3) Tryz.underlying106 ksrtc_sz3 rfl rfl (by omega) (by omega)) rfl ?_
     refine LQ.gyes' (dj := 34) (b := _) rfl rfl g34 ?_
     refine LQ.val (fun w hw => x_ld (v := enc _) ksrtc_oc3 rfl (hw.keep (hR.at (i := i3) (by omega)))) rfl ?_
     refine LQ.gyes' (dj := 34) (b := _) rfl rfl g34 ?_
     refine LQ.ret (fun w => x_callv eg rfl rfl) (fun w hw => Ret.mono (hC.via hB hw _ _) (fun _ _ h => ⟨h.1, Gr.trans hw h.2⟩)) rfl ?_
     refine LQ.gyes' (dj := 34) (b := _) rfl rfl g34 ?_
     refine LQ.val (fun w hw => x_lss rfl rfl) rfl ?_
     refine LQ.gyes' (dj := 34) (b := _) rfl rfl g34 ?_
     refine LQ.val (fun w hw => x_not rfl) rfl ?_
     refine LQ.nil ?_
     refine ⟨?_, rfl⟩
     repeat (first | exact jeq.refl _ _ _ | refine jeq.upd rfl ?_ | refine jeq.jk rfl rfl ?_)
    ·intro g34
     refine LQ.gno (dj := 34) (b := _) rfl rfl g34 rfl ?_
     refine LQ.gno (dj := 34) (b := _) rfl rfl g34 rfl ?_
     refine LQ.gno (dj := 34) (b := _) rfl rfl g34 rfl ?_
     refine LQ.gno (dj := 34) (b := _) rfl rfl g34 rfl ?_
     refine LQ.gno (dj := 34) (b := _) rfl rfl g34 rfl ?_
     refine LQ.gno (dj := 34) (b := _) rfl rfl g34 rfl ?_
     refine LQ.gno (dj := 34) (b := _) rfl rfl g34 rfl ?_
     refine LQ.gno (dj := 34) (b := _) rfl rfl g34 rfl ?_
     refine LQ.gno (dj := 34) (b := _) rfl rfl g34 rfl ?_
     refine LQ.gno (dj := 34) (b := _) rfl rfl g34 rfl ?_
     refine LQ.gno (dj := 34) (b := _) rfl rfl g34 rfl ?_
     refine LQ.gno (dj := 34) (b := _) rfl rfl g34 rfl ?_
     refine LQ.nil ?_
     repeat (first | exact jeq.refl _ _ _ | refine jeq.upd rfl ?_ | refine jeq.jk rfl rfl ?_)
    intro J34 j34
    refine LQ.val (fun w hw => x_and rfl j34) rfl ?_
    refine LQ.nil ?_
    intro w31 hw
    have hB := hB.carry hw; have hR := hR.carry hw
    refine thn_n ?_
    refine W.cond (b := _) rfl (fun g47 => ?_) (fun g47 => ?_)
    ·have h47 := g47
     have hie := and1 h47
     refine W.skip ?_
     refine thn_n ?_
     refine W.block ?_
     refine W.region ?_
     refine L.val (x_mv (v := .int _ _) rfl) rfl ?_
     refine L.val (x_add rfl rfl (wr64 (by omega))) rfl ?_
     refine L.val (x_as (v := .int _ _) rfl) rfl ?_
     refine L.nil ?_
     refine blk_n ?_
     refine thn_n ⟨rfl, ?_⟩
     refine ⟨_, ?_, i3 + 1, rfl, by first | rfl | exact vi (by omega), by first | rfl | exact vi (by omega), by first | rfl | exact vi (by omega), by first | rfl | exact vi (by omega), by first | rfl | exact vi (by omega), (by first | assumption | omega | rfl), (by first | assumption | omega | rfl), (by omega), (by rw [← hq4]; exact up_go (p := fun x => !(ltc cf) g[a]! x) h47)⟩
     omega
    ·have h47 := g47
     have hq4 := (up_stop (p := fun x => !(ltc cf) g[a]! x) h47).symm.trans hq4
     refine W.exit (thn_x (thn_x (blk_hit ?_)))
     refine thn_n ?_
     refine W.seq ?_
     refine W.block ?_
     refine W.loop (fun m' E w' => ∃ (j3 : Nat), m' = j3 ∧ E 0 = .slice (some ⟨b, o, none⟩) n cap ∧ E 1 = .int .i64 (a : Nat) ∧ E 11 = .int .i64 (i3 : Nat) ∧ E 12 = .int .i64 (j3 : Nat) ∧ E 4 = .func (.func gF) #[] cp.toArray ∧ (Gr (· = b) w w') ∧ (Row enc w' b o T hd g tl) ∧ (i3 ≤ j3 + 2 ∧ j3 ≤ j2) ∧ (scanDown (fun x => (ltc cf) g[a]! x) g i3 j3 = scanDown (fun x => (ltc cf) g[a]! x) g i3 j2)) (j2) ?_ ?_
     ·exact ⟨j2, by omega, by first | rfl | exact vi (by omega), by first | rfl | exact vi (by omega), by first | rfl | exact vi (by omega), by first | rfl | exact vi (by omega), by first | rfl | exact vi (by omega), (by first | assumption | omega | rfl), (by first | assumption | omega | rfl), (by omega), (by first | assumption | omega | rfl)⟩
     ·rintro _ E wL50 ⟨j3, em, e0, e1, e11, e12, e4, hB, hR, hj3, hq5⟩
      rw [upd_self e0, upd_self e1, upd_self e11, upd_self e12, upd_self e4]
      refine W.seq ?_
      refine W.seq ?_
      refine W.drawB ksrtc_mixed (by kernel_rfl) ?_
      refine LQ.val (fun w hw => x_mv (v := .int _ _) rfl) rfl ?_
      refine LQ.val (fun w hw => x_mv (v := .int _ _) rfl) rfl ?_
      refine LQ.val (fun w hw => x_leq rfl rfl) rfl ?_
      refine LQ.val (fun w hw => x_mv (v := .bool _) rfl) rfl ?_
      refine' LQ.group 11 54 64 64 53 true rfl ?_ ?_ ?_
      rotate_left 1
      ·intro g53
       have h53 := of_decide_eq_true g53
       refine LQ.gyes' (dj := 53) (b := _) rfl rfl g53 ?_
       refine LQ.val (fun w hw => x_mv (v := .func _ _ _) rfl) rfl ?_
       refine LQ.gyes' (dj := 53) (b := _) rfl rfl g53 ?_
       refine LQ.val (fun w hw => x_mv (v := .slice _ _ _) rfl) rfl ?_
       refine LQ.gyes' (dj := 53) (b := _) rfl rfl g53 ?_
       refine LQ.val (fun w hw => x_mv (v := .int _ _) rfl) rfl ?_
       refine LQ.gyes' (dj := 53) (b := _) rfl rfl g53 ?_
       refine LQ.val (fun w hw => x_ia1 (j := a) Tryz.underlying106 ksrtc_sz3 rfl rfl (by omega) (by omega)) rfl ?_
       refine LQ.gyes' (dj := 53) (b := _) rfl rfl g53 ?_
       refine LQ.val (fun w hw => x_ld (v := enc _) ksrtc_oc3 rfl (hw.keep (hR.at (i := a) (by omega)))) rfl ?_
       refine LQ.gyes' (dj := 53) (b := _) rfl rfl g53 ?_
       refine LQ.val (fun w hw => x_mv (v := .slice _ _ _) rfl) rfl ?_
       refine LQ.gyes' (dj := 53) (b := _) rfl rfl g53 ?_
       refine LQ.val (fun w hw => x_mv (v := .int _ _) rfl) rfl ?_
       refine LQ.gyes' (dj := 53) (b := _) rfl rfl g53 ?_
       refine LQ.val (fun w hw => x_ia1 (j := j3) Tryz.underlying106 ksrtc_sz3 rfl rfl (by omega) (by omega)) rfl ?_
       refine LQ.gyes' (dj := 53) (b := _) rfl rfl g53 ?_
       refine LQ.val (fun w hw => x_ld (v := enc _) ksrtc_oc3 rfl (hw.keep (hR.at (i := j3) (by omega)))) rfl ?_
       refine LQ.gyes' (dj := 53) (b := _) rfl rfl g53 ?_
       refine LQ.ret (fun w => x_callv eg rfl rfl) (fun w hw => Ret.mono (hC.via hB hw _ _) (fun _ _ h => ⟨h.1, Gr.trans hw h.2⟩)) rfl ?_
       refine LQ.gyes' (dj := 53) (b := _) rfl rfl g53 ?_
       refine LQ.val (fun w hw => x_lss rfl rfl) rfl ?_
       refine LQ.nil ?_
       refine ⟨?_, rfl⟩
       repeat (first | exact jeq.refl _ _ _ | refine jeq.upd rfl ?_ | refine jeq.jk rfl rfl ?_)
      ·intro g53
       refine LQ.gno (dj := 53) (b := _) rfl rfl g53 rfl ?_
       refine LQ.gno (dj := 53) (b := _) rfl rfl g53 rfl ?_
       refine LQ.gno (dj := 53) (b := _) rfl rfl g53 rfl ?_
       refine LQ.gno (dj := 53) (b := _) rfl rfl g53 rfl ?_
       refine LQ.gno (dj := 53) (b := _) rfl rfl g53 rfl ?_
       refine LQ.gno (dj := 53) (b := _) rfl rfl g53 rfl ?_
       refine LQ.gno (dj := 53) (b := _) rfl rfl g53 rfl ?_
       refine LQ.gno (dj := 53) (b := _) rfl rfl g53 rfl ?_
       refine LQ.gno (dj := 53) (b := _) rfl rfl g53 rfl ?_
       refine LQ.gno (dj := 53) (b := _) rfl rfl g53 rfl ?_
       refine LQ.gno (dj := 53) (b := _) rfl rfl g53 rfl ?_
       refine LQ.nil ?_
       repeat (first | exact jeq.refl _ _ _ | refine jeq.upd rfl ?_ | refine jeq.jk rfl rfl ?_)
      intro J53 j53
      refine LQ.val (fun w hw => x_and rfl j53) rfl ?_
      refine LQ.nil ?_
      intro w50 hw
      have hB := hB.carry hw; have hR := hR.carry hw
      refine thn_n ?_
      refine W.cond (b := _) rfl (fun g65 => ?_) (fun g65 => ?_)
      ·have h65 := g65
       have hie := and1 h65
       refine W.skip ?_
       refine thn_n ?_
       refine W.block ?_
       refine W.region ?_
       refine L.val (x_mv (v := .int _ _) rfl) rfl ?_
       refine L.val (x_sub rfl rfl (wr64 (by omega))) rfl ?_
       refine L.val (x_as (v := .int _ _) rfl) rfl ?_
       refine L.nil ?_
       refine blk_n ?_
       refine thn_n ⟨rfl, ?_⟩
       refine ⟨_, ?_, j3 - 1, rfl, by first | rfl | exact vi (by omega), by first | rfl | exact vi (by omega), by first | rfl | exact vi (by omega), by first | rfl | exact vi (by omega), by first | rfl | exact vi (by omega), (by first | assumption | omega | rfl), (by first | assumption | omega | rfl), (by omega), (by rw [← hq5]; exact down_go (p := fun x => (ltc cf) g[a]! x) (by omega) h65)⟩
       omega
      ·have h65 := g65
       have hq5 := (down_stop (p := fun x => (ltc cf) g[a]! x) h65).symm.trans hq5
       refine W.exit (thn_x (thn_x (blk_hit ?_)))
       refine thn_n ?_
       refine W.seq ?_
       refine W.seq ?_
       refine W.region ?_
       refine L.val (x_mv (v := .int _ _) rfl) rfl ?_
       refine L.val (x_mv (v := .int _ _) rfl) rfl ?_
       refine L.val (x_gtr rfl rfl) rfl ?_
       refine L.nil ?_
       refine thn_n ?_
       refine W.cond (b := _) rfl (fun g70 => ?_) (fun g70 => ?_)
       ·have h70 := of_decide_eq_true g70
        have hq3 := (parteq_stop hq4.symm hq5.symm (by omega)).symm.trans hq3
        refine W.exit (thn_x (blk_miss rfl (thn_x (blk_hit ?_))))
        refine thn_n ?_
        refine W.seq ?_
        refine W.region ?_
        refine L.val (x_mv (v := .int _ _) rfl) rfl ?_
        refine L.val (x_as (v := .int _ _) rfl) rfl ?_
        refine L.nil ?_
        refine thn_n ?_
        refine W.ret (fin_mk (.inr rfl) ?_)
        have hpart : partitionEqual (ltc cf) d a e q = (i3, g) := by
          unfold partitionEqual
          rw [← hcd, ← hq3]
        rw [hpart]; exact ⟨rfl, hB, hR⟩
       ·have h70 := dlt_f g70
        refine W.skip ?_
        refine thn_n ?_
        refine W.seq ?_
        refine W.drawS ksrtc_mixed ?_
        have hB := hB.carry (bel_drew _); have hR := hR.carry (bel_drew _)
        refine LA.take (i := 0) rfl (by kernel_rfl) (by kernel_rfl) (by kernel_rfl) (fun w => x_mv (v := .slice _ _ _) rfl) rfl ?_
        refine LA.take (i := 1) rfl (by kernel_rfl) (by kernel_rfl) (by kernel_rfl) (fun w => x_mv (v := .int _ _) rfl) rfl ?_
        refine LA.take (i := 2) rfl (by kernel_rfl) (by kernel_rfl) (by kernel_rfl) (fun w => x_mv (v := .slice _ _ _) rfl) rfl ?_
        refine LA.take (i := 3) rfl (by kernel_rfl) (by kernel_rfl) (by kernel_rfl) (fun w => x_mv (v := .int _ _) rfl) rfl ?_
        refine LA.take (i := 4) rfl (by kernel_rfl) (by kernel_rfl) (by kernel_rfl) (fun w => x_mv (v := .slice _ _ _) rfl) rfl ?_
        refine LA.take (i := 5) rfl (by kernel_rfl) (by kernel_rfl) (by kernel_rfl) (fun w => x_mv (v := .int _ _) rfl) rfl ?_
        refine LA.take (i := 6) rfl (by kernel_rfl) (by kernel_rfl) (by kernel_rfl) (fun w => x_ia1 (j := j3) Tryz.underlying106 ksrtc_sz3 rfl rfl (by omega) (by omega)) rfl ?_
        refine LA.take (i := 8) rfl (by kernel_rfl) (by kernel_rfl) (by kernel_rfl) (fun w => x_mv (v := .slice _ _ _) rfl) rfl ?_
        refine LA.take (i := 9) rfl (by kernel_rfl) (by kernel_rfl) (by kernel_rfl) (fun w => x_mv (v := .int _ _) rfl) rfl ?_
        refine LA.take (i := 10) rfl (by kernel_rfl) (by kernel_rfl) (by kernel_rfl) (fun w => x_ia1 (j := i3) Tryz.underlying106 ksrtc_sz3 rfl rfl (by omega) (by omega)) rfl ?_
        refine LA.pair (i := 7) (j := 11) rfl rfl (by kernel_rfl) (by kernel_rfl) (by kernel_rfl) rfl rfl (x_ld (v := enc _) ksrtc_oc3 rfl (hR.at (i := j3) (by omega))) (x_ld (v := enc _) ksrtc_oc3 rfl (hR.at (i := i3) (by omega))) (x_ld (v := enc _) ksrtc_oc3 rfl (hR.at (i := i3) (by omega))) (x_ld (v := enc _) ksrtc_oc3 rfl (hR.at (i := j3) (by omega))) rfl rfl ?_
        refine LA.take (i := 12) rfl (by kernel_rfl) (by kernel_rfl) (by kernel_rfl) (fun w => x_ia1 (j := i3) Tryz.underlying106 ksrtc_sz3 rfl rfl (by omega) (by omega)) rfl ?_
        refine LA.step (rs := [13]) (by kernel_rfl) (by simp) ⟨⟨_, rfl, ?_⟩, trivial⟩
        refine L.setAt (enc := enc) (j := i3) ksrtc_sz3 rfl rfl (he1 _) hR (by omega) (fun wl79 hR hsl79 hw hzl79 => ?_)
        have hB := hB.trans hw
        refine L.nil ?_
        refine thn_n ?_
        refine LA.take (i := 14) rfl (by kernel_rfl) (by kernel_rfl) (by kernel_rfl) (fun w => x_ia1 (j := j3) Tryz.underlying106 ksrtc_sz3 rfl rfl (by omega) (by omega)) rfl ?_
        refine LA.step (rs := [15]) (by kernel_rfl) (by simp) ⟨⟨_, rfl, ?_⟩, trivial⟩
        refine L.setAt (enc := enc) (j := j3) ksrtc_sz3 rfl rfl (he1 _) hR (by omega) (fun wl81 hR hsl81 hw hzl81 => ?_)
        have hB := hB.trans hw
        refine L.nil ?_
        refine thn_n ?_
        refine LA.done (by kernel_rfl) ?_
        refine nrm_n ?_
        refine thn_n ?_
        refine W.seq ?_
        refine W.region ?_
        refine L.val (x_mv (v := .int _ _) rfl) rfl ?_
        refine L.val (x_add rfl rfl (wr64 (by omega))) rfl ?_
        refine L.val (x_as (v := .int _ _) rfl) rfl ?_
        refine L.nil ?_
        refine thn_n ?_
        refine W.region ?_
        refine L.val (x_mv (v := .int _ _) rfl) rfl ?_
        refine L.val (x_sub rfl rfl (wr64 (by omega))) rfl ?_
        refine L.val (x_as (v := .int _ _) rfl) rfl ?_
        refine L.nil ?_
        refine blk_n ?_
        refine thn_n ⟨rfl, ?_⟩
        refine ⟨_, ?_, i3 + 1, j3 - 1, swp g i3 j3, rfl, by first | rfl | exact vi (by omega), by first | rfl | exact vi (by omega), by first | rfl | exact vi (by omega), by first | rfl | exact vi (by omega), by first | rfl | exact vi (by omega), (by first | assumption | omega | rfl), (by first | assumption | omega | rfl), (by rw [size_swp]; exact hn3), (by omega), (by rw [← hq3]; exact parteq_go hq4.symm hq5.symm (by omega) (by omega) (by omega) (by omega))⟩
        omega
theorem partial_okC (b o a e cap n : Nat) (T : TypeId) (hd tl : List Value) (d : Array α) (w : World) (hC : Cmp Tryz.prog enc gF cp cf b N0 w) (hR : Row enc w b o T hd d tl) (hn : d.size = n) (hc : n ≤ 2000000000000000000) (hae : a < e) (he : e ≤ n) :
    Ret Tryz.prog 185 #[.slice (some ⟨b, o, none⟩) n cap, .int .i64 a, .int .i64 e, .func (.func gF) #[] cp.toArray] w fun v w' => v = .bool (partialInsertionSort (ltc cf) d a e).2 ∧ Gr (· = b) w w' ∧ Row enc w' b o T hd (partialInsertionSort (ltc cf) d a e).1 tl := by
  refine ret_of_W Tryz.func185 rfl (Nat.le_of_ble_eq_true rfl) (res1 rfl) ?_
  have hB := Gr.refl (· = b) w
  refine W.seq ?_
  refine W.region ?_
  refine L.val (x_as (v := .bool _) rfl) rfl ?_
  refine L.nil ?_
  refine thn_n ?_
  refine W.seq ?_
  refine W.region ?_
  refine L.val (x_mv (v := .int _ _) rfl) rfl ?_
  refine L.val (x_add rfl rfl (wr64 (by omega))) rfl ?_
  refine L.val (x_as (v := .int _ _) rfl) rfl ?_
  refine L.nil ?_
  refine thn_n ?_
  refine W.seq ?_
  refine W.seq ?_
  refine W.region ?_
  refine L.val (x_as (v := .int _ _) rfl) rfl ?_
  refine L.nil ?_
  refine thn_n ?_
  refine W.block ?_
  refine W.loop (fun m' E w' => ∃ (s i : Nat) (c : Array α), m' = s ∧ E 0 = .slice (some ⟨b, o, none⟩) n cap ∧ E 1 = .int .i64 (a : Nat) ∧ E 2 = .int .i64 (e : Nat) ∧ E 9 = .int .i64 (i : Nat) ∧ E 10 = .int .i64 (5 - (s : Nat)) ∧ E 3 = .func (.func gF) #[] cp.toArray ∧ (Gr (· = b) w w') ∧ (Row enc w' b o T hd c tl) ∧ (c.size = n) ∧ (a < i ∧ i ≤ e ∧ s ≤ 5) ∧ (partialIns (ltc cf) a e s i c = partialInsertionSort (ltc cf) d a e)) (5) ?_ ?_
  ·exact ⟨5, a + 1, d, by omega, by first | rfl | exact vi (by omega), by first | rfl | exact vi (by omega), by first | rfl | exact vi (by omega), by first | rfl | exact vi (by omega), by first | rfl | exact vi (by omega), by first | rfl | exact vi (by omega), (by first | assumption | omega | rfl), (by first | assumption | omega | rfl), (by first | assumption | omega | rfl), (by omega), (by first | assumption | omega | rfl)⟩
  ·rintro _ E wL15 ⟨s, i, c, em, e0, e1, e2, e9, e10, e3, hB, hR, hn3, hi, hq⟩
   rw [upd_self e0, upd_self e1, upd_self e2, upd_self e9, upd_self e10, upd_self e3]
   refine W.seq ?_
   refine W.seq ?_
   refine W.region ?_
   refine L.val (x_mv (v := .int _ _) rfl) rfl ?_
   refine L.val (x_lss rfl rfl) rfl ?_
   refine L.nil ?_
   refine thn_n ?_
   refine W.cond (b := _) rfl (fun g16 => ?_) (fun g16 => ?_)
   ·have h16 := of_decide_eq_true g16
    refine W.skip ?_
    refine thn_n ?_
    refine W.seq ?_
    refine W.block ?_
    refine W.seq ?_
    refine W.block ?_
    refine W.loop (fun m' E w' => ∃ (i2 : Nat), m' = e - i2 ∧ E 0 = .slice (some ⟨b, o, none⟩) n cap ∧ E 1 = .int .i64 (a : Nat) ∧ E 2 = .int .i64 (e : Nat) ∧ E 9 = .int .i64 (i2 : Nat) ∧ E 10 = .int .i64 (5 - (s : Nat)) ∧ E 3 = .func (.func gF) #[] cp.toArray ∧ (Gr (· = b) w w') ∧ (Row enc w' b o T hd c tl) ∧ (i ≤ i2 ∧ i2 ≤ e) ∧ (scanSorted (ltc cf) c e i2 = scanSorted (ltc cf) c e i)) (e - i) ?_ ?_
    ·exact ⟨i, by omega, by first | rfl | exact vi (by omega), by first | rfl | exact vi (by omega), by first | rfl | exact vi (by omega), by first | rfl | exact vi (by omega), by first | rfl | exact vi (by omega), by first | rfl | exact vi (by omega), (by first | assumption | omega | rfl), (by first | assumption | omega | rfl), (by omega), (by first | assumption | omega | rfl)⟩
    ·rintro _ E wL19 ⟨i2, em, e0, e1, e2, e9, e10, e3, hB, hR, hi2, hqs⟩
     rw [upd_self e0, upd_self e1, upd_self e2, upd_self e9, upd_self e10, upd_self e3]
     refine W.seq ?_
     refine W.seq ?_
     refine W.drawB ksrtc_mixed (by kernel_rfl) ?_
     refine LQ.val (fun w hw => x_mv (v := .int _ _) rfl) rfl ?_
     refine LQ.val (fun w hw => x_mv (v := .int _ _) rfl) rfl ?_
     refine LQ.val (fun w hw => x_lss rfl rfl) rfl ?_
     refine LQ.val (fun w hw => x_mv (v := .bool _) rfl) rfl ?_
     refine' LQ.group 13 23 35 35 22 true rfl ?_ ?_ ?_
     rotate_left 1
     ·intro g22
      have h22 := of_decide_eq_true g22
      refine LQ.gyes' (dj := 22) (b := _) rfl rfl g22 ?_
      refine LQ.val (fun w hw => x_mv (v := .func _ _ _) rfl) rfl ?_
      refine LQ.gyes' (dj := 22) (b := _) rfl rfl g22 ?_
      refine LQ.val (fun w hw => x_mv (v := .slice _ _ _) rfl) rfl ?_
      refine LQ.gyes' (dj := 22) (b := _) rfl rfl g22 ?_
      refine LQ.val (fun w hw => x_mv (v := .int _ _) rfl) rfl ?_
      refine LQ.gyes' (dj := 22) (b := _) rfl rfl g22 ?_
      refine LQ.val (fun w hw => x_ia1 (j := i2) Tryz.underlying106 ksrtc_sz3 rfl rfl (by omega) (by omega)) rfl ?_
      refine LQ.gyes' (dj := 22) (b := _) rfl rfl g22 ?_
      refine LQ.val (fun w hw => x_ld (v := enc _) ksrtc_oc3 rfl (hw.keep (hR.at (i := i2) (by omega)))) rfl ?_
      refine LQ.gyes' (dj := 22) (b := _) rfl rfl g22 ?_
      refine LQ.val (fun w hw => x_mv (v := .slice _ _ _) rfl) rfl ?_
      refine LQ.gyes' (dj := 22) (b := _) rfl rfl g22 ?_
      refine LQ.val (fun w hw => x_mv (v := .int _ _) rfl) rfl ?_
      refine LQ.gyes' (dj := 22) (b := _) rfl rfl g22 ?_
      refine LQ.val (fun w hw => x_sub rfl rfl (wr64 (by omega))) rfl ?_
      refine LQ.gyes' (dj := 22) (b := _) rfl rfl g22 ?_
      refine LQ.val (fun w hw => x_ia1 (j := i2 - 1) Tryz.underlying106 ksrtc_sz3 rfl rfl (by omega) (by omega)) rfl ?_
      refine LQ.gyes' (dj := 22) (b := _) rfl rfl g22 ?_
      refine LQ.val (fun w hw => x_ld (v := enc _) ksrtc_oc3 rfl (hw.keep (hR.at (i := i2 - 1) (by omega)))) rfl ?_
      refine LQ.gyes' (dj := 22) (b := _) rfl rfl g22 ?_
      refine LQ.ret (fun w => x_callv eg rfl rfl) (fun w hw => Ret.mono (hC.via hB hw _ _) (fun _ _ h => ⟨h.1, Gr.trans hw h.2⟩)) rfl ?_
      refine LQ.gyes' (dj := 22) (b := _) rfl rfl g22 ?_
      refine LQ.val (fun w hw => x_lss rfl rfl) rfl ?_
      refine LQ.gyes' (dj := 22) (b := _) rfl rfl g22 ?_
      refine LQ.val (fun w hw => x_not rfl) rfl ?_
      refine LQ.nil ?_
      refine ⟨?_, rfl⟩
      repeat (first | exact jeq.refl _ _ _ | refine jeq.upd rfl ?_ | refine jeq.jk rfl rfl ?_)
     ·intro g22
      refine LQ.gno (dj := 22) (b := _) rfl rfl g22 rfl ?_
      refine LQ.gno (dj := 22) (b := _) rfl rfl g22 rfl ?_
      refine LQ.gno (dj := 22) (b := _) rfl rfl g22 rfl ?_
      refine LQ.gno (dj := 22) (b := _) rfl rfl g22 rfl ?_
      refine LQ.gno (dj := 22) (b := _) rfl rfl g22 rfl ?_
      refine LQ.gno (dj := 22) (b := _) rfl rfl g22 rfl ?_
      refine LQ.gno (dj := 22) (b := _) rfl rfl g22 rfl ?_
      refine LQ.gno (dj := 22) (b := _) rfl rfl g22 rfl ?_
      refine LQ.gno (dj := 22) (b := _) rfl rfl g22 rfl ?_
      refine LQ.gno (dj := 22) (b := _) rfl rfl g22 rfl ?_
      refine LQ.gno (dj := 22) (b := _) rfl rfl g22 rfl ?_
      refine LQ.gno (dj := 22) (b := _) rfl rfl g22 rfl ?_
      refine LQ.gno (dj := 22) (b := _) rfl rfl g22 rfl ?_
      refine LQ.nil ?_
      repeat (first | exact jeq.refl _ _ _ | refine jeq.upd rfl ?_ | refine jeq.jk rfl rfl ?_)
     intro J22 j22
     refine LQ.val (fun w hw => x_and rfl j22) rfl ?_
     refine LQ.nil ?_
     intro w19 hw
     have hB := hB.carry hw; have hR := hR.carry hw
     refine thn_n ?_
     refine W.cond (b := _) rfl (fun g36 => ?_) (fun g36 => ?_)
     ·have h36 := g36
      have hie := and1 h36
      refine W.skip ?_
      refine thn_n ?_
      refine W.block ?_
      refine W.region ?_
      refine L.val (x_mv (v := .int _ _) rfl) rfl ?_
      refine L.val (x_add rfl rfl (wr64 (by omega))) rfl ?_
      refine L.val (x_as (v := .int _ _) rfl) rfl ?_
      refine L.nil ?_
      refine blk_n ?_
      refine thn_n ⟨rfl, ?_⟩
      refine ⟨_, ?_, i2 + 1, rfl, by first | rfl | exact vi (by omega), by first | rfl | exact vi (by omega), by first | rfl | exact vi (by omega), by first | rfl | exact vi (by omega), by first | rfl | exact vi (by omega), by first | rfl | exact vi (by omega), (by first | assumption | omega | rfl), (by first | assumption | omega | rfl), (by omega), (by rw [← hqs]; exact scan_go h36)⟩
      omega
     ·have h36 := g36
      have hqs := (scan_stop h36).symm.trans hqs
      refine W.exit (thn_x (thn_x (blk_hit ?_)))
      refine thn_n ?_
      refine W.seq ?_
      refine W.seq ?_
      refine W.region ?_
      refine L.val (x_mv (v := .int _ _) rfl) rfl ?_
      refine L.val (x_mv (v := .int _ _) rfl) rfl ?_
      refine L.val (x_eql rfl rfl) rfl ?_
      refine L.nil ?_
      refine thn_n ?_
      refine W.cond (b := _) rfl (fun g41 => ?_) (fun g41 => ?_)
      ·have h41 := of_decide_eq_true g41
       refine W.seq ?_
       refine W.region ?_
       refine L.val (x_as (v := .bool _) rfl) rfl ?_
       refine L.nil ?_
       refine thn_n ?_
       refine W.ret (thn_r (blk_r (thn_r (thn_r (blk_r (thn_r (fin_mk (.inr rfl) ?_)))))))
       have hpart : partialInsertionSort (ltc cf) d a e = (c, true) := by
         rw [← hq, show s = s - 1 + 1 by omega]; exact pins_true hqs.symm (by omega)
       rw [hpart]; exact ⟨rfl, hB, hR⟩
      ·have h41 := of_decide_eq_false g41
       refine W.skip ?_
       refine thn_n ?_
       refine W.seq ?_
       refine W.seq ?_
       refine W.region ?_
       refine L.val (x_mv (v := .int _ _) rfl) rfl ?_
       refine L.val (x_mv (v := .int _ _) rfl) rfl ?_
       refine L.val (x_sub rfl rfl (wr64 (by omega))) rfl ?_
       refine L.val (x_lss rfl rfl) rfl ?_
       refine L.nil ?_
       refine thn_n ?_
       refine W.cond (b := _) rfl (fun g45 => ?_) (fun g45 => ?_)
       ·have h45 := of_decide_eq_true g45
        refine W.seq ?_
        refine W.region ?_
        refine L.val (x_as (v := .bool _) rfl) rfl ?_
        refine L.nil ?_
        refine thn_n ?_
        refine W.ret (thn_r (blk_r (thn_r (thn_r (blk_r (thn_r (fin_mk (.inr rfl) ?_)))))))
        have hpart : partialInsertionSort (ltc cf) d a e = (c, false) := by
          rw [← hq, show s = s - 1 + 1 by omega]; exact pins_false hqs.symm (by omega) (by omega)
        rw [hpart]; exact ⟨rfl, hB, hR⟩
       ·have h45 := dlt_f g45
        refine W.skip ?_
        refine thn_n ?_
        refine W.seq ?_
        refine W.drawS ksrtc_mixed ?_
        have hB := hB.carry (bel_drew _); have hR := hR.carry (bel_drew _)
        refine LA.take (i := 0) rfl (by kernel_rfl) (by kernel_rfl) (by kernel_rfl) (fun w => x_mv (v := .slice _ _ _) rfl) rfl ?_
        refine LA.take (i := 1) rfl (by kernel_rfl) (by kernel_rfl) (by kernel_rfl) (fun w => x_mv (v := .int _ _) rfl) rfl ?_
        refine LA.take (i := 2) rfl (by kernel_rfl) (by kernel_rfl) (by kernel_rfl) (fun w => x_mv (v := .slice _ _ _) rfl) rfl ?_
        refine LA.take (i := 3) rfl (by kernel_rfl) (by kernel_rfl) (by kernel_rfl) (fun w => x_mv (v := .int _ _) rfl) rfl ?_
        refine LA.take (i := 4) rfl (by kernel_rfl) (by kernel_rfl) (by kernel_rfl) (fun w => x_sub rfl rfl (wr64 (by omega))) rfl ?_
        refine LA.take (i := 5) rfl (by kernel_rfl) (by kernel_rfl) (by kernel_rfl) (fun w => x_mv (v := .slice _ _ _) rfl) rfl ?_
        refine LA.take (i := 6) rfl (by kernel_rfl) (by kernel_rfl) (by kernel_rfl) (fun w => x_mv (v := .int _ _) rfl) rfl ?_
        refine LA.take (i := 7) rfl (by kernel_rfl) (by kernel_rfl) (by kernel_rfl) (fun w => x_sub rfl rfl (wr64 (by omega))) rfl ?_
        refine LA.take (i := 8) rfl (by kernel_rfl) (by kernel_rfl) (by kernel_rfl) (fun w => x_ia1 (j := i2 - 1) Tryz.underlying106 ksrtc_sz3 rfl rfl (by omega) (by omega)) rfl ?_
        refine LA.take (i := 10) rfl (by kernel_rfl) (by kernel_rfl) (by kernel_rfl) (fun w => x_mv (v := .slice _ _ _) rfl) rfl ?_
        refine LA.take (i := 11) rfl (by kernel_rfl) (by kernel_rfl) (by kernel_rfl) (fun w => x_mv (v := .int _ _) rfl) rfl ?_
        refine LA.take (i := 12) rfl (by kernel_rfl) (by kernel_rfl) (by kernel_rfl) (fun w => x_ia1 (j := i2) Tryz.underlying106 ksrtc_sz3 rfl rfl (by omega) (by omega)) rfl ?_
        refine LA.pair (i := 9) (j := 13) rfl rfl (by kernel_rfl) (by kernel_rfl) (by kernel_rfl) rfl rfl (x_ld (v := enc _) ksrtc_oc3 rfl (hR.at (i := i2 - 1) (by omega))) (x_ld (v := enc _) ksrtc_oc3 rfl (hR.at (i := i2) (by omega))) (x_ld (v := enc _) ksrtc_oc3 rfl (hR.at (i := i2) (by omega))) (x_ld (v := enc _) ksrtc_oc3 rfl (hR.at (i := i2 - 1) (by omega))) rfl rfl ?_
        refine LA.take (i := 14) rfl (by kernel_rfl) (by kernel_rfl) (by kernel_rfl) (fun w => x_ia1 (j := i2) Tryz.underlying106 ksrtc_sz3 rfl rfl (by omega) (by omega)) rfl ?_
        refine LA.step (rs := [15]) (by kernel_rfl) (by simp) ⟨⟨_, rfl, ?_⟩, trivial⟩
        refine L.setAt (enc := enc) (j := i2) ksrtc_sz3 rfl rfl (he1 _) hR (by omega) (fun wl53 hR hsl53 hw hzl53 => ?_)
        have hB := hB.trans hw
        refine L.nil ?_
        refine thn_n ?_
        refine LA.take (i := 16) rfl (by kernel_rfl) (by kernel_rfl) (by kernel_rfl) (fun w => x_ia1 (j := i2 - 1) Tryz.underlying106 ksrtc_sz3 rfl rfl (by omega) (by omega)) rfl ?_
        refine LA.step (rs := [17]) (by kernel_rfl) (by simp) ⟨⟨_, rfl, ?_⟩, trivial⟩
        refine L.setAt (enc := enc) (j := i2 - 1) ksrtc_sz3 rfl rfl (he1 _) hR (by omega) (fun wl55 hR hsl55 hw hzl55 => ?_)
        have hB := hB.trans hw
        refine L.nil ?_
        refine thn_n ?_
        refine LA.done (by kernel_rfl) ?_
        refine nrm_n ?_
        refine thn_n ?_
        refine W.cut (fun D' E' w' => D' = [] ∧ E' 3 = .func (.func gF) #[] cp.toArray ∧ ∃ g : Array α, E' 0 = .slice (some ⟨b, o, none⟩) n cap ∧ E' 1 = .int .i64 (a : Nat) ∧ E' 2 = .int .i64 (e : Nat) ∧ E' 9 = .int .i64 (i2 : Nat) ∧ E' 10 = .int .i64 (5 - (s : Nat)) ∧ Gr (· = b) w w' ∧ Row enc w' b o T hd g tl ∧ g.size = n ∧ g = stepDown (ltc cf) a i2 c) ?_ ?_
        ·refine W.seq ?_
         refine W.region ?_
         refine L.val (x_mv (v := .int _ _) rfl) rfl ?_
         refine L.val (x_mv (v := .int _ _) rfl) rfl ?_
         refine L.val (x_sub rfl rfl (wr64 (by omega))) rfl ?_
         refine L.val (x_geq rfl rfl) rfl ?_
         refine L.nil ?_
         refine thn_n ?_
         refine W.cond (b := _) rfl (fun g65 => ?_) (fun g65 => ?_)
         ·have h65 := of_decide_eq_true g65
          refine W.seq ?_
          refine W.region ?_
          refine L.val (x_mv (v := .int _ _) rfl) rfl ?_
          refine L.val (x_sub rfl rfl (wr64 (by omega))) rfl ?_
          refine L.val (x_as (v := .int _ _) rfl) rfl ?_
          refine L.nil ?_
          refine thn_n ?_
          refine W.block ?_
          refine W.loop (fun m' E w' => ∃ (j : Nat) (f : Array α), m' = j ∧ E 0 = .slice (some ⟨b, o, none⟩) n cap ∧ E 1 = .int .i64 (a : Nat) ∧ E 2 = .int .i64 (e : Nat) ∧ E 9 = .int .i64 (i2 : Nat) ∧ E 10 = .int .i64 (5 - (s : Nat)) ∧ E 11 = .int .i64 (j : Nat) ∧ E 3 = .func (.func gF) #[] cp.toArray ∧ (Gr (· = b) w w') ∧ (Row enc w' b o T hd f tl) ∧ (f.size = n) ∧ (j < i2) ∧ (shiftDown (ltc cf) j f = shiftDown (ltc cf) (i2 - 1) (swp c i2 (i2 - 1)))) (i2 - 1) ?_ ?_
          ·exact ⟨i2 - 1, swp c i2 (i2 - 1), by omega, by first | rfl | exact vi (by omega), by first | rfl | exact vi (by omega), by first | rfl | exact vi (by omega), by first | rfl | exact vi (by omega), by first | rfl | exact vi (by omega), by first | rfl | exact vi (by omega), by first | rfl | exact vi (by omega), (by first | assumption | omega | rfl), (by first | assumption | omega | rfl), (by rw [size_swp]; exact hn3), (by first | assumption | omega | rfl), (by first | assumption | omega | rfl)⟩
          ·rintro _ E wL68 ⟨j, f, em, e0, e1, e2, e9, e10, e11, e3, hB, hR, hn4, hj, hq4⟩
           rw [upd_self e0, upd_self e1, upd_self e2, upd_self e9, upd_self e10, upd_self e11, upd_self e3]
           refine W.seq ?_
           refine W.seq ?_
           refine W.region ?_
           refine L.val (x_mv (v := .int _ _) rfl) rfl ?_
           refine L.val (x_geq rfl rfl) rfl ?_
           refine L.nil ?_
           refine thn_n ?_
           refine W.cond (b := _) rfl (fun g69 => ?_) (fun g69 => ?_)
           ·have h69 := of_decide_eq_true g69
            refine W.skip ?_
            refine thn_n ?_
            refine W.seq ?_
            refine W.block ?_
            refine W.seq ?_
            refine W.seq ?_
            refine W.drawB ksrtc_mixed (by kernel_rfl) ?_
            refine LQ.val (fun w hw => x_mv (v := .func _ _ _) rfl) rfl ?_
            refine LQ.val (fun w hw => x_mv (v := .slice _ _ _) rfl) rfl ?_
            refine LQ.val (fun w hw => x_mv (v := .int _ _) rfl) rfl ?_
            refine LQ.val (fun w hw => x_ia1 (j := j) Tryz.underlying106 ksrtc_sz3 rfl rfl (by omega) (by omega)) rfl ?_
            refine LQ.val (fun w hw => x_ld (v := enc _) ksrtc_oc3 rfl (hw.keep (hR.at (i := j) (by omega)))) rfl ?_
            refine LQ.val (fun w hw => x_mv (v := .slice _ _ _) rfl) rfl ?_
            refine LQ.val (fun w hw => x_mv (v := .int _ _) rfl) rfl ?_
            refine LQ.val (fun w hw => x_sub rfl rfl (wr64 (by omega))) rfl ?_
            refine LQ.val (fun w hw => x_ia1 (j := j - 1) Tryz.underlying106 ksrtc_sz3 rfl rfl (by omega) (by omega)) rfl ?_
            refine LQ.val (fun w hw => x_ld (v := enc _) ksrtc_oc3 rfl (hw.keep (hR.at (i := j - 1) (by omega)))) rfl ?_
            refine LQ.ret (fun w => x_callv eg rfl rfl) (fun w hw => Ret.mono (hC.via hB hw _ _) (fun _ _ h => ⟨h.1, Gr.trans hw h.2⟩)) rfl ?_
            refine LQ.val (fun w hw => x_lss rfl rfl) rfl ?_
            refine LQ.val (fun w hw => x_not rfl) rfl ?_
            refine LQ.nil ?_
            intro w72 hw
            have hB := hB.carry hw; have hR := hR.carry hw
            refine thn_n ?_
            refine W.cond (b := _) rfl (fun g84 => ?_) (fun g84 => ?_)
            ·have h84 := (not_t g84)
             refine W.exit (thn_x (blk_miss rfl (thn_x (thn_x (blk_hit ?_)))))
             refine thn_n ?_
             first
               | exact ⟨rfl, rfl, f, rfl, rfl, rfl, rfl, rfl, hB, hR, hn4, by rw [stepDown, if_pos (by omega), ← hq4, sd_stop (lt := (ltc cf)) (.inl (by omega))]⟩
               | exact ⟨rfl, rfl, f, rfl, rfl, rfl, rfl, rfl, hB, hR, hn4, by rw [stepDown, if_pos (by omega), ← hq4, sd_stop (lt := (ltc cf)) (.inr h84)]⟩
               | exact ⟨rfl, rfl, swp c i2 (i2 - 1), rfl, rfl, rfl, rfl, rfl, hB, hR, by rw [size_swp]; exact hn3, by rw [stepDown, if_neg (by omega)]⟩
            ·have h84 := (not_f g84)
             refine W.skip ?_
             refine thn_n ?_
             refine W.drawS ksrtc_mixed ?_
             have hB := hB.carry (bel_drew _); have hR := hR.carry (bel_drew _)
             refine LA.take (i := 0) rfl (by kernel_rfl) (by kernel_rfl) (by kernel_rfl) (fun w => x_mv (v := .slice _ _ _) rfl) rfl ?_
             refine LA.take (i := 1) rfl (by kernel_rfl) (by kernel_rfl) (by kernel_rfl) (fun w => x_mv (v := .int _ _) rfl) rfl ?_
             refine LA.take (i := 2) rfl (by kernel_rfl) (by kernel_rfl) (by kernel_rfl) (fun w => x_mv (v := .slice _ _ _) rfl) rfl ?_
             refine LA.take (i := 3) rfl (by kernel_rfl) (by kernel_rfl) (by kernel_rfl) (fun w => x_mv (v := .int _ _) rfl) rfl ?_
             refine LA.take (i := 4) rfl (by kernel_rfl) (by kernel_rfl) (by kernel_rfl) (fun w => x_sub rfl rfl (wr64 (by omega))) rfl ?_
             refine LA.take (i := 5) rfl (by kernel_rfl) (by kernel_rfl) (by kernel_rfl) (fun w => x_mv (v := .slice _ _ _) rfl) rfl ?_
             refine LA.take (i := 6) rfl (by kernel_rfl) (by kernel_rfl) (by kernel_rfl) (fun w => x_mv (v := .int _ _) rfl) rfl ?_
             refine LA.take (i := 7) rfl (by kernel_rfl) (by kernel_rfl) (by kernel_rfl) (fun w => x_sub rfl rfl (wr64 (by omega))) rfl ?_
             refine LA.take (i := 8) rfl (by kernel_rfl) (by kernel_rfl) (by kernel_rfl) (fun w => x_ia1 (j := j - 1) Tryz.underlying106 ksrtc_sz3 rfl rfl (by omega) (by omega)) rfl ?_
             refine LA.take (i := 10) rfl (by kernel_rfl) (by kernel_rfl) (by kernel_rfl) (fun w => x_mv (v := .slice _ _ _) rfl) rfl ?_
             refine LA.take (i := 11) rfl (by kernel_rfl) (by kernel_rfl) (by kernel_rfl) (fun w => x_mv (v := .int _ _) rfl) rfl ?_
             refine LA.take (i := 12) rfl (by kernel_rfl) (by kernel_rfl) (by kernel_rfl) (fun w => x_ia1 (j := j) Tryz.underlying106 ksrtc_sz3 rfl rfl (by omega) (by omega)) rfl ?_
             refine LA.pair (i := 9) (j := 13) rfl rfl (by kernel_rfl) (by kernel_rfl) (by kernel_rfl) rfl rfl (x_ld (v := enc _) ksrtc_oc3 rfl (hR.at (i := j - 1) (by omega))) (x_ld (v := enc _) ksrtc_oc3 rfl (hR.at (i := j) (by omega))) (x_ld (v := enc _) ksrtc_oc3 rfl (hR.at (i := j) (by omega))) (x_ld (v := enc _) ksrtc_oc3 rfl (hR.at (i := j - 1) (by omega))) rfl rfl ?_
             refine LA.take (i := 14) rfl (by kernel_rfl) (by kernel_rfl) (by kernel_rfl) (fun w => x_ia1 (j := j) Tryz.underlying106 ksrtc_sz3 rfl rfl (by omega) (by omega)) rfl ?_
             refine LA.step (rs := [15]) (by kernel_rfl) (by simp) ⟨⟨_, rfl, ?_⟩, trivial⟩
             refine L.setAt (enc := enc) (j := j) ksrtc_sz3 rfl rfl (he1 _) hR (by omega) (fun wl93 hR hsl93 hw hzl93 => ?_)
             have hB := hB.trans hw
             refine L.nil ?_
             refine thn_n ?_
             refine LA.take (i := 16) rfl (by kernel_rfl) (by kernel_rfl) (by kernel_rfl) (fun w => x_ia1 (j := j - 1) Tryz.underlying106 ksrtc_sz3 rfl rfl (by omega) (by omega)) rfl ?_
             refine LA.step (rs := [17]) (by kernel_rfl) (by simp) ⟨⟨_, rfl, ?_⟩, trivial⟩
             refine L.setAt (enc := enc) (j := j - 1) ksrtc_sz3 rfl rfl (he1 _) hR (by omega) (fun wl95 hR hsl95 hw hzl95 => ?_)
             have hB := hB.trans hw
             refine L.nil ?_
             refine thn_n ?_
             refine LA.done (by kernel_rfl) ?_
             refine nrm_n ?_
             refine blk_n ?_
             refine thn_n ?_
             refine W.region ?_
             refine L.val (x_mv (v := .int _ _) rfl) rfl ?_
             refine L.val (x_sub rfl rfl (wr64 (by omega))) rfl ?_
             refine L.val (x_as (v := .int _ _) rfl) rfl ?_
             refine L.nil ?_
             refine thn_n ⟨rfl, ?_⟩
             refine ⟨_, ?_, j - 1, swp f j (j - 1), rfl, by first | rfl | exact vi (by omega), by first | rfl | exact vi (by omega), by first | rfl | exact vi (by omega), by first | rfl | exact vi (by omega), by first | rfl | exact vi (by omega), by first | rfl | exact vi (by omega), by first | rfl | exact vi (by omega), (by first | assumption | omega | rfl), (by first | assumption | omega | rfl), (by rw [size_swp]; exact hn4), (by first | assumption | omega | rfl), (by rw [← hq4]; exact sd_go (by omega) h84)⟩
             omega
           ·have h69 := dle_f g69
            refine W.exit (thn_x (thn_x (blk_hit ?_)))
            refine thn_n ?_
            first
              | exact ⟨rfl, rfl, f, rfl, rfl, rfl, rfl, rfl, hB, hR, hn4, by rw [stepDown, if_pos (by omega), ← hq4, sd_stop (lt := (ltc cf)) (.inl (by omega))]⟩
              | exact ⟨rfl, rfl, f, rfl, rfl, rfl, rfl, rfl, hB, hR, hn4, by rw [stepDown, if_pos (by omega), ← hq4, sd_stop (lt := (ltc cf)) (.inr h84)]⟩
              | exact ⟨rfl, rfl, swp c i2 (i2 - 1), rfl, rfl, rfl, rfl, rfl, hB, hR, by rw [size_swp]; exact hn3, by rw [stepDown, if_neg (by omega)]⟩
         ·have h65 := dle_f g65
          refine W.skip ?_
          refine thn_n ?_
          first
            | exact ⟨rfl, rfl, f, rfl, rfl, rfl, rfl, rfl, hB, hR, hn4, by rw [stepDown, if_pos (by omega), ← hq4, sd_stop (lt := (ltc cf)) (.inl (by omega))]⟩
            | exact ⟨rfl, rfl, f, rfl, rfl, rfl, rfl, rfl, hB, hR, hn4, by rw [stepDown, if_pos (by omega), ← hq4, sd_stop (lt := (ltc cf)) (.inr h84)]⟩
            | exact ⟨rfl, rfl, swp c i2 (i2 - 1), rfl, rfl, rfl, rfl, rfl, hB, hR, by rw [size_swp]; exact hn3, by rw [stepDown, if_neg (by omega)]⟩
        ·rintro D E w95 ⟨rfl, eK, g, e0, e1, e2, e7, e8, hB, hR, hn5, hge⟩
         rw [upd_self eK, upd_self e0, upd_self e1, upd_self e2, upd_self e7, upd_self e8]
         refine W.seq ?_
         refine W.region ?_
         refine L.val (x_mv (v := .int _ _) rfl) rfl ?_
         refine L.val (x_mv (v := .int _ _) rfl) rfl ?_
         refine L.val (x_sub rfl rfl (wr64 (by omega))) rfl ?_
         refine L.val (x_geq rfl rfl) rfl ?_
         refine L.nil ?_
         refine thn_n ?_
         refine W.cond (b := _) rfl (fun g104 => ?_) (fun g104 => ?_)
         ·have h104 := of_decide_eq_true g104
          refine W.seq ?_
          refine W.region ?_
          refine L.val (x_mv (v := .int _ _) rfl) rfl ?_
          refine L.val (x_add rfl rfl (wr64 (by omega))) rfl ?_
          refine L.val (x_as (v := .int _ _) rfl) rfl ?_
          refine L.nil ?_
          refine thn_n ?_
          refine W.block ?_
          refine W.loop (fun m' E w' => ∃ (j : Nat) (f : Array α), m' = e - j ∧ E 0 = .slice (some ⟨b, o, none⟩) n cap ∧ E 1 = .int .i64 (a : Nat) ∧ E 2 = .int .i64 (e : Nat) ∧ E 9 = .int .i64 (i2 : Nat) ∧ E 10 = .int .i64 (5 - (s : Nat)) ∧ E 12 = .int .i64 (j : Nat) ∧ E 3 = .func (.func gF) #[] cp.toArray ∧ (Gr (· = b) w w') ∧ (Row enc w' b o T hd f tl) ∧ (f.size = n) ∧ (i2 < j) ∧ (shiftUp (ltc cf) e j f = shiftUp (ltc cf) e (i2 + 1) g)) (e - (i2 + 1)) ?_ ?_
          ·exact ⟨i2 + 1, g, by omega, by first | rfl | exact vi (by omega), by first | rfl | exact vi (by omega), by first | rfl | exact vi (by omega), by first | rfl | exact vi (by omega), by first | rfl | exact vi (by omega), by first | rfl | exact vi (by omega), by first | rfl | exact vi (by omega), (by first | assumption | omega | rfl), (by first | assumption | omega | rfl), (by first | assumption | omega | rfl), (by first | assumption | omega | rfl), (by first | assumption | omega | rfl)⟩
          ·rintro _ E wL107 ⟨j, f, em, e0, e1, e2, e9, e10, e12, e3, hB, hR, hn4, hj, hq5⟩
           rw [upd_self e0, upd_self e1, upd_self e2, upd_self e9, upd_self e10, upd_self e12, upd_self e3]
           refine W.seq ?_
           refine W.seq ?_
           refine W.region ?_
           refine L.val (x_mv (v := .int _ _) rfl) rfl ?_
           refine L.val (x_mv (v := .int _ _) rfl) rfl ?_
           refine L.val (x_lss rfl rfl) rfl ?_
           refine L.nil ?_
           refine thn_n ?_
           refine W.cond (b := _) rfl (fun g109 => ?_) (fun g109 => ?_)
           ·have h109 := of_decide_eq_true g109
            refine W.skip ?_
            refine thn_n ?_
            refine W.seq ?_
            refine W.block ?_
            refine W.seq ?_
            refine W.seq ?_
            refine W.drawB ksrtc_mixed (by kernel_rfl) ?_
            refine LQ.val (fun w hw => x_mv (v := .func _ _ _) rfl) rfl ?_
            refine LQ.val (fun w hw => x_mv (v := .slice _ _ _) rfl) rfl ?_
            refine LQ.val (fun w hw => x_mv (v := .int _ _) rfl) rfl ?_
            refine LQ.val (fun w hw => x_ia1 (j := j) Tryz.underlying106 ksrtc_sz3 rfl rfl (by omega) (by omega)) rfl ?_
            refine LQ.val (fun w hw => x_ld (v := enc _) ksrtc_oc3 rfl (hw.keep (hR.at (i := j) (by omega)))) rfl ?_
            refine LQ.val (fun w hw => x_mv (v := .slice _ _ _) rfl) rfl ?_
            refine LQ.val (fun w hw => x_mv (v := .int _ _) rfl) rfl ?_
            refine LQ.val (fun w hw => x_sub rfl rfl (wr64 (by omega))) rfl ?_
            refine LQ.val (fun w hw => x_ia1 (j := j - 1) Tryz.underlying106 ksrtc_sz3 rfl rfl (by omega) (by omega)) rfl ?_
            refine LQ.val (fun w hw => x_ld (v := enc _) ksrtc_oc3 rfl (hw.keep (hR.at (i := j - 1) (by omega)))) rfl ?_
            refine LQ.ret (fun w => x_callv eg rfl rfl) (fun w hw => Ret.mono (hC.via hB hw _ _) (fun _ _ h => ⟨h.1, Gr.trans hw h.2⟩)) rfl ?_
            refine LQ.val (fun w hw => x_lss rfl rfl) rfl ?_
            refine LQ.val (fun w hw => x_not rfl) rfl ?_
            refine LQ.nil ?_
            intro w112 hw
            have hB := hB.carry hw; have hR := hR.carry hw
            refine thn_n ?_
            refine W.cond (b := _) rfl (fun g124 => ?_) (fun g124 => ?_)
            ·have h124 := (not_t g124)
             refine W.exit (thn_x (blk_miss rfl (thn_x (thn_x (blk_hit ?_)))))
             refine blk_n ?_
             refine thn_n ?_
             refine W.region ?_
             refine L.val (x_mv (v := .int _ _) rfl) rfl ?_
             refine L.val (x_add rfl rfl (wr64 (by omega))) rfl ?_
             refine L.val (x_as (v := .int _ _) rfl) rfl ?_
             refine L.nil ?_
             refine thn_n ⟨rfl, ?_⟩
             refine ⟨_, ?_, s - 1, i2, stepUp (ltc cf) e i2 g, rfl, by first | rfl | exact vi (by omega), by first | rfl | exact vi (by omega), by first | rfl | exact vi (by omega), by first | rfl | exact vi (by omega), by first | rfl | exact vi (by omega), by first | rfl | exact vi (by omega), (by exact hB), (by first | (rw [show stepUp (ltc cf) e i2 g = f from (if_pos (by omega)).trans (hq5.symm.trans (su_stop (lt := (ltc cf)) (.inl (by omega)))) ]; exact hR) | (rw [show stepUp (ltc cf) e i2 g = f from (if_pos (by omega)).trans (hq5.symm.trans (su_stop (lt := (ltc cf)) (.inr h124))) ]; exact hR) | (rw [show stepUp (ltc cf) e i2 g = g from if_neg (by omega)]; exact hR)), (by unfold stepUp; split; rw [size_su _ _ _ (Nat.lt_succ_self _)]; exact hn5; exact hn5), (by omega), (by rw [← hq, hge]; exact pins_pred hqs.symm (by omega) (by omega) (by omega))⟩
             omega
            ·have h124 := (not_f g124)
             refine W.skip ?_
             refine thn_n ?_
             refine W.drawS ksrtc_mixed ?_
             have hB := hB.carry (bel_drew _); have hR := hR.carry (bel_drew _)
             refine LA.take (i := 0) rfl (by kernel_rfl) (by kernel_rfl) (by kernel_rfl) (fun w => x_mv (v := .slice _ _ _) rfl) rfl ?_
             refine LA.take (i := 1) rfl (by kernel_rfl) (by kernel_rfl) (by kernel_rfl) (fun w => x_mv (v := .int _ _) rfl) rfl ?_
             refine LA.take (i := 2) rfl (by kernel_rfl) (by kernel_rfl) (by kernel_rfl) (fun w => x_mv (v := .slice _ _ _) rfl) rfl ?_
             refine LA.take (i := 3) rfl (by kernel_rfl) (by kernel_rfl) (by kernel_rfl) (fun w => x_mv (v := .int _ _) rfl) rfl ?_
             refine LA.take (i := 4) rfl (by kernel_rfl) (by kernel_rfl) (by kernel_rfl) (fun w => x_sub rfl rfl (wr64 (by omega))) rfl ?_
             refine LA.take (i := 5) rfl (by kernel_rfl) (by kernel_rfl) (by kernel_rfl) (fun w => x_mv (v := .slice _ _ _) rfl) rfl ?_
             refine LA.take (i := 6) rfl (by kernel_rfl) (by kernel_rfl) (by kernel_rfl) (fun w => x_mv (v := .int _ _) rfl) rfl ?_
             refine LA.take (i := 7) rfl (by kernel_rfl) (by kernel_rfl) (by kernel_rfl) (fun w => x_sub rfl rfl (wr64 (by omega))) rfl ?_
             refine LA.take (i := 8) rfl (by kernel_rfl) (by kernel_rfl) (by kernel_rfl) (fun w => x_ia1 (j := j - 1) Tryz.underlying106 ksrtc_sz3 rfl rfl (by omega) (by omega)) rfl ?_
             refine LA.take (i := 10) rfl (by kernel_rfl) (by kernel_rfl) (by kernel_rfl) (fun w => x_mv (v := .slice _ _ _) rfl) rfl ?_
             refine LA.take (i := 11) rfl (by kernel_rfl) (by kernel_rfl) (by kernel_rfl) (fun w => x_mv (v := .int _ _) rfl) rfl ?_
             refine LA.take (i := 12) rfl (by kernel_rfl) (by kernel_rfl) (by kernel_rfl) (fun w => x_ia1 (j := j) Tryz.underlying106 ksrtc_sz3 rfl rfl (by omega) (by omega)) rfl ?_
             refine LA.pair (i := 9) (j := 13) rfl rfl (by kernel_rfl) (by kernel_rfl) (by kernel_rfl) rfl rfl (x_ld (v := enc _) ksrtc_oc3 rfl (hR.at (i := j - 1) (by omega))) (x_ld (v := enc _) ksrtc_oc3 rfl (hR.at (i := j) (by omega))) (x_ld (v := enc _) ksrtc_oc3 rfl (hR.at (i := j) (by omega))) (x_ld (v := enc _) ksrtc_oc3 rfl (hR.at (i := j - 1) (by omega))) rfl rfl ?_
             refine LA.take (i := 14) rfl (by kernel_rfl) (by kernel_rfl) (by kernel_rfl) (fun w => x_ia1 (j := j) Tryz.underlying106 ksrtc_sz3 rfl rfl (by omega) (by omega)) rfl ?_
             refine LA.step (rs := [15]) (by kernel_rfl) (by simp) ⟨⟨_, rfl, ?_⟩, trivial⟩
             refine L.setAt (enc := enc) (j := j) ksrtc_sz3 rfl rfl (he1 _) hR (by omega) (fun wl137 hR hsl137 hw hzl137 => ?_)
             have hB := hB.trans hw
             refine L.nil ?_
             refine thn_n ?_
             refine LA.take (i := 16) rfl (by kernel_rfl) (by kernel_rfl) (by kernel_rfl) (fun w => x_ia1 (j := j - 1) Tryz.underlying106 ksrtc_sz3 rfl rfl (by omega) (by omega)) rfl ?_
             refine LA.step (rs := [17]) (by kernel_rfl) (by simp) ⟨⟨_, rfl, ?_⟩, trivial⟩
             refine L.setAt (enc := enc) (j := j - 1) ksrtc_sz3 rfl rfl (he1 _) hR (by omega) (fun wl139 hR hsl139 hw hzl139 => ?_)
             have hB := hB.trans hw
             refine L.nil ?_
             refine thn_n ?_
             refine LA.done (by kernel_rfl) ?_
             refine nrm_n ?_
             refine blk_n ?_
             refine thn_n ?_
             refine W.region ?_
             refine L.val (x_mv (v := .int _ _) rfl) rfl ?_
             refine L.val (x_add rfl rfl (wr64 (by omega))) rfl ?_
             refine L.val (x_as (v := .int _ _) rfl) rfl ?_
             refine L.nil ?_
             refine thn_n ⟨rfl, ?_⟩
             refine ⟨_, ?_, j + 1, swp f j (j - 1), rfl, by first | rfl | exact vi (by omega), by first | rfl | exact vi (by omega), by first | rfl | exact vi (by omega), by first | rfl | exact vi (by omega), by first | rfl | exact vi (by omega), by first | rfl | exact vi (by omega), by first | rfl | exact vi (by omega), (by first | assumption | omega | rfl), (by first | assumption | omega | rfl), (by rw [size_swp]; exact hn4), (by first | assumption | omega | rfl), (by rw [← hq5]; exact su_go (by omega) h124)⟩
             omega
           ·have h109 := dlt_f g109
            refine W.exit (thn_x (thn_x (blk_hit ?_)))
            refine blk_n ?_
            refine thn_n ?_
            refine W.region ?_
            refine L.val (x_mv (v := .int _ _) rfl) rfl ?_
            refine L.val (x_add rfl rfl (wr64 (by omega))) rfl ?_
            refine L.val (x_as (v := .int _ _) rfl) rfl ?_
            refine L.nil ?_
            refine thn_n ⟨rfl, ?_⟩
            refine ⟨_, ?_, s - 1, i2, stepUp (ltc cf) e i2 g, rfl, by first | rfl | exact vi (by omega), by first | rfl | exact vi (by omega), by first | rfl | exact vi (by omega), by first | rfl | exact vi (by omega), by first | rfl | exact vi (by omega), by first | rfl | exact vi (by omega), (by exact hB), (by first | (rw [show stepUp (ltc cf) e i2 g = f from (if_pos (by omega)).trans (hq5.symm.trans (su_stop (lt := (ltc cf)) (.inl (by omega)))) ]; exact hR) | (rw [show stepUp (ltc cf) e i2 g = f from (if_pos (by omega)).trans (hq5.symm.trans (su_stop (lt := (ltc cf)) (.inr h124))) ]; exact hR) | (rw [show stepUp (ltc cf) e i2 g = g from if_neg (by omega)]; exact hR)), (by unfold stepUp; split; rw [size_su _ _ _ (Nat.lt_succ_self _)]; exact hn5; exact hn5), (by omega), (by rw [← hq, hge]; exact pins_pred hqs.symm (by omega) (by omega) (by omega))⟩
            omega
         ·have h104 := dle_f g104
          refine W.skip ?_
          refine blk_n ?_
          refine thn_n ?_
          refine W.region ?_
          refine L.val (x_mv (v := .int _ _) rfl) rfl ?_
          refine L.val (x_add rfl rfl (wr64 (by omega))) rfl ?_
          refine L.val (x_as (v := .int _ _) rfl) rfl ?_
          refine L.nil ?_
          refine thn_n ⟨rfl, ?_⟩
          refine ⟨_, ?_, s - 1, i2, stepUp (ltc cf) e i2 g, rfl, by first | rfl | exact vi (by omega), by first | rfl | exact vi (by omega), by first | rfl | exact vi (by omega), by first | rfl | exact vi (by omega), by first | rfl | exact vi (by omega), by first | rfl | exact vi (by omega), (by exact hB), (by first | (rw [show stepUp (ltc cf) e i2 g = f from (if_pos (by omega)).trans (hq5.symm.trans (su_stop (lt := (ltc cf)) (.inl (by omega)))) ]; exact hR) | (rw [show stepUp (ltc cf) e i2 g = f from (if_pos (by omega)).trans (hq5.symm.trans (su_stop (lt := (ltc cf)) (.inr h124))) ]; exact hR) | (rw [show stepUp (ltc cf) e i2 g = g from if_neg (by omega)]; exact hR)), (by unfold stepUp; split; rw [size_su _ _ _ (Nat.lt_succ_self _)]; exact hn5; exact hn5), (by omega), (by rw [← hq, hge]; exact pins_pred hqs.symm (by omega) (by omega) (by omega))⟩
          omega
   ·have h16 := dlt_f g16
    refine W.exit (thn_x (thn_x (blk_hit ?_)))
    refine thn_n ?_
    refine W.seq ?_
    refine W.region ?_
    refine L.val (x_as (v := .bool _) rfl) rfl ?_
    refine L.nil ?_
    refine thn_n ?_
    refine W.ret (fin_mk (.inr rfl) ?_)
    have hpart : partialInsertionSort (ltc cf) d a e = (c, false) := by
      rw [← hq, show s = 0 by omega]; rfl
    rw [hpart]; exact ⟨rfl, hB, hR⟩
theorem break_okC (b o a e cap n : Nat) (T : TypeId) (hd tl : List Value) (d : Array α) (w : World) (hC : Cmp Tryz.prog enc gF cp cf b N0 w) (hR : Row enc w b o T hd d tl) (hn : d.size = n) (hc : n ≤ 2000000000000000000) (hae : a ≤ e) (he : e ≤ n) :
    Ret Tryz.prog 182 #[.slice (some ⟨b, o, none⟩) n cap, .int .i64 a, .int .i64 e, .func (.func gF) #[] cp.toArray] w fun v w' => v = .tuple #[] ∧ Gr (· = b) w w' ∧ ∃ d', Row enc w' b o T hd d' tl ∧ PermIn a e d d' := by
  refine ret_of_W Tryz.func182 rfl (Nat.le_of_ble_eq_true rfl) (res0 rfl) ?_
  have hB := Gr.refl (· = b) w
  have hbl := hR.lt
  obtain ⟨l, hl⟩ : ∃ l, l = e - a := ⟨_, rfl⟩
  refine W.seq ?_
  refine W.region ?_
  refine L.val (x_mv (v := .int _ _) rfl) rfl ?_
  refine L.val (x_mv (v := .int _ _) rfl) rfl ?_
  refine L.val (x_sub rfl rfl (wr64 (by omega))) rfl ?_
  refine L.val (x_as (v := .int _ _) rfl) rfl ?_
  refine L.nil ?_
  refine thn_n ?_
  refine W.seq ?_
  refine W.region ?_
  refine L.val (x_mv (v := .int _ _) rfl) rfl ?_
  refine L.val (x_geq rfl rfl) rfl ?_
  refine L.nil ?_
  refine thn_n ?_
  refine W.cond (b := _) rfl (fun g17 => ?_) (fun g17 => ?_)
  ·have h17 := of_decide_eq_true g17
   refine W.seq ?_
   refine W.region ?_
   refine L.val (x_mv (v := .int _ _) rfl) rfl ?_
   refine L.val (x_conv (k' := .u64) (by rw [Tryz.underlying3]; rfl) Tryz.underlying168 rfl (wru64 (by omega))) rfl ?_
   refine L.alloc (cs := [Value.int .u64 0]) ksrtc_zr168 rfl rfl (fun w9 bx9 hw hz9 => ?_)
   have hB := hB.carry hw; have hR := hR.carry hw
   refine L.set (v := .int _ _) ksrtc_sz168 rfl rfl rfl bx9 rfl (fun wl10 bx9 hw hzl10 => ?_)
   have hB := hB.set hw (by omega); have hR := hR.carryR hw (by omega)
   refine L.nil ?_
   refine thn_n ?_
   refine W.seq ?_
   refine W.region ?_
   refine L.val (x_mv (v := .int _ _) rfl) rfl ?_
   have hle : ((e : Nat) : Int) - (a : Nat) = ((l : Nat) : Int) := by omega
   rw [hle]
   refine L.ret (x_call ksrtc_en200 rfl) rfl (pow_ok l _ (by omega) (by omega)) ?_
   rintro _ w19 ⟨m, rfl, hm1, hm2, hw⟩
   have hB := hB.carry hw; have hR := hR.carry hw; have bx9 := bx9.carry hw
   refine L.val (x_as (v := .int _ _) rfl) rfl ?_
   refine L.nil ?_
   refine thn_n ?_
   refine W.seq ?_
   refine W.region ?_
   refine L.val (x_mv (v := .int _ _) rfl) rfl ?_
   refine L.val (x_mv (v := .int _ _) rfl) rfl ?_
   refine L.val (x_quo rfl rfl (by decide) (wq64 (by omega) (by decide))) rfl ?_
   refine L.val (x_mul rfl rfl (wr64 (by omega))) rfl ?_
   refine L.val (x_add rfl rfl (wr64 (by omega))) rfl ?_
   refine L.val (x_sub rfl rfl (wr64 (by omega))) rfl ?_
   refine L.val (x_as (v := .int _ _) rfl) rfl ?_
   refine L.nil ?_
   refine thn_n ?_
   refine W.block ?_
   refine W.loop (fun m' E w' => ∃ (i : Nat) (g : Array α) (r : Int), m' = a + l / 4 * 2 + 2 - i ∧ E 0 = .slice (some ⟨b, o, none⟩) n cap ∧ E 1 = .int .i64 (a : Nat) ∧ E 8 = .int .i64 ((e : Nat) - (a : Nat)) ∧ E 9 = .pointer (some ⟨w.heap.size, 0, none⟩) ∧ E 10 = .int .u64 (m : Nat) ∧ E 11 = .int .i64 (i : Nat) ∧ E 3 = .func (.func gF) #[] cp.toArray ∧ (Gr (· = b) w w') ∧ (Row enc w' b o T hd g tl) ∧ (Box w' w.heap.size 168 [.int .u64 r]) ∧ (PermIn a e d g) ∧ (a + l / 4 * 2 ≤ i + 1)) (a + l / 4 * 2 + 2 - (a + l / 4 * 2 - 1)) ?_ ?_
   ·exact ⟨a + l / 4 * 2 - 1, d, _, by omega, by first | rfl | exact vi (by omega), by first | rfl | exact vi (by omega), by first | rfl | exact vi (by omega), by first | rfl | exact vi (by omega), by first | rfl | exact vi (by omega), by first | rfl | exact vi (by omega), by first | rfl | exact vi (by omega), (by first | assumption | omega | rfl), (by first | assumption | omega | rfl), (by exact bx9), (by exact permIn_refl _ _ _), (by first | assumption | omega | rfl)⟩
   ·rintro _ E wL28 ⟨i, g, r, em, e0, e1, e8, e9, e10, e11, e3, hB, hR, bx9, hP, hi⟩
    rw [upd_self e0, upd_self e1, upd_self e8, upd_self e9, upd_self e10, upd_self e11, upd_self e3]
    refine W.seq ?_
    refine W.seq ?_
    refine W.region ?_
    refine L.val (x_mv (v := .int _ _) rfl) rfl ?_
    refine L.val (x_mv (v := .int _ _) rfl) rfl ?_
    refine L.val (x_mv (v := .int _ _) rfl) rfl ?_
    refine L.val (x_quo rfl rfl (by decide) (wq64 (by omega) (by decide))) rfl ?_
    refine L.val (x_mul rfl rfl (wr64 (by omega))) rfl ?_
    refine L.val (x_add rfl rfl (wr64 (by omega))) rfl ?_
    refine L.val (x_add rfl rfl (wr64 (by omega))) rfl ?_
    refine L.val (x_leq rfl rfl) rfl ?_
    refine L.nil ?_
    refine thn_n ?_
    refine W.cond (b := _) rfl (fun g35 => ?_) (fun g35 => ?_)
    ·have h35 := of_decide_eq_true g35
     refine W.skip ?_
     refine thn_n ?_
     refine W.seq ?_
     refine W.block ?_
     refine W.seq ?_
     refine W.region ?_
     refine L.ret (x_call ksrtc_en201 rfl) rfl (next_ok w.heap.size r _ bx9) ?_
     rintro _ w36 ⟨r2, rfl, hg, bx9⟩
     have hB := hB.set hg (by omega)
     have hR := hR.carryR hg (by omega)
     have hsz := hP.1
     refine L.val (x_mv (v := .int _ _) rfl) rfl ?_
     refine L.val (x_sub rfl rfl (wru64 (by omega))) rfl ?_
     have hx := and_le (a := r2) (b := (m : Int) - 1) (by omega)
     refine L.val (x_band rfl rfl) rfl ?_
     refine L.val (x_conv (k' := .i64) (by rw [Tryz.underlying111]; rfl) Tryz.underlying3 rfl (wr64 (by omega))) rfl ?_
     refine L.val (x_as (v := .int _ _) rfl) rfl ?_
     refine L.nil ?_
     refine thn_n ?_
     refine W.seq ?_
     refine W.seq ?_
     refine W.region ?_
     refine L.val (x_mv (v := .int _ _) rfl) rfl ?_
     refine L.val (x_mv (v := .int _ _) rfl) rfl ?_
     refine L.val (x_geq rfl rfl) rfl ?_
     refine L.nil ?_
     refine thn_n ?_
     refine W.cond (b := _) rfl (fun g45 => ?_) (fun g45 => ?_)
     ·have h45 := of_decide_eq_true g45
      obtain ⟨ot, hot⟩ : ∃ ot : Nat, (ot : Int) = bits .and .u64 r2 ((m : Int) - 1) - ((e : Nat) - (a : Nat)) := ⟨_, Int.toNat_of_nonneg (by omega)⟩
      refine W.region ?_
      refine L.val (x_mv (v := .int _ _) rfl) rfl ?_
      refine L.val (x_mv (v := .int _ _) rfl) rfl ?_
      refine L.val (x_sub rfl rfl (wr64 (by omega))) rfl ?_
      refine L.val (x_as (v := .int _ _) rfl) rfl ?_
      refine L.nil ?_
      refine thn_n ?_
      refine W.drawS ksrtc_mixed ?_
      have hB := hB.carry (bel_drew _); have hR := hR.carry (bel_drew _); have bx9 := bx9.carry (bel_drew _)
      refine LA.take (i := 0) rfl (by kernel_rfl) (by kernel_rfl) (by kernel_rfl) (fun w => x_mv (v := .slice _ _ _) rfl) rfl ?_
      refine LA.take (i := 1) rfl (by kernel_rfl) (by kernel_rfl) (by kernel_rfl) (fun w => x_mv (v := .int _ _) rfl) rfl ?_
      refine LA.take (i := 2) rfl (by kernel_rfl) (by kernel_rfl) (by kernel_rfl) (fun w => x_mv (v := .slice _ _ _) rfl) rfl ?_
      refine LA.take (i := 3) rfl (by kernel_rfl) (by kernel_rfl) (by kernel_rfl) (fun w => x_mv (v := .int _ _) rfl) rfl ?_
      refine LA.take (i := 4) rfl (by kernel_rfl) (by kernel_rfl) (by kernel_rfl) (fun w => x_mv (v := .int _ _) rfl) rfl ?_
      refine LA.take (i := 5) rfl (by kernel_rfl) (by kernel_rfl) (by kernel_rfl) (fun w => x_add rfl rfl (wr64 (by omega))) rfl ?_
      refine LA.take (i := 6) rfl (by kernel_rfl) (by kernel_rfl) (by kernel_rfl) (fun w => x_mv (v := .slice _ _ _) rfl) rfl ?_
      refine LA.take (i := 7) rfl (by kernel_rfl) (by kernel_rfl) (by kernel_rfl) (fun w => x_mv (v := .int _ _) rfl) rfl ?_
      refine LA.take (i := 8) rfl (by kernel_rfl) (by kernel_rfl) (by kernel_rfl) (fun w => x_mv (v := .int _ _) rfl) rfl ?_
      refine LA.take (i := 9) rfl (by kernel_rfl) (by kernel_rfl) (by kernel_rfl) (fun w => x_add rfl rfl (wr64 (by omega))) rfl ?_
      refine LA.take (i := 10) rfl (by kernel_rfl) (by kernel_rfl) (by kernel_rfl) (fun w => x_ia1 (j := a + ot) Tryz.underlying106 ksrtc_sz3 rfl rfl (by omega) (by omega)) rfl ?_
      refine LA.take (i := 12) rfl (by kernel_rfl) (by kernel_rfl) (by kernel_rfl) (fun w => x_mv (v := .slice _ _ _) rfl) rfl ?_
      refine LA.take (i := 13) rfl (by kernel_rfl) (by kernel_rfl) (by kernel_rfl) (fun w => x_mv (v := .int _ _) rfl) rfl ?_
      refine LA.take (i := 14) rfl (by kernel_rfl) (by kernel_rfl) (by kernel_rfl) (fun w => x_ia1 (j := i) Tryz.underlying106 ksrtc_sz3 rfl rfl (by omega) (by omega)) rfl ?_
      refine LA.pair (i := 11) (j := 15) rfl rfl (by kernel_rfl) (by kernel_rfl) (by kernel_rfl) rfl rfl (x_ld (v := enc _) ksrtc_oc3 rfl (hR.at (i := a + ot) (by omega))) (x_ld (v := enc _) ksrtc_oc3 rfl (hR.at (i := i) (by omega))) (x_ld (v := enc _) ksrtc_oc3 rfl (hR.at (i := i) (by omega))) (x_ld (v := enc _) ksrtc_oc3 rfl (hR.at (i := a + ot) (by omega))) rfl rfl ?_
      refine LA.take (i := 16) rfl (by kernel_rfl) (by kernel_rfl) (by kernel_rfl) (fun w => x_ia1 (j := i) Tryz.underlying106 ksrtc_sz3 rfl rfl (by omega) (by omega)) rfl ?_
      refine LA.step (rs := [17]) (by kernel_rfl) (by simp) ⟨⟨_, rfl, ?_⟩, trivial⟩
      refine L.setAt (enc := enc) (j := i) ksrtc_sz3 rfl rfl (he1 _) hR (by omega) (fun wl59 hR hsl59 hw hzl59 => ?_)
      have hB := hB.trans hw; have bx9 := bx9.carryR hw (by omega)
      refine L.nil ?_
      refine thn_n ?_
      refine LA.take (i := 18) rfl (by kernel_rfl) (by kernel_rfl) (by kernel_rfl) (fun w => x_ia1 (j := a + ot) Tryz.underlying106 ksrtc_sz3 rfl rfl (by omega) (by omega)) rfl ?_
      refine LA.step (rs := [19]) (by kernel_rfl) (by simp) ⟨⟨_, rfl, ?_⟩, trivial⟩
      refine L.setAt (enc := enc) (j := a + ot) ksrtc_sz3 rfl rfl (he1 _) hR (by omega) (fun wl61 hR hsl61 hw hzl61 => ?_)
      have hB := hB.trans hw; have bx9 := bx9.carryR hw (by omega)
      refine L.nil ?_
      refine thn_n ?_
      refine LA.done (by kernel_rfl) ?_
      refine nrm_n ?_
      refine blk_n ?_
      refine thn_n ?_
      refine W.region ?_
      refine L.val (x_mv (v := .int _ _) rfl) rfl ?_
      refine L.val (x_add rfl rfl (wr64 (by omega))) rfl ?_
      refine L.val (x_as (v := .int _ _) rfl) rfl ?_
      refine L.nil ?_
      refine thn_n ⟨rfl, ?_⟩
      refine ⟨_, ?_, i + 1, swp g i (a + ot), _, rfl, by first | rfl | exact vi (by omega), by first | rfl | exact vi (by omega), by first | rfl | exact vi (by omega), by first | rfl | exact vi (by omega), by first | rfl | exact vi (by omega), by first | rfl | exact vi (by omega), by first | rfl | exact vi (by omega), (by first | assumption | omega | rfl), (by first | assumption | omega | rfl), (by exact bx9), (by exact permIn_trans _ _ _ _ _ hP (swp_permIn _ _ _ _ _ (by omega) (by omega) (by omega) (by omega) (by omega))), (by first | assumption | omega | rfl)⟩
      omega
     ·have h45 := dle_f g45
      obtain ⟨ot, hot⟩ : ∃ ot : Nat, (ot : Int) = bits .and .u64 r2 ((m : Int) - 1) := ⟨_, Int.toNat_of_nonneg (by omega)⟩
      refine W.skip ?_
      refine thn_n ?_
      refine W.drawS ksrtc_mixed ?_
      have hB := hB.carry (bel_drew _); have hR := hR.carry (bel_drew _); have bx9 := bx9.carry (bel_drew _)
      refine LA.take (i := 0) rfl (by kernel_rfl) (by kernel_rfl) (by kernel_rfl) (fun w => x_mv (v := .slice _ _ _) rfl) rfl ?_
      refine LA.take (i := 1) rfl (by kernel_rfl) (by kernel_rfl) (by kernel_rfl) (fun w => x_mv (v := .int _ _) rfl) rfl ?_
      refine LA.take (i := 2) rfl (by kernel_rfl) (by kernel_rfl) (by kernel_rfl) (fun w => x_mv (v := .slice _ _ _) rfl) rfl ?_
      refine LA.take (i := 3) rfl (by kernel_rfl) (by kernel_rfl) (by kernel_rfl) (fun w => x_mv (v := .int _ _) rfl) rfl ?_
      refine LA.take (i := 4) rfl (by kernel_rfl) (by kernel_rfl) (by kernel_rfl) (fun w => x_mv (v := .int _ _) rfl) rfl ?_
      refine LA.take (i := 5) rfl (by kernel_rfl) (by kernel_rfl) (by kernel_rfl) (fun w => x_add rfl rfl (wr64 (by omega))) rfl ?_
      refine LA.take (i := 6) rfl (by kernel_rfl) (by kernel_rfl) (by kernel_rfl) (fun w => x_mv (v := .slice _ _ _) rfl) rfl ?_
      refine LA.take (i := 7) rfl (by kernel_rfl) (by kernel_rfl) (by kernel_rfl) (fun w => x_mv (v := .int _ _) rfl) rfl ?_
      refine LA.take (i := 8) rfl (by kernel_rfl) (by kernel_rfl) (by kernel_rfl) (fun w => x_mv (v := .int _ _) rfl) rfl ?_
      refine LA.take (i := 9) rfl (by kernel_rfl) (by kernel_rfl) (by kernel_rfl) (fun w => x_add rfl rfl (wr64 (by omega))) rfl ?_
      refine LA.take (i := 10) rfl (by kernel_rfl) (by kernel_rfl) (by kernel_rfl) (fun w => x_ia1 (j := a + ot) Tryz.underlying106 ksrtc_sz3 rfl rfl (by omega) (by omega)) rfl ?_
      refine LA.take (i := 12) rfl (by kernel_rfl) (by kernel_rfl) (by kernel_rfl) (fun w => x_mv (v := .slice _ _ _) rfl) rfl ?_
      refine LA.take (i := 13) rfl (by kernel_rfl) (by kernel_rfl) (by kernel_rfl) (fun w => x_mv (v := .int _ _) rfl) rfl ?_
      refine LA.take (i := 14) rfl (by kernel_rfl) (by kernel_rfl) (by kernel_rfl) (fun w => x_ia1 (j := i) Tryz.underlying106 ksrtc_sz3 rfl rfl (by omega) (by omega)) rfl ?_
      refine LA.pair (i := 11) (j := 15) rfl rfl (by kernel_rfl) (by kernel_rfl) (by kernel_rfl) rfl rfl (x_ld (v := enc _) ksrtc_oc3 rfl (hR.at (i := a + ot) (by omega))) (x_ld (v := enc _) ksrtc_oc3 rfl (hR.at (i := i) (by omega))) (x_ld (v := enc _) ksrtc_oc3 rfl (hR.at (i := i) (by omega))) (x_ld (v := enc _) ksrtc_oc3 rfl (hR.at (i := a + ot) (by omega))) rfl rfl ?_
      refine LA.take (i := 16) rfl (by kernel_rfl) (by kernel_rfl) (by kernel_rfl) (fun w => x_ia1 (j := i) Tryz.underlying106 ksrtc_sz3 rfl rfl (by omega) (by omega)) rfl ?_
      refine LA.step (rs := [17]) (by kernel_rfl) (by simp) ⟨⟨_, rfl, ?_⟩, trivial⟩
      refine L.setAt (enc := enc) (j := i) ksrtc_sz3 rfl rfl (he1 _) hR (by omega) (fun wl59 hR hsl59 hw hzl59 => ?_)
      have hB := hB.trans hw; have bx9 := bx9.carryR hw (by omega)
      refine L.nil ?_
      refine thn_n ?_
      refine LA.take (i := 18) rfl (by kernel_rfl) (by kernel_rfl) (by kernel_rfl) (fun w => x_ia1 (j := a + ot) Tryz.underlying106 ksrtc_sz3 rfl rfl (by omega) (by omega)) rfl ?_
      refine LA.step (rs := [19]) (by kernel_rfl) (by simp) ⟨⟨_, rfl, ?_⟩, trivial⟩
      refine L.setAt (enc := enc) (j := a + ot) ksrtc_sz3 rfl rfl (he1 _) hR (by omega) (fun wl61 hR hsl61 hw hzl61 => ?_)
      have hB := hB.trans hw; have bx9 := bx9.carryR hw (by omega)
      refine L.nil ?_
      refine thn_n ?_
      refine LA.done (by kernel_rfl) ?_
      refine nrm_n ?_
      refine blk_n ?_
      refine thn_n ?_
      refine W.region ?_
      refine L.val (x_mv (v := .int _ _) rfl) rfl ?_
      refine L.val (x_add rfl rfl (wr64 (by omega))) rfl ?_
      refine L.val (x_as (v := .int _ _) rfl) rfl ?_
      refine L.nil ?_
      refine thn_n ⟨rfl, ?_⟩
      refine ⟨_, ?_, i + 1, swp g i (a + ot), _, rfl, by first | rfl | exact vi (by omega), by first | rfl | exact vi (by omega), by first | rfl | exact vi (by omega), by first | rfl | exact vi (by omega), by first | rfl | exact vi (by omega), by first | rfl | exact vi (by omega), by first | rfl | exact vi (by omega), (by first | assumption | omega | rfl), (by first | assumption | omega | rfl), (by exact bx9), (by exact permIn_trans _ _ _ _ _ hP (swp_permIn _ _ _ _ _ (by omega) (by omega) (by omega) (by omega) (by omega))), (by first | assumption | omega | rfl)⟩
      omega
    ·have h35 := dle_f g35
     refine W.exit (thn_x (thn_x (blk_hit ?_)))
     refine fin_mk (.inl rfl) ?_
     first
     | exact ⟨rfl, hB, g, hR, hP⟩
     | exact ⟨rfl, hB, d, hR, permIn_refl _ _ _⟩
  ·have h17 := dle_f g17
   refine W.skip ?_
   refine fin_mk (.inl rfl) ?_
   first
   | exact ⟨rfl, hB, g, hR, hP⟩
   | exact ⟨rfl, hB, d, hR, permIn_refl _ _ _⟩
theorem part_ok2C (b o a e q cap n : Nat) (T : TypeId) (hd tl : List Value) (d : Array α) (w : World) (hC : Cmp Tryz.prog enc gF cp cf b N0 w) (hR : Row enc w b o T hd d tl) (hn : d.size = n) (hc : n ≤ 2000000000000000000) (haq : a ≤ q) (hqe : q < e) (he : e ≤ n) :
    Ret Tryz.prog 187 #[.slice (some ⟨b, o, none⟩) n cap, .int .i64 a, .int .i64 e, .int .i64 q, .func (.func gF) #[] cp.toArray] w fun v w' => ∃ mid ap g, partition (ltc cf) d a e q = (mid, ap, g) ∧ v = .tuple #[.int .i64 (mid : Nat), .bool ap] ∧ Gr (· = b) w w' ∧ Row enc w' b o T hd g tl :=
  (partition_okC eg he1 b o a e q cap n T hd tl d w hC hR hn hc haq hqe he).mono fun _ _ ⟨h1, h2, h3⟩ => ⟨_, _, _, rfl, h1, h2, h3⟩
theorem parteq_ok2C (b o a e q cap n : Nat) (T : TypeId) (hd tl : List Value) (d : Array α) (w : World) (hC : Cmp Tryz.prog enc gF cp cf b N0 w) (hR : Row enc w b o T hd d tl) (hn : d.size = n) (hc : n ≤ 2000000000000000000) (haq : a ≤ q) (hqe : q < e) (he : e ≤ n) :
    Ret Tryz.prog 186 #[.slice (some ⟨b, o, none⟩) n cap, .int .i64 a, .int .i64 e, .int .i64 q, .func (.func gF) #[] cp.toArray] w fun v w' => ∃ mid g, partitionEqual (ltc cf) d a e q = (mid, g) ∧ v = .int .i64 (mid : Nat) ∧ Gr (· = b) w w' ∧ Row enc w' b o T hd g tl :=
  (parteq_okC eg he1 b o a e q cap n T hd tl d w hC hR hn hc haq hqe he).mono fun _ _ ⟨h1, h2, h3⟩ => ⟨_, _, rfl, h1, h2, h3⟩
theorem pdq_okC (b o cap n : Nat) (T : TypeId) (hd tl : List Value) (hc : n ≤ 2000000000000000000) (hS : SWO (ltc cf)) : ∀ (N a e l : Nat) (d : Array α) (w : World), Cmp Tryz.prog enc gF cp cf b N0 w → e - a < N → Row enc w b o T hd d tl → d.size = n → a ≤ e → e ≤ n → l ≤ 2000000000000000000 → Go.Sort.Below (ltc cf) a e d →
    Ret Tryz.prog 157 #[.slice (some ⟨b, o, none⟩) n cap, .int .i64 a, .int .i64 e, .int .i64 l, .func (.func gF) #[] cp.toArray] w fun v w' => v = .tuple #[] ∧ Gr (· = b) w w' ∧ ∃ d', Row enc w' b o T hd d' tl ∧ PermIn a e d d' ∧ SortedIn (ltc cf) a e d' := by
  intro N
  induction N with
  | zero => intro a e l d w _ h; omega
  | succ N ih =>
    intro a e l0 d w hC hN hR hn hae he hl0 hBl
    refine ret_of_W Tryz.func157 rfl (Nat.le_of_ble_eq_true rfl) (res0 rfl) ?_
    have hps : PS (ltc cf) enc b o n T hd tl a e d w a e d w := ⟨Gr.refl _ _, hR, hn, Nat.le_refl _, hae, Nat.le_refl _, hBl, fun c' h1 h2 => ⟨h1, h2⟩⟩
    refine W.seq ?_
    refine W.region ?_
    refine L.val (x_as (v := .bool _) rfl) rfl ?_
    refine L.nil ?_
    refine thn_n ?_
    refine W.seq ?_
    refine W.region ?_
    refine L.val (x_as (v := .bool _) rfl) rfl ?_
    refine L.nil ?_
    refine thn_n ?_
    refine W.block ?_
    refine W.loop (fun m' E w' => ∃ (a1 z1 l : Nat) (wb wp : Bool) (c : Array α), m' = z1 - a1 ∧ E 0 = .slice (some ⟨b, o, none⟩) n cap ∧ E 1 = .int .i64 (a1 : Nat) ∧ E 2 = .int .i64 (z1 : Nat) ∧ E 3 = .int .i64 (l : Nat) ∧ E 10 = .bool wb ∧ E 11 = .bool wp ∧ E 4 = .func (.func gF) #[] cp.toArray ∧ (l ≤ 2000000000000000000) ∧ (PS (ltc cf) enc b o n T hd tl a e d w a1 z1 c w')) (e - a) ?_ ?_
    ·exact ⟨a, e, l0, true, true, d, by omega, by first | rfl | exact vi (by omega), by first | rfl | exact vi (by omega), by first | rfl | exact vi (by omega), by first | rfl | exact vi (by omega), by first | rfl | exact vi (by omega), by first | rfl | exact vi (by omega), by first | rfl | exact vi (by omega), (by first | assumption | omega | rfl), (by first | assumption | omega | rfl)⟩
    ·rintro _ E wL21 ⟨a1, z1, l, wb, wp, c, em, e0, e1, e2, e3, e10, e11, e4, hl, hps⟩
     rw [upd_self e0, upd_self e1, upd_self e2, upd_self e3, upd_self e10, upd_self e11, upd_self e4]
     refine W.block ?_
     refine W.seq ?_
     refine W.region ?_
     have q1 := hps.lo
     have q2 := hps.mid
     have q3 := hps.hi
     have q4 := hps.size
     refine L.val (x_mv (v := .int _ _) rfl) rfl ?_
     refine L.val (x_mv (v := .int _ _) rfl) rfl ?_
     refine L.val (x_sub rfl rfl (wr64 (by omega))) rfl ?_
     refine L.val (x_as (v := .int _ _) rfl) rfl ?_
     refine L.nil ?_
     refine thn_n ?_
     refine W.seq ?_
     refine W.seq ?_
     refine W.region ?_
     refine L.val (x_mv (v := .int _ _) rfl) rfl ?_
     refine L.val (x_leq rfl rfl) rfl ?_
     refine L.nil ?_
     refine thn_n ?_
     refine W.cond (b := _) rfl (fun g25 => ?_) (fun g25 => ?_)
     ·have h25 := of_decide_eq_true g25
      refine W.seq ?_
      refine W.region ?_
      refine L.val (x_mv (v := .slice _ _ _) rfl) rfl ?_
      refine L.val (x_mv (v := .int _ _) rfl) rfl ?_
      refine L.val (x_mv (v := .int _ _) rfl) rfl ?_
      refine L.val (x_mv (v := .func _ _ _) rfl) rfl ?_
      refine L.ret (x_call ksrtc_en180 rfl) rfl (insertion_okC eg he1 b o a1 z1 cap n T hd tl c _ (hC.mv hps.gr) hps.row hps.size (by omega) hps.mid (by omega)) ?_
      rintro _ w27 ⟨rfl, hg, hR⟩
      refine L.nil ?_
      refine thn_n ?_
      refine W.ret (thn_r (blk_r (thn_r (blk_r (fin_mk (.inr rfl) ?_)))))
      obtain ⟨h1, h2⟩ := insertionSort_holds hS c a1 z1 hps.mid (by omega)
      exact ⟨rfl, hps.gr.trans hg, _, hR, hps.fin _ h1 h2⟩
     ·have h25 := dle_f g25
      refine W.skip ?_
      refine thn_n ?_
      refine W.seq ?_
      refine W.seq ?_
      refine W.region ?_
      refine L.val (x_mv (v := .int _ _) rfl) rfl ?_
      refine L.val (x_eql rfl rfl) rfl ?_
      refine L.nil ?_
      refine thn_n ?_
      refine W.cond (b := _) rfl (fun g32 => ?_) (fun g32 => ?_)
      ·have h32 := of_decide_eq_true g32
       refine W.seq ?_
       refine W.region ?_
       refine L.val (x_mv (v := .slice _ _ _) rfl) rfl ?_
       refine L.val (x_mv (v := .int _ _) rfl) rfl ?_
       refine L.val (x_mv (v := .int _ _) rfl) rfl ?_
       refine L.val (x_mv (v := .func _ _ _) rfl) rfl ?_
       refine L.ret (x_call ksrtc_en181 rfl) rfl (heap_okC eg he1 b o a1 z1 cap n T hd tl c _ (hC.mv hps.gr) hps.row hps.size hc (by omega) (by omega)) ?_
       rintro _ w33 ⟨rfl, hg, hR⟩
       refine L.nil ?_
       refine thn_n ?_
       refine W.ret (thn_r (blk_r (thn_r (blk_r (fin_mk (.inr rfl) ?_)))))
       obtain ⟨h1, h2⟩ := heapSort_holds hS c a1 z1 hps.mid (by omega)
       exact ⟨rfl, hps.gr.trans hg, _, hR, hps.fin _ h1 h2⟩
      ·have h32 := of_decide_eq_false g32
       refine W.skip ?_
       refine thn_n ?_
       refine W.cut (fun D' E' w' => D' = [] ∧ E' 4 = .func (.func gF) #[] cp.toArray ∧ ∃ (l : Nat) (c : Array α), E' 0 = .slice (some ⟨b, o, none⟩) n cap ∧ E' 1 = .int .i64 (a1 : Nat) ∧ E' 2 = .int .i64 (z1 : Nat) ∧ E' 3 = .int .i64 (l : Nat) ∧ E' 10 = .bool wb ∧ E' 11 = .bool wp ∧ E' 12 = .int .i64 ((z1 : Nat) - (a1 : Nat)) ∧ l ≤ 2000000000000000000 ∧ PS (ltc cf) enc b o n T hd tl a e d w a1 z1 c w') ?_ ?_
       ·refine W.seq ?_
        refine W.region ?_
        refine L.val (x_mv (v := .bool _) rfl) rfl ?_
        refine L.val (x_not rfl) rfl ?_
        refine L.nil ?_
        refine thn_n ?_
        refine W.cond (b := _) rfl (fun g39 => ?_) (fun g39 => ?_)
        ·have h39 := (not_t g39)
         refine W.seq ?_
         refine W.region ?_
         refine L.val (x_mv (v := .slice _ _ _) rfl) rfl ?_
         refine L.val (x_mv (v := .int _ _) rfl) rfl ?_
         refine L.val (x_mv (v := .int _ _) rfl) rfl ?_
         refine L.val (x_mv (v := .func _ _ _) rfl) rfl ?_
         refine L.ret (x_call ksrtc_en182 rfl) rfl (break_okC eg he1 b o a1 z1 cap n T hd tl c _ (hC.mv hps.gr) hps.row hps.size hc (by omega) (by omega)) ?_
         rintro _ w39 ⟨rfl, hg, c1, hR, hP⟩
         have hps := hps.perm he hg hR hP
         refine L.nil ?_
         refine thn_n ?_
         refine W.region ?_
         refine L.val (x_mv (v := .int _ _) rfl) rfl ?_
         refine L.val (x_sub rfl rfl (wr64 (by omega))) rfl ?_
         refine L.val (x_as (v := .int _ _) rfl) rfl ?_
         refine L.nil ?_
         refine thn_n ?_
         first
           | exact ⟨rfl, rfl, l, c, rfl, rfl, rfl, rfl, rfl, rfl, rfl, hl, hps⟩
           | exact ⟨rfl, rfl, l - 1, c1, rfl, rfl, rfl, vi (by omega), rfl, rfl, rfl, by omega, hps⟩
        ·have h39 := (not_f g39)
         refine W.skip ?_
         refine thn_n ?_
         first
           | exact ⟨rfl, rfl, l, c, rfl, rfl, rfl, rfl, rfl, rfl, rfl, hl, hps⟩
           | exact ⟨rfl, rfl, l - 1, c1, rfl, rfl, rfl, vi (by omega), rfl, rfl, rfl, by omega, hps⟩
       ·rintro D E w43 ⟨rfl, eK, l, c, e0, y1q, e2, e3, e8, e9, e10, hl, hps⟩
        rw [upd_self eK, upd_self e0, upd_self y1q, upd_self e2, upd_self e3, upd_self e8, upd_self e9, upd_self e10]
        have q4 := hps.size
        refine W.seq ?_
        refine W.region ?_
        refine L.val (x_mv (v := .slice _ _ _) rfl) rfl ?_
        refine L.val (x_mv (v := .int _ _) rfl) rfl ?_
        refine L.val (x_mv (v := .int _ _) rfl) rfl ?_
        refine L.val (x_mv (v := .func _ _ _) rfl) rfl ?_
        refine L.ret (x_call ksrtc_en183 rfl) rfl (pivot_okC eg he1 b o a1 z1 cap n T hd tl c _ (hC.mv hps.gr) hps.row hps.size hc (by omega) (by omega)) ?_
        rintro _ w46 ⟨pv, ht, rfl, v1, v2, hw⟩
        have hps := hps.carry hw
        refine L.val (x_mv (v := _) rfl) rfl ?_
        refine L.val (x_ext (v := .int _ _) rfl rfl) rfl ?_
        refine L.val (x_ext (v := .int _ _) rfl rfl) rfl ?_
        refine L.val (x_as (v := .int _ _) rfl) rfl ?_
        refine L.val (x_as (v := .int _ _) rfl) rfl ?_
        refine L.nil ?_
        refine thn_n ?_
        refine W.cut (fun D' E' w' => D' = [] ∧ E' 4 = .func (.func gF) #[] cp.toArray ∧ ∃ (pv ht : Nat) (c : Array α), E' 0 = .slice (some ⟨b, o, none⟩) n cap ∧ E' 1 = .int .i64 (a1 : Nat) ∧ E' 2 = .int .i64 (z1 : Nat) ∧ E' 3 = .int .i64 (l : Nat) ∧ E' 10 = .bool wb ∧ E' 11 = .bool wp ∧ E' 12 = .int .i64 ((z1 : Nat) - (a1 : Nat)) ∧ E' 13 = .int .i64 (pv : Nat) ∧ E' 14 = .int .i64 (ht : Nat) ∧ a1 ≤ pv ∧ pv < z1 ∧ PS (ltc cf) enc b o n T hd tl a e d w a1 z1 c w') ?_ ?_
        ·refine W.seq ?_
         refine W.region ?_
         refine L.val (x_mv (v := .int _ _) rfl) rfl ?_
         refine L.val (x_eql rfl rfl) rfl ?_
         refine L.nil ?_
         refine thn_n ?_
         refine W.cond (b := _) rfl (fun g56 => ?_) (fun g56 => ?_)
         ·have h56 := of_decide_eq_true g56
          refine W.seq ?_
          refine W.region ?_
          refine L.val (x_mv (v := .slice _ _ _) rfl) rfl ?_
          refine L.val (x_mv (v := .int _ _) rfl) rfl ?_
          refine L.val (x_mv (v := .int _ _) rfl) rfl ?_
          refine L.val (x_mv (v := .func _ _ _) rfl) rfl ?_
          refine L.ret (x_call ksrtc_en184 rfl) rfl (reverse_okC eg he1 b o a1 z1 cap n T hd tl c _ (hC.mv hps.gr) hps.row hps.size (by omega) (by omega) (by omega)) ?_
          rintro _ w54 ⟨rfl, hg, hR⟩
          have hps := hps.perm he hg hR (reverseRange_holds c a1 z1 (by omega) (by omega))
          refine L.nil ?_
          refine thn_n ?_
          refine W.seq ?_
          refine W.region ?_
          refine L.val (x_mv (v := .int _ _) rfl) rfl ?_
          refine L.val (x_sub rfl rfl (wr64 (by omega))) rfl ?_
          refine L.val (x_mv (v := .int _ _) rfl) rfl ?_
          refine L.val (x_mv (v := .int _ _) rfl) rfl ?_
          refine L.val (x_sub rfl rfl (wr64 (by omega))) rfl ?_
          refine L.val (x_sub rfl rfl (wr64 (by omega))) rfl ?_
          refine L.val (x_as (v := .int _ _) rfl) rfl ?_
          refine L.nil ?_
          refine thn_n ?_
          refine W.region ?_
          refine L.val (x_as (v := .int _ _) rfl) rfl ?_
          refine L.nil ?_
          refine thn_n ?_
          first
            | exact ⟨rfl, rfl, pv, ht, c, rfl, rfl, rfl, rfl, rfl, rfl, rfl, rfl, rfl, v1, v2, hps⟩
            | exact ⟨rfl, rfl, (z1 - 1) - (pv - a1), 1, _, rfl, rfl, rfl, rfl, rfl, rfl, rfl, vi (by omega), rfl, by omega, by omega, hps⟩
         ·have h56 := of_decide_eq_false g56
          refine W.skip ?_
          refine thn_n ?_
          first
            | exact ⟨rfl, rfl, pv, ht, c, rfl, rfl, rfl, rfl, rfl, rfl, rfl, rfl, rfl, v1, v2, hps⟩
            | exact ⟨rfl, rfl, (z1 - 1) - (pv - a1), 1, _, rfl, rfl, rfl, rfl, rfl, rfl, rfl, vi (by omega), rfl, by omega, by omega, hps⟩
        ·rintro D E w61 ⟨rfl, eK, pv, ht, c, e0, y1q, e2, e3, e8, e9, e10, e11, e12, v1, v2, hps⟩
         rw [upd_self eK, upd_self e0, upd_self y1q, upd_self e2, upd_self e3, upd_self e8, upd_self e9, upd_self e10, upd_self e11, upd_self e12]
         have q4 := hps.size
         refine W.cut (fun D' E' w' => D' = [] ∧ E' 4 = .func (.func gF) #[] cp.toArray ∧ ∃ (c : Array α), E' 0 = .slice (some ⟨b, o, none⟩) n cap ∧ E' 1 = .int .i64 (a1 : Nat) ∧ E' 2 = .int .i64 (z1 : Nat) ∧ E' 3 = .int .i64 (l : Nat) ∧ E' 10 = .bool wb ∧ E' 11 = .bool wp ∧ E' 12 = .int .i64 ((z1 : Nat) - (a1 : Nat)) ∧ E' 13 = .int .i64 (pv : Nat) ∧ PS (ltc cf) enc b o n T hd tl a e d w a1 z1 c w') ?_ ?_
         ·refine W.seq ?_
          refine W.region ?_
          refine L.val (x_mv (v := .bool _) rfl) rfl ?_
          refine L.val (x_mv (v := .bool _) rfl) rfl ?_
          refine' L.group0 1 70 70 70 69 true rfl ?_ ?_ ?_
          rotate_left 1
          ·intro g69
           have h69 := g69
           refine L.gyes' (dj := 69) (b := _) rfl rfl g69 ?_
           refine L.val (x_mv (v := .bool _) rfl) rfl ?_
           refine L.nil ?_
           refine thn_n ⟨rfl, rfl, ?_, rfl⟩
           repeat (first | exact jeq.refl _ _ _ | refine jeq.upd rfl ?_ | refine jeq.jk rfl rfl ?_)
          ·intro g69
           refine L.gno (dj := 69) (b := _) rfl rfl g69 rfl ?_
           refine L.nil (thn_n ⟨rfl, rfl, ?_⟩)
           repeat (first | exact jeq.refl _ _ _ | refine jeq.upd rfl ?_ | refine jeq.jk rfl rfl ?_)
          intro J69 j69
          refine L.val (x_and rfl j69) rfl ?_
          refine L.val (x_mv (v := .bool _) rfl) rfl ?_
          refine' L.group0 2 73 74 74 72 true rfl ?_ ?_ ?_
          rotate_left 1
          ·intro g72
           have h72 := g72
           refine L.gyes' (dj := 72) (b := _) rfl rfl g72 ?_
           refine L.val (x_mv (v := .int _ _) rfl) rfl ?_
           refine L.gyes' (dj := 72) (b := _) rfl rfl g72 ?_
           refine L.val (x_eql rfl rfl) rfl ?_
           refine L.nil ?_
           refine thn_n ⟨rfl, rfl, ?_, rfl⟩
           repeat (first | exact jeq.refl _ _ _ | refine jeq.upd rfl ?_ | refine jeq.jk rfl rfl ?_)
          ·intro g72
           refine L.gno (dj := 72) (b := _) rfl rfl g72 rfl ?_
           refine L.gno (dj := 72) (b := _) rfl rfl g72 rfl ?_
           refine L.nil (thn_n ⟨rfl, rfl, ?_⟩)
           repeat (first | exact jeq.refl _ _ _ | refine jeq.upd rfl ?_ | refine jeq.jk rfl rfl ?_)
          intro J72 j72
          refine L.val (x_and rfl j72) rfl ?_
          refine L.nil ?_
          refine thn_n ?_
          refine W.cond (b := _) rfl (fun g75 => ?_) (fun g75 => ?_)
          ·have h75 := g75
           refine W.seq ?_
           refine W.region ?_
           refine L.val (x_mv (v := .slice _ _ _) rfl) rfl ?_
           refine L.val (x_mv (v := .int _ _) rfl) rfl ?_
           refine L.val (x_mv (v := .int _ _) rfl) rfl ?_
           refine L.val (x_mv (v := .func _ _ _) rfl) rfl ?_
           refine L.ret (x_call ksrtc_en185 rfl) rfl (partial_okC eg he1 b o a1 z1 cap n T hd tl c _ (hC.mv hps.gr) hps.row hps.size hc (by omega) (by omega)) ?_
           rintro _ w72 ⟨rfl, hg, hR⟩
           obtain ⟨p1, p2⟩ := partialInsertionSort_holds hS c a1 z1 (by omega) (by omega) hps.below
           have hps0 := hps
           have hps := hps.perm he hg hR p1
           refine L.nil ?_
           refine thn_n ?_
           refine W.cond (b := _) rfl (fun g80 => ?_) (fun g80 => ?_)
           ·have h80 := g80
            refine W.ret (thn_r (blk_r (thn_r (blk_r (fin_mk (.inr rfl) ?_)))))
            exact ⟨rfl, hps.gr, _, hps.row, hps0.fin _ p1 (p2 h80)⟩
           ·have h80 := g80
            refine W.skip ?_
            refine thn_n ?_
            first
              | exact ⟨rfl, rfl, c, rfl, rfl, rfl, rfl, rfl, rfl, rfl, rfl, hps⟩
              | exact ⟨rfl, rfl, _, rfl, rfl, rfl, rfl, rfl, rfl, rfl, rfl, hps⟩
          ·have h75 := g75
           refine W.skip ?_
           refine thn_n ?_
           first
             | exact ⟨rfl, rfl, c, rfl, rfl, rfl, rfl, rfl, rfl, rfl, rfl, hps⟩
             | exact ⟨rfl, rfl, _, rfl, rfl, rfl, rfl, rfl, rfl, rfl, rfl, hps⟩
         ·rintro D E w73 ⟨rfl, eK, c, e0, y1q, e2, e3, e8, e9, e10, e11, hps⟩
          rw [upd_self eK, upd_self e0, upd_self y1q, upd_self e2, upd_self e3, upd_self e8, upd_self e9, upd_self e10, upd_self e11]
          have q4 := hps.size
          refine W.seq ?_
          refine W.seq ?_
          refine W.drawB ksrtc_mixed (by kernel_rfl) ?_
          refine LQ.val (fun w hw => x_mv (v := .int _ _) rfl) rfl ?_
          refine LQ.val (fun w hw => x_gtr rfl rfl) rfl ?_
          refine LQ.val (fun w hw => x_mv (v := .bool _) rfl) rfl ?_
          refine' LQ.group 13 84 96 96 83 true rfl ?_ ?_ ?_
          rotate_left 1
          ·intro g83
           have h83 := of_decide_eq_true g83
           refine LQ.gyes' (dj := 83) (b := _) rfl rfl g83 ?_
           refine LQ.val (fun w hw => x_mv (v := .func _ _ _) rfl) rfl ?_
           refine LQ.gyes' (dj := 83) (b := _) rfl rfl g83 ?_
           refine LQ.val (fun w hw => x_mv (v := .slice _ _ _) rfl) rfl ?_
           refine LQ.gyes' (dj := 83) (b := _) rfl rfl g83 ?_
           refine LQ.val (fun w hw => x_mv (v := .int _ _) rfl) rfl ?_
           refine LQ.gyes' (dj := 83) (b := _) rfl rfl g83 ?_
           refine LQ.val (fun w hw => x_sub rfl rfl (wr64 (by omega))) rfl ?_
           refine LQ.gyes' (dj := 83) (b := _) rfl rfl g83 ?_
           refine LQ.val (fun w hw => x_ia1 (j := a1 - 1) Tryz.underlying106 ksrtc_sz3 rfl rfl (by omega) (by omega)) rfl ?_
           refine LQ.gyes' (dj := 83) (b := _) rfl rfl g83 ?_
           refine LQ.val (fun w hw => x_ld (v := enc _) ksrtc_oc3 rfl (hw.keep (hps.row.at (i := a1 - 1) (by omega)))) rfl ?_
           refine LQ.gyes' (dj := 83) (b := _) rfl rfl g83 ?_
           refine LQ.val (fun w hw => x_mv (v := .slice _ _ _) rfl) rfl ?_
           refine LQ.gyes' (dj := 83) (b := _) rfl rfl g83 ?_
           refine LQ.val (fun w hw => x_mv (v := .int _ _) rfl) rfl ?_
           refine LQ.gyes' (dj := 83) (b := _) rfl rfl g83 ?_
           refine LQ.val (fun w hw => x_ia1 (j := pv) Tryz.underlying106 ksrtc_sz3 rfl rfl (by omega) (by omega)) rfl ?_
           refine LQ.gyes' (dj := 83) (b := _) rfl rfl g83 ?_
           refine LQ.val (fun w hw => x_ld (v := enc _) ksrtc_oc3 rfl (hw.keep (hps.row.at (i := pv) (by omega)))) rfl ?_
           refine LQ.gyes' (dj := 83) (b := _) rfl rfl g83 ?_
           refine LQ.ret (fun w => x_callv eg rfl rfl) (fun w hw => Ret.mono ((hC.mv hps.gr).atB hw _ _) (fun _ _ h => ⟨h.1, Gr.trans hw h.2⟩)) rfl ?_
           refine LQ.gyes' (dj := 83) (b := _) rfl rfl g83 ?_
           refine LQ.val (fun w hw => x_lss rfl rfl) rfl ?_
           refine LQ.gyes' (dj := 83) (b := _) rfl rfl g83 ?_
           refine LQ.val (fun w hw => x_not rfl) rfl ?_
           refine LQ.nil ?_
           refine ⟨?_, rfl⟩
           repeat (first | exact jeq.refl _ _ _ | refine jeq.upd rfl ?_ | refine jeq.jk rfl rfl ?_)
          ·intro g83
           refine LQ.gno (dj := 83) (b := _) rfl rfl g83 rfl ?_
           refine LQ.gno (dj := 83) (b := _) rfl rfl g83 rfl ?_
           refine LQ.gno (dj := 83) (b := _) rfl rfl g83 rfl ?_
           refine LQ.gno (dj := 83) (b := _) rfl rfl g83 rfl ?_
           refine LQ.gno (dj := 83) (b := _) rfl rfl g83 rfl ?_
           refine LQ.gno (dj := 83) (b := _) rfl rfl g83 rfl ?_
           refine LQ.gno (dj := 83) (b := _) rfl rfl g83 rfl ?_
           refine LQ.gno (dj := 83) (b := _) rfl rfl g83 rfl ?_
           refine LQ.gno (dj := 83) (b := _) rfl rfl g83 rfl ?_
           refine LQ.gno (dj := 83) (b := _) rfl rfl g83 rfl ?_
           refine LQ.gno (dj := 83) (b := _) rfl rfl g83 rfl ?_
           refine LQ.gno (dj := 83) (b := _) rfl rfl g83 rfl ?_
           refine LQ.gno (dj := 83) (b := _) rfl rfl g83 rfl ?_
           refine LQ.nil ?_
           repeat (first | exact jeq.refl _ _ _ | refine jeq.upd rfl ?_ | refine jeq.jk rfl rfl ?_)
          intro J83 j83
          refine LQ.val (fun w hw => x_and rfl j83) rfl ?_
          refine LQ.nil ?_
          intro w81 hw
          have hps := hps.carry hw
          refine thn_n ?_
          refine W.cond (b := _) rfl (fun g97 => ?_) (fun g97 => ?_)
          ·have h97 := g97
           refine W.seq ?_
           refine W.region ?_
           refine L.val (x_mv (v := .slice _ _ _) rfl) rfl ?_
           refine L.val (x_mv (v := .int _ _) rfl) rfl ?_
           refine L.val (x_mv (v := .int _ _) rfl) rfl ?_
           refine L.val (x_mv (v := .int _ _) rfl) rfl ?_
           refine L.val (x_mv (v := .func _ _ _) rfl) rfl ?_
           refine L.ret (x_call ksrtc_en186 rfl) rfl (parteq_ok2C eg he1 b o a1 z1 pv cap n T hd tl c _ (hC.mv hps.gr) hps.row hps.size hc v1 v2 (by omega)) ?_
           rintro _ w92 ⟨mid, g, hx, rfl, hg, hR⟩
           obtain ⟨r1, r2, r3, r4, r5⟩ := round_eq hS (partitionEqual_holds _) (by have := and1 h97; omega) v1 v2 (by omega) hps.below (by have := and2 h97; simpa using this) hx
           have hps : PS (ltc cf) enc b o n T hd tl a e d w mid z1 g w92 := ⟨hps.gr.trans hg, hR, r3.trans hps.size, by omega, r2, hps.hi, r4, fun c' h1 h2 => hps.fin c' (r5 c' h1 h2).1 (r5 c' h1 h2).2⟩
           refine L.val (x_as (v := .int _ _) rfl) rfl ?_
           refine L.nil ?_
           refine thn_n ?_
           refine W.seq ?_
           refine W.region ?_
           refine L.val (x_mv (v := .int _ _) rfl) rfl ?_
           refine L.val (x_as (v := .int _ _) rfl) rfl ?_
           refine L.nil ?_
           refine thn_n ?_
           refine W.exit (thn_x (blk_hit ?_))
           refine thn_n ⟨rfl, ?_⟩
           first
             | (refine ⟨_, ?_, mid, z1, l, wb, wp, g, rfl, by first | rfl | exact vi (by omega), by first | rfl | exact vi (by omega), by first | rfl | exact vi (by omega), by first | rfl | exact vi (by omega), by first | rfl | exact vi (by omega), by first | rfl | exact vi (by omega), by first | rfl | exact vi (by omega), (by first | assumption | omega | rfl), (by first | assumption | omega | rfl)⟩; omega)
             | (refine ⟨_, ?_, mid + 1, z1, l, _, _, L1, rfl, by first | rfl | exact vi (by omega), by first | rfl | exact vi (by omega), by first | rfl | exact vi (by omega), by first | rfl | exact vi (by omega), by first | rfl | exact vi (by omega), by first | rfl | exact vi (by omega), by first | rfl | exact vi (by omega), (by first | assumption | omega | rfl), (by first | assumption | omega | rfl)⟩; omega)
             | (refine ⟨_, ?_, a1, mid, l, _, _, L1, rfl, by first | rfl | exact vi (by omega), by first | rfl | exact vi (by omega), by first | rfl | exact vi (by omega), by first | rfl | exact vi (by omega), by first | rfl | exact vi (by omega), by first | rfl | exact vi (by omega), by first | rfl | exact vi (by omega), (by first | assumption | omega | rfl), (by first | assumption | omega | rfl)⟩; omega)
          ·have h97 := g97
           refine W.skip ?_
           refine thn_n ?_
           refine W.seq ?_
           refine W.region ?_
           refine L.val (x_mv (v := .slice _ _ _) rfl) rfl ?_
           refine L.val (x_mv (v := .int _ _) rfl) rfl ?_
           refine L.val (x_mv (v := .int _ _) rfl) rfl ?_
           refine L.val (x_mv (v := .int _ _) rfl) rfl ?_
           refine L.val (x_mv (v := .func _ _ _) rfl) rfl ?_
           refine L.ret (x_call ksrtc_en187 rfl) rfl (part_ok2C eg he1 b o a1 z1 pv cap n T hd tl c _ (hC.mv hps.gr) hps.row hps.size hc v1 v2 (by omega)) ?_
           rintro _ w99 ⟨mid, ap, g, hx, rfl, hg, hR⟩
           obtain ⟨r1, r2, r3, rA, rB, rL, rR⟩ := round_part hS (partition_holds _) v1 v2 (by omega) hps.below hx
           refine L.val (x_mv (v := _) rfl) rfl ?_
           refine L.val (x_ext (v := .int _ _) rfl rfl) rfl ?_
           refine L.val (x_ext (v := .bool _) rfl rfl) rfl ?_
           refine L.val (x_as (v := .int _ _) rfl) rfl ?_
           refine L.val (x_as (v := .bool _) rfl) rfl ?_
           refine L.nil ?_
           refine thn_n ?_
           refine W.seq ?_
           refine W.region ?_
           refine L.val (x_mv (v := .bool _) rfl) rfl ?_
           refine L.val (x_as (v := .bool _) rfl) rfl ?_
           refine L.nil ?_
           refine thn_n ?_
           refine W.seq ?_
           refine W.region ?_
           refine L.val (x_mv (v := .int _ _) rfl) rfl ?_
           refine L.val (x_mv (v := .int _ _) rfl) rfl ?_
           refine L.val (x_sub rfl rfl (wr64 (by omega))) rfl ?_
           refine L.val (x_mv (v := .int _ _) rfl) rfl ?_
           refine L.val (x_mv (v := .int _ _) rfl) rfl ?_
           refine L.val (x_sub rfl rfl (wr64 (by omega))) rfl ?_
           refine L.val (x_as (v := .int _ _) rfl) rfl ?_
           refine L.val (x_as (v := .int _ _) rfl) rfl ?_
           refine L.nil ?_
           refine thn_n ?_
           refine W.seq ?_
           refine W.region ?_
           refine L.val (x_mv (v := .int _ _) rfl) rfl ?_
           refine L.val (x_quo rfl rfl (by decide) (wq64 (by omega) (by decide))) rfl ?_
           refine L.val (x_as (v := .int _ _) rfl) rfl ?_
           refine L.nil ?_
           refine thn_n ?_
           refine W.seq ?_
           refine W.region ?_
           refine L.val (x_mv (v := .int _ _) rfl) rfl ?_
           refine L.val (x_mv (v := .int _ _) rfl) rfl ?_
           refine L.val (x_lss rfl rfl) rfl ?_
           refine L.nil ?_
           refine thn_n ?_
           refine W.cond (b := _) rfl (fun g125 => ?_) (fun g125 => ?_)
           ·have h125 := of_decide_eq_true g125
            refine W.seq ?_
            refine W.region ?_
            refine L.val (x_mv (v := .int _ _) rfl) rfl ?_
            refine L.val (x_mv (v := .int _ _) rfl) rfl ?_
            refine L.val (x_geq rfl rfl) rfl ?_
            refine L.val (x_as (v := .bool _) rfl) rfl ?_
            refine L.nil ?_
            refine thn_n ?_
            refine W.seq ?_
            refine W.region ?_
            refine L.val (x_mv (v := .slice _ _ _) rfl) rfl ?_
            refine L.val (x_mv (v := .int _ _) rfl) rfl ?_
            refine L.val (x_mv (v := .int _ _) rfl) rfl ?_
            refine L.val (x_mv (v := .int _ _) rfl) rfl ?_
            refine L.val (x_mv (v := .func _ _ _) rfl) rfl ?_
            refine L.ret (x_call ksrtc_en157 rfl) rfl (ih a1 mid l g _ (hC.mv (hps.gr.trans hg)) (by omega) hR (r3.trans hps.size) r1 (by omega) hl rA) ?_
            rintro _ w121 ⟨rfl, hg2, L1, hRL, l1, l2⟩
            obtain ⟨hBL, hfin⟩ := rL L1 l1 l2
            have hps : PS (ltc cf) enc b o n T hd tl a e d w (mid + 1) z1 L1 w121 := ⟨(hps.gr.trans hg).trans hg2, hRL, l1.1.trans (r3.trans hps.size), by omega, by omega, hps.hi, hBL, fun c' h1 h2 => hps.fin c' (hfin c' h1 h2).1 (hfin c' h1 h2).2⟩
            refine L.nil ?_
            refine thn_n ?_
            refine W.region ?_
            refine L.val (x_mv (v := .int _ _) rfl) rfl ?_
            refine L.val (x_add rfl rfl (wr64 (by omega))) rfl ?_
            refine L.val (x_as (v := .int _ _) rfl) rfl ?_
            refine L.nil ?_
            refine blk_n ?_
            refine thn_n ⟨rfl, ?_⟩
            first
              | (refine ⟨_, ?_, mid, z1, l, wb, wp, g, rfl, by first | rfl | exact vi (by omega), by first | rfl | exact vi (by omega), by first | rfl | exact vi (by omega), by first | rfl | exact vi (by omega), by first | rfl | exact vi (by omega), by first | rfl | exact vi (by omega), by first | rfl | exact vi (by omega), (by first | assumption | omega | rfl), (by first | assumption | omega | rfl)⟩; omega)
              | (refine ⟨_, ?_, mid + 1, z1, l, _, _, L1, rfl, by first | rfl | exact vi (by omega), by first | rfl | exact vi (by omega), by first | rfl | exact vi (by omega), by first | rfl | exact vi (by omega), by first | rfl | exact vi (by omega), by first | rfl | exact vi (by omega), by first | rfl | exact vi (by omega), (by first | assumption | omega | rfl), (by first | assumption | omega | rfl)⟩; omega)
              | (refine ⟨_, ?_, a1, mid, l, _, _, L1, rfl, by first | rfl | exact vi (by omega), by first | rfl | exact vi (by omega), by first | rfl | exact vi (by omega), by first | rfl | exact vi (by omega), by first | rfl | exact vi (by omega), by first | rfl | exact vi (by omega), by first | rfl | exact vi (by omega), (by first | assumption | omega | rfl), (by first | assumption | omega | rfl)⟩; omega)
           ·have h125 := dlt_f g125
            refine W.seq ?_
            refine W.region ?_
            refine L.val (x_mv (v := .int _ _) rfl) rfl ?_
            refine L.val (x_mv (v := .int _ _) rfl) rfl ?_
            refine L.val (x_geq rfl rfl) rfl ?_
            refine L.val (x_as (v := .bool _) rfl) rfl ?_
            refine L.nil ?_
            refine thn_n ?_
            refine W.seq ?_
            refine W.region ?_
            refine L.val (x_mv (v := .slice _ _ _) rfl) rfl ?_
            refine L.val (x_mv (v := .int _ _) rfl) rfl ?_
            refine L.val (x_add rfl rfl (wr64 (by omega))) rfl ?_
            refine L.val (x_mv (v := .int _ _) rfl) rfl ?_
            refine L.val (x_mv (v := .int _ _) rfl) rfl ?_
            refine L.val (x_mv (v := .func _ _ _) rfl) rfl ?_
            have hm1 : ((mid : Nat) : Int) + 1 = ((mid + 1 : Nat) : Int) := by omega
            rw [hm1]
            refine L.ret (x_call ksrtc_en157 rfl) rfl (ih (mid + 1) z1 l g _ (hC.mv (hps.gr.trans hg)) (by omega) hR (r3.trans hps.size) (by omega) (by omega) hl rB) ?_
            rintro _ w132 ⟨rfl, hg2, L1, hRL, l1, l2⟩
            obtain ⟨hBL, hfin⟩ := rR L1 l1 l2
            have hps : PS (ltc cf) enc b o n T hd tl a e d w a1 mid L1 w132 := ⟨(hps.gr.trans hg).trans hg2, hRL, l1.1.trans (r3.trans hps.size), by omega, by omega, by omega, hBL, fun c' h1 h2 => hps.fin c' (hfin c' h1 h2).1 (hfin c' h1 h2).2⟩
            refine L.nil ?_
            refine thn_n ?_
            refine W.region ?_
            refine L.val (x_mv (v := .int _ _) rfl) rfl ?_
            refine L.val (x_as (v := .int _ _) rfl) rfl ?_
            refine L.nil ?_
            refine blk_n ?_
            refine thn_n ⟨rfl, ?_⟩
            first
              | (refine ⟨_, ?_, mid, z1, l, wb, wp, g, rfl, by first | rfl | exact vi (by omega), by first | rfl | exact vi (by omega), by first | rfl | exact vi (by omega), by first | rfl | exact vi (by omega), by first | rfl | exact vi (by omega), by first | rfl | exact vi (by omega), by first | rfl | exact vi (by omega), (by first | assumption | omega | rfl), (by first | assumption | omega | rfl)⟩; omega)
              | (refine ⟨_, ?_, mid + 1, z1, l, _, _, L1, rfl, by first | rfl | exact vi (by omega), by first | rfl | exact vi (by omega), by first | rfl | exact vi (by omega), by first | rfl | exact vi (by omega), by first | rfl | exact vi (by omega), by first | rfl | exact vi (by omega), by first | rfl | exact vi (by omega), (by first | assumption | omega | rfl), (by first | assumption | omega | rfl)⟩; omega)
              | (refine ⟨_, ?_, a1, mid, l, _, _, L1, rfl, by first | rfl | exact vi (by omega), by first | rfl | exact vi (by omega), by first | rfl | exact vi (by omega), by first | rfl | exact vi (by omega), by first | rfl | exact vi (by omega), by first | rfl | exact vi (by omega), by first | rfl | exact vi (by omega), (by first | assumption | omega | rfl), (by first | assumption | omega | rfl)⟩; omega)
end
end Go.Gx
