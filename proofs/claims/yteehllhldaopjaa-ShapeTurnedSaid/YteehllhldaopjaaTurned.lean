/- A type the other way round: the law's own walk. Conditions: none. -/
import Derived.Test.YteehllhldaopjaaPerm
import Derived.Test.YteehllhldaopjaaIns
namespace Go.Gx
open Go.Proofs Go.Sort
theorem kturned_ag25 : aggT Try.prog 25 5 = true := by kernel_rfl
theorem kturned_el25 : elT Try.prog 25 5 = true := by kernel_rfl
theorem kturned_el9 : elT Try.prog 9 1 = true := by kernel_rfl
theorem kturned_en54 : Go.Proofs.Enters Try.prog 54 := Go.Proofs.enters_of Try.func54 (by kernel_rfl) rfl
theorem kturned_fo25_0 : fieldOff Try.prog 25 0 = some 0 := by kernel_rfl
theorem kturned_fo25_1 : fieldOff Try.prog 25 1 = some 1 := by kernel_rfl
theorem kturned_fo25_2 : fieldOff Try.prog 25 2 = some 2 := by kernel_rfl
theorem kturned_fo25_3 : fieldOff Try.prog 25 3 = some 3 := by kernel_rfl
theorem kturned_fo25_4 : fieldOff Try.prog 25 4 = some 4 := by kernel_rfl
theorem kturned_mixed : Try.prog.follows .mixedOrders = true := by kernel_rfl
theorem kturned_oc22 : oneCellT Try.prog 22 = true := by kernel_rfl
theorem kturned_oc23 : oneCellT Try.prog 23 = true := by kernel_rfl
theorem kturned_oc3 : oneCellT Try.prog 3 = true := by kernel_rfl
theorem kturned_oc9 : oneCellT Try.prog 9 = true := by kernel_rfl
theorem kturned_si25 : structInfo Try.prog 25 = some ([(0, 1), (1, 1), (2, 1), (3, 1), (4, 1)], [Value.int .i64 0, S [], S [], Value.slice none 0 0, Value.slice none 0 0]) := by kernel_rfl
theorem kturned_sz22 : (Try.prog.info? 22).map (·.size) = some 1 := by kernel_rfl
theorem kturned_sz23 : (Try.prog.info? 23).map (·.size) = some 1 := by kernel_rfl
theorem kturned_sz25 : (Try.prog.info? 25).map (·.size) = some 5 := by kernel_rfl
theorem kturned_sz9 : (Try.prog.info? 9).map (·.size) = some 1 := by kernel_rfl
theorem kturned_zr25 : (Try.prog.info? 25).bind (·.zero) = some (Value.agg [Value.int .i64 0, S [], S [], Value.slice none 0 0, Value.slice none 0 0].toArray) := by kernel_rfl

def tN (s : Sh) (i : Nat) : List Str := if s.names = [] then [] else (s.names.take i).reverse
def tP (s : Sh) (i : Nat) : List Sh := if s.names = [] then (s.parts.take i).map Sh.turn else ((s.parts.take i).map Sh.turn).reverse
theorem tN_zero (s : Sh) : tN s 0 = [] := by unfold tN; split <;> simp
theorem tP_zero (s : Sh) : tP s 0 = [] := by unfold tP; split <;> simp
theorem tN_nil {s : Sh} {i : Nat} (h : s.names = []) : tN s i = [] := by unfold tN; rw [if_pos h]
theorem tN_succ {s : Sh} {i : Nat} (h : s.names ≠ []) (hi : i < s.names.length) : tN s (i + 1) = s.names.getD i [] :: tN s i := by
  unfold tN; rw [if_neg h, if_neg h, List.take_succ_eq_append_getElem hi]
  simp [List.getD_eq_getElem?_getD, hi]
theorem tP_nil {s : Sh} {i : Nat} (h : s.names = []) (hi : i < s.parts.length) : tP s (i + 1) = tP s i ++ [(s.parts.getD i default).turn] := by
  unfold tP; rw [if_pos h, if_pos h, List.take_succ_eq_append_getElem hi, List.map_append]
  congr 1
  simp [List.getD_eq_getElem?_getD, hi]
theorem tP_succ {s : Sh} {i : Nat} (h : s.names ≠ []) (hi : i < s.parts.length) : tP s (i + 1) = (s.parts.getD i default).turn :: tP s i := by
  unfold tP; rw [if_neg h, if_neg h, List.take_succ_eq_append_getElem hi, List.map_append, List.reverse_append]
  have e : s.parts.getD i default = s.parts[i] := by simp [List.getD_eq_getElem?_getD, hi]
  rw [e]; rfl
theorem tP_len {s : Sh} {i : Nat} (hi : i ≤ s.parts.length) : (tP s i).length = i := by
  unfold tP; split <;> simp <;> omega
theorem tN_len {s : Sh} {i : Nat} : (tN s i).length ≤ i := by
  unfold tN; split <;> simp; omega
theorem tN_short {s : Sh} {i : Nat} (h : ∀ x ∈ s.names, x.length ≤ 9223372036854775807) : ∀ x ∈ tN s i, x.length ≤ 9223372036854775807 := by
  unfold tN
  split
  · simp
  · intro x hx; exact h x (List.mem_of_mem_take (List.mem_reverse.1 hx))
theorem turn_of_t {s : Sh} (h : s.names = [] ∨ s.names.length = s.parts.length) : Sh.mk s.kind s.of s.name (tN s s.parts.length) (tP s s.parts.length) = s.turn := by
  rw [Sh.turn_eq]
  unfold tN tP
  by_cases hn : s.names = []
  · rw [if_pos hn, if_pos hn, if_pos hn, List.take_length]
  · rw [if_neg hn, if_neg hn, if_neg hn, List.take_length, List.take_of_length_le (by have := h.resolve_left hn; omega)]

set_option maxHeartbeats 4000000 in
theorem turned0 : ∀ (N : Nat) (s : Sh), SizeOf.sizeOf s < N → s.size ≤ 400 → s.allB fitsS = true → ∀ (A : Nat → Prop) (cs : List Value) (w : World), ShC A w cs s →
    Ret Try.prog 54 #[.agg cs.toArray] w fun v w' => ∃ cs', v = .agg cs'.toArray ∧ ShC (fun k => k < w.heap.size) w' cs' s.turn ∧ Bel w w' := by
  intro N
  induction N with
  | zero => intro s h; omega
  | succ N ih =>
    intro s hN hM hfit A0 cs w hs0
    obtain ⟨A, hs, hU⟩ : ∃ A : Nat → Prop, ShC A w cs s ∧ (∀ k, w.heap.size ≤ k → A k) := ⟨_, hs0.up, fun _ => .inr⟩
    clear hs0
    obtain ⟨vn, vp, rfl, hn, hp, hof, hnm⟩ := hs.inv
    obtain ⟨p, cap, row, rfl, p1, p2, p3, hr⟩ := hp
    obtain ⟨pn, capn, rfl, n1, n2, n3, hL, -⟩ := id hn
    have hple := parts_le s
    have hfs : s.names = [] ∨ s.names.length = s.parts.length := (fits_names (by rw [Sh.allB_eq] at hfit; simp at hfit; exact hfit.1)).imp id (·.1)
    have hfp : allL fitsS s.parts = true := by rw [Sh.allB_eq] at hfit; simp at hfit; exact hfit.2
    clear hs
    refine ret_of_W_R Try.func54 rfl (Nat.le_of_ble_eq_true rfl) ?_
    have hB := Gr.refl (fun _ => False) w
    refine W.seq ?_
    refine W.region ?_
    refine L.box (cs := _) rfl rfl (fun w1 bx1 hw hz1 => ?_)
    have hB := hB.carry hw; have hr := hr.carry hw; have hn := hn.carry hw
    refine L.alloc (cs := [Value.int .i64 0, S [], S [], Value.slice none 0 0, Value.slice none 0 0]) kturned_zr25 rfl rfl (fun w2 bx2 hw hz2 => ?_)
    have hB := hB.carry hw; have hr := hr.carry hw; have hn := hn.carry hw; have bx1 := bx1.carry hw
    refine L.nil ?_
    refine thn_n ?_
    refine W.seq ?_
    refine W.region ?_
    refine L.val (x_fa kturned_fo25_0 rfl) rfl ?_
    refine L.val (x_ld (v := .int _ _) kturned_oc3 rfl (bx1.cell0 rfl)) rfl ?_
    refine L.val (x_fa kturned_fo25_1 rfl) rfl ?_
    refine L.val (x_ld (v := S _) kturned_oc9 rfl (bx1.cell0 rfl)) rfl ?_
    refine L.val (x_fa kturned_fo25_2 rfl) rfl ?_
    refine L.val (x_ld (v := S _) kturned_oc9 rfl (bx1.cell0 rfl)) rfl ?_
    refine L.val (x_build (cells := [.int _ _, S _, S _, .slice _ _ _, .slice _ _ _]) kturned_si25 rfl rfl) rfl ?_
    refine L.alloc (cs := [Value.int .i64 0, S [], S [], Value.slice none 0 0, Value.slice none 0 0]) kturned_zr25 rfl rfl (fun w3 bx3 hw hz3 => ?_)
    have hB := hB.carry hw; have hr := hr.carry hw; have hn := hn.carry hw; have bx1 := bx1.carry hw; have bx2 := bx2.carry hw
    refine L.setRow kturned_ag25 rfl rfl bx3 rfl rfl (by simp [Value.oneCell', S]) (fun wl11 bx3 hw hzl11 => ?_)
    have hsz := hB.size
    have hB := hB.set hw (by omega); have hr := hr.carryR hw (fun k e => hU k (by have : k = _ := e; omega)); have hn := hn.carryR hw (fun k e => hU k (by have : k = _ := e; omega)); have bx1 := bx1.carryR hw (by omega); have bx2 := bx2.carryR hw (by omega)
    obtain ⟨b3, hb3⟩ : ∃ b3, b3 = w2.heap.size := ⟨_, rfl⟩
    rw [← hb3] at bx3 ⊢
    obtain ⟨b2, hb2⟩ : ∃ b2, b2 = w1.heap.size := ⟨_, rfl⟩
    rw [← hb2] at bx2 ⊢
    have z1 : w.heap.size < b2 ∧ b2 < b3 := by omega
    obtain ⟨base, hbase⟩ : ∃ base, base = wl11.heap.size := ⟨_, rfl⟩
    have z2 : b3 < base := by have e : wl11.heap.size = w3.heap.size := hzl11; omega
    have hG : Ge base wl11 := by rw [hbase]; exact Nat.le_refl _
    clear hb2 hb3 hz1 hz2 hz3 hzl11 hbase
    refine L.nil ?_
    refine thn_n ?_
    refine W.seq ?_
    refine W.seq ?_
    refine W.region ?_
    refine L.val (x_as (v := .int _ _) rfl) rfl ?_
    refine L.nil ?_
    refine thn_n ?_
    refine W.block ?_
    refine W.loop (fun m' E w' => ∃ (i : Nat) (vN vP : Value), m' = s.parts.length - i ∧ E 1 = .pointer (some ⟨w.heap.size, 0, none⟩) ∧ E 2 = .pointer (some ⟨b2, 0, none⟩) ∧ E 3 = .pointer (some ⟨b3, 0, none⟩) ∧ E 4 = .int .i64 (i : Nat) ∧ (Bel w w') ∧ (ShRow A w' p row s.parts) ∧ (StrsAt A w' (.slice pn s.names.length capn) s.names) ∧ (Box w' w.heap.size 25 [.int .i64 s.kind, S s.of, S s.name, .slice pn s.names.length capn, .slice p s.parts.length cap]) ∧ (Box w' b2 25 [.int .i64 0, S [], S [], .slice none 0 0, .slice none 0 0]) ∧ (Box w' b3 25 [.int .i64 s.kind, S s.of, S s.name, vN, vP]) ∧ (Ge base w') ∧ (i ≤ s.parts.length) ∧ (Own w' base 9 1 vN (tN s i).length ((tN s i).map S)) ∧ (ShsOwn (Av base w' vN vP) w' base 25 vP (tP s i))) (s.parts.length) ?_ ?_
    ·exact ⟨0, .slice none 0 0, .slice none 0 0, by omega, by first | rfl | exact vi (by omega), by first | rfl | exact vi (by omega), by first | rfl | exact vi (by omega), by first | rfl | exact vi (by omega), (by first | assumption | omega | rfl), (by first | assumption | omega | rfl), (by first | assumption | omega | rfl), (by first | assumption | omega | rfl), (by first | assumption | omega | rfl), (by first | assumption | omega | rfl), (by first | assumption | omega | rfl), (by first | assumption | omega | rfl), (by rw [tN_zero]; exact own_nil), (by rw [tP_zero]; exact ShsOwn.nil)⟩
    ·rintro _ E wL13 ⟨i, vN, vP, em, e1, e2, e3, e4, hB, hr, hn, bx1, bx2, bx3, hG, hi, hN, hP⟩
     rw [upd_self e1, upd_self e2, upd_self e3, upd_self e4]
     refine W.seq ?_
     refine W.seq ?_
     refine W.region ?_
     refine L.val (x_mv (v := .int _ _) rfl) rfl ?_
     refine L.val (x_fa kturned_fo25_4 rfl) rfl ?_
     refine L.val (x_ld (v := .slice _ _ _) kturned_oc23 rfl (bx1.cell0 rfl)) rfl ?_
     refine L.val (x_len_slice Try.underlying23 rfl) rfl ?_
     refine L.val (x_lss rfl rfl) rfl ?_
     refine L.nil ?_
     refine thn_n ?_
     refine W.cond (b := _) rfl (fun g17 => ?_) (fun g17 => ?_)
     ·have h17 := of_decide_eq_true g17
      refine W.skip ?_
      refine thn_n ?_
      refine W.seq ?_
      refine W.block ?_
      refine W.seq ?_
      refine W.region ?_
      refine L.val (x_fa kturned_fo25_4 rfl) rfl ?_
      refine L.val (x_ld (v := .slice _ _ _) kturned_oc23 rfl (bx1.cell0 rfl)) rfl ?_
      have hip : i < s.parts.length := by omega
      obtain ⟨bp, op, rfl, -⟩ := hr.elem hip
      obtain ⟨q, hq⟩ : ∃ q, q = wL13.heap.size := ⟨_, rfl⟩
      have hGq : Ge q wL13 := by rw [hq]; exact Nat.le_refl _
      have hqb : base ≤ q := by rw [hq]; exact hG
      obtain ⟨aN, cN, rfl, hcN⟩ := own_shape hN
      obtain ⟨xsP, hPo⟩ := hP.own
      obtain ⟨aP, cP, rfl, hcP⟩ := own_shape hPo
      clear hPo xsP
      have hqN := fun j h => (Own.lt hN (j := j) h).2
      have hqP := fun j h => (hP.lt (j := j) h).2
      have hNl := @tN_len s i
      have hPl := tP_len hi
      refine L.val (x_mv (v := .int _ _) rfl) rfl ?_
      refine L.val (x_ia (j := i) Try.underlying23 kturned_sz25 rfl rfl (by omega) (by omega)) rfl ?_
      refine L.val (x_ldn (vs := row i) kturned_ag25 rfl (hr.five i hip) (hr.elemAt hip)) rfl ?_
      refine L.ret (x_call kturned_en54 rfl) rfl (ih _ (by have := Sh.part_lt hip; omega) (by have := Sh.part_size hip; omega) (allL_getD hfp hip) A _ _ (hr.each i hip)) ?_
      rintro _ w25 ⟨cs25, rfl, ht, hw⟩
      have hB := hB.carry hw; have hr := hr.carry hw; have hn := hn.carry hw; have bx1 := bx1.carry hw; have bx2 := bx2.carry hw; have bx3 := bx3.carry hw; have hG := hG.carry hw; have hN := hN.carry hw; have hP := hP.carry hw; have hGq := hGq.carry hw
      have hs25 : wL13.heap.size ≤ w25.heap.size := hw.size
      have hqb5 : q ≤ w25.heap.size := hGq
      have ht : ShC (Av base w25 (.slice aN (tN s i).length cN) (.slice aP (tP s i).length cP)) w25 cs25 _ := ht.up.mono (fun j _ h => by
        rcases h with h | h | h | h
        · exact .inl (show j < wL13.heap.size by omega)
        · exact .inl (hqN j h)
        · exact .inl (hqP j h)
        · exact .inr h)
      have hGt : Ge w25.heap.size w25 := Nat.le_refl _
      refine L.alloc (cs := [Value.int .i64 0, S [], S [], Value.slice none 0 0, Value.slice none 0 0]) kturned_zr25 rfl rfl (fun w5 bx5 hw hz5 => ?_)
      have hB := hB.carry hw; have hr := hr.carry hw; have hn := hn.carry hw; have bx1 := bx1.carry hw; have bx2 := bx2.carry hw; have bx3 := bx3.carry hw; have hG := hG.carry hw; have hN := hN.carry hw; have hP := hP.carry hw; have hGq := hGq.carry hw; have ht := ht.carry hw; have hGt := hGt.carry hw
      obtain ⟨b5, hb5⟩ : ∃ b5, b5 = w25.heap.size := ⟨_, rfl⟩
      rw [← hb5] at bx5 ⊢
      refine L.setRow kturned_ag25 rfl rfl bx5 rfl (ShC.len ht) (ShC.one ht) (fun wl25 bx5 hw hzl25 => ?_)
      have hsz := hB.size
      have hB := hB.set hw (by omega); have hr := hr.carryR hw (fun k e => hU k (by have : k = _ := e; omega)); have hn := hn.carryR hw (fun k e => hU k (by have : k = _ := e; omega)); have bx1 := bx1.carryR hw (by omega); have bx2 := bx2.carryR hw (by omega); have bx3 := bx3.carryR hw (by omega); have hG := hG.carryR hw; have hN := Own.carryR hN hw (fun j hj e => by have e : j = _ := e; have h1 := (Own.lt hN hj).1; first | omega | (have h2 := hqN j hj; omega)); have hP := hP.carryA (A' := _) hw (fun j hj e => by have e : j = _ := e; have h1 := (hP.lt hj).1; first | omega | (have h2 := hqP j hj; omega)) (fun j e => by have e : j = _ := e; first | exact .inl (by omega) | exact .inr (.inr (.inr (by omega)))) (fun _ h => h); have hGq := hGq.carryR hw; have ht := ht.carryR hw (fun j e => by have e : j = _ := e; first | exact .inl (by omega) | exact .inr (.inr (.inr (by omega)))); have hGt := hGt.carryR hw
      refine L.nil ?_
      refine thn_n ?_
      refine W.seq ?_
      refine W.seq ?_
      refine W.region ?_
      refine L.val (x_fa kturned_fo25_3 rfl) rfl ?_
      refine L.val (x_ld (v := .slice _ _ _) kturned_oc22 rfl (bx1.cell0 rfl)) rfl ?_
      refine L.val (x_len_slice Try.underlying22 rfl) rfl ?_
      refine L.val (x_eql rfl rfl) rfl ?_
      refine L.nil ?_
      refine thn_n ?_
      refine W.cond (b := _) rfl (fun g29 => ?_) (fun g29 => ?_)
      ·have h29 := of_decide_eq_true g29
       have hne : s.names = [] := List.eq_nil_of_length_eq_zero (by omega)
       refine W.seq ?_
       refine W.region ?_
       refine L.val (x_fa kturned_fo25_4 rfl) rfl ?_
       refine L.val (x_ld (v := .slice _ _ _) kturned_oc23 rfl (bx3.cell0 rfl)) rfl ?_
       refine L.val (x_ldn (vs := cs25) kturned_ag25 rfl ht.len (bx5.row ht.len)) rfl ?_
       refine L.bs (sz := 5) (cells := cs25) Try.underlying23 kturned_el25 rfl (by show (partsOk 5 0 [(0, Value.agg cs25.toArray)] && decide ([((0 : Nat), Value.agg cs25.toArray)].length = 1) && decide (0 < 1) && decide (1 * 5 ≤ 16777216)) = true; simp [partsOk, ht.len, Value.cells]) (by show ([((0 : Nat), Value.agg cs25.toArray)].map fun x => x.2.cells.toList).flatten = cs25; simp [Value.cells]) rfl (fun w33 bx33 hw hz33 => ?_)
       have hB := hB.carry hw; have hr := hr.carry hw; have hn := hn.carry hw; have bx1 := bx1.carry hw; have bx2 := bx2.carry hw; have bx3 := bx3.carry hw; have hG := hG.carry hw; have hN := hN.carry hw; have hP := hP.carry hw; have hGq := hGq.carry hw; have ht := ht.carry hw; have hGt := hGt.carry hw; have bx5 := bx5.carry hw
       obtain ⟨rows, r1, r2, r3, r4⟩ := hP
       refine L.append (m := 1) Try.underlying23 kturned_el25 rfl rfl rfl r2 ht.len bx33.news (ShC.one ht) (by omega) hG (fun v34 w34 hO34 hg hiff34 hob34 => ?_)
       obtain ⟨g34, c34, rfl⟩ := own_form hO34
       have hlo : ∀ j, some j = (Value.slice aP (tP s i).length cP).ownBlock → base ≤ j := fun j hj => (r2.lt hj).1
       have hP := ShsOwn.snoc (A := Av base w33 _ _) (A' := Av base w34 (.slice aN (tN s i).length cN) (.slice (some ⟨g34, 0, none⟩) ((tP s i).length + 1) c34)) r1 r3 (fun i hi => (r4 i hi).mono (fun j _ h => av_mono (by have : q ≤ w33.heap.size := hGq; omega) h)) (ht.mono (fun j _ h => av_mono hGt h)) hO34 hg (fun j e => .inr (.inr (.inl e))) (fun j h => av_step hg.size (.inl rfl) hob34 h)
       have hN := Own.carryR hN hg (fun j hj hj' => own_ne hN r2 rfl hj hj')
       have hB := hB.step hg (fun i hi e => by have := hlo i e; omega)
       have hr := hr.carryR hg (fun j e => hU j (by have := hlo j e; omega))
       have hn := hn.carryR hg (fun j e => hU j (by have := hlo j e; omega))
       have bx1 := bx1.carryR hg (fun e => by have := hlo _ e; omega)
       have bx2 := bx2.carryR hg (fun e => by have := hlo _ e; omega)
       have bx3 := bx3.carryR hg (fun e => by have := hlo _ e; omega)
       have hG := hG.carryR hg
       refine L.val (x_fa kturned_fo25_4 rfl) rfl ?_
       refine L.set (v := .slice _ _ _) kturned_sz23 rfl rfl rfl bx3 rfl (fun wl36 bx3 hw hzl36 => ?_)
       have hsz := hB.size
       have hB := hB.set hw (by omega); have hr := hr.carryR hw (fun k e => hU k (by have : k = _ := e; omega)); have hn := hn.carryR hw (fun k e => hU k (by have : k = _ := e; omega)); have bx1 := bx1.carryR hw (by omega); have bx2 := bx2.carryR hw (by omega); have hG := hG.carryR hw; have hN := Own.carryR hN hw (fun j hj e => by have e : j = _ := e; have h1 := (Own.lt hN hj).1; first | omega | (have h2 := hqN j hj; omega)); have hP := hP.carryA (A' := _) hw (fun j hj e => by have e : j = _ := e; have h1 := (hP.lt hj).1; first | omega | (have h2 := hqP j hj; omega)) (fun j e => by have e : j = _ := e; first | exact .inl (by omega) | exact .inr (.inr (.inr (by omega)))) (fun _ h => h)
       have hi' : i + 1 ≤ s.parts.length := hip
       have hP : ShsOwn (Av base wl36 (.slice aN (tN s i).length cN) (.slice (some ⟨g34, 0, none⟩) ((tP s i).length + 1) c34)) wl36 base 25 (.slice (some ⟨g34, 0, none⟩) ((tP s i).length + 1) c34) (tP s (i + 1)) := by
         rw [tP_nil hne hip]
         exact ShsOwn.carryA hP (Gr.refl (fun _ => False) _) (fun _ _ f => f) (fun _ f => f.elim) (fun j h => av_mono (Nat.le_of_eq hzl36.symm) h)
       have hN : Own wl36 base 9 1 (.slice aN (tN s i).length cN) (tN s (i + 1)).length ((tN s (i + 1)).map S) := by
         have e1 : tN s (i + 1) = tN s i := by rw [tN_nil hne, tN_nil hne]
         rw [e1]; exact hN
       refine L.nil ?_
       refine thn_n ?_
       refine W.exit (thn_x (blk_hit ?_))
       refine thn_n ?_
       refine W.region ?_
       refine L.val (x_mv (v := .int _ _) rfl) rfl ?_
       refine L.val (x_add rfl rfl (wr64 (by omega))) rfl ?_
       refine L.val (x_as (v := .int _ _) rfl) rfl ?_
       refine L.nil ?_
       refine thn_n ⟨rfl, ?_⟩
       refine ⟨_, ?_, i + 1, _, _, rfl, by first | rfl | exact vi (by omega), by first | rfl | exact vi (by omega), by first | rfl | exact vi (by omega), by first | rfl | exact vi (by omega), (by first | assumption | omega | rfl), (by first | assumption | omega | rfl), (by first | assumption | omega | rfl), (by first | assumption | omega | rfl), (by first | assumption | omega | rfl), (by first | assumption | omega | rfl), (by first | assumption | omega | rfl), (by first | assumption | omega | rfl), (by first | assumption | omega | rfl), (by first | assumption | omega | rfl)⟩
       omega
      ·have h29 := of_decide_eq_false g29
       have hne : s.names ≠ [] := fun e => by rw [e] at h29; simp at h29
       have hln : s.names.length = s.parts.length := hfs.resolve_left hne
       have hin : i < s.names.length := by omega
       obtain ⟨bn, on, rfl, -⟩ := hn.elem (i := i) hin
       have hB0 := Gr.refl (fun _ => False) wl25
       obtain ⟨n0, hn0⟩ : ∃ n, n = wl25.heap.size := ⟨_, rfl⟩
       have hGn : n0 ≤ wl25.heap.size := by omega
       have hqn : q ≤ n0 := by rw [hn0]; exact hGq
       have htn : w25.heap.size ≤ n0 := by rw [hn0]; exact hGt
       refine W.skip ?_
       refine thn_n ?_
       refine W.seq ?_
       refine W.drawT (fun w' => Box w' w.heap.size 25 [.int .i64 s.kind, S s.of, S s.name, .slice (some ⟨bn, on, none⟩) s.names.length capn, .slice (some ⟨bp, op, none⟩) s.parts.length cap] ∧ Box w' b3 25 [.int .i64 s.kind, S s.of, S s.name, .slice aN (tN s i).length cN, .slice aP (tP s i).length cP] ∧ StrsAt A w' (.slice (some ⟨bn, on, none⟩) s.names.length capn) s.names) 10 kturned_mixed ?_
       have hB0 := hB0.carry (bel_drew _)
       refine LAC.take (i := 0) rfl (by kernel_rfl) (by kernel_rfl) (by kernel_rfl) (by kernel_rfl) rfl (by kernel_rfl) (fun w hw => x_fa kturned_fo25_3 rfl) rfl ?_
       refine LAC.take (i := 1) rfl (by kernel_rfl) (by kernel_rfl) (by kernel_rfl) (by kernel_rfl) rfl (by kernel_rfl) (fun w hw => by obtain ⟨bx1, bx3, hn⟩ := hw; exact x_ld (v := .slice _ _ _) kturned_oc22 rfl (bx1.cell0 rfl)) rfl ?_
       refine LAC.take (i := 2) rfl (by kernel_rfl) (by kernel_rfl) (by kernel_rfl) (by kernel_rfl) rfl (by kernel_rfl) (fun w hw => x_mv (v := .int _ _) rfl) rfl ?_
       refine LAC.take (i := 3) rfl (by kernel_rfl) (by kernel_rfl) (by kernel_rfl) (by kernel_rfl) rfl (by kernel_rfl) (fun w hw => x_ia1 (j := i) Try.underlying22 kturned_sz9 rfl rfl (by omega) (by omega)) rfl ?_
       refine LAC.take (i := 4) rfl (by kernel_rfl) (by kernel_rfl) (by kernel_rfl) (by kernel_rfl) rfl (by kernel_rfl) (fun w hw => by obtain ⟨bx1, bx3, hn⟩ := hw; exact x_ld (v := S _) kturned_oc9 rfl (hn.elemAt hin)) rfl ?_
       refine LAC.take (i := 6) rfl (by kernel_rfl) (by kernel_rfl) (by kernel_rfl) (by kernel_rfl) rfl (by kernel_rfl) (fun w hw => x_fa kturned_fo25_3 rfl) rfl ?_
       refine LAC.take (i := 7) rfl (by kernel_rfl) (by kernel_rfl) (by kernel_rfl) (by kernel_rfl) rfl (by kernel_rfl) (fun w hw => by obtain ⟨bx1, bx3, hn⟩ := hw; exact x_ld (v := .slice _ _ _) kturned_oc22 rfl (bx3.cell0 rfl)) rfl ?_
       refine LAC.step (rs := [5]) (fun _ => ⟨bx1.carry hB0, bx3.carry hB0, hn.carry hB0⟩) (by kernel_rfl) (by simp) ⟨⟨_, rfl, ?_⟩, trivial⟩
       refine L.bs (sz := 1) (cells := [S (s.names.getD i [])]) Try.underlying22 kturned_el9 rfl rfl rfl rfl (fun w41 bx41 hw hz41 => ?_)
       have hB0 := hB0.carry hw
       refine L.nil ?_
       refine thn_n ?_
       refine LAC.step (rs := [8]) (fun _ => ⟨bx1.carry hB0, bx3.carry hB0, hn.carry hB0⟩) (by kernel_rfl) (by simp) ⟨⟨_, rfl, ?_⟩, trivial⟩
       have hO41 := own_box (base := n0) bx41 (k := 1) (sz := 1) rfl (by have := hB0.size; first | omega | (have h9 : wl25.drew.heap.size = wl25.heap.size := rfl; omega)) (by decide)
       refine L.appendG (m := ((tN s i).length)) Try.underlying22 kturned_el9 rfl rfl rfl hO41 (by simp) (own_holds (hN.carry hB0)) (by intro u hu; obtain ⟨x, -, rfl⟩ := List.mem_map.1 hu; rfl) (by omega) (Nat.le_trans hGn hB0.size) (fun v44 w44 hO44 hg hob44 => ?_)
       have hlo : ∀ j, some j = _ → n0 ≤ j := fun j hj => (Own.lt hO41 (j := j) hj).1
       have hB0 := hB0.step hg (fun j hj e => by have := hlo j e; omega)
       obtain ⟨a44, c44, rfl, -⟩ := own_shape hO44
       have hB := hB.carry hB0; have hr := hr.carry hB0; have hn := hn.carry hB0; have bx1 := bx1.carry hB0; have bx2 := bx2.carry hB0; have bx3 := bx3.carry hB0; have bx5 := bx5.carry hB0; have hG := hG.carry hB0; have hP := hP.carry hB0; have hGq := hGq.carry hB0; have hGt := hGt.carry hB0; have ht := ht.carry hB0
       have hB0 := Gr.refl (fun _ => False) w44
       refine L.nil ?_
       refine thn_n ?_
       refine LAC.take (i := 9) rfl (by kernel_rfl) (by kernel_rfl) (by kernel_rfl) (by kernel_rfl) rfl (by kernel_rfl) (fun w hw => x_fa kturned_fo25_3 rfl) rfl ?_
       refine LAC.step (rs := [10]) (fun _ => ⟨bx1.carry hB0, bx3.carry hB0, hn.carry hB0⟩) (by kernel_rfl) (by simp) ⟨⟨_, rfl, ?_⟩, trivial⟩
       refine L.set (v := .slice _ _ _) kturned_sz22 rfl rfl rfl bx3 rfl (fun wl47 bx3 hw hzl47 => ?_)
       have hsz := hB.size
       have hB := hB.set hw (by omega); have hr := hr.carryR hw (fun k e => hU k (by have : k = _ := e; omega)); have hn := hn.carryR hw (fun k e => hU k (by have : k = _ := e; omega)); have bx1 := bx1.carryR hw (by omega); have bx2 := bx2.carryR hw (by omega); have bx5 := bx5.carryR hw (by omega); have hG := hG.carryR hw; have hP := hP.carryA (A' := _) hw (fun j hj e => by have e : j = _ := e; have h1 := (hP.lt hj).1; first | omega | (have h2 := hqP j hj; omega)) (fun j e => by have e : j = _ := e; first | exact .inl (by omega) | exact .inr (.inr (.inr (by omega)))) (fun _ h => h); have hGq := hGq.carryR hw; have hGt := hGt.carryR hw; have ht := ht.carryR hw (fun j e => by have e : j = _ := e; first | exact .inl (by omega) | exact .inr (.inr (.inr (by omega)))); have hO44 := Own.carryR hO44 hw (fun j hj e => by have e : j = _ := e; have h1 := (Own.lt hO44 hj).1; omega)
       have f1 := tN_succ hne hin
       have f3 : 1 + (tN s i).length = (tN s (i + 1)).length := by rw [f1]; simp; omega
       rw [f3] at hO44 bx3
       have f4 : [S (s.names.getD i [])] ++ (tN s i).map S = (tN s (i + 1)).map S := by rw [f1]; simp
       rw [f4] at hO44
       have hN := hO44
       obtain ⟨rows, r1, r2, r3, r4⟩ := hP
       have hr1 := rows_one r1 r4
       have hB0 := Gr.refl (fun _ => False) wl47
       obtain ⟨n1, hn1⟩ : ∃ n, n = wl47.heap.size := ⟨_, rfl⟩
       have hGn1 : n1 ≤ wl47.heap.size := by omega
       have hbn1 : base ≤ n1 := by rw [hn1]; exact hG
       have htn1 : w25.heap.size ≤ n1 := by rw [hn1]; exact hGt
       refine L.nil ?_
       refine thn_n ?_
       refine LAC.done (by kernel_rfl) (by kernel_rfl) ?_
       refine thn_n ?_
       refine W.region ?_
       refine L.val (x_ldn (vs := cs25) kturned_ag25 rfl ht.len (bx5.row ht.len)) rfl ?_
       refine L.bs (sz := 5) (cells := cs25) Try.underlying23 kturned_el25 rfl (by show (partsOk 5 0 [(0, Value.agg cs25.toArray)] && decide ([((0 : Nat), Value.agg cs25.toArray)].length = 1) && decide (0 < 1) && decide (1 * 5 ≤ 16777216)) = true; simp [partsOk, ht.len, Value.cells]) (by show ([((0 : Nat), Value.agg cs25.toArray)].map fun x => x.2.cells.toList).flatten = cs25; simp [Value.cells]) rfl (fun w47 bx47 hw hz47 => ?_)
       have hB0 := hB0.carry hw; have bx3 := bx3.carry hw
       refine L.val (x_fa kturned_fo25_4 rfl) rfl ?_
       refine L.val (x_ld (v := .slice _ _ _) kturned_oc23 rfl (bx3.cell0 rfl)) rfl ?_
       have hO47 := own_box (base := n1) bx47 (k := 1) (sz := 5) ht.len (by omega) (by decide)
       refine L.appendG (m := ((tP s i).length)) Try.underlying23 kturned_el25 rfl rfl rfl hO47 (r2.1) (own_holds (r2.carry hB0)) hr1 (by omega) (Nat.le_trans hGn1 hB0.size) (fun v50 w50 hO50 hg hob50 => ?_)
       have hlo : ∀ j, some j = _ → n1 ≤ j := fun j hj => (Own.lt hO47 (j := j) hj).1
       have hlo3 : n1 ≤ w50.heap.size := Nat.le_trans hGn1 (hB0.step hg (fun j hj e => by have := hlo j e; omega)).size
       have bx3 := bx3.carryR hg (fun e => by have := hlo _ e; omega)
       have hB0 := hB0.step hg (fun j hj e => by have := hlo j e; omega)
       have hlo9 : ∀ j, some j = v50.ownBlock → n1 ≤ j := fun j hj => (Own.lt hO50 (j := j) hj).1
       have hloN : ∀ j, some j = (Value.slice a44 (tN s (i + 1)).length c44).ownBlock → n0 ≤ j := fun j hj => (Own.lt hN (j := j) hj).1
       have f5 : 1 + (tP s i).length = (tP s i).length + 1 := by omega
       have f6 : cs25 ++ rows.flatten = rows.flatten.take (0 * 5) ++ cs25 ++ rows.flatten.drop (0 * 5) := by simp
       rw [f5, f6] at hO50
       have hP := ShsOwn.ins (A := Av base w25 _ _) (A' := Av base w50 (.slice a44 (tN s (i + 1)).length c44) v50) r1 r3 (fun i hi => (r4 i hi).mono (fun j _ h => av_mono hs25 h)) (Nat.zero_le _) ht (hO50.weak (show base ≤ n1 by omega)) hB0 (fun j h => by
         rcases h with h | h | h | h
         · exact .inl h
         · exact .inr (.inr (.inr (by have := hloN j h; omega)))
         · exact .inr (.inr (.inr (by have := hlo9 j h; omega)))
         · exact .inr (.inr (.inr (by omega))))
       rw [List.take_zero, List.drop_zero, List.nil_append, ← tP_succ hne hip] at hP
       have hN : Own wl47 base _ _ _ _ _ := hN.weak (by omega)
       obtain ⟨a50, c50, rfl, -⟩ := own_shape hO50
       clear r2 r4 ht
       have hB := hB.carry hB0; have hr := hr.carry hB0; have hn := hn.carry hB0; have bx1 := bx1.carry hB0; have bx2 := bx2.carry hB0; have hG := hG.carry hB0; have hN := hN.carry hB0
       refine L.val (x_fa kturned_fo25_4 rfl) rfl ?_
       refine L.set (v := .slice _ _ _) kturned_sz23 rfl rfl rfl bx3 rfl (fun wl54 bx3 hw hzl54 => ?_)
       have hsz := hB.size
       have hB := hB.set hw (by omega); have hr := hr.carryR hw (fun k e => hU k (by have : k = _ := e; omega)); have hn := hn.carryR hw (fun k e => hU k (by have : k = _ := e; omega)); have bx1 := bx1.carryR hw (by omega); have bx2 := bx2.carryR hw (by omega); have hG := hG.carryR hw; have hN := Own.carryR hN hw (fun j hj e => by have e : j = _ := e; have h1 := (Own.lt hN hj).1; first | omega | (have h2 := hqN j hj; omega)); have hP := hP.carryA (A' := _) hw (fun j hj e => by have e : j = _ := e; have h1 := (hP.lt hj).1; first | omega | (have h2 := hqP j hj; omega)) (fun j e => by have e : j = _ := e; first | exact .inl (by omega) | exact .inr (.inr (.inr (by omega)))) (fun _ h => h)
       have hi' : i + 1 ≤ s.parts.length := hip
       have hP := ShsOwn.carryA (A' := Av base wl54 _ _) hP (Gr.refl (fun _ => False) _) (fun _ _ f => f) (fun _ f => f.elim) (fun j h => av_mono (Nat.le_of_eq hzl54.symm) h)
       refine L.nil ?_
       refine blk_n ?_
       refine thn_n ?_
       refine W.region ?_
       refine L.val (x_mv (v := .int _ _) rfl) rfl ?_
       refine L.val (x_add rfl rfl (wr64 (by omega))) rfl ?_
       refine L.val (x_as (v := .int _ _) rfl) rfl ?_
       refine L.nil ?_
       refine thn_n ⟨rfl, ?_⟩
       refine ⟨_, ?_, i + 1, _, _, rfl, by first | rfl | exact vi (by omega), by first | rfl | exact vi (by omega), by first | rfl | exact vi (by omega), by first | rfl | exact vi (by omega), (by first | assumption | omega | rfl), (by first | assumption | omega | rfl), (by first | assumption | omega | rfl), (by first | assumption | omega | rfl), (by first | assumption | omega | rfl), (by first | assumption | omega | rfl), (by first | assumption | omega | rfl), (by first | assumption | omega | rfl), (by first | assumption | omega | rfl), (by first | assumption | omega | rfl)⟩
       omega
     ·have h17 := dlt_f g17
      refine W.exit (thn_x (thn_x (blk_hit ?_)))
      refine thn_n ?_
      refine W.seq ?_
      refine W.region ?_
      obtain ⟨xsP, hPo⟩ := hP.own
      refine L.val (x_ldn (vs := _) kturned_ag25 rfl rfl (bx3.row rfl)) rfl ?_
      refine L.setRow kturned_ag25 rfl rfl bx2 rfl rfl (by intro v hv; simp only [List.mem_cons, List.not_mem_nil, or_false] at hv; rcases hv with rfl | rfl | rfl | rfl | rfl <;> first | rfl | exact own_one hN | exact own_one hPo) (fun wl59 bx2 hw hzl59 => ?_)
      have hsz := hB.size
      have hB := hB.set hw (by omega); have bx3 := bx3.carryR hw (by omega); have hN := Own.carryR hN hw (fun j hj e => by have e : j = _ := e; have h1 := (Own.lt hN hj).1; first | omega | (have h2 := hqN j hj; omega)); have hP := hP.carryA (A' := _) hw (fun j hj e => by have e : j = _ := e; have h1 := (hP.lt hj).1; first | omega | (have h2 := hqP j hj; omega)) (fun j e => by have e : j = _ := e; first | exact .inl (by omega) | exact .inr (.inr (.inr (by omega)))) (fun _ h => h); have hG := hG.carryR hw
      refine L.nil ?_
      refine thn_n ?_
      refine W.ret (finR_mk (.inr rfl) ?_)
      have hii : i = s.parts.length := by omega
      subst hii
      have hNl := @tN_len s s.parts.length
      have hPl := tP_len (Nat.le_refl s.parts.length)
      refine ⟨_, resS rfl kturned_ag25 rfl bx2 rfl, _, rfl, ?_, hB⟩
      rw [← turn_of_t hfs]
      exact ShC.intro (strs_done hN (by omega) (tN_short hL) (fun j h => by omega)) (hP.done (by omega) (fun j h => .inl (by omega)) (fun j h => by omega)) hof hnm
end Go.Gx

