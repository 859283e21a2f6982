/- The reference's order of records and sums. Conditions: none. -/
import Derived.Test.YteehllhldaopjaaGreatSame
import Derived.Test.YteehllhldaopjaaGreatTake
namespace Go.Gx
open Go.Proofs Go.Sort
theorem krsort_ag25 : aggT Tryz.prog 25 5 = true := by kernel_rfl
theorem krsort_el25 : elT Tryz.prog 25 5 = true := by kernel_rfl
theorem krsort_el9 : elT Tryz.prog 9 1 = true := by kernel_rfl
theorem krsort_en73 : Go.Proofs.Enters Tryz.prog 73 := Go.Proofs.enters_of Tryz.func73 (by kernel_rfl) rfl
theorem krsort_fo25_0 : fieldOff Tryz.prog 25 0 = some 0 := by kernel_rfl
theorem krsort_fo25_1 : fieldOff Tryz.prog 25 1 = some 1 := by kernel_rfl
theorem krsort_fo25_2 : fieldOff Tryz.prog 25 2 = some 2 := by kernel_rfl
theorem krsort_fo25_3 : fieldOff Tryz.prog 25 3 = some 3 := by kernel_rfl
theorem krsort_fo25_4 : fieldOff Tryz.prog 25 4 = some 4 := by kernel_rfl
theorem krsort_mixed : Tryz.prog.follows .mixedOrders = true := by kernel_rfl
theorem krsort_oc22 : oneCellT Tryz.prog 22 = true := by kernel_rfl
theorem krsort_oc23 : oneCellT Tryz.prog 23 = true := by kernel_rfl
theorem krsort_oc3 : oneCellT Tryz.prog 3 = true := by kernel_rfl
theorem krsort_oc9 : oneCellT Tryz.prog 9 = true := by kernel_rfl
theorem krsort_si25 : structInfo Tryz.prog 25 = some ([(0, 1), (1, 1), (2, 1), (3, 1), (4, 1)], [Value.int .i64 0, S [], S [], Value.slice none 0 0, Value.slice none 0 0]) := by kernel_rfl
theorem krsort_sz22 : (Tryz.prog.info? 22).map (·.size) = some 1 := by kernel_rfl
theorem krsort_sz23 : (Tryz.prog.info? 23).map (·.size) = some 1 := by kernel_rfl
theorem krsort_sz25 : (Tryz.prog.info? 25).map (·.size) = some 5 := by kernel_rfl
theorem krsort_sz9 : (Tryz.prog.info? 9).map (·.size) = some 1 := by kernel_rfl
theorem krsort_zr25 : (Tryz.prog.info? 25).bind (·.zero) = some (Value.agg [Value.int .i64 0, S [], S [], Value.slice none 0 0, Value.slice none 0 0].toArray) := by kernel_rfl

theorem insP_at {x : Str × Sh} : ∀ {l : List (Str × Sh)} {k : Nat}, (∀ j, j < k → ltStr (l.getD j ([], default)).1 x.1 = true) → k ≤ l.length → (k = l.length ∨ ltStr (l.getD k ([], default)).1 x.1 = false) → insP x l = l.take k ++ x :: l.drop k
  | [], k, _, h2, _ => by simp [insP]
  | y :: l, 0, _, _, h3 => by
    have h3 : ltStr y.1 x.1 = false := by simpa using h3
    simp [insP, h3]
  | y :: l, k + 1, h1, h2, h3 => by
    have h0 : ltStr y.1 x.1 = true := h1 0 (by omega)
    have ih := insP_at (x := x) (l := l) (k := k) (fun j hj => by simpa using h1 (j + 1) (by omega)) (by simpa using h2) (by simpa using h3)
    simp [insP, h0, ih]
def rPrs (s : Sh) (i : Nat) : List (Str × Sh) := ((s.names.zip (s.parts.map Sh.sort)).take i).foldl (fun a x => insP x a) []
def rN (s : Sh) (i : Nat) : List Str := if s.names = [] then [] else (rPrs s i).map (·.1)
def rP (s : Sh) (i : Nat) : List Sh := if s.names = [] then (s.parts.take i).map Sh.sort else (rPrs s i).map (·.2)
theorem rPrs_len (s : Sh) (i : Nat) : (rPrs s i).length = min i (min s.names.length s.parts.length) := by
  unfold rPrs
  rw [(foldP_perm _ []).length_eq]; simp
theorem rPrs_succ {s : Sh} {i : Nat} (hn : i < s.names.length) (hp : i < s.parts.length) : rPrs s (i + 1) = insP (s.names.getD i [], (s.parts.getD i default).sort) (rPrs s i) := by
  unfold rPrs
  rw [List.take_succ_eq_append_getElem (by simp; omega), List.foldl_append]
  simp [List.getD_eq_getElem?_getD, hn, hp]
theorem rP_len {s : Sh} {i : Nat} (h : s.names = [] ∨ s.names.length = s.parts.length) (hi : i ≤ s.parts.length) : (rP s i).length = i := by
  unfold rP; split
  · simp; omega
  · rw [List.length_map, rPrs_len]; rcases h with h | h; exact absurd h (by assumption); omega
theorem rN_len {s : Sh} {i : Nat} (hne : s.names ≠ []) (h : s.names.length = s.parts.length) (hi : i ≤ s.parts.length) : (rN s i).length = i := by
  unfold rN; rw [if_neg hne, List.length_map, rPrs_len]; omega
theorem sort_of_r {s : Sh} (h : s.names = [] ∨ s.names.length = s.parts.length) : Sh.mk s.kind s.of s.name (rN s s.parts.length) (rP s s.parts.length) = s.sort := by
  rw [Sh.sort_eq]
  unfold rN rP
  by_cases hn : s.names = []
  · rw [if_pos hn, if_pos hn, if_pos hn, List.take_length]
  · rw [if_neg hn, if_neg hn, if_neg hn]
    have := h.resolve_left hn
    unfold rPrs pairUp
    rw [List.take_of_length_le (by simp; omega)]
/-- One more, where it belongs. -/
theorem r_step {s : Sh} {i k : Nat} (hne : s.names ≠ []) (hl : s.names.length = s.parts.length) (hi : i < s.parts.length) (hk : k ≤ (rN s i).length)
    (h1 : ∀ j, j < k → ltStr ((rN s i).getD j []) (s.names.getD i []) = true) (h3 : k = (rN s i).length ∨ ltStr ((rN s i).getD k []) (s.names.getD i []) = false) :
    rN s (i + 1) = (rN s i).take k ++ s.names.getD i [] :: (rN s i).drop k ∧ rP s (i + 1) = (rP s i).take k ++ (s.parts.getD i default).sort :: (rP s i).drop k := by
  have hN : ∀ i, rN s i = (rPrs s i).map (·.1) := fun i => by unfold rN; rw [if_neg hne]
  have hP : ∀ i, rP s i = (rPrs s i).map (·.2) := fun i => by unfold rP; rw [if_neg hne]
  have hg : ∀ j, (rN s i).getD j [] = ((rPrs s i).getD j ([], default)).1 := fun j => by
    rw [hN]; simp only [List.getD_eq_getElem?_getD, List.getElem?_map]; cases (rPrs s i)[j]? <;> rfl
  have key := insP_at (x := (s.names.getD i [], (s.parts.getD i default).sort)) (l := rPrs s i) (k := k) (fun j hj => by rw [← hg]; exact h1 j hj) (by rw [hN] at hk; simpa using hk) (by rcases h3 with h3 | h3; exact .inl (by rw [hN, List.length_map] at h3; exact h3); exact .inr (by rw [hg] at h3; exact h3))
  rw [hN (i + 1), hP (i + 1), rPrs_succ (by omega) hi, key, hN, hP]
  simp

theorem lt_bytes (a b : Str) : Op.bytesLess a b = ltStr a b := by simp [Go.Proofs.bytesLess_eq, ltStr]
theorem ne_own {b X o m c : Nat} (h : b ≠ X) : ¬ some b = (Value.slice (some ⟨X, o, none⟩) m c).ownBlock := fun e => h (Option.some.inj e)
theorem flat_take {rows : List (List Value)} (h : ∀ i, i < rows.length → (rows.getD i []).length = 5) : ∀ k, k ≤ rows.length → rows.flatten.take (k * 5) = (rows.take k).flatten ∧ rows.flatten.drop (k * 5) = (rows.drop k).flatten := by
  induction rows with
  | nil => intro k hk; simp
  | cons r rows ih =>
    intro k hk
    have hr : r.length = 5 := by simpa using h 0 (by simp)
    cases k with
    | zero => simp
    | succ k =>
      have := ih (fun i hi => by simpa using h (i + 1) (by simpa using hi)) k (by simpa using hk)
      have e1 : (k + 1) * 5 = r.length + k * 5 := by omega
      simp only [List.flatten_cons, List.take_succ_cons, List.drop_succ_cons]
      rw [e1, List.take_length_add_append, List.drop_length_add_append, this.1, this.2]
      exact ⟨rfl, rfl⟩
theorem getD_ins {α : Type} {l : List α} {x d : α} {k i : Nat} (hk : k ≤ l.length) : (l.take k ++ x :: l.drop k).getD i d = if i < k then l.getD i d else if i = k then x else l.getD (i - 1) d := by
  have e : (l.take k).length = k := by simp; omega
  simp only [List.getD_eq_getElem?_getD]
  split
  · next h => rw [List.getElem?_append_left (by omega)]; simp [h]
  · next h =>
    rw [List.getElem?_append_right (by omega), e]
    split
    · next h' => subst h'; simp
    · next h' =>
      obtain ⟨j, hj⟩ : ∃ j, i - k = j + 1 := ⟨i - k - 1, by omega⟩
      rw [hj, List.getElem?_cons_succ, List.getElem?_drop, show k + j = i - 1 by omega]
/-- One more, put in. -/
theorem ShsOwn.ins {A A' : Nat → Prop} {w w' : World} {base k : Nat} {e : TypeId} {v' : Value} {l : List Sh} {rows : List (List Value)} {cs : List Value} {t : Sh} (h1 : rows.length = l.length) (h3 : ∀ i, i < l.length → (rows.getD i []).length = 5) (h4 : ∀ i, i < l.length → ShC A w (rows.getD i []) (l.getD i default))
    (hk : k ≤ l.length) (ht : ShC A w cs t) (ho : Own w' base e 5 v' (l.length + 1) (rows.flatten.take (k * 5) ++ cs ++ rows.flatten.drop (k * 5))) (g : Bel w w') (hA : ∀ j, A' j → A j) : ShsOwn A' w' base e v' (l.take k ++ t :: l.drop k) := by
  have hc : ∀ {cs s}, ShC A w cs s → ShC A' w' cs s := fun h => (h.carry g).mono fun j _ hj => hA j hj
  obtain ⟨f1, f2⟩ := flat_take (rows := rows) (fun i hi => h3 i (by omega)) k (by omega)
  refine ⟨rows.take k ++ cs :: rows.drop k, by simp; omega, ?_, fun i hi => ?_, fun i hi => ?_⟩
  · have e1 : (rows.take k ++ cs :: rows.drop k).flatten = rows.flatten.take (k * 5) ++ cs ++ rows.flatten.drop (k * 5) := by rw [f1, f2]; simp
    have e2 : (l.take k ++ t :: l.drop k).length = l.length + 1 := by simp; omega
    rw [e1, e2]; exact ho
  · have hi : i < l.length + 1 := by simp at hi; omega
    rw [getD_ins (by omega)]
    split
    · exact h3 i (by omega)
    · split
      · exact ht.len
      · exact h3 (i - 1) (by omega)
  · have hi : i < l.length + 1 := by simp at hi; omega
    rw [getD_ins (by omega), getD_ins hk]
    split
    · exact hc (h4 i (by omega))
    · split
      · exact hc ht
      · exact hc (h4 (i - 1) (by omega))
theorem rows_one {A : Nat → Prop} {w : World} {l : List Sh} {rows : List (List Value)} (h1 : rows.length = l.length) (h4 : ∀ i, i < l.length → ShC A w (rows.getD i []) (l.getD i default)) : ∀ u ∈ rows.flatten, u.oneCell' = true := by
  intro u hu
  obtain ⟨r, hr, hur⟩ := List.mem_flatten.1 hu
  obtain ⟨i, hi, rfl⟩ := List.getElem_of_mem hr
  have := (h4 i (by omega)).one
  rw [List.getD_eq_getElem?_getD, List.getElem?_eq_getElem hi] at this
  exact this u hur
theorem rP_nil {s : Sh} {i : Nat} (h : s.names = []) (hi : i < s.parts.length) : rP s (i + 1) = rP s i ++ [(s.parts.getD i default).sort] := by
  unfold rP
  rw [if_pos h, if_pos h, List.take_succ_eq_append_getElem hi, List.map_append]
  congr 1
  simp [List.getD_eq_getElem?_getD, hi]
theorem rN_zero (s : Sh) : rN s 0 = [] := by unfold rN rPrs; split <;> rfl
theorem rP_zero (s : Sh) : rP s 0 = [] := by unfold rP rPrs; split <;> rfl
theorem rN_nil {s : Sh} {i : Nat} (h : s.names = []) : rN s i = [] := by unfold rN; rw [if_pos h]
theorem rN_len' {s : Sh} {i : Nat} (h : s.names = [] ∨ s.names.length = s.parts.length) (hi : i ≤ s.parts.length) : (rN s i).length ≤ i := by
  rcases h with h | h
  · rw [rN_nil h]; simp
  · by_cases hn : s.names = []
    · rw [rN_nil hn]; simp
    · rw [rN_len hn h hi]; omega
theorem rN_short {s : Sh} {i : Nat} (h : ∀ x ∈ s.names, x.length ≤ 9223372036854775807) : ∀ x ∈ rN s i, x.length ≤ 9223372036854775807 := by
  unfold rN
  split
  · simp
  · intro x hx
    obtain ⟨y, hy, rfl⟩ := List.mem_map.1 hx
    have : y ∈ (s.names.zip (s.parts.map Sh.sort)).take i := by
      have := (foldP_perm ((s.names.zip (s.parts.map Sh.sort)).take i) []).mem_iff (a := y)
      unfold rPrs at hy
      rw [this] at hy
      simpa using hy
    exact h _ (List.of_mem_zip (List.mem_of_mem_take this)).1

set_option maxHeartbeats 4000000 in
theorem rsorted0 : ∀ (N : Nat) (s : Sh), SizeOf.sizeOf s < N → s.size ≤ 400 → s.allB fitsS = true → ∀ (A : Nat → Prop) (cs : List Value) (w : World), ShC A w cs s →
    Ret Tryz.prog 73 #[.agg cs.toArray] w fun v w' => ∃ cs', v = .agg cs'.toArray ∧ ShC (fun k => k < w.heap.size) w' cs' s.sort ∧ Bel w w' := by
  intro N
  induction N with
  | zero => intro s h; omega
  | succ N ih =>
    intro s hN hM hfit A0 cs w hs0
    obtain ⟨A, hs, hU⟩ : ∃ A : Nat → Prop, ShC A w cs s ∧ (∀ k, w.heap.size ≤ k → A k) := ⟨_, hs0.up, fun _ => .inr⟩
    clear hs0
    obtain ⟨vn, vp, rfl, hn, hp, hof, hnm⟩ := hs.inv
    obtain ⟨p, cap, row, rfl, p1, p2, p3, hr⟩ := hp
    obtain ⟨pn, capn, rfl, n1, n2, n3, hL, -⟩ := id hn
    have hple := parts_le s
    have hfs : s.names = [] ∨ s.names.length = s.parts.length := (fits_names (by rw [Sh.allB_eq] at hfit; simp at hfit; exact hfit.1)).imp id (·.1)
    have hfp : allL fitsS s.parts = true := by rw [Sh.allB_eq] at hfit; simp at hfit; exact hfit.2
    clear hs
    refine ret_of_W_R Tryz.func73 rfl (Nat.le_of_ble_eq_true rfl) ?_
    have hB := Gr.refl (fun _ => False) w
    refine W.seq ?_
    refine W.region ?_
    refine L.box (cs := _) rfl rfl (fun w1 bx1 hw hz1 => ?_)
    have hB := hB.carry hw; have hr := hr.carry hw; have hn := hn.carry hw
    refine L.alloc (cs := [Value.int .i64 0, S [], S [], Value.slice none 0 0, Value.slice none 0 0]) krsort_zr25 rfl rfl (fun w2 bx2 hw hz2 => ?_)
    have hB := hB.carry hw; have hr := hr.carry hw; have hn := hn.carry hw; have bx1 := bx1.carry hw
    refine L.nil ?_
    refine thn_n ?_
    refine W.seq ?_
    refine W.region ?_
    refine L.val (x_fa krsort_fo25_0 rfl) rfl ?_
    refine L.val (x_ld (v := .int _ _) krsort_oc3 rfl (bx1.cell0 rfl)) rfl ?_
    refine L.val (x_fa krsort_fo25_1 rfl) rfl ?_
    refine L.val (x_ld (v := S _) krsort_oc9 rfl (bx1.cell0 rfl)) rfl ?_
    refine L.val (x_fa krsort_fo25_2 rfl) rfl ?_
    refine L.val (x_ld (v := S _) krsort_oc9 rfl (bx1.cell0 rfl)) rfl ?_
    refine L.val (x_build (cells := [.int _ _, S _, S _, .slice _ _ _, .slice _ _ _]) krsort_si25 rfl rfl) rfl ?_
    refine L.alloc (cs := [Value.int .i64 0, S [], S [], Value.slice none 0 0, Value.slice none 0 0]) krsort_zr25 rfl rfl (fun w3 bx3 hw hz3 => ?_)
    have hB := hB.carry hw; have hr := hr.carry hw; have hn := hn.carry hw; have bx1 := bx1.carry hw; have bx2 := bx2.carry hw
    refine L.setRow krsort_ag25 rfl rfl bx3 rfl rfl (by simp [Value.oneCell', S]) (fun wl11 bx3 hw hzl11 => ?_)
    have hsz := hB.size
    have hB := hB.set hw (by omega); have hr := hr.carryR hw (fun k e => hU k (by have : k = _ := e; omega)); have hn := hn.carryR hw (fun k e => hU k (by have : k = _ := e; omega)); have bx1 := bx1.carryR hw (by omega); have bx2 := bx2.carryR hw (by omega)
    obtain ⟨b3, hb3⟩ : ∃ b3, b3 = w2.heap.size := ⟨_, rfl⟩
    rw [← hb3] at bx3 ⊢
    obtain ⟨b2, hb2⟩ : ∃ b2, b2 = w1.heap.size := ⟨_, rfl⟩
    rw [← hb2] at bx2 ⊢
    have z1 : w.heap.size < b2 ∧ b2 < b3 := by omega
    obtain ⟨base, hbase⟩ : ∃ base, base = wl11.heap.size := ⟨_, rfl⟩
    have z2 : b3 < base := by have e : wl11.heap.size = w3.heap.size := hzl11; omega
    have hG : Ge base wl11 := by rw [hbase]; exact Nat.le_refl _
    clear hb2 hb3 hz1 hz2 hz3 hzl11 hbase
    refine L.nil ?_
    refine thn_n ?_
    refine W.seq ?_
    refine W.seq ?_
    refine W.region ?_
    refine L.val (x_as (v := .int _ _) rfl) rfl ?_
    refine L.nil ?_
    refine thn_n ?_
    refine W.block ?_
    refine W.loop (fun m' E w' => ∃ (i : Nat) (vN vP : Value), m' = s.parts.length - i ∧ E 1 = .pointer (some ⟨w.heap.size, 0, none⟩) ∧ E 2 = .pointer (some ⟨b2, 0, none⟩) ∧ E 3 = .pointer (some ⟨b3, 0, none⟩) ∧ E 4 = .int .i64 (i : Nat) ∧ (Bel w w') ∧ (ShRow A w' p row s.parts) ∧ (StrsAt A w' (.slice pn s.names.length capn) s.names) ∧ (Box w' w.heap.size 25 [.int .i64 s.kind, S s.of, S s.name, .slice pn s.names.length capn, .slice p s.parts.length cap]) ∧ (Box w' b2 25 [.int .i64 0, S [], S [], .slice none 0 0, .slice none 0 0]) ∧ (Box w' b3 25 [.int .i64 s.kind, S s.of, S s.name, vN, vP]) ∧ (Ge base w') ∧ (i ≤ s.parts.length) ∧ (Own w' base 9 1 vN (rN s i).length ((rN s i).map S)) ∧ (ShsOwn (Av base w' vN vP) w' base 25 vP (rP s i))) (s.parts.length) ?_ ?_
    ·exact ⟨0, .slice none 0 0, .slice none 0 0, by omega, by first | rfl | exact vi (by omega), by first | rfl | exact vi (by omega), by first | rfl | exact vi (by omega), by first | rfl | exact vi (by omega), (by first | assumption | omega | rfl), (by first | assumption | omega | rfl), (by first | assumption | omega | rfl), (by first | assumption | omega | rfl), (by first | assumption | omega | rfl), (by first | assumption | omega | rfl), (by first | assumption | omega | rfl), (by first | assumption | omega | rfl), (by rw [rN_zero]; exact own_nil), (by rw [rP_zero]; exact ShsOwn.nil)⟩
    ·rintro _ E wL14 ⟨i, vN, vP, em, e1, e2, e3, e4, hB, hr, hn, bx1, bx2, bx3, hG, hi, hN, hP⟩
     rw [upd_self e1, upd_self e2, upd_self e3, upd_self e4]
     refine W.seq ?_
     refine W.seq ?_
     refine W.region ?_
     refine L.val (x_mv (v := .int _ _) rfl) rfl ?_
     refine L.val (x_fa krsort_fo25_4 rfl) rfl ?_
     refine L.val (x_ld (v := .slice _ _ _) krsort_oc23 rfl (bx1.cell0 rfl)) rfl ?_
     refine L.val (x_len_slice Tryz.underlying23 rfl) rfl ?_
     refine L.val (x_lss rfl rfl) rfl ?_
     refine L.nil ?_
     refine thn_n ?_
     refine W.cond (b := _) rfl (fun g18 => ?_) (fun g18 => ?_)
     ·have h18 := of_decide_eq_true g18
      refine W.skip ?_
      refine thn_n ?_
      refine W.seq ?_
      refine W.block ?_
      refine W.seq ?_
      refine W.region ?_
      refine L.val (x_fa krsort_fo25_4 rfl) rfl ?_
      refine L.val (x_ld (v := .slice _ _ _) krsort_oc23 rfl (bx1.cell0 rfl)) rfl ?_
      have hip : i < s.parts.length := by omega
      obtain ⟨bp, op, rfl, -⟩ := hr.elem hip
      obtain ⟨q, hq⟩ : ∃ q, q = wL14.heap.size := ⟨_, rfl⟩
      have hGq : Ge q wL14 := by rw [hq]; exact Nat.le_refl _
      have hqb : base ≤ q := by rw [hq]; exact hG
      obtain ⟨aN, cN, rfl, hcN⟩ := own_shape hN
      obtain ⟨xsP, hPo⟩ := hP.own
      obtain ⟨aP, cP, rfl, hcP⟩ := own_shape hPo
      clear hPo xsP
      have hqN := fun j h => (Own.lt hN (j := j) h).2
      have hqP := fun j h => (hP.lt (j := j) h).2
      have hNl := rN_len' (i := i) hfs hi
      have hPl := rP_len (i := i) hfs hi
      refine L.val (x_mv (v := .int _ _) rfl) rfl ?_
      refine L.val (x_ia (j := i) Tryz.underlying23 krsort_sz25 rfl rfl (by omega) (by omega)) rfl ?_
      refine L.val (x_ldn (vs := row i) krsort_ag25 rfl (hr.five i hip) (hr.elemAt hip)) rfl ?_
      refine L.ret (x_call krsort_en73 rfl) rfl (ih _ (by have := Sh.part_lt hip; omega) (by have := Sh.part_size hip; omega) (allL_getD hfp hip) A _ _ (hr.each i hip)) ?_
      rintro _ w26 ⟨cs26, rfl, ht, hw⟩
      have hB := hB.carry hw; have hr := hr.carry hw; have hn := hn.carry hw; have bx1 := bx1.carry hw; have bx2 := bx2.carry hw; have bx3 := bx3.carry hw; have hG := hG.carry hw; have hN := hN.carry hw; have hP := hP.carry hw; have hGq := hGq.carry hw
      have hs26 : wL14.heap.size ≤ w26.heap.size := hw.size
      have hqb5 : q ≤ w26.heap.size := hGq
      have ht : ShC (Av base w26 (.slice aN (rN s i).length cN) (.slice aP (rP s i).length cP)) w26 cs26 _ := ht.up.mono (fun j _ h => by
        rcases h with h | h | h | h
        · exact .inl (show j < wL14.heap.size by omega)
        · exact .inl (hqN j h)
        · exact .inl (hqP j h)
        · exact .inr h)
      have hGt : Ge w26.heap.size w26 := Nat.le_refl _
      refine L.alloc (cs := [Value.int .i64 0, S [], S [], Value.slice none 0 0, Value.slice none 0 0]) krsort_zr25 rfl rfl (fun w5 bx5 hw hz5 => ?_)
      have hB := hB.carry hw; have hr := hr.carry hw; have hn := hn.carry hw; have bx1 := bx1.carry hw; have bx2 := bx2.carry hw; have bx3 := bx3.carry hw; have hG := hG.carry hw; have hN := hN.carry hw; have hP := hP.carry hw; have hGq := hGq.carry hw; have ht := ht.carry hw; have hGt := hGt.carry hw
      obtain ⟨b5, hb5⟩ : ∃ b5, b5 = w26.heap.size := ⟨_, rfl⟩
      rw [← hb5] at bx5 ⊢
      refine L.setRow krsort_ag25 rfl rfl bx5 rfl (ShC.len ht) (ShC.one ht) (fun wl25 bx5 hw hzl25 => ?_)
      have hsz := hB.size
      have hB := hB.set hw (by omega); have hr := hr.carryR hw (fun k e => hU k (by have : k = _ := e; omega)); have hn := hn.carryR hw (fun k e => hU k (by have : k = _ := e; omega)); have bx1 := bx1.carryR hw (by omega); have bx2 := bx2.carryR hw (by omega); have bx3 := bx3.carryR hw (by omega); have hG := hG.carryR hw; have hN := Own.carryR hN hw (fun j hj e => by have e : j = _ := e; have h1 := (Own.lt hN hj).1; first | omega | (have h2 := hqN j hj; omega)); have hP := hP.carryA (A' := _) hw (fun j hj e => by have e : j = _ := e; have h1 := (hP.lt hj).1; first | omega | (have h2 := hqP j hj; omega)) (fun j e => by have e : j = _ := e; first | exact .inl (by omega) | exact .inr (.inr (.inr (by omega)))) (fun _ h => h); have hGq := hGq.carryR hw; have ht := ht.carryR hw (fun j e => by have e : j = _ := e; first | exact .inl (by omega) | exact .inr (.inr (.inr (by omega)))); have hGt := hGt.carryR hw
      refine L.nil ?_
      refine thn_n ?_
      refine W.seq ?_
      refine W.seq ?_
      refine W.region ?_
      refine L.val (x_fa krsort_fo25_3 rfl) rfl ?_
      refine L.val (x_ld (v := .slice _ _ _) krsort_oc22 rfl (bx1.cell0 rfl)) rfl ?_
      refine L.val (x_len_slice Tryz.underlying22 rfl) rfl ?_
      refine L.val (x_eql rfl rfl) rfl ?_
      refine L.nil ?_
      refine thn_n ?_
      refine W.cond (b := _) rfl (fun g30 => ?_) (fun g30 => ?_)
      ·have h30 := of_decide_eq_true g30
       have hne : s.names = [] := List.eq_nil_of_length_eq_zero (by omega)
       refine W.seq ?_
       refine W.region ?_
       refine L.val (x_fa krsort_fo25_4 rfl) rfl ?_
       refine L.val (x_ld (v := .slice _ _ _) krsort_oc23 rfl (bx3.cell0 rfl)) rfl ?_
       refine L.val (x_ldn (vs := cs26) krsort_ag25 rfl ht.len (bx5.row ht.len)) rfl ?_
       refine L.bs (sz := 5) (cells := cs26) Tryz.underlying23 krsort_el25 rfl (by show (partsOk 5 0 [(0, Value.agg cs26.toArray)] && decide ([((0 : Nat), Value.agg cs26.toArray)].length = 1) && decide (0 < 1) && decide (1 * 5 ≤ 16777216)) = true; simp [partsOk, ht.len, Value.cells]) (by show ([((0 : Nat), Value.agg cs26.toArray)].map fun x => x.2.cells.toList).flatten = cs26; simp [Value.cells]) rfl (fun w34 bx34 hw hz34 => ?_)
       have hB := hB.carry hw; have hr := hr.carry hw; have hn := hn.carry hw; have bx1 := bx1.carry hw; have bx2 := bx2.carry hw; have bx3 := bx3.carry hw; have hG := hG.carry hw; have hN := hN.carry hw; have hP := hP.carry hw; have hGq := hGq.carry hw; have ht := ht.carry hw; have hGt := hGt.carry hw; have bx5 := bx5.carry hw
       obtain ⟨rows, r1, r2, r3, r4⟩ := hP
       refine L.append (m := 1) Tryz.underlying23 krsort_el25 rfl rfl rfl r2 ht.len bx34.news (ShC.one ht) (by omega) hG (fun v35 w35 hO35 hg hiff35 hob35 => ?_)
       obtain ⟨g35, c35, rfl⟩ := own_form hO35
       have hlo : ∀ j, some j = (Value.slice aP (rP s i).length cP).ownBlock → base ≤ j := fun j hj => (r2.lt hj).1
       have hP := ShsOwn.snoc (A := Av base w34 _ _) (A' := Av base w35 (.slice aN (rN s i).length cN) (.slice (some ⟨g35, 0, none⟩) ((rP s i).length + 1) c35)) r1 r3 (fun i hi => (r4 i hi).mono (fun j _ h => av_mono (by have : q ≤ w34.heap.size := hGq; omega) h)) (ht.mono (fun j _ h => av_mono hGt h)) hO35 hg (fun j e => .inr (.inr (.inl e))) (fun j h => av_step hg.size (.inl rfl) hob35 h)
       have hN := Own.carryR hN hg (fun j hj hj' => own_ne hN r2 rfl hj hj')
       have hB := hB.step hg (fun i hi e => by have := hlo i e; omega)
       have hr := hr.carryR hg (fun j e => hU j (by have := hlo j e; omega))
       have hn := hn.carryR hg (fun j e => hU j (by have := hlo j e; omega))
       have bx1 := bx1.carryR hg (fun e => by have := hlo _ e; omega)
       have bx2 := bx2.carryR hg (fun e => by have := hlo _ e; omega)
       have bx3 := bx3.carryR hg (fun e => by have := hlo _ e; omega)
       have hG := hG.carryR hg
       refine L.val (x_fa krsort_fo25_4 rfl) rfl ?_
       refine L.set (v := .slice _ _ _) krsort_sz23 rfl rfl rfl bx3 rfl (fun wl36 bx3 hw hzl36 => ?_)
       have hsz := hB.size
       have hB := hB.set hw (by omega); have hr := hr.carryR hw (fun k e => hU k (by have : k = _ := e; omega)); have hn := hn.carryR hw (fun k e => hU k (by have : k = _ := e; omega)); have bx1 := bx1.carryR hw (by omega); have bx2 := bx2.carryR hw (by omega); have hG := hG.carryR hw; have hN := Own.carryR hN hw (fun j hj e => by have e : j = _ := e; have h1 := (Own.lt hN hj).1; first | omega | (have h2 := hqN j hj; omega)); have hP := hP.carryA (A' := _) hw (fun j hj e => by have e : j = _ := e; have h1 := (hP.lt hj).1; first | omega | (have h2 := hqP j hj; omega)) (fun j e => by have e : j = _ := e; first | exact .inl (by omega) | exact .inr (.inr (.inr (by omega)))) (fun _ h => h)
       have hi' : i + 1 ≤ s.parts.length := hip
       have hP : ShsOwn (Av base wl36 (.slice aN (rN s i).length cN) (.slice (some ⟨g35, 0, none⟩) ((rP s i).length + 1) c35)) wl36 base 25 (.slice (some ⟨g35, 0, none⟩) ((rP s i).length + 1) c35) (rP s (i + 1)) := by
         rw [rP_nil hne hip]
         exact ShsOwn.carryA hP (Gr.refl (fun _ => False) _) (fun _ _ f => f) (fun _ f => f.elim) (fun j h => av_mono (Nat.le_of_eq hzl36.symm) h)
       have hN : Own wl36 base 9 1 (.slice aN (rN s i).length cN) (rN s (i + 1)).length ((rN s (i + 1)).map S) := by
         have e1 : rN s (i + 1) = rN s i := by rw [rN_nil hne, rN_nil hne]
         rw [e1]; exact hN
       refine L.nil ?_
       refine thn_n ?_
       refine W.exit (thn_x (blk_hit ?_))
       refine thn_n ?_
       refine W.region ?_
       refine L.val (x_mv (v := .int _ _) rfl) rfl ?_
       refine L.val (x_add rfl rfl (wr64 (by omega))) rfl ?_
       refine L.val (x_as (v := .int _ _) rfl) rfl ?_
       refine L.nil ?_
       refine thn_n ⟨rfl, ?_⟩
       refine ⟨_, ?_, i + 1, _, _, rfl, by first | rfl | exact vi (by omega), by first | rfl | exact vi (by omega), by first | rfl | exact vi (by omega), by first | rfl | exact vi (by omega), (by first | assumption | omega | rfl), (by first | assumption | omega | rfl), (by first | assumption | omega | rfl), (by first | assumption | omega | rfl), (by first | assumption | omega | rfl), (by first | assumption | omega | rfl), (by first | assumption | omega | rfl), (by first | assumption | omega | rfl), (by first | assumption | omega | rfl), (by first | assumption | omega | rfl)⟩
       omega
      ·have h30 := of_decide_eq_false g30
       have hne : s.names ≠ [] := fun e => by rw [e] at h30; simp at h30
       have hln : s.names.length = s.parts.length := hfs.resolve_left hne
       have hin : i < s.names.length := by omega
       obtain ⟨bn, on, rfl, -⟩ := hn.elem (i := i) hin
       have hNl := rN_len hne hln hi
       refine W.skip ?_
       refine thn_n ?_
       refine W.seq ?_
       refine W.region ?_
       refine L.val (x_as (v := .int _ _) rfl) rfl ?_
       refine L.nil ?_
       refine thn_n ?_
       refine W.seq ?_
       refine W.block ?_
       refine W.loop (fun m' E w' => ∃ (k : Nat), m' = (rN s i).length - k ∧ E 1 = .pointer (some ⟨w.heap.size, 0, none⟩) ∧ E 2 = .pointer (some ⟨b2, 0, none⟩) ∧ E 3 = .pointer (some ⟨b3, 0, none⟩) ∧ E 4 = .int .i64 (i : Nat) ∧ E 5 = .pointer (some ⟨b5, 0, none⟩) ∧ E 6 = .int .i64 (k : Nat) ∧ (Bel wl25 w') ∧ (k ≤ (rN s i).length) ∧ (∀ j, j < k → ltStr ((rN s i).getD j []) (s.names.getD i []) = true)) ((rN s i).length) ?_ ?_
       ·exact ⟨0, by omega, by first | rfl | exact vi (by omega), by first | rfl | exact vi (by omega), by first | rfl | exact vi (by omega), by first | rfl | exact vi (by omega), by first | rfl | exact vi (by omega), by first | rfl | exact vi (by omega), (by exact Gr.refl _ _), (by first | assumption | omega | rfl), (by intro j hj; omega)⟩
       ·rintro _ E wL37 ⟨k, em, e1, e2, e3, e4, e5, e6, hB0, hk, h1⟩
        rw [upd_self e1, upd_self e2, upd_self e3, upd_self e4, upd_self e5, upd_self e6]
        refine W.seq ?_
        refine W.seq ?_
        refine W.drawB krsort_mixed (by kernel_rfl) ?_
        have hB := hB.carry hB0; have hr := hr.carry hB0; have hn := hn.carry hB0; have bx1 := bx1.carry hB0; have bx2 := bx2.carry hB0; have bx3 := bx3.carry hB0; have bx5 := bx5.carry hB0; have hG := hG.carry hB0; have hN := hN.carry hB0; have hP := hP.carry hB0; have hGq := hGq.carry hB0; have hGt := hGt.carry hB0; have ht := ht.carry hB0
        refine LQ.val (fun w hw => x_mv (v := .int _ _) rfl) rfl ?_
        refine LQ.val (fun w hw => x_fa krsort_fo25_3 rfl) rfl ?_
        refine LQ.val (fun w hw => x_ld (v := .slice _ _ _) krsort_oc22 rfl (hw.keep (bx3.cell0 rfl))) rfl ?_
        refine LQ.val (fun w hw => x_len_slice Tryz.underlying22 rfl) rfl ?_
        refine LQ.val (fun w hw => x_lss rfl rfl) rfl ?_
        refine LQ.val (fun w hw => x_mv (v := .bool _) rfl) rfl ?_
        refine' LQ.group 11 43 53 53 42 true rfl ?_ ?_ ?_
        rotate_left 1
        ·intro g42
         have h42 := of_decide_eq_true g42
         have hkl : k < (rN s i).length := by omega
         obtain ⟨bN, rfl⟩ := own_pos hN (by omega)
         refine LQ.gyes' (dj := 42) (b := _) rfl rfl g42 ?_
         refine LQ.val (fun w hw => x_fa krsort_fo25_3 rfl) rfl ?_
         refine LQ.gyes' (dj := 42) (b := _) rfl rfl g42 ?_
         refine LQ.val (fun w hw => x_ld (v := .slice _ _ _) krsort_oc22 rfl (hw.keep (bx3.cell0 rfl))) rfl ?_
         refine LQ.gyes' (dj := 42) (b := _) rfl rfl g42 ?_
         refine LQ.val (fun w hw => x_mv (v := .int _ _) rfl) rfl ?_
         refine LQ.gyes' (dj := 42) (b := _) rfl rfl g42 ?_
         refine LQ.val (fun w hw => x_ia1 (j := k) Tryz.underlying22 krsort_sz9 rfl rfl (by omega) (by omega)) rfl ?_
         refine LQ.gyes' (dj := 42) (b := _) rfl rfl g42 ?_
         refine LQ.val (fun w hw => x_ld (v := S _) krsort_oc9 rfl (hw.keep (own_cell1 hN hkl))) rfl ?_
         refine LQ.gyes' (dj := 42) (b := _) rfl rfl g42 ?_
         refine LQ.val (fun w hw => x_fa krsort_fo25_3 rfl) rfl ?_
         refine LQ.gyes' (dj := 42) (b := _) rfl rfl g42 ?_
         refine LQ.val (fun w hw => x_ld (v := .slice _ _ _) krsort_oc22 rfl (hw.keep (bx1.cell0 rfl))) rfl ?_
         refine LQ.gyes' (dj := 42) (b := _) rfl rfl g42 ?_
         refine LQ.val (fun w hw => x_mv (v := .int _ _) rfl) rfl ?_
         refine LQ.gyes' (dj := 42) (b := _) rfl rfl g42 ?_
         refine LQ.val (fun w hw => x_ia1 (j := i) Tryz.underlying22 krsort_sz9 rfl rfl (by omega) (by omega)) rfl ?_
         refine LQ.gyes' (dj := 42) (b := _) rfl rfl g42 ?_
         refine LQ.val (fun w hw => x_ld (v := S _) krsort_oc9 rfl (hw.keep (hn.elemAt hin))) rfl ?_
         refine LQ.gyes' (dj := 42) (b := _) rfl rfl g42 ?_
         refine LQ.val (fun w hw => x_lts rfl rfl) rfl ?_
         refine LQ.nil ?_
         refine ⟨?_, rfl⟩
         repeat (first | exact jeq.refl _ _ _ | refine jeq.upd rfl ?_ | refine jeq.jk rfl rfl ?_)
        ·intro g42
         refine LQ.gno (dj := 42) (b := _) rfl rfl g42 rfl ?_
         refine LQ.gno (dj := 42) (b := _) rfl rfl g42 rfl ?_
         refine LQ.gno (dj := 42) (b := _) rfl rfl g42 rfl ?_
         refine LQ.gno (dj := 42) (b := _) rfl rfl g42 rfl ?_
         refine LQ.gno (dj := 42) (b := _) rfl rfl g42 rfl ?_
         refine LQ.gno (dj := 42) (b := _) rfl rfl g42 rfl ?_
         refine LQ.gno (dj := 42) (b := _) rfl rfl g42 rfl ?_
         refine LQ.gno (dj := 42) (b := _) rfl rfl g42 rfl ?_
         refine LQ.gno (dj := 42) (b := _) rfl rfl g42 rfl ?_
         refine LQ.gno (dj := 42) (b := _) rfl rfl g42 rfl ?_
         refine LQ.gno (dj := 42) (b := _) rfl rfl g42 rfl ?_
         refine LQ.nil ?_
         repeat (first | exact jeq.refl _ _ _ | refine jeq.upd rfl ?_ | refine jeq.jk rfl rfl ?_)
        intro J42 j42
        refine LQ.val (fun w hw => x_and rfl j42) rfl ?_
        refine LQ.nil ?_
        intro w37 hw
        have hB0 := hB0.carry hw; have hB := hB.carry hw; have hr := hr.carry hw; have hn := hn.carry hw; have bx1 := bx1.carry hw; have bx2 := bx2.carry hw; have bx3 := bx3.carry hw; have bx5 := bx5.carry hw; have hG := hG.carry hw; have hN := hN.carry hw; have hP := hP.carry hw; have hGq := hGq.carry hw; have hGt := hGt.carry hw; have ht := ht.carry hw
        refine thn_n ?_
        refine W.cond (b := _) rfl (fun g54 => ?_) (fun g54 => ?_)
        ·have h54 := g54
         have hlt54 : ltStr ((rN s i).getD k []) (s.names.getD i []) = true := by
           rw [Bool.and_eq_true, lt_bytes] at h54; exact h54.2
         have hkl : k + 1 ≤ (rN s i).length := by
           rw [Bool.and_eq_true] at h54; have := of_decide_eq_true h54.1; omega
         refine W.skip ?_
         refine thn_n ?_
         refine W.block ?_
         refine W.region ?_
         refine L.val (x_mv (v := .int _ _) rfl) rfl ?_
         refine L.val (x_add rfl rfl (wr64 (by omega))) rfl ?_
         refine L.val (x_as (v := .int _ _) rfl) rfl ?_
         refine L.nil ?_
         refine blk_n ?_
         refine thn_n ⟨rfl, ?_⟩
         refine ⟨_, ?_, k + 1, rfl, by first | rfl | exact vi (by omega), by first | rfl | exact vi (by omega), by first | rfl | exact vi (by omega), by first | rfl | exact vi (by omega), by first | rfl | exact vi (by omega), by first | rfl | exact vi (by omega), (by first | assumption | omega | rfl), (by first | assumption | omega | rfl), (by intro j hj; by_cases hjk : j = k; subst hjk; exact hlt54; exact h1 j (by omega))⟩
         omega
        ·have h54 := g54
         have h3 : k = (rN s i).length ∨ ltStr ((rN s i).getD k []) (s.names.getD i []) = false := by
           by_cases hkl : k < (rN s i).length
           · right
             have e1 : decide ((k : Int) < ((rN s i).length : Int)) = true := decide_eq_true (by omega)
             rw [e1, Bool.true_and, lt_bytes] at h54; exact h54
           · left; omega
         have hB0 := Gr.refl (fun _ => False) w37
         obtain ⟨n0, hn0⟩ : ∃ n, n = w37.heap.size := ⟨_, rfl⟩
         have hGn : n0 ≤ w37.heap.size := by omega
         have hqn : q ≤ n0 := by rw [hn0]; exact hGq
         have htn : w26.heap.size ≤ n0 := by rw [hn0]; exact hGt
         refine W.exit (thn_x (thn_x (blk_hit ?_)))
         refine thn_n ?_
         refine W.seq ?_
         refine W.drawT (fun w' => Box w' w.heap.size 25 [.int .i64 s.kind, S s.of, S s.name, .slice (some ⟨bn, on, none⟩) s.names.length capn, .slice (some ⟨bp, op, none⟩) s.parts.length cap] ∧ Box w' b3 25 [.int .i64 s.kind, S s.of, S s.name, .slice aN (rN s i).length cN, .slice aP (rP s i).length cP] ∧ StrsAt A w' (.slice (some ⟨bn, on, none⟩) s.names.length capn) s.names) 19 krsort_mixed ?_
         have hB0 := hB0.carry (bel_drew _)
         refine LAC.take (i := 1) rfl (by kernel_rfl) (by kernel_rfl) (by kernel_rfl) (by kernel_rfl) rfl (by kernel_rfl) (fun w hw => x_fa krsort_fo25_3 rfl) rfl ?_
         refine LAC.take (i := 2) rfl (by kernel_rfl) (by kernel_rfl) (by kernel_rfl) (by kernel_rfl) rfl (by kernel_rfl) (fun w hw => by obtain ⟨bx1, bx3, hn⟩ := hw; exact x_ld (v := .slice _ _ _) krsort_oc22 rfl (bx3.cell0 rfl)) rfl ?_
         refine LAC.take (i := 3) rfl (by kernel_rfl) (by kernel_rfl) (by kernel_rfl) (by kernel_rfl) rfl (by kernel_rfl) (fun w hw => x_mv (v := .int _ _) rfl) rfl ?_
         refine LAC.take (i := 4) rfl (by kernel_rfl) (by kernel_rfl) (by kernel_rfl) (by kernel_rfl) rfl (by kernel_rfl) (fun w hw => x_shi (j := k) Tryz.underlying22 krsort_sz9 rfl rfl rfl (by omega)) rfl ?_
         refine LAC.take (i := 6) rfl (by kernel_rfl) (by kernel_rfl) (by kernel_rfl) (by kernel_rfl) rfl (by kernel_rfl) (fun w hw => x_fa krsort_fo25_3 rfl) rfl ?_
         refine LAC.take (i := 7) rfl (by kernel_rfl) (by kernel_rfl) (by kernel_rfl) (by kernel_rfl) rfl (by kernel_rfl) (fun w hw => by obtain ⟨bx1, bx3, hn⟩ := hw; exact x_ld (v := .slice _ _ _) krsort_oc22 rfl (bx1.cell0 rfl)) rfl ?_
         refine LAC.take (i := 8) rfl (by kernel_rfl) (by kernel_rfl) (by kernel_rfl) (by kernel_rfl) rfl (by kernel_rfl) (fun w hw => x_mv (v := .int _ _) rfl) rfl ?_
         refine LAC.take (i := 9) rfl (by kernel_rfl) (by kernel_rfl) (by kernel_rfl) (by kernel_rfl) rfl (by kernel_rfl) (fun w hw => x_ia1 (j := i) Tryz.underlying22 krsort_sz9 rfl rfl (by omega) (by omega)) rfl ?_
         refine LAC.take (i := 10) rfl (by kernel_rfl) (by kernel_rfl) (by kernel_rfl) (by kernel_rfl) rfl (by kernel_rfl) (fun w hw => by obtain ⟨bx1, bx3, hn⟩ := hw; exact x_ld (v := S _) krsort_oc9 rfl (hn.elemAt hin)) rfl ?_
         refine LAC.take (i := 13) rfl (by kernel_rfl) (by kernel_rfl) (by kernel_rfl) (by kernel_rfl) rfl (by kernel_rfl) (fun w hw => x_fa krsort_fo25_3 rfl) rfl ?_
         refine LAC.take (i := 14) rfl (by kernel_rfl) (by kernel_rfl) (by kernel_rfl) (by kernel_rfl) rfl (by kernel_rfl) (fun w hw => by obtain ⟨bx1, bx3, hn⟩ := hw; exact x_ld (v := .slice _ _ _) krsort_oc22 rfl (bx3.cell0 rfl)) rfl ?_
         refine LAC.take (i := 15) rfl (by kernel_rfl) (by kernel_rfl) (by kernel_rfl) (by kernel_rfl) rfl (by kernel_rfl) (fun w hw => x_mv (v := .int _ _) rfl) rfl ?_
         refine LAC.take (i := 16) rfl (by kernel_rfl) (by kernel_rfl) (by kernel_rfl) (by kernel_rfl) rfl (by kernel_rfl) (fun w hw => x_slog (j := k) Tryz.underlying22 krsort_sz9 rfl rfl rfl hk) rfl ?_
         refine LAC.step (rs := [0, 11]) (fun _ => ⟨bx1.carry hB0, bx3.carry hB0, hn.carry hB0⟩) (by kernel_rfl) (by simp) ⟨⟨_, rfl, ?_⟩, ⟨_, rfl, ?_⟩, trivial⟩
         ·refine L.bs0 Tryz.underlying22 krsort_el9 rfl (fun w57 hO57 hw hz57 => ?_)
          have hO57 := hO57.weak (Nat.le_trans hGn hB0.size)
          have hB0 := hB0.carry hw
          try have bx68 := bx68.carry hw
          refine L.nil ?_
          refine thn_n ?_
          refine LAC.step (rs := [5, 11]) (fun _ => ⟨bx1.carry hB0, bx3.carry hB0, hn.carry hB0⟩) (by kernel_rfl) (by simp) ⟨⟨_, rfl, ?_⟩, ⟨_, rfl, ?_⟩, trivial⟩
          ·refine L.appendG (m := k) Tryz.underlying22 krsort_el9 rfl rfl rfl hO57 (by simp; omega) (own_take (hN.carry hB0) hk) (by intro u hu; obtain ⟨x, -, rfl⟩ := List.mem_map.1 (List.mem_of_mem_take hu); rfl) (by omega) (Nat.le_trans hGn hB0.size) (fun v62 w62 hO62 hg hob62 => ?_)
           have hlo : ∀ j, some j = _ → n0 ≤ j := fun j hj => (Own.lt hO57 (j := j) hj).1
           have hB0 := hB0.step hg (fun j hj e => by have := hlo j e; omega)
           try have bx68 := bx68.carryR hg (fun e => ne_own (by omega) e)
           refine L.nil ?_
           refine thn_n ?_
           refine LAC.step (rs := [11]) (fun _ => ⟨bx1.carry hB0, bx3.carry hB0, hn.carry hB0⟩) (by kernel_rfl) (by simp) ⟨⟨_, rfl, ?_⟩, trivial⟩
           refine L.bs (sz := 1) (cells := [S (s.names.getD i [])]) Tryz.underlying22 krsort_el9 rfl rfl rfl rfl (fun w68 bx68 hw hz68 => ?_)
           have hB0 := hB0.carry hw
           try have hO57 := hO57.carry hw
           try have hO62 := hO62.carry hw
           refine L.nil ?_
           refine thn_n ?_
           refine LAC.step (rs := [12]) (fun _ => ⟨bx1.carry hB0, bx3.carry hB0, hn.carry hB0⟩) (by kernel_rfl) (by simp) ⟨⟨_, rfl, ?_⟩, trivial⟩
           refine L.append (m := 1) Tryz.underlying22 krsort_el9 rfl rfl rfl hO62 rfl bx68.news (by simp [Value.oneCell', S]) (by omega) (Nat.le_trans hGn hB0.size) (fun v69 w69 hO69 hg hiff69 hob69 => ?_)
           have hlo : ∀ j, some j = _ → n0 ≤ j := fun j hj => (Own.lt hO62 (j := j) hj).1
           have hB0 := hB0.step hg (fun j hj e => by have := hlo j e; omega)
           refine L.nil ?_
           refine thn_n ?_
           refine LAC.step (rs := [17]) (fun _ => ⟨bx1.carry hB0, bx3.carry hB0, hn.carry hB0⟩) (by kernel_rfl) (by simp) ⟨⟨_, rfl, ?_⟩, trivial⟩
           refine L.appendG (m := ((rN s i).length - k)) Tryz.underlying22 krsort_el9 rfl rfl rfl hO69 (by simp) (own_drop (hN.carry hB0) hk) (by intro u hu; obtain ⟨x, -, rfl⟩ := List.mem_map.1 (List.mem_of_mem_drop hu); rfl) (by omega) (Nat.le_trans hGn hB0.size) (fun v74 w74 hO74 hg hob74 => ?_)
           have hlo : ∀ j, some j = _ → n0 ≤ j := fun j hj => (Own.lt hO69 (j := j) hj).1
           have hB0 := hB0.step hg (fun j hj e => by have := hlo j e; omega)
           have hO74n := hO74
           obtain ⟨a74, c74, rfl, -⟩ := own_shape hO74
           have hB := hB.carry hB0; have hr := hr.carry hB0; have hn := hn.carry hB0; have bx1 := bx1.carry hB0; have bx2 := bx2.carry hB0; have bx3 := bx3.carry hB0; have bx5 := bx5.carry hB0; have hG := hG.carry hB0; have hP := hP.carry hB0; have hGq := hGq.carry hB0; have hGt := hGt.carry hB0; have ht := ht.carry hB0
           have hB0 := Gr.refl (fun _ => False) w74
           refine L.nil ?_
           refine thn_n ?_
           refine LAC.take (i := 18) rfl (by kernel_rfl) (by kernel_rfl) (by kernel_rfl) (by kernel_rfl) rfl (by kernel_rfl) (fun w hw => x_fa krsort_fo25_3 rfl) rfl ?_
           refine LAC.step (rs := [19]) (fun _ => ⟨bx1.carry hB0, bx3.carry hB0, hn.carry hB0⟩) (by kernel_rfl) (by simp) ⟨⟨_, rfl, ?_⟩, trivial⟩
           refine L.set (v := .slice _ _ _) krsort_sz22 rfl rfl rfl bx3 rfl (fun wl78 bx3 hw hzl78 => ?_)
           have hsz := hB.size
           have hB := hB.set hw (by omega); have hr := hr.carryR hw (fun k e => hU k (by have : k = _ := e; omega)); have hn := hn.carryR hw (fun k e => hU k (by have : k = _ := e; omega)); have bx1 := bx1.carryR hw (by omega); have bx2 := bx2.carryR hw (by omega); have bx5 := bx5.carryR hw (by omega); have hG := hG.carryR hw; have hP := hP.carryA (A' := _) hw (fun j hj e => by have e : j = _ := e; have h1 := (hP.lt hj).1; first | omega | (have h2 := hqP j hj; omega)) (fun j e => by have e : j = _ := e; first | exact .inl (by omega) | exact .inr (.inr (.inr (by omega)))) (fun _ h => h); have hGq := hGq.carryR hw; have hGt := hGt.carryR hw; have ht := ht.carryR hw (fun j e => by have e : j = _ := e; first | exact .inl (by omega) | exact .inr (.inr (.inr (by omega)))); have hO74 := Own.carryR hO74 hw (fun j hj e => by have e : j = _ := e; have h1 := (Own.lt hO74 hj).1; omega)
           obtain ⟨f1, f2⟩ := r_step hne hln hip hk h1 h3
           have f3 : 0 + k + 1 + ((rN s i).length - k) = (rN s (i + 1)).length := by rw [f1]; simp; omega
           rw [f3] at hO74 bx3
           have f4 : [] ++ List.take (k * 1) (List.map S (rN s i)) ++ [S (s.names.getD i [])] ++ List.drop (k * 1) (List.map S (rN s i)) = (rN s (i + 1)).map S := by rw [f1]; simp
           rw [f4] at hO74
           have hN := hO74
           obtain ⟨rows, r1, r2, r3, r4⟩ := hP
           have hk5 : k ≤ (rP s i).length := by omega
           have hrl : rows.flatten.length = (rP s i).length * 5 := r2.1
           have hr1 := rows_one r1 r4
           have hB0 := Gr.refl (fun _ => False) wl78
           obtain ⟨n1, hn1⟩ : ∃ n, n = wl78.heap.size := ⟨_, rfl⟩
           have hGn1 : n1 ≤ wl78.heap.size := by omega
           have hbn1 : base ≤ n1 := by rw [hn1]; exact hG
           have htn1 : w26.heap.size ≤ n1 := by rw [hn1]; exact hGt
           refine L.nil ?_
           refine thn_n ?_
           refine LAC.done (by kernel_rfl) (by kernel_rfl) ?_
           refine thn_n ?_
           refine W.drawT (fun w' => Box w' b3 25 [.int .i64 s.kind, S s.of, S s.name, .slice a74 (rN s (i + 1)).length c74, .slice aP (rP s i).length cP] ∧ Box w' b5 25 cs26) 15 krsort_mixed ?_
           have hB0 := hB0.carry (bel_drew _)
           refine LAC.take (i := 1) rfl (by kernel_rfl) (by kernel_rfl) (by kernel_rfl) (by kernel_rfl) rfl (by kernel_rfl) (fun w hw => x_fa krsort_fo25_4 rfl) rfl ?_
           refine LAC.take (i := 2) rfl (by kernel_rfl) (by kernel_rfl) (by kernel_rfl) (by kernel_rfl) rfl (by kernel_rfl) (fun w hw => by obtain ⟨bx3, bx5⟩ := hw; exact x_ld (v := .slice _ _ _) krsort_oc23 rfl (bx3.cell0 rfl)) rfl ?_
           refine LAC.take (i := 3) rfl (by kernel_rfl) (by kernel_rfl) (by kernel_rfl) (by kernel_rfl) rfl (by kernel_rfl) (fun w hw => x_mv (v := .int _ _) rfl) rfl ?_
           refine LAC.take (i := 4) rfl (by kernel_rfl) (by kernel_rfl) (by kernel_rfl) (by kernel_rfl) rfl (by kernel_rfl) (fun w hw => x_shi (j := k) Tryz.underlying23 krsort_sz25 rfl rfl rfl (by omega)) rfl ?_
           refine LAC.take (i := 6) rfl (by kernel_rfl) (by kernel_rfl) (by kernel_rfl) (by kernel_rfl) rfl (by kernel_rfl) (fun w hw => by obtain ⟨bx3, bx5⟩ := hw; exact x_ldn (vs := cs26) krsort_ag25 rfl ht.len (bx5.row ht.len)) rfl ?_
           refine LAC.take (i := 9) rfl (by kernel_rfl) (by kernel_rfl) (by kernel_rfl) (by kernel_rfl) rfl (by kernel_rfl) (fun w hw => x_fa krsort_fo25_4 rfl) rfl ?_
           refine LAC.take (i := 10) rfl (by kernel_rfl) (by kernel_rfl) (by kernel_rfl) (by kernel_rfl) rfl (by kernel_rfl) (fun w hw => by obtain ⟨bx3, bx5⟩ := hw; exact x_ld (v := .slice _ _ _) krsort_oc23 rfl (bx3.cell0 rfl)) rfl ?_
           refine LAC.take (i := 11) rfl (by kernel_rfl) (by kernel_rfl) (by kernel_rfl) (by kernel_rfl) rfl (by kernel_rfl) (fun w hw => x_mv (v := .int _ _) rfl) rfl ?_
           refine LAC.take (i := 12) rfl (by kernel_rfl) (by kernel_rfl) (by kernel_rfl) (by kernel_rfl) rfl (by kernel_rfl) (fun w hw => x_slog (j := k) Tryz.underlying23 krsort_sz25 rfl rfl rfl hk5) rfl ?_
           refine LAC.step (rs := [0, 7]) (fun _ => ⟨bx3.carry hB0, bx5.carry hB0⟩) (by kernel_rfl) (by simp) ⟨⟨_, rfl, ?_⟩, ⟨_, rfl, ?_⟩, trivial⟩
           ·refine L.bs0 Tryz.underlying23 krsort_el25 rfl (fun w76 hO76 hw hz76 => ?_)
            have hO76 := hO76.weak (Nat.le_trans hGn1 hB0.size)
            have hB0 := hB0.carry hw
            try have bx83 := bx83.carry hw
            refine L.nil ?_
            refine thn_n ?_
            refine LAC.step (rs := [5, 7]) (fun _ => ⟨bx3.carry hB0, bx5.carry hB0⟩) (by kernel_rfl) (by simp) ⟨⟨_, rfl, ?_⟩, ⟨_, rfl, ?_⟩, trivial⟩
            ·refine L.appendG (m := k) Tryz.underlying23 krsort_el25 rfl rfl rfl hO76 (by rw [List.length_take]; omega) (own_take (r2.carry hB0) hk5) (fun u hu => hr1 u (List.mem_of_mem_take hu)) (by omega) (Nat.le_trans hGn1 hB0.size) (fun v81 w81 hO81 hg hob81 => ?_)
             have hlo : ∀ j, some j = _ → n1 ≤ j := fun j hj => (Own.lt hO76 (j := j) hj).1
             have hB0 := hB0.step hg (fun j hj e => by have := hlo j e; omega)
             try have bx83 := bx83.carryR hg (fun e => ne_own (by omega) e)
             refine L.nil ?_
             refine thn_n ?_
             refine LAC.step (rs := [7]) (fun _ => ⟨bx3.carry hB0, bx5.carry hB0⟩) (by kernel_rfl) (by simp) ⟨⟨_, rfl, ?_⟩, trivial⟩
             refine L.bs (sz := 5) (cells := cs26) Tryz.underlying23 krsort_el25 rfl (by show (partsOk 5 0 [(0, Value.agg cs26.toArray)] && decide ([((0 : Nat), Value.agg cs26.toArray)].length = 1) && decide (0 < 1) && decide (1 * 5 ≤ 16777216)) = true; simp [partsOk, ht.len, Value.cells]) (by show ([((0 : Nat), Value.agg cs26.toArray)].map fun x => x.2.cells.toList).flatten = cs26; simp [Value.cells]) rfl (fun w83 bx83 hw hz83 => ?_)
             have hB0 := hB0.carry hw
             try have hO76 := hO76.carry hw
             try have hO81 := hO81.carry hw
             refine L.nil ?_
             refine thn_n ?_
             refine LAC.step (rs := [8]) (fun _ => ⟨bx3.carry hB0, bx5.carry hB0⟩) (by kernel_rfl) (by simp) ⟨⟨_, rfl, ?_⟩, trivial⟩
             refine L.append (m := 1) Tryz.underlying23 krsort_el25 rfl rfl rfl hO81 ht.len bx83.news (ShC.one ht) (by omega) (Nat.le_trans hGn1 hB0.size) (fun v84 w84 hO84 hg hiff84 hob84 => ?_)
             have hlo : ∀ j, some j = _ → n1 ≤ j := fun j hj => (Own.lt hO81 (j := j) hj).1
             have hB0 := hB0.step hg (fun j hj e => by have := hlo j e; omega)
             refine L.nil ?_
             refine thn_n ?_
             refine LAC.step (rs := [13]) (fun _ => ⟨bx3.carry hB0, bx5.carry hB0⟩) (by kernel_rfl) (by simp) ⟨⟨_, rfl, ?_⟩, trivial⟩
             refine L.appendG (m := ((rP s i).length - k)) Tryz.underlying23 krsort_el25 rfl rfl rfl hO84 (by rw [List.length_drop, hrl, Nat.sub_mul]) (own_drop (r2.carry hB0) hk5) (fun u hu => hr1 u (List.mem_of_mem_drop hu)) (by omega) (Nat.le_trans hGn1 hB0.size) (fun v89 w89 hO89 hg hob89 => ?_)
             have hlo : ∀ j, some j = _ → n1 ≤ j := fun j hj => (Own.lt hO84 (j := j) hj).1
             have hB0 := hB0.step hg (fun j hj e => by have := hlo j e; omega)
             have hlo9 : ∀ j, some j = v89.ownBlock → n1 ≤ j := fun j hj => (Own.lt hO89 (j := j) hj).1
             have hloN : ∀ j, some j = (Value.slice a74 (rN s (i + 1)).length c74).ownBlock → n0 ≤ j := fun j hj => (Own.lt hN (j := j) hj).1
             have f5 : 0 + k + 1 + ((rP s i).length - k) = (rP s i).length + 1 := by omega
             have f6 : [] ++ List.take (k * 5) rows.flatten ++ cs26 ++ List.drop (k * 5) rows.flatten = rows.flatten.take (k * 5) ++ cs26 ++ rows.flatten.drop (k * 5) := by simp
             rw [f5, f6] at hO89
             have hP := ShsOwn.ins (A := Av base w26 _ _) (A' := Av base w89 (.slice a74 (rN s (i + 1)).length c74) v89) r1 r3 (fun i hi => (r4 i hi).mono (fun j _ h => av_mono hs26 h)) hk5 ht (hO89.weak (show base ≤ n1 by omega)) hB0 (fun j h => by
               rcases h with h | h | h | h
               · exact .inl h
               · exact .inr (.inr (.inr (by have := hloN j h; omega)))
               · exact .inr (.inr (.inr (by have := hlo9 j h; omega)))
               · exact .inr (.inr (.inr (by have := hB0.size; omega))))
             rw [← f2] at hP
             have hN : Own wl78 base _ _ _ _ _ := hN.weak (by omega)
             obtain ⟨a89, c89, rfl, -⟩ := own_shape hO89
             clear r2 r4 ht
             have hB := hB.carry hB0; have hr := hr.carry hB0; have hn := hn.carry hB0; have bx1 := bx1.carry hB0; have bx2 := bx2.carry hB0; have bx3 := bx3.carry hB0; have hG := hG.carry hB0; have hN := hN.carry hB0; have bx5 := bx5.carry hB0
             have hB0 := Gr.refl (fun _ => False) w89
             refine L.nil ?_
             refine thn_n ?_
             refine LAC.take (i := 14) rfl (by kernel_rfl) (by kernel_rfl) (by kernel_rfl) (by kernel_rfl) rfl (by kernel_rfl) (fun w hw => x_fa krsort_fo25_4 rfl) rfl ?_
             refine LAC.step (rs := [15]) (fun _ => ⟨bx3.carry hB0, bx5.carry hB0⟩) (by kernel_rfl) (by simp) ⟨⟨_, rfl, ?_⟩, trivial⟩
             refine L.set (v := .slice _ _ _) krsort_sz23 rfl rfl rfl bx3 rfl (fun wl94 bx3 hw hzl94 => ?_)
             have hsz := hB.size
             have hB := hB.set hw (by omega); have hr := hr.carryR hw (fun k e => hU k (by have : k = _ := e; omega)); have hn := hn.carryR hw (fun k e => hU k (by have : k = _ := e; omega)); have bx1 := bx1.carryR hw (by omega); have bx2 := bx2.carryR hw (by omega); have hG := hG.carryR hw; have hN := Own.carryR hN hw (fun j hj e => by have e : j = _ := e; have h1 := (Own.lt hN hj).1; first | omega | (have h2 := hqN j hj; omega)); have hP := hP.carryA (A' := _) hw (fun j hj e => by have e : j = _ := e; have h1 := (hP.lt hj).1; first | omega | (have h2 := hqP j hj; omega)) (fun j e => by have e : j = _ := e; first | exact .inl (by omega) | exact .inr (.inr (.inr (by omega)))) (fun _ h => h)
             have hi' : i + 1 ≤ s.parts.length := hip
             have hP := ShsOwn.carryA (A' := Av base wl94 _ _) hP (Gr.refl (fun _ => False) _) (fun _ _ f => f) (fun _ f => f.elim) (fun j h => av_mono (Nat.le_of_eq hzl94.symm) h)
             refine L.nil ?_
             refine thn_n ?_
             refine LAC.done (by kernel_rfl) (by kernel_rfl) ?_
             refine blk_n ?_
             refine thn_n ?_
             refine W.region ?_
             refine L.val (x_mv (v := .int _ _) rfl) rfl ?_
             refine L.val (x_add rfl rfl (wr64 (by omega))) rfl ?_
             refine L.val (x_as (v := .int _ _) rfl) rfl ?_
             refine L.nil ?_
             refine thn_n ⟨rfl, ?_⟩
             refine ⟨_, ?_, i + 1, _, _, rfl, by first | rfl | exact vi (by omega), by first | rfl | exact vi (by omega), by first | rfl | exact vi (by omega), by first | rfl | exact vi (by omega), (by first | assumption | omega | rfl), (by first | assumption | omega | rfl), (by first | assumption | omega | rfl), (by first | assumption | omega | rfl), (by first | assumption | omega | rfl), (by first | assumption | omega | rfl), (by first | assumption | omega | rfl), (by first | assumption | omega | rfl), (by first | assumption | omega | rfl), (by first | assumption | omega | rfl)⟩
             omega
            ·refine L.bs (sz := 5) (cells := cs26) Tryz.underlying23 krsort_el25 rfl (by show (partsOk 5 0 [(0, Value.agg cs26.toArray)] && decide ([((0 : Nat), Value.agg cs26.toArray)].length = 1) && decide (0 < 1) && decide (1 * 5 ≤ 16777216)) = true; simp [partsOk, ht.len, Value.cells]) (by show ([((0 : Nat), Value.agg cs26.toArray)].map fun x => x.2.cells.toList).flatten = cs26; simp [Value.cells]) rfl (fun w83 bx83 hw hz83 => ?_)
             have hB0 := hB0.carry hw
             try have hO76 := hO76.carry hw
             try have hO81 := hO81.carry hw
             refine L.nil ?_
             refine thn_n ?_
             refine LAC.step (rs := [5]) (fun _ => ⟨bx3.carry hB0, bx5.carry hB0⟩) (by kernel_rfl) (by simp) ⟨⟨_, rfl, ?_⟩, trivial⟩
             refine L.appendG (m := k) Tryz.underlying23 krsort_el25 rfl rfl rfl hO76 (by rw [List.length_take]; omega) (own_take (r2.carry hB0) hk5) (fun u hu => hr1 u (List.mem_of_mem_take hu)) (by omega) (Nat.le_trans hGn1 hB0.size) (fun v81 w81 hO81 hg hob81 => ?_)
             have hlo : ∀ j, some j = _ → n1 ≤ j := fun j hj => (Own.lt hO76 (j := j) hj).1
             have hB0 := hB0.step hg (fun j hj e => by have := hlo j e; omega)
             try have bx83 := bx83.carryR hg (fun e => ne_own (by omega) e)
             refine L.nil ?_
             refine thn_n ?_
             refine LAC.step (rs := [8]) (fun _ => ⟨bx3.carry hB0, bx5.carry hB0⟩) (by kernel_rfl) (by simp) ⟨⟨_, rfl, ?_⟩, trivial⟩
             refine L.append (m := 1) Tryz.underlying23 krsort_el25 rfl rfl rfl hO81 ht.len bx83.news (ShC.one ht) (by omega) (Nat.le_trans hGn1 hB0.size) (fun v84 w84 hO84 hg hiff84 hob84 => ?_)
             have hlo : ∀ j, some j = _ → n1 ≤ j := fun j hj => (Own.lt hO81 (j := j) hj).1
             have hB0 := hB0.step hg (fun j hj e => by have := hlo j e; omega)
             refine L.nil ?_
             refine thn_n ?_
             refine LAC.step (rs := [13]) (fun _ => ⟨bx3.carry hB0, bx5.carry hB0⟩) (by kernel_rfl) (by simp) ⟨⟨_, rfl, ?_⟩, trivial⟩
             refine L.appendG (m := ((rP s i).length - k)) Tryz.underlying23 krsort_el25 rfl rfl rfl hO84 (by rw [List.length_drop, hrl, Nat.sub_mul]) (own_drop (r2.carry hB0) hk5) (fun u hu => hr1 u (List.mem_of_mem_drop hu)) (by omega) (Nat.le_trans hGn1 hB0.size) (fun v89 w89 hO89 hg hob89 => ?_)
             have hlo : ∀ j, some j = _ → n1 ≤ j := fun j hj => (Own.lt hO84 (j := j) hj).1
             have hB0 := hB0.step hg (fun j hj e => by have := hlo j e; omega)
             have hlo9 : ∀ j, some j = v89.ownBlock → n1 ≤ j := fun j hj => (Own.lt hO89 (j := j) hj).1
             have hloN : ∀ j, some j = (Value.slice a74 (rN s (i + 1)).length c74).ownBlock → n0 ≤ j := fun j hj => (Own.lt hN (j := j) hj).1
             have f5 : 0 + k + 1 + ((rP s i).length - k) = (rP s i).length + 1 := by omega
             have f6 : [] ++ List.take (k * 5) rows.flatten ++ cs26 ++ List.drop (k * 5) rows.flatten = rows.flatten.take (k * 5) ++ cs26 ++ rows.flatten.drop (k * 5) := by simp
             rw [f5, f6] at hO89
             have hP := ShsOwn.ins (A := Av base w26 _ _) (A' := Av base w89 (.slice a74 (rN s (i + 1)).length c74) v89) r1 r3 (fun i hi => (r4 i hi).mono (fun j _ h => av_mono hs26 h)) hk5 ht (hO89.weak (show base ≤ n1 by omega)) hB0 (fun j h => by
               rcases h with h | h | h | h
               · exact .inl h
               · exact .inr (.inr (.inr (by have := hloN j h; omega)))
               · exact .inr (.inr (.inr (by have := hlo9 j h; omega)))
               · exact .inr (.inr (.inr (by have := hB0.size; omega))))
             rw [← f2] at hP
             have hN : Own wl78 base _ _ _ _ _ := hN.weak (by omega)
             obtain ⟨a89, c89, rfl, -⟩ := own_shape hO89
             clear r2 r4 ht
             have hB := hB.carry hB0; have hr := hr.carry hB0; have hn := hn.carry hB0; have bx1 := bx1.carry hB0; have bx2 := bx2.carry hB0; have bx3 := bx3.carry hB0; have hG := hG.carry hB0; have hN := hN.carry hB0; have bx5 := bx5.carry hB0
             have hB0 := Gr.refl (fun _ => False) w89
             refine L.nil ?_
             refine thn_n ?_
             refine LAC.take (i := 14) rfl (by kernel_rfl) (by kernel_rfl) (by kernel_rfl) (by kernel_rfl) rfl (by kernel_rfl) (fun w hw => x_fa krsort_fo25_4 rfl) rfl ?_
             refine LAC.step (rs := [15]) (fun _ => ⟨bx3.carry hB0, bx5.carry hB0⟩) (by kernel_rfl) (by simp) ⟨⟨_, rfl, ?_⟩, trivial⟩
             refine L.set (v := .slice _ _ _) krsort_sz23 rfl rfl rfl bx3 rfl (fun wl94 bx3 hw hzl94 => ?_)
             have hsz := hB.size
             have hB := hB.set hw (by omega); have hr := hr.carryR hw (fun k e => hU k (by have : k = _ := e; omega)); have hn := hn.carryR hw (fun k e => hU k (by have : k = _ := e; omega)); have bx1 := bx1.carryR hw (by omega); have bx2 := bx2.carryR hw (by omega); have hG := hG.carryR hw; have hN := Own.carryR hN hw (fun j hj e => by have e : j = _ := e; have h1 := (Own.lt hN hj).1; first | omega | (have h2 := hqN j hj; omega)); have hP := hP.carryA (A' := _) hw (fun j hj e => by have e : j = _ := e; have h1 := (hP.lt hj).1; first | omega | (have h2 := hqP j hj; omega)) (fun j e => by have e : j = _ := e; first | exact .inl (by omega) | exact .inr (.inr (.inr (by omega)))) (fun _ h => h)
             have hi' : i + 1 ≤ s.parts.length := hip
             have hP := ShsOwn.carryA (A' := Av base wl94 _ _) hP (Gr.refl (fun _ => False) _) (fun _ _ f => f) (fun _ f => f.elim) (fun j h => av_mono (Nat.le_of_eq hzl94.symm) h)
             refine L.nil ?_
             refine thn_n ?_
             refine LAC.done (by kernel_rfl) (by kernel_rfl) ?_
             refine blk_n ?_
             refine thn_n ?_
             refine W.region ?_
             refine L.val (x_mv (v := .int _ _) rfl) rfl ?_
             refine L.val (x_add rfl rfl (wr64 (by omega))) rfl ?_
             refine L.val (x_as (v := .int _ _) rfl) rfl ?_
             refine L.nil ?_
             refine thn_n ⟨rfl, ?_⟩
             refine ⟨_, ?_, i + 1, _, _, rfl, by first | rfl | exact vi (by omega), by first | rfl | exact vi (by omega), by first | rfl | exact vi (by omega), by first | rfl | exact vi (by omega), (by first | assumption | omega | rfl), (by first | assumption | omega | rfl), (by first | assumption | omega | rfl), (by first | assumption | omega | rfl), (by first | assumption | omega | rfl), (by first | assumption | omega | rfl), (by first | assumption | omega | rfl), (by first | assumption | omega | rfl), (by first | assumption | omega | rfl), (by first | assumption | omega | rfl)⟩
             omega
           ·refine L.bs (sz := 5) (cells := cs26) Tryz.underlying23 krsort_el25 rfl (by show (partsOk 5 0 [(0, Value.agg cs26.toArray)] && decide ([((0 : Nat), Value.agg cs26.toArray)].length = 1) && decide (0 < 1) && decide (1 * 5 ≤ 16777216)) = true; simp [partsOk, ht.len, Value.cells]) (by show ([((0 : Nat), Value.agg cs26.toArray)].map fun x => x.2.cells.toList).flatten = cs26; simp [Value.cells]) rfl (fun w83 bx83 hw hz83 => ?_)
            have hB0 := hB0.carry hw
            try have hO76 := hO76.carry hw
            try have hO81 := hO81.carry hw
            refine L.nil ?_
            refine thn_n ?_
            refine LAC.step (rs := [0]) (fun _ => ⟨bx3.carry hB0, bx5.carry hB0⟩) (by kernel_rfl) (by simp) ⟨⟨_, rfl, ?_⟩, trivial⟩
            refine L.bs0 Tryz.underlying23 krsort_el25 rfl (fun w76 hO76 hw hz76 => ?_)
            have hO76 := hO76.weak (Nat.le_trans hGn1 hB0.size)
            have hB0 := hB0.carry hw
            try have bx83 := bx83.carry hw
            refine L.nil ?_
            refine thn_n ?_
            refine LAC.step (rs := [5]) (fun _ => ⟨bx3.carry hB0, bx5.carry hB0⟩) (by kernel_rfl) (by simp) ⟨⟨_, rfl, ?_⟩, trivial⟩
            refine L.appendG (m := k) Tryz.underlying23 krsort_el25 rfl rfl rfl hO76 (by rw [List.length_take]; omega) (own_take (r2.carry hB0) hk5) (fun u hu => hr1 u (List.mem_of_mem_take hu)) (by omega) (Nat.le_trans hGn1 hB0.size) (fun v81 w81 hO81 hg hob81 => ?_)
            have hlo : ∀ j, some j = _ → n1 ≤ j := fun j hj => (Own.lt hO76 (j := j) hj).1
            have hB0 := hB0.step hg (fun j hj e => by have := hlo j e; omega)
            try have bx83 := bx83.carryR hg (fun e => ne_own (by omega) e)
            refine L.nil ?_
            refine thn_n ?_
            refine LAC.step (rs := [8]) (fun _ => ⟨bx3.carry hB0, bx5.carry hB0⟩) (by kernel_rfl) (by simp) ⟨⟨_, rfl, ?_⟩, trivial⟩
            refine L.append (m := 1) Tryz.underlying23 krsort_el25 rfl rfl rfl hO81 ht.len bx83.news (ShC.one ht) (by omega) (Nat.le_trans hGn1 hB0.size) (fun v84 w84 hO84 hg hiff84 hob84 => ?_)
            have hlo : ∀ j, some j = _ → n1 ≤ j := fun j hj => (Own.lt hO81 (j := j) hj).1
            have hB0 := hB0.step hg (fun j hj e => by have := hlo j e; omega)
            refine L.nil ?_
            refine thn_n ?_
            refine LAC.step (rs := [13]) (fun _ => ⟨bx3.carry hB0, bx5.carry hB0⟩) (by kernel_rfl) (by simp) ⟨⟨_, rfl, ?_⟩, trivial⟩
            refine L.appendG (m := ((rP s i).length - k)) Tryz.underlying23 krsort_el25 rfl rfl rfl hO84 (by rw [List.length_drop, hrl, Nat.sub_mul]) (own_drop (r2.carry hB0) hk5) (fun u hu => hr1 u (List.mem_of_mem_drop hu)) (by omega) (Nat.le_trans hGn1 hB0.size) (fun v89 w89 hO89 hg hob89 => ?_)
            have hlo : ∀ j, some j = _ → n1 ≤ j := fun j hj => (Own.lt hO84 (j := j) hj).1
            have hB0 := hB0.step hg (fun j hj e => by have := hlo j e; omega)
            have hlo9 : ∀ j, some j = v89.ownBlock → n1 ≤ j := fun j hj => (Own.lt hO89 (j := j) hj).1
            have hloN : ∀ j, some j = (Value.slice a74 (rN s (i + 1)).length c74).ownBlock → n0 ≤ j := fun j hj => (Own.lt hN (j := j) hj).1
            have f5 : 0 + k + 1 + ((rP s i).length - k) = (rP s i).length + 1 := by omega
            have f6 : [] ++ List.take (k * 5) rows.flatten ++ cs26 ++ List.drop (k * 5) rows.flatten = rows.flatten.take (k * 5) ++ cs26 ++ rows.flatten.drop (k * 5) := by simp
            rw [f5, f6] at hO89
            have hP := ShsOwn.ins (A := Av base w26 _ _) (A' := Av base w89 (.slice a74 (rN s (i + 1)).length c74) v89) r1 r3 (fun i hi => (r4 i hi).mono (fun j _ h => av_mono hs26 h)) hk5 ht (hO89.weak (show base ≤ n1 by omega)) hB0 (fun j h => by
              rcases h with h | h | h | h
              · exact .inl h
              · exact .inr (.inr (.inr (by have := hloN j h; omega)))
              · exact .inr (.inr (.inr (by have := hlo9 j h; omega)))
              · exact .inr (.inr (.inr (by have := hB0.size; omega))))
            rw [← f2] at hP
            have hN : Own wl78 base _ _ _ _ _ := hN.weak (by omega)
            obtain ⟨a89, c89, rfl, -⟩ := own_shape hO89
            clear r2 r4 ht
            have hB := hB.carry hB0; have hr := hr.carry hB0; have hn := hn.carry hB0; have bx1 := bx1.carry hB0; have bx2 := bx2.carry hB0; have bx3 := bx3.carry hB0; have hG := hG.carry hB0; have hN := hN.carry hB0; have bx5 := bx5.carry hB0
            have hB0 := Gr.refl (fun _ => False) w89
            refine L.nil ?_
            refine thn_n ?_
            refine LAC.take (i := 14) rfl (by kernel_rfl) (by kernel_rfl) (by kernel_rfl) (by kernel_rfl) rfl (by kernel_rfl) (fun w hw => x_fa krsort_fo25_4 rfl) rfl ?_
            refine LAC.step (rs := [15]) (fun _ => ⟨bx3.carry hB0, bx5.carry hB0⟩) (by kernel_rfl) (by simp) ⟨⟨_, rfl, ?_⟩, trivial⟩
            refine L.set (v := .slice _ _ _) krsort_sz23 rfl rfl rfl bx3 rfl (fun wl94 bx3 hw hzl94 => ?_)
            have hsz := hB.size
            have hB := hB.set hw (by omega); have hr := hr.carryR hw (fun k e => hU k (by have : k = _ := e; omega)); have hn := hn.carryR hw (fun k e => hU k (by have : k = _ := e; omega)); have bx1 := bx1.carryR hw (by omega); have bx2 := bx2.carryR hw (by omega); have hG := hG.carryR hw; have hN := Own.carryR hN hw (fun j hj e => by have e : j = _ := e; have h1 := (Own.lt hN hj).1; first | omega | (have h2 := hqN j hj; omega)); have hP := hP.carryA (A' := _) hw (fun j hj e => by have e : j = _ := e; have h1 := (hP.lt hj).1; first | omega | (have h2 := hqP j hj; omega)) (fun j e => by have e : j = _ := e; first | exact .inl (by omega) | exact .inr (.inr (.inr (by omega)))) (fun _ h => h)
            have hi' : i + 1 ≤ s.parts.length := hip
            have hP := ShsOwn.carryA (A' := Av base wl94 _ _) hP (Gr.refl (fun _ => False) _) (fun _ _ f => f) (fun _ f => f.elim) (fun j h => av_mono (Nat.le_of_eq hzl94.symm) h)
            refine L.nil ?_
            refine thn_n ?_
            refine LAC.done (by kernel_rfl) (by kernel_rfl) ?_
            refine blk_n ?_
            refine thn_n ?_
            refine W.region ?_
            refine L.val (x_mv (v := .int _ _) rfl) rfl ?_
            refine L.val (x_add rfl rfl (wr64 (by omega))) rfl ?_
            refine L.val (x_as (v := .int _ _) rfl) rfl ?_
            refine L.nil ?_
            refine thn_n ⟨rfl, ?_⟩
            refine ⟨_, ?_, i + 1, _, _, rfl, by first | rfl | exact vi (by omega), by first | rfl | exact vi (by omega), by first | rfl | exact vi (by omega), by first | rfl | exact vi (by omega), (by first | assumption | omega | rfl), (by first | assumption | omega | rfl), (by first | assumption | omega | rfl), (by first | assumption | omega | rfl), (by first | assumption | omega | rfl), (by first | assumption | omega | rfl), (by first | assumption | omega | rfl), (by first | assumption | omega | rfl), (by first | assumption | omega | rfl), (by first | assumption | omega | rfl)⟩
            omega
          ·refine L.bs (sz := 1) (cells := [S (s.names.getD i [])]) Tryz.underlying22 krsort_el9 rfl rfl rfl rfl (fun w68 bx68 hw hz68 => ?_)
           have hB0 := hB0.carry hw
           try have hO57 := hO57.carry hw
           try have hO62 := hO62.carry hw
           refine L.nil ?_
           refine thn_n ?_
           refine LAC.step (rs := [5]) (fun _ => ⟨bx1.carry hB0, bx3.carry hB0, hn.carry hB0⟩) (by kernel_rfl) (by simp) ⟨⟨_, rfl, ?_⟩, trivial⟩
           refine L.appendG (m := k) Tryz.underlying22 krsort_el9 rfl rfl rfl hO57 (by simp; omega) (own_take (hN.carry hB0) hk) (by intro u hu; obtain ⟨x, -, rfl⟩ := List.mem_map.1 (List.mem_of_mem_take hu); rfl) (by omega) (Nat.le_trans hGn hB0.size) (fun v62 w62 hO62 hg hob62 => ?_)
           have hlo : ∀ j, some j = _ → n0 ≤ j := fun j hj => (Own.lt hO57 (j := j) hj).1
           have hB0 := hB0.step hg (fun j hj e => by have := hlo j e; omega)
           try have bx68 := bx68.carryR hg (fun e => ne_own (by omega) e)
           refine L.nil ?_
           refine thn_n ?_
           refine LAC.step (rs := [12]) (fun _ => ⟨bx1.carry hB0, bx3.carry hB0, hn.carry hB0⟩) (by kernel_rfl) (by simp) ⟨⟨_, rfl, ?_⟩, trivial⟩
           refine L.append (m := 1) Tryz.underlying22 krsort_el9 rfl rfl rfl hO62 rfl bx68.news (by simp [Value.oneCell', S]) (by omega) (Nat.le_trans hGn hB0.size) (fun v69 w69 hO69 hg hiff69 hob69 => ?_)
           have hlo : ∀ j, some j = _ → n0 ≤ j := fun j hj => (Own.lt hO62 (j := j) hj).1
           have hB0 := hB0.step hg (fun j hj e => by have := hlo j e; omega)
           refine L.nil ?_
           refine thn_n ?_
           refine LAC.step (rs := [17]) (fun _ => ⟨bx1.carry hB0, bx3.carry hB0, hn.carry hB0⟩) (by kernel_rfl) (by simp) ⟨⟨_, rfl, ?_⟩, trivial⟩
           refine L.appendG (m := ((rN s i).length - k)) Tryz.underlying22 krsort_el9 rfl rfl rfl hO69 (by simp) (own_drop (hN.carry hB0) hk) (by intro u hu; obtain ⟨x, -, rfl⟩ := List.mem_map.1 (List.mem_of_mem_drop hu); rfl) (by omega) (Nat.le_trans hGn hB0.size) (fun v74 w74 hO74 hg hob74 => ?_)
           have hlo : ∀ j, some j = _ → n0 ≤ j := fun j hj => (Own.lt hO69 (j := j) hj).1
           have hB0 := hB0.step hg (fun j hj e => by have := hlo j e; omega)
           have hO74n := hO74
           obtain ⟨a74, c74, rfl, -⟩ := own_shape hO74
           have hB := hB.carry hB0; have hr := hr.carry hB0; have hn := hn.carry hB0; have bx1 := bx1.carry hB0; have bx2 := bx2.carry hB0; have bx3 := bx3.carry hB0; have bx5 := bx5.carry hB0; have hG := hG.carry hB0; have hP := hP.carry hB0; have hGq := hGq.carry hB0; have hGt := hGt.carry hB0; have ht := ht.carry hB0
           have hB0 := Gr.refl (fun _ => False) w74
           refine L.nil ?_
           refine thn_n ?_
           refine LAC.take (i := 18) rfl (by kernel_rfl) (by kernel_rfl) (by kernel_rfl) (by kernel_rfl) rfl (by kernel_rfl) (fun w hw => x_fa krsort_fo25_3 rfl) rfl ?_
           refine LAC.step (rs := [19]) (fun _ => ⟨bx1.carry hB0, bx3.carry hB0, hn.carry hB0⟩) (by kernel_rfl) (by simp) ⟨⟨_, rfl, ?_⟩, trivial⟩
           refine L.set (v := .slice _ _ _) krsort_sz22 rfl rfl rfl bx3 rfl (fun wl78 bx3 hw hzl78 => ?_)
           have hsz := hB.size
           have hB := hB.set hw (by omega); have hr := hr.carryR hw (fun k e => hU k (by have : k = _ := e; omega)); have hn := hn.carryR hw (fun k e => hU k (by have : k = _ := e; omega)); have bx1 := bx1.carryR hw (by omega); have bx2 := bx2.carryR hw (by omega); have bx5 := bx5.carryR hw (by omega); have hG := hG.carryR hw; have hP := hP.carryA (A' := _) hw (fun j hj e => by have e : j = _ := e; have h1 := (hP.lt hj).1; first | omega | (have h2 := hqP j hj; omega)) (fun j e => by have e : j = _ := e; first | exact .inl (by omega) | exact .inr (.inr (.inr (by omega)))) (fun _ h => h); have hGq := hGq.carryR hw; have hGt := hGt.carryR hw; have ht := ht.carryR hw (fun j e => by have e : j = _ := e; first | exact .inl (by omega) | exact .inr (.inr (.inr (by omega)))); have hO74 := Own.carryR hO74 hw (fun j hj e => by have e : j = _ := e; have h1 := (Own.lt hO74 hj).1; omega)
           obtain ⟨f1, f2⟩ := r_step hne hln hip hk h1 h3
           have f3 : 0 + k + 1 + ((rN s i).length - k) = (rN s (i + 1)).length := by rw [f1]; simp; omega
           rw [f3] at hO74 bx3
           have f4 : [] ++ List.take (k * 1) (List.map S (rN s i)) ++ [S (s.names.getD i [])] ++ List.drop (k * 1) (List.map S (rN s i)) = (rN s (i + 1)).map S := by rw [f1]; simp
           rw [f4] at hO74
           have hN := hO74
           obtain ⟨rows, r1, r2, r3, r4⟩ := hP
           have hk5 : k ≤ (rP s i).length := by omega
           have hrl : rows.flatten.length = (rP s i).length * 5 := r2.1
           have hr1 := rows_one r1 r4
           have hB0 := Gr.refl (fun _ => False) wl78
           obtain ⟨n1, hn1⟩ : ∃ n, n = wl78.heap.size := ⟨_, rfl⟩
           have hGn1 : n1 ≤ wl78.heap.size := by omega
           have hbn1 : base ≤ n1 := by rw [hn1]; exact hG
           have htn1 : w26.heap.size ≤ n1 := by rw [hn1]; exact hGt
           refine L.nil ?_
           refine thn_n ?_
           refine LAC.done (by kernel_rfl) (by kernel_rfl) ?_
           refine thn_n ?_
           refine W.drawT (fun w' => Box w' b3 25 [.int .i64 s.kind, S s.of, S s.name, .slice a74 (rN s (i + 1)).length c74, .slice aP (rP s i).length cP] ∧ Box w' b5 25 cs26) 15 krsort_mixed ?_
           have hB0 := hB0.carry (bel_drew _)
           refine LAC.take (i := 1) rfl (by kernel_rfl) (by kernel_rfl) (by kernel_rfl) (by kernel_rfl) rfl (by kernel_rfl) (fun w hw => x_fa krsort_fo25_4 rfl) rfl ?_
           refine LAC.take (i := 2) rfl (by kernel_rfl) (by kernel_rfl) (by kernel_rfl) (by kernel_rfl) rfl (by kernel_rfl) (fun w hw => by obtain ⟨bx3, bx5⟩ := hw; exact x_ld (v := .slice _ _ _) krsort_oc23 rfl (bx3.cell0 rfl)) rfl ?_
           refine LAC.take (i := 3) rfl (by kernel_rfl) (by kernel_rfl) (by kernel_rfl) (by kernel_rfl) rfl (by kernel_rfl) (fun w hw => x_mv (v := .int _ _) rfl) rfl ?_
           refine LAC.take (i := 4) rfl (by kernel_rfl) (by kernel_rfl) (by kernel_rfl) (by kernel_rfl) rfl (by kernel_rfl) (fun w hw => x_shi (j := k) Tryz.underlying23 krsort_sz25 rfl rfl rfl (by omega)) rfl ?_
           refine LAC.take (i := 6) rfl (by kernel_rfl) (by kernel_rfl) (by kernel_rfl) (by kernel_rfl) rfl (by kernel_rfl) (fun w hw => by obtain ⟨bx3, bx5⟩ := hw; exact x_ldn (vs := cs26) krsort_ag25 rfl ht.len (bx5.row ht.len)) rfl ?_
           refine LAC.take (i := 9) rfl (by kernel_rfl) (by kernel_rfl) (by kernel_rfl) (by kernel_rfl) rfl (by kernel_rfl) (fun w hw => x_fa krsort_fo25_4 rfl) rfl ?_
           refine LAC.take (i := 10) rfl (by kernel_rfl) (by kernel_rfl) (by kernel_rfl) (by kernel_rfl) rfl (by kernel_rfl) (fun w hw => by obtain ⟨bx3, bx5⟩ := hw; exact x_ld (v := .slice _ _ _) krsort_oc23 rfl (bx3.cell0 rfl)) rfl ?_
           refine LAC.take (i := 11) rfl (by kernel_rfl) (by kernel_rfl) (by kernel_rfl) (by kernel_rfl) rfl (by kernel_rfl) (fun w hw => x_mv (v := .int _ _) rfl) rfl ?_
           refine LAC.take (i := 12) rfl (by kernel_rfl) (by kernel_rfl) (by kernel_rfl) (by kernel_rfl) rfl (by kernel_rfl) (fun w hw => x_slog (j := k) Tryz.underlying23 krsort_sz25 rfl rfl rfl hk5) rfl ?_
           refine LAC.step (rs := [0, 7]) (fun _ => ⟨bx3.carry hB0, bx5.carry hB0⟩) (by kernel_rfl) (by simp) ⟨⟨_, rfl, ?_⟩, ⟨_, rfl, ?_⟩, trivial⟩
           ·refine L.bs0 Tryz.underlying23 krsort_el25 rfl (fun w76 hO76 hw hz76 => ?_)
            have hO76 := hO76.weak (Nat.le_trans hGn1 hB0.size)
            have hB0 := hB0.carry hw
            try have bx83 := bx83.carry hw
            refine L.nil ?_
            refine thn_n ?_
            refine LAC.step (rs := [5, 7]) (fun _ => ⟨bx3.carry hB0, bx5.carry hB0⟩) (by kernel_rfl) (by simp) ⟨⟨_, rfl, ?_⟩, ⟨_, rfl, ?_⟩, trivial⟩
            ·refine L.appendG (m := k) Tryz.underlying23 krsort_el25 rfl rfl rfl hO76 (by rw [List.length_take]; omega) (own_take (r2.carry hB0) hk5) (fun u hu => hr1 u (List.mem_of_mem_take hu)) (by omega) (Nat.le_trans hGn1 hB0.size) (fun v81 w81 hO81 hg hob81 => ?_)
             have hlo : ∀ j, some j = _ → n1 ≤ j := fun j hj => (Own.lt hO76 (j := j) hj).1
             have hB0 := hB0.step hg (fun j hj e => by have := hlo j e; omega)
             try have bx83 := bx83.carryR hg (fun e => ne_own (by omega) e)
             refine L.nil ?_
             refine thn_n ?_
             refine LAC.step (rs := [7]) (fun _ => ⟨bx3.carry hB0, bx5.carry hB0⟩) (by kernel_rfl) (by simp) ⟨⟨_, rfl, ?_⟩, trivial⟩
             refine L.bs (sz := 5) (cells := cs26) Tryz.underlying23 krsort_el25 rfl (by show (partsOk 5 0 [(0, Value.agg cs26.toArray)] && decide ([((0 : Nat), Value.agg cs26.toArray)].length = 1) && decide (0 < 1) && decide (1 * 5 ≤ 16777216)) = true; simp [partsOk, ht.len, Value.cells]) (by show ([((0 : Nat), Value.agg cs26.toArray)].map fun x => x.2.cells.toList).flatten = cs26; simp [Value.cells]) rfl (fun w83 bx83 hw hz83 => ?_)
             have hB0 := hB0.carry hw
             try have hO76 := hO76.carry hw
             try have hO81 := hO81.carry hw
             refine L.nil ?_
             refine thn_n ?_
             refine LAC.step (rs := [8]) (fun _ => ⟨bx3.carry hB0, bx5.carry hB0⟩) (by kernel_rfl) (by simp) ⟨⟨_, rfl, ?_⟩, trivial⟩
             refine L.append (m := 1) Tryz.underlying23 krsort_el25 rfl rfl rfl hO81 ht.len bx83.news (ShC.one ht) (by omega) (Nat.le_trans hGn1 hB0.size) (fun v84 w84 hO84 hg hiff84 hob84 => ?_)
             have hlo : ∀ j, some j = _ → n1 ≤ j := fun j hj => (Own.lt hO81 (j := j) hj).1
             have hB0 := hB0.step hg (fun j hj e => by have := hlo j e; omega)
             refine L.nil ?_
             refine thn_n ?_
             refine LAC.step (rs := [13]) (fun _ => ⟨bx3.carry hB0, bx5.carry hB0⟩) (by kernel_rfl) (by simp) ⟨⟨_, rfl, ?_⟩, trivial⟩
             refine L.appendG (m := ((rP s i).length - k)) Tryz.underlying23 krsort_el25 rfl rfl rfl hO84 (by rw [List.length_drop, hrl, Nat.sub_mul]) (own_drop (r2.carry hB0) hk5) (fun u hu => hr1 u (List.mem_of_mem_drop hu)) (by omega) (Nat.le_trans hGn1 hB0.size) (fun v89 w89 hO89 hg hob89 => ?_)
             have hlo : ∀ j, some j = _ → n1 ≤ j := fun j hj => (Own.lt hO84 (j := j) hj).1
             have hB0 := hB0.step hg (fun j hj e => by have := hlo j e; omega)
             have hlo9 : ∀ j, some j = v89.ownBlock → n1 ≤ j := fun j hj => (Own.lt hO89 (j := j) hj).1
             have hloN : ∀ j, some j = (Value.slice a74 (rN s (i + 1)).length c74).ownBlock → n0 ≤ j := fun j hj => (Own.lt hN (j := j) hj).1
             have f5 : 0 + k + 1 + ((rP s i).length - k) = (rP s i).length + 1 := by omega
             have f6 : [] ++ List.take (k * 5) rows.flatten ++ cs26 ++ List.drop (k * 5) rows.flatten = rows.flatten.take (k * 5) ++ cs26 ++ rows.flatten.drop (k * 5) := by simp
             rw [f5, f6] at hO89
             have hP := ShsOwn.ins (A := Av base w26 _ _) (A' := Av base w89 (.slice a74 (rN s (i + 1)).length c74) v89) r1 r3 (fun i hi => (r4 i hi).mono (fun j _ h => av_mono hs26 h)) hk5 ht (hO89.weak (show base ≤ n1 by omega)) hB0 (fun j h => by
               rcases h with h | h | h | h
               · exact .inl h
               · exact .inr (.inr (.inr (by have := hloN j h; omega)))
               · exact .inr (.inr (.inr (by have := hlo9 j h; omega)))
               · exact .inr (.inr (.inr (by have := hB0.size; omega))))
             rw [← f2] at hP
             have hN : Own wl78 base _ _ _ _ _ := hN.weak (by omega)
             obtain ⟨a89, c89, rfl, -⟩ := own_shape hO89
             clear r2 r4 ht
             have hB := hB.carry hB0; have hr := hr.carry hB0; have hn := hn.carry hB0; have bx1 := bx1.carry hB0; have bx2 := bx2.carry hB0; have bx3 := bx3.carry hB0; have hG := hG.carry hB0; have hN := hN.carry hB0; have bx5 := bx5.carry hB0
             have hB0 := Gr.refl (fun _ => False) w89
             refine L.nil ?_
             refine thn_n ?_
             refine LAC.take (i := 14) rfl (by kernel_rfl) (by kernel_rfl) (by kernel_rfl) (by kernel_rfl) rfl (by kernel_rfl) (fun w hw => x_fa krsort_fo25_4 rfl) rfl ?_
             refine LAC.step (rs := [15]) (fun _ => ⟨bx3.carry hB0, bx5.carry hB0⟩) (by kernel_rfl) (by simp) ⟨⟨_, rfl, ?_⟩, trivial⟩
             refine L.set (v := .slice _ _ _) krsort_sz23 rfl rfl rfl bx3 rfl (fun wl94 bx3 hw hzl94 => ?_)
             have hsz := hB.size
             have hB := hB.set hw (by omega); have hr := hr.carryR hw (fun k e => hU k (by have : k = _ := e; omega)); have hn := hn.carryR hw (fun k e => hU k (by have : k = _ := e; omega)); have bx1 := bx1.carryR hw (by omega); have bx2 := bx2.carryR hw (by omega); have hG := hG.carryR hw; have hN := Own.carryR hN hw (fun j hj e => by have e : j = _ := e; have h1 := (Own.lt hN hj).1; first | omega | (have h2 := hqN j hj; omega)); have hP := hP.carryA (A' := _) hw (fun j hj e => by have e : j = _ := e; have h1 := (hP.lt hj).1; first | omega | (have h2 := hqP j hj; omega)) (fun j e => by have e : j = _ := e; first | exact .inl (by omega) | exact .inr (.inr (.inr (by omega)))) (fun _ h => h)
             have hi' : i + 1 ≤ s.parts.length := hip
             have hP := ShsOwn.carryA (A' := Av base wl94 _ _) hP (Gr.refl (fun _ => False) _) (fun _ _ f => f) (fun _ f => f.elim) (fun j h => av_mono (Nat.le_of_eq hzl94.symm) h)
             refine L.nil ?_
             refine thn_n ?_
             refine LAC.done (by kernel_rfl) (by kernel_rfl) ?_
             refine blk_n ?_
             refine thn_n ?_
             refine W.region ?_
             refine L.val (x_mv (v := .int _ _) rfl) rfl ?_
             refine L.val (x_add rfl rfl (wr64 (by omega))) rfl ?_
             refine L.val (x_as (v := .int _ _) rfl) rfl ?_
             refine L.nil ?_
             refine thn_n ⟨rfl, ?_⟩
             refine ⟨_, ?_, i + 1, _, _, rfl, by first | rfl | exact vi (by omega), by first | rfl | exact vi (by omega), by first | rfl | exact vi (by omega), by first | rfl | exact vi (by omega), (by first | assumption | omega | rfl), (by first | assumption | omega | rfl), (by first | assumption | omega | rfl), (by first | assumption | omega | rfl), (by first | assumption | omega | rfl), (by first | assumption | omega | rfl), (by first | assumption | omega | rfl), (by first | assumption | omega | rfl), (by first | assumption | omega | rfl), (by first | assumption | omega | rfl)⟩
             omega
            ·refine L.bs (sz := 5) (cells := cs26) Tryz.underlying23 krsort_el25 rfl (by show (partsOk 5 0 [(0, Value.agg cs26.toArray)] && decide ([((0 : Nat), Value.agg cs26.toArray)].length = 1) && decide (0 < 1) && decide (1 * 5 ≤ 16777216)) = true; simp [partsOk, ht.len, Value.cells]) (by show ([((0 : Nat), Value.agg cs26.toArray)].map fun x => x.2.cells.toList).flatten = cs26; simp [Value.cells]) rfl (fun w83 bx83 hw hz83 => ?_)
             have hB0 := hB0.carry hw
             try have hO76 := hO76.carry hw
             try have hO81 := hO81.carry hw
             refine L.nil ?_
             refine thn_n ?_
             refine LAC.step (rs := [5]) (fun _ => ⟨bx3.carry hB0, bx5.carry hB0⟩) (by kernel_rfl) (by simp) ⟨⟨_, rfl, ?_⟩, trivial⟩
             refine L.appendG (m := k) Tryz.underlying23 krsort_el25 rfl rfl rfl hO76 (by rw [List.length_take]; omega) (own_take (r2.carry hB0) hk5) (fun u hu => hr1 u (List.mem_of_mem_take hu)) (by omega) (Nat.le_trans hGn1 hB0.size) (fun v81 w81 hO81 hg hob81 => ?_)
             have hlo : ∀ j, some j = _ → n1 ≤ j := fun j hj => (Own.lt hO76 (j := j) hj).1
             have hB0 := hB0.step hg (fun j hj e => by have := hlo j e; omega)
             try have bx83 := bx83.carryR hg (fun e => ne_own (by omega) e)
             refine L.nil ?_
             refine thn_n ?_
             refine LAC.step (rs := [8]) (fun _ => ⟨bx3.carry hB0, bx5.carry hB0⟩) (by kernel_rfl) (by simp) ⟨⟨_, rfl, ?_⟩, trivial⟩
             refine L.append (m := 1) Tryz.underlying23 krsort_el25 rfl rfl rfl hO81 ht.len bx83.news (ShC.one ht) (by omega) (Nat.le_trans hGn1 hB0.size) (fun v84 w84 hO84 hg hiff84 hob84 => ?_)
             have hlo : ∀ j, some j = _ → n1 ≤ j := fun j hj => (Own.lt hO81 (j := j) hj).1
             have hB0 := hB0.step hg (fun j hj e => by have := hlo j e; omega)
             refine L.nil ?_
             refine thn_n ?_
             refine LAC.step (rs := [13]) (fun _ => ⟨bx3.carry hB0, bx5.carry hB0⟩) (by kernel_rfl) (by simp) ⟨⟨_, rfl, ?_⟩, trivial⟩
             refine L.appendG (m := ((rP s i).length - k)) Tryz.underlying23 krsort_el25 rfl rfl rfl hO84 (by rw [List.length_drop, hrl, Nat.sub_mul]) (own_drop (r2.carry hB0) hk5) (fun u hu => hr1 u (List.mem_of_mem_drop hu)) (by omega) (Nat.le_trans hGn1 hB0.size) (fun v89 w89 hO89 hg hob89 => ?_)
             have hlo : ∀ j, some j = _ → n1 ≤ j := fun j hj => (Own.lt hO84 (j := j) hj).1
             have hB0 := hB0.step hg (fun j hj e => by have := hlo j e; omega)
             have hlo9 : ∀ j, some j = v89.ownBlock → n1 ≤ j := fun j hj => (Own.lt hO89 (j := j) hj).1
             have hloN : ∀ j, some j = (Value.slice a74 (rN s (i + 1)).length c74).ownBlock → n0 ≤ j := fun j hj => (Own.lt hN (j := j) hj).1
             have f5 : 0 + k + 1 + ((rP s i).length - k) = (rP s i).length + 1 := by omega
             have f6 : [] ++ List.take (k * 5) rows.flatten ++ cs26 ++ List.drop (k * 5) rows.flatten = rows.flatten.take (k * 5) ++ cs26 ++ rows.flatten.drop (k * 5) := by simp
             rw [f5, f6] at hO89
             have hP := ShsOwn.ins (A := Av base w26 _ _) (A' := Av base w89 (.slice a74 (rN s (i + 1)).length c74) v89) r1 r3 (fun i hi => (r4 i hi).mono (fun j _ h => av_mono hs26 h)) hk5 ht (hO89.weak (show base ≤ n1 by omega)) hB0 (fun j h => by
               rcases h with h | h | h | h
               · exact .inl h
               · exact .inr (.inr (.inr (by have := hloN j h; omega)))
               · exact .inr (.inr (.inr (by have := hlo9 j h; omega)))
               · exact .inr (.inr (.inr (by have := hB0.size; omega))))
             rw [← f2] at hP
             have hN : Own wl78 base _ _ _ _ _ := hN.weak (by omega)
             obtain ⟨a89, c89, rfl, -⟩ := own_shape hO89
             clear r2 r4 ht
             have hB := hB.carry hB0; have hr := hr.carry hB0; have hn := hn.carry hB0; have bx1 := bx1.carry hB0; have bx2 := bx2.carry hB0; have bx3 := bx3.carry hB0; have hG := hG.carry hB0; have hN := hN.carry hB0; have bx5 := bx5.carry hB0
             have hB0 := Gr.refl (fun _ => False) w89
             refine L.nil ?_
             refine thn_n ?_
             refine LAC.take (i := 14) rfl (by kernel_rfl) (by kernel_rfl) (by kernel_rfl) (by kernel_rfl) rfl (by kernel_rfl) (fun w hw => x_fa krsort_fo25_4 rfl) rfl ?_
             refine LAC.step (rs := [15]) (fun _ => ⟨bx3.carry hB0, bx5.carry hB0⟩) (by kernel_rfl) (by simp) ⟨⟨_, rfl, ?_⟩, trivial⟩
             refine L.set (v := .slice _ _ _) krsort_sz23 rfl rfl rfl bx3 rfl (fun wl94 bx3 hw hzl94 => ?_)
             have hsz := hB.size
             have hB := hB.set hw (by omega); have hr := hr.carryR hw (fun k e => hU k (by have : k = _ := e; omega)); have hn := hn.carryR hw (fun k e => hU k (by have : k = _ := e; omega)); have bx1 := bx1.carryR hw (by omega); have bx2 := bx2.carryR hw (by omega); have hG := hG.carryR hw; have hN := Own.carryR hN hw (fun j hj e => by have e : j = _ := e; have h1 := (Own.lt hN hj).1; first | omega | (have h2 := hqN j hj; omega)); have hP := hP.carryA (A' := _) hw (fun j hj e => by have e : j = _ := e; have h1 := (hP.lt hj).1; first | omega | (have h2 := hqP j hj; omega)) (fun j e => by have e : j = _ := e; first | exact .inl (by omega) | exact .inr (.inr (.inr (by omega)))) (fun _ h => h)
             have hi' : i + 1 ≤ s.parts.length := hip
             have hP := ShsOwn.carryA (A' := Av base wl94 _ _) hP (Gr.refl (fun _ => False) _) (fun _ _ f => f) (fun _ f => f.elim) (fun j h => av_mono (Nat.le_of_eq hzl94.symm) h)
             refine L.nil ?_
             refine thn_n ?_
             refine LAC.done (by kernel_rfl) (by kernel_rfl) ?_
             refine blk_n ?_
             refine thn_n ?_
             refine W.region ?_
             refine L.val (x_mv (v := .int _ _) rfl) rfl ?_
             refine L.val (x_add rfl rfl (wr64 (by omega))) rfl ?_
             refine L.val (x_as (v := .int _ _) rfl) rfl ?_
             refine L.nil ?_
             refine thn_n ⟨rfl, ?_⟩
             refine ⟨_, ?_, i + 1, _, _, rfl, by first | rfl | exact vi (by omega), by first | rfl | exact vi (by omega), by first | rfl | exact vi (by omega), by first | rfl | exact vi (by omega), (by first | assumption | omega | rfl), (by first | assumption | omega | rfl), (by first | assumption | omega | rfl), (by first | assumption | omega | rfl), (by first | assumption | omega | rfl), (by first | assumption | omega | rfl), (by first | assumption | omega | rfl), (by first | assumption | omega | rfl), (by first | assumption | omega | rfl), (by first | assumption | omega | rfl)⟩
             omega
           ·refine L.bs (sz := 5) (cells := cs26) Tryz.underlying23 krsort_el25 rfl (by show (partsOk 5 0 [(0, Value.agg cs26.toArray)] && decide ([((0 : Nat), Value.agg cs26.toArray)].length = 1) && decide (0 < 1) && decide (1 * 5 ≤ 16777216)) = true; simp [partsOk, ht.len, Value.cells]) (by show ([((0 : Nat), Value.agg cs26.toArray)].map fun x => x.2.cells.toList).flatten = cs26; simp [Value.cells]) rfl (fun w83 bx83 hw hz83 => ?_)
            have hB0 := hB0.carry hw
            try have hO76 := hO76.carry hw
            try have hO81 := hO81.carry hw
            refine L.nil ?_
            refine thn_n ?_
            refine LAC.step (rs := [0]) (fun _ => ⟨bx3.carry hB0, bx5.carry hB0⟩) (by kernel_rfl) (by simp) ⟨⟨_, rfl, ?_⟩, trivial⟩
            refine L.bs0 Tryz.underlying23 krsort_el25 rfl (fun w76 hO76 hw hz76 => ?_)
            have hO76 := hO76.weak (Nat.le_trans hGn1 hB0.size)
            have hB0 := hB0.carry hw
            try have bx83 := bx83.carry hw
            refine L.nil ?_
            refine thn_n ?_
            refine LAC.step (rs := [5]) (fun _ => ⟨bx3.carry hB0, bx5.carry hB0⟩) (by kernel_rfl) (by simp) ⟨⟨_, rfl, ?_⟩, trivial⟩
            refine L.appendG (m := k) Tryz.underlying23 krsort_el25 rfl rfl rfl hO76 (by rw [List.length_take]; omega) (own_take (r2.carry hB0) hk5) (fun u hu => hr1 u (List.mem_of_mem_take hu)) (by omega) (Nat.le_trans hGn1 hB0.size) (fun v81 w81 hO81 hg hob81 => ?_)
            have hlo : ∀ j, some j = _ → n1 ≤ j := fun j hj => (Own.lt hO76 (j := j) hj).1
            have hB0 := hB0.step hg (fun j hj e => by have := hlo j e; omega)
            try have bx83 := bx83.carryR hg (fun e => ne_own (by omega) e)
            refine L.nil ?_
            refine thn_n ?_
            refine LAC.step (rs := [8]) (fun _ => ⟨bx3.carry hB0, bx5.carry hB0⟩) (by kernel_rfl) (by simp) ⟨⟨_, rfl, ?_⟩, trivial⟩
            refine L.append (m := 1) Tryz.underlying23 krsort_el25 rfl rfl rfl hO81 ht.len bx83.news (ShC.one ht) (by omega) (Nat.le_trans hGn1 hB0.size) (fun v84 w84 hO84 hg hiff84 hob84 => ?_)
            have hlo : ∀ j, some j = _ → n1 ≤ j := fun j hj => (Own.lt hO81 (j := j) hj).1
            have hB0 := hB0.step hg (fun j hj e => by have := hlo j e; omega)
            refine L.nil ?_
            refine thn_n ?_
            refine LAC.step (rs := [13]) (fun _ => ⟨bx3.carry hB0, bx5.carry hB0⟩) (by kernel_rfl) (by simp) ⟨⟨_, rfl, ?_⟩, trivial⟩
            refine L.appendG (m := ((rP s i).length - k)) Tryz.underlying23 krsort_el25 rfl rfl rfl hO84 (by rw [List.length_drop, hrl, Nat.sub_mul]) (own_drop (r2.carry hB0) hk5) (fun u hu => hr1 u (List.mem_of_mem_drop hu)) (by omega) (Nat.le_trans hGn1 hB0.size) (fun v89 w89 hO89 hg hob89 => ?_)
            have hlo : ∀ j, some j = _ → n1 ≤ j := fun j hj => (Own.lt hO84 (j := j) hj).1
            have hB0 := hB0.step hg (fun j hj e => by have := hlo j e; omega)
            have hlo9 : ∀ j, some j = v89.ownBlock → n1 ≤ j := fun j hj => (Own.lt hO89 (j := j) hj).1
            have hloN : ∀ j, some j = (Value.slice a74 (rN s (i + 1)).length c74).ownBlock → n0 ≤ j := fun j hj => (Own.lt hN (j := j) hj).1
            have f5 : 0 + k + 1 + ((rP s i).length - k) = (rP s i).length + 1 := by omega
            have f6 : [] ++ List.take (k * 5) rows.flatten ++ cs26 ++ List.drop (k * 5) rows.flatten = rows.flatten.take (k * 5) ++ cs26 ++ rows.flatten.drop (k * 5) := by simp
            rw [f5, f6] at hO89
            have hP := ShsOwn.ins (A := Av base w26 _ _) (A' := Av base w89 (.slice a74 (rN s (i + 1)).length c74) v89) r1 r3 (fun i hi => (r4 i hi).mono (fun j _ h => av_mono hs26 h)) hk5 ht (hO89.weak (show base ≤ n1 by omega)) hB0 (fun j h => by
              rcases h with h | h | h | h
              · exact .inl h
              · exact .inr (.inr (.inr (by have := hloN j h; omega)))
              · exact .inr (.inr (.inr (by have := hlo9 j h; omega)))
              · exact .inr (.inr (.inr (by have := hB0.size; omega))))
            rw [← f2] at hP
            have hN : Own wl78 base _ _ _ _ _ := hN.weak (by omega)
            obtain ⟨a89, c89, rfl, -⟩ := own_shape hO89
            clear r2 r4 ht
            have hB := hB.carry hB0; have hr := hr.carry hB0; have hn := hn.carry hB0; have bx1 := bx1.carry hB0; have bx2 := bx2.carry hB0; have bx3 := bx3.carry hB0; have hG := hG.carry hB0; have hN := hN.carry hB0; have bx5 := bx5.carry hB0
            have hB0 := Gr.refl (fun _ => False) w89
            refine L.nil ?_
            refine thn_n ?_
            refine LAC.take (i := 14) rfl (by kernel_rfl) (by kernel_rfl) (by kernel_rfl) (by kernel_rfl) rfl (by kernel_rfl) (fun w hw => x_fa krsort_fo25_4 rfl) rfl ?_
            refine LAC.step (rs := [15]) (fun _ => ⟨bx3.carry hB0, bx5.carry hB0⟩) (by kernel_rfl) (by simp) ⟨⟨_, rfl, ?_⟩, trivial⟩
            refine L.set (v := .slice _ _ _) krsort_sz23 rfl rfl rfl bx3 rfl (fun wl94 bx3 hw hzl94 => ?_)
            have hsz := hB.size
            have hB := hB.set hw (by omega); have hr := hr.carryR hw (fun k e => hU k (by have : k = _ := e; omega)); have hn := hn.carryR hw (fun k e => hU k (by have : k = _ := e; omega)); have bx1 := bx1.carryR hw (by omega); have bx2 := bx2.carryR hw (by omega); have hG := hG.carryR hw; have hN := Own.carryR hN hw (fun j hj e => by have e : j = _ := e; have h1 := (Own.lt hN hj).1; first | omega | (have h2 := hqN j hj; omega)); have hP := hP.carryA (A' := _) hw (fun j hj e => by have e : j = _ := e; have h1 := (hP.lt hj).1; first | omega | (have h2 := hqP j hj; omega)) (fun j e => by have e : j = _ := e; first | exact .inl (by omega) | exact .inr (.inr (.inr (by omega)))) (fun _ h => h)
            have hi' : i + 1 ≤ s.parts.length := hip
            have hP := ShsOwn.carryA (A' := Av base wl94 _ _) hP (Gr.refl (fun _ => False) _) (fun _ _ f => f) (fun _ f => f.elim) (fun j h => av_mono (Nat.le_of_eq hzl94.symm) h)
            refine L.nil ?_
            refine thn_n ?_
            refine LAC.done (by kernel_rfl) (by kernel_rfl) ?_
            refine blk_n ?_
            refine thn_n ?_
            refine W.region ?_
            refine L.val (x_mv (v := .int _ _) rfl) rfl ?_
            refine L.val (x_add rfl rfl (wr64 (by omega))) rfl ?_
            refine L.val (x_as (v := .int _ _) rfl) rfl ?_
            refine L.nil ?_
            refine thn_n ⟨rfl, ?_⟩
            refine ⟨_, ?_, i + 1, _, _, rfl, by first | rfl | exact vi (by omega), by first | rfl | exact vi (by omega), by first | rfl | exact vi (by omega), by first | rfl | exact vi (by omega), (by first | assumption | omega | rfl), (by first | assumption | omega | rfl), (by first | assumption | omega | rfl), (by first | assumption | omega | rfl), (by first | assumption | omega | rfl), (by first | assumption | omega | rfl), (by first | assumption | omega | rfl), (by first | assumption | omega | rfl), (by first | assumption | omega | rfl), (by first | assumption | omega | rfl)⟩
            omega
         ·refine L.bs (sz := 1) (cells := [S (s.names.getD i [])]) Tryz.underlying22 krsort_el9 rfl rfl rfl rfl (fun w68 bx68 hw hz68 => ?_)
          have hB0 := hB0.carry hw
          try have hO57 := hO57.carry hw
          try have hO62 := hO62.carry hw
          refine L.nil ?_
          refine thn_n ?_
          refine LAC.step (rs := [0]) (fun _ => ⟨bx1.carry hB0, bx3.carry hB0, hn.carry hB0⟩) (by kernel_rfl) (by simp) ⟨⟨_, rfl, ?_⟩, trivial⟩
          refine L.bs0 Tryz.underlying22 krsort_el9 rfl (fun w57 hO57 hw hz57 => ?_)
          have hO57 := hO57.weak (Nat.le_trans hGn hB0.size)
          have hB0 := hB0.carry hw
          try have bx68 := bx68.carry hw
          refine L.nil ?_
          refine thn_n ?_
          refine LAC.step (rs := [5]) (fun _ => ⟨bx1.carry hB0, bx3.carry hB0, hn.carry hB0⟩) (by kernel_rfl) (by simp) ⟨⟨_, rfl, ?_⟩, trivial⟩
          refine L.appendG (m := k) Tryz.underlying22 krsort_el9 rfl rfl rfl hO57 (by simp; omega) (own_take (hN.carry hB0) hk) (by intro u hu; obtain ⟨x, -, rfl⟩ := List.mem_map.1 (List.mem_of_mem_take hu); rfl) (by omega) (Nat.le_trans hGn hB0.size) (fun v62 w62 hO62 hg hob62 => ?_)
          have hlo : ∀ j, some j = _ → n0 ≤ j := fun j hj => (Own.lt hO57 (j := j) hj).1
          have hB0 := hB0.step hg (fun j hj e => by have := hlo j e; omega)
          try have bx68 := bx68.carryR hg (fun e => ne_own (by omega) e)
          refine L.nil ?_
          refine thn_n ?_
          refine LAC.step (rs := [12]) (fun _ => ⟨bx1.carry hB0, bx3.carry hB0, hn.carry hB0⟩) (by kernel_rfl) (by simp) ⟨⟨_, rfl, ?_⟩, trivial⟩
          refine L.append (m := 1) Tryz.underlying22 krsort_el9 rfl rfl rfl hO62 rfl bx68.news (by simp [Value.oneCell', S]) (by omega) (Nat.le_trans hGn hB0.size) (fun v69 w69 hO69 hg hiff69 hob69 => ?_)
          have hlo : ∀ j, some j = _ → n0 ≤ j := fun j hj => (Own.lt hO62 (j := j) hj).1
          have hB0 := hB0.step hg (fun j hj e => by have := hlo j e; omega)
          refine L.nil ?_
          refine thn_n ?_
          refine LAC.step (rs := [17]) (fun _ => ⟨bx1.carry hB0, bx3.carry hB0, hn.carry hB0⟩) (by kernel_rfl) (by simp) ⟨⟨_, rfl, ?_⟩, trivial⟩
          refine L.appendG (m := ((rN s i).length - k)) Tryz.underlying22 krsort_el9 rfl rfl rfl hO69 (by simp) (own_drop (hN.carry hB0) hk) (by intro u hu; obtain ⟨x, -, rfl⟩ := List.mem_map.1 (List.mem_of_mem_drop hu); rfl) (by omega) (Nat.le_trans hGn hB0.size) (fun v74 w74 hO74 hg hob74 => ?_)
          have hlo : ∀ j, some j = _ → n0 ≤ j := fun j hj => (Own.lt hO69 (j := j) hj).1
          have hB0 := hB0.step hg (fun j hj e => by have := hlo j e; omega)
          have hO74n := hO74
          obtain ⟨a74, c74, rfl, -⟩ := own_shape hO74
          have hB := hB.carry hB0; have hr := hr.carry hB0; have hn := hn.carry hB0; have bx1 := bx1.carry hB0; have bx2 := bx2.carry hB0; have bx3 := bx3.carry hB0; have bx5 := bx5.carry hB0; have hG := hG.carry hB0; have hP := hP.carry hB0; have hGq := hGq.carry hB0; have hGt := hGt.carry hB0; have ht := ht.carry hB0
          have hB0 := Gr.refl (fun _ => False) w74
          refine L.nil ?_
          refine thn_n ?_
          refine LAC.take (i := 18) rfl (by kernel_rfl) (by kernel_rfl) (by kernel_rfl) (by kernel_rfl) rfl (by kernel_rfl) (fun w hw => x_fa krsort_fo25_3 rfl) rfl ?_
          refine LAC.step (rs := [19]) (fun _ => ⟨bx1.carry hB0, bx3.carry hB0, hn.carry hB0⟩) (by kernel_rfl) (by simp) ⟨⟨_, rfl, ?_⟩, trivial⟩
          refine L.set (v := .slice _ _ _) krsort_sz22 rfl rfl rfl bx3 rfl (fun wl78 bx3 hw hzl78 => ?_)
          have hsz := hB.size
          have hB := hB.set hw (by omega); have hr := hr.carryR hw (fun k e => hU k (by have : k = _ := e; omega)); have hn := hn.carryR hw (fun k e => hU k (by have : k = _ := e; omega)); have bx1 := bx1.carryR hw (by omega); have bx2 := bx2.carryR hw (by omega); have bx5 := bx5.carryR hw (by omega); have hG := hG.carryR hw; have hP := hP.carryA (A' := _) hw (fun j hj e => by have e : j = _ := e; have h1 := (hP.lt hj).1; first | omega | (have h2 := hqP j hj; omega)) (fun j e => by have e : j = _ := e; first | exact .inl (by omega) | exact .inr (.inr (.inr (by omega)))) (fun _ h => h); have hGq := hGq.carryR hw; have hGt := hGt.carryR hw; have ht := ht.carryR hw (fun j e => by have e : j = _ := e; first | exact .inl (by omega) | exact .inr (.inr (.inr (by omega)))); have hO74 := Own.carryR hO74 hw (fun j hj e => by have e : j = _ := e; have h1 := (Own.lt hO74 hj).1; omega)
          obtain ⟨f1, f2⟩ := r_step hne hln hip hk h1 h3
          have f3 : 0 + k + 1 + ((rN s i).length - k) = (rN s (i + 1)).length := by rw [f1]; simp; omega
          rw [f3] at hO74 bx3
          have f4 : [] ++ List.take (k * 1) (List.map S (rN s i)) ++ [S (s.names.getD i [])] ++ List.drop (k * 1) (List.map S (rN s i)) = (rN s (i + 1)).map S := by rw [f1]; simp
          rw [f4] at hO74
          have hN := hO74
          obtain ⟨rows, r1, r2, r3, r4⟩ := hP
          have hk5 : k ≤ (rP s i).length := by omega
          have hrl : rows.flatten.length = (rP s i).length * 5 := r2.1
          have hr1 := rows_one r1 r4
          have hB0 := Gr.refl (fun _ => False) wl78
          obtain ⟨n1, hn1⟩ : ∃ n, n = wl78.heap.size := ⟨_, rfl⟩
          have hGn1 : n1 ≤ wl78.heap.size := by omega
          have hbn1 : base ≤ n1 := by rw [hn1]; exact hG
          have htn1 : w26.heap.size ≤ n1 := by rw [hn1]; exact hGt
          refine L.nil ?_
          refine thn_n ?_
          refine LAC.done (by kernel_rfl) (by kernel_rfl) ?_
          refine thn_n ?_
          refine W.drawT (fun w' => Box w' b3 25 [.int .i64 s.kind, S s.of, S s.name, .slice a74 (rN s (i + 1)).length c74, .slice aP (rP s i).length cP] ∧ Box w' b5 25 cs26) 15 krsort_mixed ?_
          have hB0 := hB0.carry (bel_drew _)
          refine LAC.take (i := 1) rfl (by kernel_rfl) (by kernel_rfl) (by kernel_rfl) (by kernel_rfl) rfl (by kernel_rfl) (fun w hw => x_fa krsort_fo25_4 rfl) rfl ?_
          refine LAC.take (i := 2) rfl (by kernel_rfl) (by kernel_rfl) (by kernel_rfl) (by kernel_rfl) rfl (by kernel_rfl) (fun w hw => by obtain ⟨bx3, bx5⟩ := hw; exact x_ld (v := .slice _ _ _) krsort_oc23 rfl (bx3.cell0 rfl)) rfl ?_
          refine LAC.take (i := 3) rfl (by kernel_rfl) (by kernel_rfl) (by kernel_rfl) (by kernel_rfl) rfl (by kernel_rfl) (fun w hw => x_mv (v := .int _ _) rfl) rfl ?_
          refine LAC.take (i := 4) rfl (by kernel_rfl) (by kernel_rfl) (by kernel_rfl) (by kernel_rfl) rfl (by kernel_rfl) (fun w hw => x_shi (j := k) Tryz.underlying23 krsort_sz25 rfl rfl rfl (by omega)) rfl ?_
          refine LAC.take (i := 6) rfl (by kernel_rfl) (by kernel_rfl) (by kernel_rfl) (by kernel_rfl) rfl (by kernel_rfl) (fun w hw => by obtain ⟨bx3, bx5⟩ := hw; exact x_ldn (vs := cs26) krsort_ag25 rfl ht.len (bx5.row ht.len)) rfl ?_
          refine LAC.take (i := 9) rfl (by kernel_rfl) (by kernel_rfl) (by kernel_rfl) (by kernel_rfl) rfl (by kernel_rfl) (fun w hw => x_fa krsort_fo25_4 rfl) rfl ?_
          refine LAC.take (i := 10) rfl (by kernel_rfl) (by kernel_rfl) (by kernel_rfl) (by kernel_rfl) rfl (by kernel_rfl) (fun w hw => by obtain ⟨bx3, bx5⟩ := hw; exact x_ld (v := .slice _ _ _) krsort_oc23 rfl (bx3.cell0 rfl)) rfl ?_
          refine LAC.take (i := 11) rfl (by kernel_rfl) (by kernel_rfl) (by kernel_rfl) (by kernel_rfl) rfl (by kernel_rfl) (fun w hw => x_mv (v := .int _ _) rfl) rfl ?_
          refine LAC.take (i := 12) rfl (by kernel_rfl) (by kernel_rfl) (by kernel_rfl) (by kernel_rfl) rfl (by kernel_rfl) (fun w hw => x_slog (j := k) Tryz.underlying23 krsort_sz25 rfl rfl rfl hk5) rfl ?_
          refine LAC.step (rs := [0, 7]) (fun _ => ⟨bx3.carry hB0, bx5.carry hB0⟩) (by kernel_rfl) (by simp) ⟨⟨_, rfl, ?_⟩, ⟨_, rfl, ?_⟩, trivial⟩
          ·refine L.bs0 Tryz.underlying23 krsort_el25 rfl (fun w76 hO76 hw hz76 => ?_)
           have hO76 := hO76.weak (Nat.le_trans hGn1 hB0.size)
           have hB0 := hB0.carry hw
           try have bx83 := bx83.carry hw
           refine L.nil ?_
           refine thn_n ?_
           refine LAC.step (rs := [5, 7]) (fun _ => ⟨bx3.carry hB0, bx5.carry hB0⟩) (by kernel_rfl) (by simp) ⟨⟨_, rfl, ?_⟩, ⟨_, rfl, ?_⟩, trivial⟩
           ·refine L.appendG (m := k) Tryz.underlying23 krsort_el25 rfl rfl rfl hO76 (by rw [List.length_take]; omega) (own_take (r2.carry hB0) hk5) (fun u hu => hr1 u (List.mem_of_mem_take hu)) (by omega) (Nat.le_trans hGn1 hB0.size) (fun v81 w81 hO81 hg hob81 => ?_)
            have hlo : ∀ j, some j = _ → n1 ≤ j := fun j hj => (Own.lt hO76 (j := j) hj).1
            have hB0 := hB0.step hg (fun j hj e => by have := hlo j e; omega)
            try have bx83 := bx83.carryR hg (fun e => ne_own (by omega) e)
            refine L.nil ?_
            refine thn_n ?_
            refine LAC.step (rs := [7]) (fun _ => ⟨bx3.carry hB0, bx5.carry hB0⟩) (by kernel_rfl) (by simp) ⟨⟨_, rfl, ?_⟩, trivial⟩
            refine L.bs (sz := 5) (cells := cs26) Tryz.underlying23 krsort_el25 rfl (by show (partsOk 5 0 [(0, Value.agg cs26.toArray)] && decide ([((0 : Nat), Value.agg cs26.toArray)].length = 1) && decide (0 < 1) && decide (1 * 5 ≤ 16777216)) = true; simp [partsOk, ht.len, Value.cells]) (by show ([((0 : Nat), Value.agg cs26.toArray)].map fun x => x.2.cells.toList).flatten = cs26; simp [Value.cells]) rfl (fun w83 bx83 hw hz83 => ?_)
            have hB0 := hB0.carry hw
            try have hO76 := hO76.carry hw
            try have hO81 := hO81.carry hw
            refine L.nil ?_
            refine thn_n ?_
            refine LAC.step (rs := [8]) (fun _ => ⟨bx3.carry hB0, bx5.carry hB0⟩) (by kernel_rfl) (by simp) ⟨⟨_, rfl, ?_⟩, trivial⟩
            refine L.append (m := 1) Tryz.underlying23 krsort_el25 rfl rfl rfl hO81 ht.len bx83.news (ShC.one ht) (by omega) (Nat.le_trans hGn1 hB0.size) (fun v84 w84 hO84 hg hiff84 hob84 => ?_)
            have hlo : ∀ j, some j = _ → n1 ≤ j := fun j hj => (Own.lt hO81 (j := j) hj).1
            have hB0 := hB0.step hg (fun j hj e => by have := hlo j e; omega)
            refine L.nil ?_
            refine thn_n ?_
            refine LAC.step (rs := [13]) (fun _ => ⟨bx3.carry hB0, bx5.carry hB0⟩) (by kernel_rfl) (by simp) ⟨⟨_, rfl, ?_⟩, trivial⟩
            refine L.appendG (m := ((rP s i).length - k)) Tryz.underlying23 krsort_el25 rfl rfl rfl hO84 (by rw [List.length_drop, hrl, Nat.sub_mul]) (own_drop (r2.carry hB0) hk5) (fun u hu => hr1 u (List.mem_of_mem_drop hu)) (by omega) (Nat.le_trans hGn1 hB0.size) (fun v89 w89 hO89 hg hob89 => ?_)
            have hlo : ∀ j, some j = _ → n1 ≤ j := fun j hj => (Own.lt hO84 (j := j) hj).1
            have hB0 := hB0.step hg (fun j hj e => by have := hlo j e; omega)
            have hlo9 : ∀ j, some j = v89.ownBlock → n1 ≤ j := fun j hj => (Own.lt hO89 (j := j) hj).1
            have hloN : ∀ j, some j = (Value.slice a74 (rN s (i + 1)).length c74).ownBlock → n0 ≤ j := fun j hj => (Own.lt hN (j := j) hj).1
            have f5 : 0 + k + 1 + ((rP s i).length - k) = (rP s i).length + 1 := by omega
            have f6 : [] ++ List.take (k * 5) rows.flatten ++ cs26 ++ List.drop (k * 5) rows.flatten = rows.flatten.take (k * 5) ++ cs26 ++ rows.flatten.drop (k * 5) := by simp
            rw [f5, f6] at hO89
            have hP := ShsOwn.ins (A := Av base w26 _ _) (A' := Av base w89 (.slice a74 (rN s (i + 1)).length c74) v89) r1 r3 (fun i hi => (r4 i hi).mono (fun j _ h => av_mono hs26 h)) hk5 ht (hO89.weak (show base ≤ n1 by omega)) hB0 (fun j h => by
              rcases h with h | h | h | h
              · exact .inl h
              · exact .inr (.inr (.inr (by have := hloN j h; omega)))
              · exact .inr (.inr (.inr (by have := hlo9 j h; omega)))
              · exact .inr (.inr (.inr (by have := hB0.size; omega))))
            rw [← f2] at hP
            have hN : Own wl78 base _ _ _ _ _ := hN.weak (by omega)
            obtain ⟨a89, c89, rfl, -⟩ := own_shape hO89
            clear r2 r4 ht
            have hB := hB.carry hB0; have hr := hr.carry hB0; have hn := hn.carry hB0; have bx1 := bx1.carry hB0; have bx2 := bx2.carry hB0; have bx3 := bx3.carry hB0; have hG := hG.carry hB0; have hN := hN.carry hB0; have bx5 := bx5.carry hB0
            have hB0 := Gr.refl (fun _ => False) w89
            refine L.nil ?_
            refine thn_n ?_
            refine LAC.take (i := 14) rfl (by kernel_rfl) (by kernel_rfl) (by kernel_rfl) (by kernel_rfl) rfl (by kernel_rfl) (fun w hw => x_fa krsort_fo25_4 rfl) rfl ?_
            refine LAC.step (rs := [15]) (fun _ => ⟨bx3.carry hB0, bx5.carry hB0⟩) (by kernel_rfl) (by simp) ⟨⟨_, rfl, ?_⟩, trivial⟩
            refine L.set (v := .slice _ _ _) krsort_sz23 rfl rfl rfl bx3 rfl (fun wl94 bx3 hw hzl94 => ?_)
            have hsz := hB.size
            have hB := hB.set hw (by omega); have hr := hr.carryR hw (fun k e => hU k (by have : k = _ := e; omega)); have hn := hn.carryR hw (fun k e => hU k (by have : k = _ := e; omega)); have bx1 := bx1.carryR hw (by omega); have bx2 := bx2.carryR hw (by omega); have hG := hG.carryR hw; have hN := Own.carryR hN hw (fun j hj e => by have e : j = _ := e; have h1 := (Own.lt hN hj).1; first | omega | (have h2 := hqN j hj; omega)); have hP := hP.carryA (A' := _) hw (fun j hj e => by have e : j = _ := e; have h1 := (hP.lt hj).1; first | omega | (have h2 := hqP j hj; omega)) (fun j e => by have e : j = _ := e; first | exact .inl (by omega) | exact .inr (.inr (.inr (by omega)))) (fun _ h => h)
            have hi' : i + 1 ≤ s.parts.length := hip
            have hP := ShsOwn.carryA (A' := Av base wl94 _ _) hP (Gr.refl (fun _ => False) _) (fun _ _ f => f) (fun _ f => f.elim) (fun j h => av_mono (Nat.le_of_eq hzl94.symm) h)
            refine L.nil ?_
            refine thn_n ?_
            refine LAC.done (by kernel_rfl) (by kernel_rfl) ?_
            refine blk_n ?_
            refine thn_n ?_
            refine W.region ?_
            refine L.val (x_mv (v := .int _ _) rfl) rfl ?_
            refine L.val (x_add rfl rfl (wr64 (by omega))) rfl ?_
            refine L.val (x_as (v := .int _ _) rfl) rfl ?_
            refine L.nil ?_
            refine thn_n ⟨rfl, ?_⟩
            refine ⟨_, ?_, i + 1, _, _, rfl, by first | rfl | exact vi (by omega), by first | rfl | exact vi (by omega), by first | rfl | exact vi (by omega), by first | rfl | exact vi (by omega), (by first | assumption | omega | rfl), (by first | assumption | omega | rfl), (by first | assumption | omega | rfl), (by first | assumption | omega | rfl), (by first | assumption | omega | rfl), (by first | assumption | omega | rfl), (by first | assumption | omega | rfl), (by first | assumption | omega | rfl), (by first | assumption | omega | rfl), (by first | assumption | omega | rfl)⟩
            omega
           ·refine L.bs (sz := 5) (cells := cs26) Tryz.underlying23 krsort_el25 rfl (by show (partsOk 5 0 [(0, Value.agg cs26.toArray)] && decide ([((0 : Nat), Value.agg cs26.toArray)].length = 1) && decide (0 < 1) && decide (1 * 5 ≤ 16777216)) = true; simp [partsOk, ht.len, Value.cells]) (by show ([((0 : Nat), Value.agg cs26.toArray)].map fun x => x.2.cells.toList).flatten = cs26; simp [Value.cells]) rfl (fun w83 bx83 hw hz83 => ?_)
            have hB0 := hB0.carry hw
            try have hO76 := hO76.carry hw
            try have hO81 := hO81.carry hw
            refine L.nil ?_
            refine thn_n ?_
            refine LAC.step (rs := [5]) (fun _ => ⟨bx3.carry hB0, bx5.carry hB0⟩) (by kernel_rfl) (by simp) ⟨⟨_, rfl, ?_⟩, trivial⟩
            refine L.appendG (m := k) Tryz.underlying23 krsort_el25 rfl rfl rfl hO76 (by rw [List.length_take]; omega) (own_take (r2.carry hB0) hk5) (fun u hu => hr1 u (List.mem_of_mem_take hu)) (by omega) (Nat.le_trans hGn1 hB0.size) (fun v81 w81 hO81 hg hob81 => ?_)
            have hlo : ∀ j, some j = _ → n1 ≤ j := fun j hj => (Own.lt hO76 (j := j) hj).1
            have hB0 := hB0.step hg (fun j hj e => by have := hlo j e; omega)
            try have bx83 := bx83.carryR hg (fun e => ne_own (by omega) e)
            refine L.nil ?_
            refine thn_n ?_
            refine LAC.step (rs := [8]) (fun _ => ⟨bx3.carry hB0, bx5.carry hB0⟩) (by kernel_rfl) (by simp) ⟨⟨_, rfl, ?_⟩, trivial⟩
            refine L.append (m := 1) Tryz.underlying23 krsort_el25 rfl rfl rfl hO81 ht.len bx83.news (ShC.one ht) (by omega) (Nat.le_trans hGn1 hB0.size) (fun v84 w84 hO84 hg hiff84 hob84 => ?_)
            have hlo : ∀ j, some j = _ → n1 ≤ j := fun j hj => (Own.lt hO81 (j := j) hj).1
            have hB0 := hB0.step hg (fun j hj e => by have := hlo j e; omega)
            refine L.nil ?_
            refine thn_n ?_
            refine LAC.step (rs := [13]) (fun _ => ⟨bx3.carry hB0, bx5.carry hB0⟩) (by kernel_rfl) (by simp) ⟨⟨_, rfl, ?_⟩, trivial⟩
            refine L.appendG (m := ((rP s i).length - k)) Tryz.underlying23 krsort_el25 rfl rfl rfl hO84 (by rw [List.length_drop, hrl, Nat.sub_mul]) (own_drop (r2.carry hB0) hk5) (fun u hu => hr1 u (List.mem_of_mem_drop hu)) (by omega) (Nat.le_trans hGn1 hB0.size) (fun v89 w89 hO89 hg hob89 => ?_)
            have hlo : ∀ j, some j = _ → n1 ≤ j := fun j hj => (Own.lt hO84 (j := j) hj).1
            have hB0 := hB0.step hg (fun j hj e => by have := hlo j e; omega)
            have hlo9 : ∀ j, some j = v89.ownBlock → n1 ≤ j := fun j hj => (Own.lt hO89 (j := j) hj).1
            have hloN : ∀ j, some j = (Value.slice a74 (rN s (i + 1)).length c74).ownBlock → n0 ≤ j := fun j hj => (Own.lt hN (j := j) hj).1
            have f5 : 0 + k + 1 + ((rP s i).length - k) = (rP s i).length + 1 := by omega
            have f6 : [] ++ List.take (k * 5) rows.flatten ++ cs26 ++ List.drop (k * 5) rows.flatten = rows.flatten.take (k * 5) ++ cs26 ++ rows.flatten.drop (k * 5) := by simp
            rw [f5, f6] at hO89
            have hP := ShsOwn.ins (A := Av base w26 _ _) (A' := Av base w89 (.slice a74 (rN s (i + 1)).length c74) v89) r1 r3 (fun i hi => (r4 i hi).mono (fun j _ h => av_mono hs26 h)) hk5 ht (hO89.weak (show base ≤ n1 by omega)) hB0 (fun j h => by
              rcases h with h | h | h | h
              · exact .inl h
              · exact .inr (.inr (.inr (by have := hloN j h; omega)))
              · exact .inr (.inr (.inr (by have := hlo9 j h; omega)))
              · exact .inr (.inr (.inr (by have := hB0.size; omega))))
            rw [← f2] at hP
            have hN : Own wl78 base _ _ _ _ _ := hN.weak (by omega)
            obtain ⟨a89, c89, rfl, -⟩ := own_shape hO89
            clear r2 r4 ht
            have hB := hB.carry hB0; have hr := hr.carry hB0; have hn := hn.carry hB0; have bx1 := bx1.carry hB0; have bx2 := bx2.carry hB0; have bx3 := bx3.carry hB0; have hG := hG.carry hB0; have hN := hN.carry hB0; have bx5 := bx5.carry hB0
            have hB0 := Gr.refl (fun _ => False) w89
            refine L.nil ?_
            refine thn_n ?_
            refine LAC.take (i := 14) rfl (by kernel_rfl) (by kernel_rfl) (by kernel_rfl) (by kernel_rfl) rfl (by kernel_rfl) (fun w hw => x_fa krsort_fo25_4 rfl) rfl ?_
            refine LAC.step (rs := [15]) (fun _ => ⟨bx3.carry hB0, bx5.carry hB0⟩) (by kernel_rfl) (by simp) ⟨⟨_, rfl, ?_⟩, trivial⟩
            refine L.set (v := .slice _ _ _) krsort_sz23 rfl rfl rfl bx3 rfl (fun wl94 bx3 hw hzl94 => ?_)
            have hsz := hB.size
            have hB := hB.set hw (by omega); have hr := hr.carryR hw (fun k e => hU k (by have : k = _ := e; omega)); have hn := hn.carryR hw (fun k e => hU k (by have : k = _ := e; omega)); have bx1 := bx1.carryR hw (by omega); have bx2 := bx2.carryR hw (by omega); have hG := hG.carryR hw; have hN := Own.carryR hN hw (fun j hj e => by have e : j = _ := e; have h1 := (Own.lt hN hj).1; first | omega | (have h2 := hqN j hj; omega)); have hP := hP.carryA (A' := _) hw (fun j hj e => by have e : j = _ := e; have h1 := (hP.lt hj).1; first | omega | (have h2 := hqP j hj; omega)) (fun j e => by have e : j = _ := e; first | exact .inl (by omega) | exact .inr (.inr (.inr (by omega)))) (fun _ h => h)
            have hi' : i + 1 ≤ s.parts.length := hip
            have hP := ShsOwn.carryA (A' := Av base wl94 _ _) hP (Gr.refl (fun _ => False) _) (fun _ _ f => f) (fun _ f => f.elim) (fun j h => av_mono (Nat.le_of_eq hzl94.symm) h)
            refine L.nil ?_
            refine thn_n ?_
            refine LAC.done (by kernel_rfl) (by kernel_rfl) ?_
            refine blk_n ?_
            refine thn_n ?_
            refine W.region ?_
            refine L.val (x_mv (v := .int _ _) rfl) rfl ?_
            refine L.val (x_add rfl rfl (wr64 (by omega))) rfl ?_
            refine L.val (x_as (v := .int _ _) rfl) rfl ?_
            refine L.nil ?_
            refine thn_n ⟨rfl, ?_⟩
            refine ⟨_, ?_, i + 1, _, _, rfl, by first | rfl | exact vi (by omega), by first | rfl | exact vi (by omega), by first | rfl | exact vi (by omega), by first | rfl | exact vi (by omega), (by first | assumption | omega | rfl), (by first | assumption | omega | rfl), (by first | assumption | omega | rfl), (by first | assumption | omega | rfl), (by first | assumption | omega | rfl), (by first | assumption | omega | rfl), (by first | assumption | omega | rfl), (by first | assumption | omega | rfl), (by first | assumption | omega | rfl), (by first | assumption | omega | rfl)⟩
            omega
          ·refine L.bs (sz := 5) (cells := cs26) Tryz.underlying23 krsort_el25 rfl (by show (partsOk 5 0 [(0, Value.agg cs26.toArray)] && decide ([((0 : Nat), Value.agg cs26.toArray)].length = 1) && decide (0 < 1) && decide (1 * 5 ≤ 16777216)) = true; simp [partsOk, ht.len, Value.cells]) (by show ([((0 : Nat), Value.agg cs26.toArray)].map fun x => x.2.cells.toList).flatten = cs26; simp [Value.cells]) rfl (fun w83 bx83 hw hz83 => ?_)
           have hB0 := hB0.carry hw
           try have hO76 := hO76.carry hw
           try have hO81 := hO81.carry hw
           refine L.nil ?_
           refine thn_n ?_
           refine LAC.step (rs := [0]) (fun _ => ⟨bx3.carry hB0, bx5.carry hB0⟩) (by kernel_rfl) (by simp) ⟨⟨_, rfl, ?_⟩, trivial⟩
           refine L.bs0 Tryz.underlying23 krsort_el25 rfl (fun w76 hO76 hw hz76 => ?_)
           have hO76 := hO76.weak (Nat.le_trans hGn1 hB0.size)
           have hB0 := hB0.carry hw
           try have bx83 := bx83.carry hw
           refine L.nil ?_
           refine thn_n ?_
           refine LAC.step (rs := [5]) (fun _ => ⟨bx3.carry hB0, bx5.carry hB0⟩) (by kernel_rfl) (by simp) ⟨⟨_, rfl, ?_⟩, trivial⟩
           refine L.appendG (m := k) Tryz.underlying23 krsort_el25 rfl rfl rfl hO76 (by rw [List.length_take]; omega) (own_take (r2.carry hB0) hk5) (fun u hu => hr1 u (List.mem_of_mem_take hu)) (by omega) (Nat.le_trans hGn1 hB0.size) (fun v81 w81 hO81 hg hob81 => ?_)
           have hlo : ∀ j, some j = _ → n1 ≤ j := fun j hj => (Own.lt hO76 (j := j) hj).1
           have hB0 := hB0.step hg (fun j hj e => by have := hlo j e; omega)
           try have bx83 := bx83.carryR hg (fun e => ne_own (by omega) e)
           refine L.nil ?_
           refine thn_n ?_
           refine LAC.step (rs := [8]) (fun _ => ⟨bx3.carry hB0, bx5.carry hB0⟩) (by kernel_rfl) (by simp) ⟨⟨_, rfl, ?_⟩, trivial⟩
           refine L.append (m := 1) Tryz.underlying23 krsort_el25 rfl rfl rfl hO81 ht.len bx83.news (ShC.one ht) (by omega) (Nat.le_trans hGn1 hB0.size) (fun v84 w84 hO84 hg hiff84 hob84 => ?_)
           have hlo : ∀ j, some j = _ → n1 ≤ j := fun j hj => (Own.lt hO81 (j := j) hj).1
           have hB0 := hB0.step hg (fun j hj e => by have := hlo j e; omega)
           refine L.nil ?_
           refine thn_n ?_
           refine LAC.step (rs := [13]) (fun _ => ⟨bx3.carry hB0, bx5.carry hB0⟩) (by kernel_rfl) (by simp) ⟨⟨_, rfl, ?_⟩, trivial⟩
           refine L.appendG (m := ((rP s i).length - k)) Tryz.underlying23 krsort_el25 rfl rfl rfl hO84 (by rw [List.length_drop, hrl, Nat.sub_mul]) (own_drop (r2.carry hB0) hk5) (fun u hu => hr1 u (List.mem_of_mem_drop hu)) (by omega) (Nat.le_trans hGn1 hB0.size) (fun v89 w89 hO89 hg hob89 => ?_)
           have hlo : ∀ j, some j = _ → n1 ≤ j := fun j hj => (Own.lt hO84 (j := j) hj).1
           have hB0 := hB0.step hg (fun j hj e => by have := hlo j e; omega)
           have hlo9 : ∀ j, some j = v89.ownBlock → n1 ≤ j := fun j hj => (Own.lt hO89 (j := j) hj).1
           have hloN : ∀ j, some j = (Value.slice a74 (rN s (i + 1)).length c74).ownBlock → n0 ≤ j := fun j hj => (Own.lt hN (j := j) hj).1
           have f5 : 0 + k + 1 + ((rP s i).length - k) = (rP s i).length + 1 := by omega
           have f6 : [] ++ List.take (k * 5) rows.flatten ++ cs26 ++ List.drop (k * 5) rows.flatten = rows.flatten.take (k * 5) ++ cs26 ++ rows.flatten.drop (k * 5) := by simp
           rw [f5, f6] at hO89
           have hP := ShsOwn.ins (A := Av base w26 _ _) (A' := Av base w89 (.slice a74 (rN s (i + 1)).length c74) v89) r1 r3 (fun i hi => (r4 i hi).mono (fun j _ h => av_mono hs26 h)) hk5 ht (hO89.weak (show base ≤ n1 by omega)) hB0 (fun j h => by
             rcases h with h | h | h | h
             · exact .inl h
             · exact .inr (.inr (.inr (by have := hloN j h; omega)))
             · exact .inr (.inr (.inr (by have := hlo9 j h; omega)))
             · exact .inr (.inr (.inr (by have := hB0.size; omega))))
           rw [← f2] at hP
           have hN : Own wl78 base _ _ _ _ _ := hN.weak (by omega)
           obtain ⟨a89, c89, rfl, -⟩ := own_shape hO89
           clear r2 r4 ht
           have hB := hB.carry hB0; have hr := hr.carry hB0; have hn := hn.carry hB0; have bx1 := bx1.carry hB0; have bx2 := bx2.carry hB0; have bx3 := bx3.carry hB0; have hG := hG.carry hB0; have hN := hN.carry hB0; have bx5 := bx5.carry hB0
           have hB0 := Gr.refl (fun _ => False) w89
           refine L.nil ?_
           refine thn_n ?_
           refine LAC.take (i := 14) rfl (by kernel_rfl) (by kernel_rfl) (by kernel_rfl) (by kernel_rfl) rfl (by kernel_rfl) (fun w hw => x_fa krsort_fo25_4 rfl) rfl ?_
           refine LAC.step (rs := [15]) (fun _ => ⟨bx3.carry hB0, bx5.carry hB0⟩) (by kernel_rfl) (by simp) ⟨⟨_, rfl, ?_⟩, trivial⟩
           refine L.set (v := .slice _ _ _) krsort_sz23 rfl rfl rfl bx3 rfl (fun wl94 bx3 hw hzl94 => ?_)
           have hsz := hB.size
           have hB := hB.set hw (by omega); have hr := hr.carryR hw (fun k e => hU k (by have : k = _ := e; omega)); have hn := hn.carryR hw (fun k e => hU k (by have : k = _ := e; omega)); have bx1 := bx1.carryR hw (by omega); have bx2 := bx2.carryR hw (by omega); have hG := hG.carryR hw; have hN := Own.carryR hN hw (fun j hj e => by have e : j = _ := e; have h1 := (Own.lt hN hj).1; first | omega | (have h2 := hqN j hj; omega)); have hP := hP.carryA (A' := _) hw (fun j hj e => by have e : j = _ := e; have h1 := (hP.lt hj).1; first | omega | (have h2 := hqP j hj; omega)) (fun j e => by have e : j = _ := e; first | exact .inl (by omega) | exact .inr (.inr (.inr (by omega)))) (fun _ h => h)
           have hi' : i + 1 ≤ s.parts.length := hip
           have hP := ShsOwn.carryA (A' := Av base wl94 _ _) hP (Gr.refl (fun _ => False) _) (fun _ _ f => f) (fun _ f => f.elim) (fun j h => av_mono (Nat.le_of_eq hzl94.symm) h)
           refine L.nil ?_
           refine thn_n ?_
           refine LAC.done (by kernel_rfl) (by kernel_rfl) ?_
           refine blk_n ?_
           refine thn_n ?_
           refine W.region ?_
           refine L.val (x_mv (v := .int _ _) rfl) rfl ?_
           refine L.val (x_add rfl rfl (wr64 (by omega))) rfl ?_
           refine L.val (x_as (v := .int _ _) rfl) rfl ?_
           refine L.nil ?_
           refine thn_n ⟨rfl, ?_⟩
           refine ⟨_, ?_, i + 1, _, _, rfl, by first | rfl | exact vi (by omega), by first | rfl | exact vi (by omega), by first | rfl | exact vi (by omega), by first | rfl | exact vi (by omega), (by first | assumption | omega | rfl), (by first | assumption | omega | rfl), (by first | assumption | omega | rfl), (by first | assumption | omega | rfl), (by first | assumption | omega | rfl), (by first | assumption | omega | rfl), (by first | assumption | omega | rfl), (by first | assumption | omega | rfl), (by first | assumption | omega | rfl), (by first | assumption | omega | rfl)⟩
           omega
     ·have h18 := dlt_f g18
      refine W.exit (thn_x (thn_x (blk_hit ?_)))
      refine thn_n ?_
      refine W.seq ?_
      refine W.region ?_
      obtain ⟨xsP, hPo⟩ := hP.own
      refine L.val (x_ldn (vs := _) krsort_ag25 rfl rfl (bx3.row rfl)) rfl ?_
      refine L.setRow krsort_ag25 rfl rfl bx2 rfl rfl (by intro v hv; simp only [List.mem_cons, List.not_mem_nil, or_false] at hv; rcases hv with rfl | rfl | rfl | rfl | rfl <;> first | rfl | exact own_one hN | exact own_one hPo) (fun wl99 bx2 hw hzl99 => ?_)
      have hsz := hB.size
      have hB := hB.set hw (by omega); have bx3 := bx3.carryR hw (by omega); have hN := Own.carryR hN hw (fun j hj e => by have e : j = _ := e; have h1 := (Own.lt hN hj).1; first | omega | (have h2 := hqN j hj; omega)); have hP := hP.carryA (A' := _) hw (fun j hj e => by have e : j = _ := e; have h1 := (hP.lt hj).1; first | omega | (have h2 := hqP j hj; omega)) (fun j e => by have e : j = _ := e; first | exact .inl (by omega) | exact .inr (.inr (.inr (by omega)))) (fun _ h => h); have hG := hG.carryR hw
      refine L.nil ?_
      refine thn_n ?_
      refine W.ret (finR_mk (.inr rfl) ?_)
      have hii : i = s.parts.length := by omega
      subst hii
      have hNl := rN_len' hfs (Nat.le_refl s.parts.length)
      have hPl := rP_len hfs (Nat.le_refl s.parts.length)
      refine ⟨_, resS rfl krsort_ag25 rfl bx2 rfl, _, rfl, ?_, hB⟩
      rw [← sort_of_r hfs]
      exact ShC.intro (strs_done hN (by omega) (rN_short hL) (fun j h => by omega)) (hP.done (by omega) (fun j h => .inl (by omega)) (fun j h => by omega)) hof hnm
end Go.Gx

