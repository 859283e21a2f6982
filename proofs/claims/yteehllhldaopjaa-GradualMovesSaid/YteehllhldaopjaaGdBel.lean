/- Below, by the program's rules and by the document's: it is the one rule. Conditions: none. -/
import Derived.Test.YteehllhldaopjaaGdWtn
namespace Go.Gx
def lastB (F : Sh → Sh → Bool) (a b : Sh) : Bool :=
  if a.parts.length ≠ b.parts.length then false
  else if F (a.parts.getD (a.parts.length - 1) default) (b.parts.getD (a.parts.length - 1) default) = false then false
  else (List.range (a.parts.length - 1)).all fun i => F (b.parts.getD i default) (a.parts.getD i default)
def belB (F : Sh → Sh → Bool) (a b : Sh) : Bool :=
  if a.kind ≠ b.kind then false
  else if a.kind = 9 ∨ a.kind = 10 then decide (a.of = b.of) && decide (a.name = b.name)
  else if a.kind = 5 then F (a.parts.getD 0 default) (b.parts.getD 0 default)
  else if a.kind = 6 then (List.range b.names.length).all (nrA F a b)
  else if a.kind = 7 then (List.range a.names.length).all (nrV F a b)
  else if a.kind = 8 then lastB F a b
  else true
def belN : Nat → Sh → Sh → Bool
  | 0 => fun _ _ => false
  | N + 1 => belB (belN N)
theorem allA_iff {F : Sh → Sh → Bool} {a b : Sh} (nb : b.names.Nodup) : (List.range b.names.length).all (nrA F a b) = true ↔ (∀ x, x ∈ b.names → x ∈ a.names) ∧ ∀ x p q, partS a x = some p → partS b x = some q → F p q = true := by
  rw [all_iff]
  constructor
  · intro h
    refine ⟨fun x hx => ?_, fun x p q hp hq => ?_⟩
    · obtain ⟨i, hi, rfl⟩ := mem_at hx
      have := h i hi
      unfold nrA at this
      split at this
      · next hx => exact idxS_lt.1 hx
      · cases this
    · obtain ⟨hq1, rfl⟩ := partS_some.1 hq
      obtain ⟨hp1, rfl⟩ := partS_some.1 hp
      have := h _ hq1
      unfold nrA at this
      rw [idxS_get hq1, if_pos hp1] at this
      exact this
  · rintro ⟨h1, h2⟩ i hi
    have hm := idxS_lt.2 (h1 _ (mem_getD hi))
    unfold nrA
    rw [if_pos hm]
    exact h2 _ _ _ (partS_some.2 ⟨hm, rfl⟩) (partS_at nb hi)
theorem allV_iff {F : Sh → Sh → Bool} {a b : Sh} (na : a.names.Nodup) : (List.range a.names.length).all (nrV F a b) = true ↔ (∀ x, x ∈ a.names → x ∈ b.names) ∧ ∀ x p q, partS a x = some p → partS b x = some q → F p q = true := by
  rw [all_iff]
  constructor
  · intro h
    refine ⟨fun x hx => ?_, fun x p q hp hq => ?_⟩
    · obtain ⟨i, hi, rfl⟩ := mem_at hx
      have := h i hi
      unfold nrV at this
      split at this
      · next hx => exact idxS_lt.1 hx
      · cases this
    · obtain ⟨hq1, rfl⟩ := partS_some.1 hq
      obtain ⟨hp1, rfl⟩ := partS_some.1 hp
      have := h _ hp1
      unfold nrV at this
      rw [idxS_get hp1, if_pos hq1] at this
      exact this
  · rintro ⟨h1, h2⟩ i hi
    have hm := idxS_lt.2 (h1 _ (mem_getD hi))
    unfold nrV
    rw [if_pos hm]
    exact h2 _ _ _ (partS_at na hi) (partS_some.2 ⟨hm, rfl⟩)
theorem relC_flat {any L : Bool} {a b : Sh} (hk : ¬ (a.kind = 6 ∨ a.kind = 7)) (e1 : a.kind = b.kind) (e2 : a.of = b.of) (e3 : a.name = b.name) (hl : a.parts.length = b.parts.length)
    (hp : ∀ i, i < a.parts.length → ¬ (a.kind = 8 ∧ i + 1 < a.parts.length) → Rel any L (a.parts.getD i default) (b.parts.getD i default)) (hq : a.kind = 8 → ∀ i, i + 1 < a.parts.length → Rel any L (b.parts.getD i default) (a.parts.getD i default)) : RelC any L a b :=
  ⟨e1, e2, e3, fun h => absurd h hk, fun h => absurd h hk, fun h => absurd h hk, fun _ => hl, fun _ => hp, hq⟩
theorem fits58 {s : Sh} (h : fitsS s = true) (hk : s.kind = 5 ∨ s.kind = 8) : s.of = [] ∧ s.name = [] := by
  rcases hk with hk | hk
  · rw [fits_list hk] at h
    simp only [Bool.and_eq_true, beq_iff_eq] at h
    exact h.1.1
  · rw [fits_tup hk] at h
    simp only [Bool.and_eq_true, beq_iff_eq] at h
    exact h.1.1
theorem fits14 {s : Sh} (h : fitsS s = true) (h5 : s.kind ≠ 5) (h6 : s.kind ≠ 6) (h7 : s.kind ≠ 7) (h8 : s.kind ≠ 8) (h9 : ¬ (s.kind = 9 ∨ s.kind = 10)) : s.of = [] ∧ s.name = [] := by
  by_cases hr : 1 ≤ s.kind ∧ s.kind ≤ 4
  · rw [fits_bare hr] at h
    simp only [Bool.and_eq_true, beq_iff_eq] at h
    exact h.1.1
  · rw [fits_none (by omega)] at h; cases h
theorem last_iff {F : Sh → Sh → Bool} {a b : Sh} (hl : 1 ≤ a.parts.length) : lastB F a b = true ↔ a.parts.length = b.parts.length ∧ F (a.parts.getD (a.parts.length - 1) default) (b.parts.getD (a.parts.length - 1) default) = true ∧ ∀ i, i + 1 < a.parts.length → F (b.parts.getD i default) (a.parts.getD i default) = true := by
  unfold lastB
  split
  · next h => exact ⟨fun h => (by cases h), fun h2 => absurd h2.1 h⟩
  · next h =>
    have h : a.parts.length = b.parts.length := Decidable.byContradiction h
    split
    · next h1 => exact ⟨fun h => (by cases h), fun h2 => by rw [h2.2.1] at h1; cases h1⟩
    · next h1 =>
      rw [all_iff]
      exact ⟨fun hq => ⟨h, by simpa using h1, fun i hi => hq i (by omega)⟩, fun hq i hi => hq.2.2 i (by omega)⟩
theorem bel_eq : ∀ (N : Nat) (a b : Sh), SizeOf.sizeOf a + SizeOf.sizeOf b < N → a.allB fitsS = true → b.allB fitsS = true → belN N a b = decide (Rel false true a b)
  | 0, _, _, h, _, _ => by omega
  | N + 1, a, b, hN, fa, fb => by
    have hF : ∀ i j, i < a.parts.length → j < b.parts.length → (belN N (a.parts.getD i default) (b.parts.getD j default) = true ↔ Rel false true (a.parts.getD i default) (b.parts.getD j default)) := fun i j hi hj => by
      have s1 := Sh.part_lt hi
      have s2 := Sh.part_lt hj
      rw [bel_eq N _ _ (by omega) (part_fit fa hi) (part_fit fb hj), decide_eq_true_eq]
    have hG : ∀ i j, i < a.parts.length → j < b.parts.length → (belN N (b.parts.getD j default) (a.parts.getD i default) = true ↔ Rel false true (b.parts.getD j default) (a.parts.getD i default)) := fun i j hi hj => by
      have s1 := Sh.part_lt hi
      have s2 := Sh.part_lt hj
      rw [bel_eq N _ _ (by omega) (part_fit fb hj) (part_fit fa hi), decide_eq_true_eq]
    have hP : ∀ x p q, partS a x = some p → partS b x = some q → (belN N p q = true ↔ Rel false true p q) := fun x p q hp hq => by
      obtain ⟨i1, rfl⟩ := partS_idx (allB_fit fa) hp
      obtain ⟨i2, rfl⟩ := partS_idx (allB_fit fb) hq
      exact hF _ _ i1 i2
    rw [Bool.eq_iff_iff, decide_eq_true_eq, rel_iff fa fb, or_iff_right (by simp)]
    show belB (belN N) a b = true ↔ _
    unfold belB
    split
    · next h => exact ⟨fun h => (by cases h), fun h2 => absurd h2.kind h⟩
    next h =>
    have e1 : a.kind = b.kind := Decidable.byContradiction h
    split
    · next h9 =>
      have p0 := fits0 (allB_fit fa) (by omega) (by omega) (by omega) (by omega)
      have q0 := fits0 (allB_fit fb) (by omega) (by omega) (by omega) (by omega)
      simp only [Bool.and_eq_true, decide_eq_true_eq]
      exact ⟨fun h => relC_flat (by omega) e1 h.1 h.2 (by omega) (fun i hi => by omega) (fun h8 => by omega), fun h => ⟨h.of, h.name⟩⟩
    next h9 =>
    split
    · next h5 =>
      have l1 := fits5 (allB_fit fa) h5
      have l2 := fits5 (allB_fit fb) (by rw [← e1]; exact h5)
      have o1 := fits58 (allB_fit fa) (.inl h5)
      have o2 := fits58 (allB_fit fb) (.inl (by rw [← e1]; exact h5))
      rw [hF 0 0 (by omega) (by omega)]
      exact ⟨fun h => relC_flat (by omega) e1 (by rw [o1.1, o2.1]) (by rw [o1.2, o2.2]) (by omega) (fun i hi _ => (by obtain rfl : i = 0 := (by omega); exact h)) (fun h8 => by omega), fun h => h.part (by omega) 0 (by omega) (by omega)⟩
    next h5 =>
    split
    · next h6 =>
      have nb := rec_nodup (allB_fit fb) (by rw [← e1]; exact .inl h6)
      have o1 := fits67 (allB_fit fa) (.inl h6)
      have o2 := fits67 (allB_fit fb) (by rw [← e1]; exact .inl h6)
      rw [allA_iff nb]
      exact ⟨fun h => ⟨e1, by rw [o1.1, o2.1], by rw [o1.2, o2.2], fun _ x p q hp hq => (hP x p q hp hq).1 (h.2 x p q hp hq), fun _ hL => absurd ⟨rfl, h6⟩ hL, fun _ _ => h.1, fun hn => absurd (.inl h6) hn, fun hn => absurd (.inl h6) hn, fun h8 => by omega⟩,
        fun h => ⟨h.right (.inl h6) (by omega), fun x p q hp hq => (hP x p q hp hq).2 (h.both (.inl h6) x p q hp hq)⟩⟩
    next h6 =>
    split
    · next h7 =>
      have na := rec_nodup (allB_fit fa) (.inr h7)
      have o1 := fits67 (allB_fit fa) (.inr h7)
      have o2 := fits67 (allB_fit fb) (by rw [← e1]; exact .inr h7)
      rw [allV_iff na]
      exact ⟨fun h => ⟨e1, by rw [o1.1, o2.1], by rw [o1.2, o2.2], fun _ x p q hp hq => (hP x p q hp hq).1 (h.2 x p q hp hq), fun _ _ => h.1, fun _ hL => absurd ⟨rfl, h7⟩ hL, fun hn => absurd (.inr h7) hn, fun hn => absurd (.inr h7) hn, fun h8 => by omega⟩,
        fun h => ⟨h.left (.inr h7) (by omega), fun x p q hp hq => (hP x p q hp hq).2 (h.both (.inr h7) x p q hp hq)⟩⟩
    next h7 =>
    split
    · next h8 =>
      have l1 := fits8 (allB_fit fa) h8
      have o1 := fits58 (allB_fit fa) (.inr h8)
      have o2 := fits58 (allB_fit fb) (.inr (by rw [← e1]; exact h8))
      rw [last_iff l1]
      constructor
      · rintro ⟨hl, h1, h2⟩
        refine relC_flat (by omega) e1 (by rw [o1.1, o2.1]) (by rw [o1.2, o2.2]) hl (fun i hi hn => ?_) (fun _ i hi => ?_)
        · obtain rfl : i = a.parts.length - 1 := by omega
          exact (hF _ _ (by omega) (by omega)).1 h1
        · exact (hG i i (by omega) (by omega)).1 (h2 i hi)
      · intro h
        have hl := h.len (by omega)
        exact ⟨hl, (hF _ _ (by omega) (by omega)).2 (h.part (by omega) _ (by omega) (by omega)), fun i hi => (hG i i (by omega) (by omega)).2 (h.arg h8 i hi)⟩
    next h8 =>
      have p0 := fits0 (allB_fit fa) h6 h7 h8 h5
      have q0 := fits0 (allB_fit fb) (by omega) (by omega) (by omega) (by omega)
      have o1 := fits14 (allB_fit fa) h5 h6 h7 h8 h9
      have o2 := fits14 (allB_fit fb) (by omega) (by omega) (by omega) (by omega) (by omega)
      exact ⟨fun _ => relC_flat (by omega) e1 (by rw [o1.1, o2.1]) (by rw [o1.2, o2.2]) (by omega) (fun i hi => by omega) (fun h => absurd h h8), fun _ => rfl⟩
noncomputable def belowR (a b : Sh) : Bool := goesR false true a b
theorem below_bel {a b : Sh} : ((decide (checkS a = 0) && decide (checkS b = 0)) && belN (SizeOf.sizeOf a + SizeOf.sizeOf b + 1) a b) = belowR a b := by
  unfold belowR goesR
  by_cases ha : checkS a = 0
  · by_cases hb : checkS b = 0
    · rw [bel_eq _ a b (Nat.lt_succ_self _) (check_zero ha).2.2 (check_zero hb).2.2]
    · simp [hb]
  · simp [ha]
end Go.Gx
