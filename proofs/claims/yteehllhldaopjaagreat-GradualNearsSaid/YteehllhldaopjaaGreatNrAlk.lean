/- Whether two types go together: the document's rules give what the program's give. Conditions: none. -/
import Derived.Test.YteehllhldaopjaaGreatNrWit
namespace Go.Gx
def alkP (F : Sh → Sh → Bool) (a b : Sh) (i : Nat) : Bool :=
  if 0 < a.names.length then (if idxS (a.names.getD i []) b.names < b.names.length then F (a.parts.getD i default) (b.parts.getD (idxS (a.names.getD i []) b.names) default) else false)
  else F (a.parts.getD i default) (b.parts.getD i default)
def alkB (F : Sh → Sh → Bool) (a b : Sh) : Bool :=
  if a.kind = 4 ∨ b.kind = 4 then true
  else if a.kind ≠ b.kind ∨ a.of ≠ b.of ∨ a.name ≠ b.name ∨ a.parts.length ≠ b.parts.length then false
  else (List.range a.parts.length).all (alkP F a b)
def alkN : Nat → Sh → Sh → Bool
  | 0 => fun _ _ => false
  | N + 1 => alkB (alkN N)
def nrA (F : Sh → Sh → Bool) (a b : Sh) (i : Nat) : Bool := if idxS (b.names.getD i []) a.names < a.names.length then F (a.parts.getD (idxS (b.names.getD i []) a.names) default) (b.parts.getD i default) else false
def nrV (F : Sh → Sh → Bool) (a b : Sh) (i : Nat) : Bool := if idxS (a.names.getD i []) b.names < b.names.length then F (a.parts.getD i default) (b.parts.getD (idxS (a.names.getD i []) b.names) default) else false
def nrB (F : Sh → Sh → Bool) (a b : Sh) : Bool :=
  if a.kind = 4 ∨ b.kind = 4 then true
  else if a.kind ≠ b.kind ∨ a.of ≠ b.of ∨ a.name ≠ b.name then false
  else if a.kind = 6 then (List.range b.names.length).all (nrA F a b)
  else if a.kind = 7 then (List.range a.names.length).all (nrV F a b)
  else if a.kind = 8 then
    if a.parts.length ≠ b.parts.length then false
    else if F (a.parts.getD (a.parts.length - 1) default) (b.parts.getD (a.parts.length - 1) default) = false then false
    else (List.range (a.parts.length - 1)).all fun i => F (b.parts.getD i default) (a.parts.getD i default)
  else if a.kind = 5 then F (a.parts.getD 0 default) (b.parts.getD 0 default)
  else true
def nrN : Nat → Sh → Sh → Bool
  | 0 => fun _ _ => false
  | N + 1 => nrB (nrN N)
theorem all_iff {q : Nat → Bool} {n : Nat} : (List.range n).all q = true ↔ ∀ i, i < n → q i = true := by
  rw [List.all_eq_true]; simp
theorem restF_iff {a b : Sh} : restF a b = true ↔ ∀ i, i < b.names.length → idxS (b.names.getD i []) a.names < a.names.length := by
  unfold restF
  rw [Bool.not_eq_true', List.any_eq_false]
  simp
theorem fits_iff {L : Bool} {F : Sh → Sh → Bool} {a b : Sh} (ha : a.kind ≠ 4) (hb : b.kind ≠ 4) : fitsB L F a b = true ↔
    a.kind = b.kind ∧ a.of = b.of ∧ a.name = b.name ∧ ((a.kind = 6 ∨ a.kind = 7) → (∀ i, i < a.names.length → recF L F a b i = true) ∧ (lacksS L b false = true ∨ restF a b = true)) ∧
    (¬ (a.kind = 6 ∨ a.kind = 7) → a.parts.length = b.parts.length ∧ ∀ i, i < a.parts.length → funF F a b i = true) := by
  rw [fitsB, if_neg (by omega)]
  split
  · next h => constructor
              · intro h; cases h
              · rintro ⟨h1, h2, h3, -⟩; rcases h with h | h | h <;> contradiction
  · next h =>
    have e1 : a.kind = b.kind := Decidable.byContradiction fun e => h (.inl e)
    have e2 : a.of = b.of := Decidable.byContradiction fun e => h (.inr (.inl e))
    have e3 : a.name = b.name := Decidable.byContradiction fun e => h (.inr (.inr e))
    split
    · next h6 =>
      rw [Bool.and_eq_true, all_iff, Bool.or_eq_true]
      exact ⟨fun h => ⟨e1, e2, e3, fun _ => h, fun hn => absurd h6 hn⟩, fun h => h.2.2.2.1 h6⟩
    · next h6 =>
      split
      · next h7 => exact ⟨fun h => (by cases h), fun h => absurd (h.2.2.2.2 h6).1 h7⟩
      · next h7 =>
        rw [all_iff]
        exact ⟨fun h => ⟨e1, e2, e3, fun hn => absurd hn h6, fun _ => ⟨Decidable.byContradiction h7, h⟩⟩, fun h => (h.2.2.2.2 h6).2⟩
theorem fitsB4 {L : Bool} {F : Sh → Sh → Bool} {a b : Sh} (h : a.kind = 4 ∨ b.kind = 4) : fitsB L F a b = true := by rw [fitsB, if_pos h]
theorem rec_iff {F : Sh → Sh → Bool} {a b : Sh} {i : Nat} : recF false F a b i = true ↔ idxS (a.names.getD i []) b.names < b.names.length ∧ F (a.parts.getD i default) (b.parts.getD (idxS (a.names.getD i []) b.names) default) = true := by
  unfold recF
  split
  · next h => exact ⟨fun e => ⟨h, e⟩, fun e => e.2⟩
  · next h => exact ⟨fun e => by simp [lacksS] at e, fun e => absurd e.1 h⟩
theorem rec_nodup {s : Sh} (h : fitsS s = true) (_hk : s.kind = 6 ∨ s.kind = 7) : s.names.Nodup := by
  by_cases hn : s.names = []
  · rw [hn]; exact List.nodup_nil
  · exact nodup_iff.1 ((fits_names h).resolve_left hn).2
theorem idx_turn {l m : List Str} {i : Nat} (hd : l.Nodup) (hi : i < l.length) (hm : idxS (l.getD i []) m < m.length) : idxS (m.getD (idxS (l.getD i []) m) []) l = i := by
  rw [idxS_get hm, idxS_nodup hd hi]
theorem len_sub {l m : List Str} (hd : l.Nodup) (hs : ∀ x, x ∈ l → x ∈ m) : l.length ≤ m.length := by
  induction l generalizing m with
  | nil => simp
  | cons x l ih =>
    rw [List.nodup_cons] at hd
    have hx := hs x (by simp)
    have := ih (m := m.erase x) hd.2 fun y hy => (List.mem_erase_of_ne (fun e => hd.1 (by rw [← e]; exact hy))).2 (hs y (by simp [hy]))
    rw [List.length_erase_of_mem hx] at this
    have := List.length_pos_of_mem hx
    simp; omega
theorem mem_getD {l : List Str} {i : Nat} (h : i < l.length) : l.getD i [] ∈ l := by rw [List.getD_eq_getElem?_getD, List.getElem?_eq_getElem h]; exact List.getElem_mem _
theorem mem_at {l : List Str} {x : Str} (h : x ∈ l) : ∃ i, i < l.length ∧ l.getD i [] = x := ⟨idxS x l, idxS_lt.2 h, idxS_get (idxS_lt.2 h)⟩
theorem sub_turn {l m : List Str} (hl : l.Nodup) (hm : m.Nodup) (hs : ∀ i, i < l.length → idxS (l.getD i []) m < m.length) : l.length = m.length ↔ ∀ j, j < m.length → idxS (m.getD j []) l < l.length := by
  have hsub : ∀ x, x ∈ l → x ∈ m := fun x hx => by obtain ⟨i, hi, rfl⟩ := mem_at hx; exact idxS_lt.1 (hs i hi)
  constructor
  · intro he j hj
    rw [idxS_lt]
    refine Decidable.byContradiction fun hn => ?_
    have := len_sub (l := m.getD j [] :: l) (m := m) (List.nodup_cons.2 ⟨hn, hl⟩) (fun x hx => by
      rcases List.mem_cons.1 hx with rfl | hx
      · exact mem_getD hj
      · exact hsub x hx)
    simp at this; omega
  · intro h
    have h1 := len_sub hl hsub
    have h2 := len_sub hm fun x hx => by obtain ⟨i, hi, rfl⟩ := mem_at hx; exact idxS_lt.1 (h i hi)
    omega
theorem part_fit {s : Sh} (h : s.allB fitsS = true) {i : Nat} (hi : i < s.parts.length) : (s.parts.getD i default).allB fitsS = true := by
  rw [Sh.allB_eq] at h; simp at h; exact allL_getD h.2 hi
theorem alike_turn : ∀ (N : Nat) (a b : Sh), a.allB fitsS = true → b.allB fitsS = true → fitsN false N a b = true → fitsN false N b a = true
  | 0, _, _, _, _, h => by cases h
  | N + 1, a, b, fa, fb, h => by
    show fitsB false (fitsN false N) b a = true
    have h : fitsB false (fitsN false N) a b = true := h
    by_cases h4 : a.kind = 4 ∨ b.kind = 4
    · exact fitsB4 h4.symm
    · rw [fits_iff (by omega) (by omega)] at h ⊢
      obtain ⟨e1, e2, e3, h6, h8⟩ := h
      refine ⟨e1.symm, e2.symm, e3.symm, fun hk => ?_, fun hk => ?_⟩
      · have hka : a.kind = 6 ∨ a.kind = 7 := by rw [e1]; exact hk
        obtain ⟨hr, ht⟩ := h6 hka
        have ht : restF a b = true := ht.resolve_left (by simp [lacksS])
        rw [restF_iff] at ht
        have la := rec_len (allB_fit fa) hka
        have lb := rec_len (allB_fit fb) hk
        have na := rec_nodup (allB_fit fa) hka
        have nb := rec_nodup (allB_fit fb) hk
        refine ⟨fun j hj => ?_, .inr ?_⟩
        · have hi := ht j hj
          rw [rec_iff]
          refine ⟨hi, ?_⟩
          have := rec_iff.1 (hr _ hi)
          rw [idx_turn nb hj hi] at this
          exact alike_turn N _ _ (part_fit fa (by omega)) (part_fit fb (by omega)) this.2
        · rw [restF_iff]; exact fun i hi => (rec_iff.1 (hr i hi)).1
      · obtain ⟨hl, hf⟩ := h8 (by rw [e1]; exact hk)
        refine ⟨hl.symm, fun i hi => ?_⟩
        have := hf i (by omega)
        unfold funF at this ⊢
        split at this
        · next h => rw [if_pos (by omega)]; exact alike_turn N _ _ (part_fit fb (by omega)) (part_fit fa (by omega)) this
        · next h => rw [if_neg (by omega)]; exact alike_turn N _ _ (part_fit fa (by omega)) (part_fit fb (by omega)) this
theorem alike_sym {N : Nat} {a b : Sh} (fa : a.allB fitsS = true) (fb : b.allB fitsS = true) : fitsN false N a b = fitsN false N b a := by
  rw [Bool.eq_iff_iff]; exact ⟨alike_turn N a b fa fb, alike_turn N b a fb fa⟩
theorem alk_eq : ∀ (N : Nat) (a b : Sh), a.allB fitsS = true → b.allB fitsS = true → alkN N a b = fitsN false N a b
  | 0, _, _, _, _ => rfl
  | N + 1, a, b, fa, fb => by
    show alkB (alkN N) a b = fitsB false (fitsN false N) a b
    have ih := fun (i j : Nat) (hi : i < a.parts.length) (hj : j < b.parts.length) => alk_eq N _ _ (part_fit fa hi) (part_fit fb hj)
    unfold alkB
    split
    · next h => rw [fitsB4 h]
    · next h4 =>
      rw [Bool.eq_iff_iff, fits_iff (by omega) (by omega)]
      split
      · next h =>
        refine ⟨fun h => (by cases h), fun h2 => ?_⟩
        obtain ⟨e1, e2, e3, h6, h8⟩ := h2
        have hl : a.parts.length ≠ b.parts.length := by rcases h with h | h | h | h; exact absurd e1 h; exact absurd e2 h; exact absurd e3 h; exact h
        exfalso
        by_cases hk : a.kind = 6 ∨ a.kind = 7
        · obtain ⟨hr, ht⟩ := h6 hk
          have ht := restF_iff.1 (ht.resolve_left (by simp [lacksS]))
          have la := rec_len (allB_fit fa) hk
          have lb := rec_len (allB_fit fb) (by rw [← e1]; exact hk)
          have := (sub_turn (rec_nodup (allB_fit fa) hk) (rec_nodup (allB_fit fb) (by rw [← e1]; exact hk)) (fun i hi => (rec_iff.1 (hr i hi)).1)).2 ht
          omega
        · exact hl (h8 hk).1
      · next h =>
        have e1 : a.kind = b.kind := Decidable.byContradiction fun e => h (.inl e)
        have e2 : a.of = b.of := Decidable.byContradiction fun e => h (.inr (.inl e))
        have e3 : a.name = b.name := Decidable.byContradiction fun e => h (.inr (.inr (.inl e)))
        have e4 : a.parts.length = b.parts.length := Decidable.byContradiction fun e => h (.inr (.inr (.inr e)))
        rw [all_iff]
        by_cases hk : a.kind = 6 ∨ a.kind = 7
        · have hkb : b.kind = 6 ∨ b.kind = 7 := by rw [← e1]; exact hk
          have la := rec_len (allB_fit fa) hk
          have lb := rec_len (allB_fit fb) hkb
          have na := rec_nodup (allB_fit fa) hk
          have nb := rec_nodup (allB_fit fb) hkb
          have hone : ∀ i, i < a.names.length → (alkP (alkN N) a b i = true ↔ recF false (fitsN false N) a b i = true) := fun i hi => by
            rw [rec_iff]
            unfold alkP
            rw [if_pos (by omega)]
            split
            · next hx => rw [ih i _ (by omega) (by omega)]; exact ⟨fun e => ⟨hx, e⟩, fun e => e.2⟩
            · next hx => exact ⟨fun e => (by cases e), fun e => absurd e.1 hx⟩
          constructor
          · intro hq
            refine ⟨e1, e2, e3, fun _ => ?_, fun hn => absurd hk hn⟩
            have hr := fun i (hi : i < a.names.length) => (hone i hi).1 (hq i (by omega))
            refine ⟨hr, .inr ?_⟩
            rw [restF_iff]
            exact (sub_turn na nb (fun i hi => (rec_iff.1 (hr i hi)).1)).1 (by omega)
          · rintro ⟨-, -, -, h6, -⟩ i hi
            exact (hone i (by omega)).2 ((h6 hk).1 i (by omega))
        · have ea : a.names = [] := Decidable.byContradiction fun e => hk (names_kind (allB_fit fa) e)
          have hone : ∀ i, i < a.parts.length → (alkP (alkN N) a b i = true ↔ funF (fitsN false N) a b i = true) := fun i hi => by
            unfold alkP funF
            rw [if_neg (by rw [ea]; simp), ih i i hi (by omega)]
            split
            · rw [alike_sym (part_fit fa hi) (part_fit fb (by omega))]
            · rfl
          constructor
          · intro hq
            exact ⟨e1, e2, e3, fun hn => absurd hn hk, fun _ => ⟨e4, fun i hi => (hone i hi).1 (hq i hi)⟩⟩
          · rintro ⟨-, -, -, -, h8⟩ i hi
            exact (hone i hi).2 ((h8 hk).2 i hi)
theorem fits8 {s : Sh} (h : fitsS s = true) (hk : s.kind = 8) : 1 ≤ s.parts.length := by
  unfold fitsS at h
  simp [hk] at h
  omega
theorem fits5 {s : Sh} (h : fitsS s = true) (hk : s.kind = 5) : s.parts.length = 1 := by
  unfold fitsS at h
  simp [hk] at h
  omega
theorem fits0 {s : Sh} (h : fitsS s = true) (h6 : s.kind ≠ 6) (h7 : s.kind ≠ 7) (h8 : s.kind ≠ 8) (h5 : s.kind ≠ 5) : s.parts.length = 0 := by
  unfold fitsS at h
  simp only [h6, h7, h8, h5, decide_false, Bool.or_self, Bool.false_eq_true, if_false] at h
  repeat' split at h
  all_goals first | (simp only [Bool.and_eq_true, decide_eq_true_eq] at h; omega) | cases h
theorem nr_eq : ∀ (N : Nat) (a b : Sh), a.allB fitsS = true → b.allB fitsS = true → nrN N a b = fitsN true N a b
  | 0, _, _, _, _ => rfl
  | N + 1, a, b, fa, fb => by
    show nrB (nrN N) a b = fitsB true (fitsN true N) a b
    have ih := fun (i j : Nat) (hi : i < a.parts.length) (hj : j < b.parts.length) => nr_eq N _ _ (part_fit fa hi) (part_fit fb hj)
    have ih' := fun (i j : Nat) (hi : i < a.parts.length) (hj : j < b.parts.length) => nr_eq N _ _ (part_fit fb hj) (part_fit fa hi)
    unfold nrB
    split
    · next h => rw [fitsB4 h]
    · next h4 =>
      rw [Bool.eq_iff_iff, fits_iff (by omega) (by omega)]
      split
      · next h =>
        refine ⟨fun h => (by cases h), fun h2 => ?_⟩
        obtain ⟨e1, e2, e3, -, -⟩ := h2
        rcases h with h | h | h <;> contradiction
      · next h =>
        have e1 : a.kind = b.kind := Decidable.byContradiction fun e => h (.inl e)
        have e2 : a.of = b.of := Decidable.byContradiction fun e => h (.inr (.inl e))
        have e3 : a.name = b.name := Decidable.byContradiction fun e => h (.inr (.inr e))
        split
        · next hk =>
          have hkb : b.kind = 6 ∨ b.kind = 7 := by rw [← e1]; exact .inl hk
          have la := rec_len (allB_fit fa) (.inl hk)
          have lb := rec_len (allB_fit fb) hkb
          have na := rec_nodup (allB_fit fa) (.inl hk)
          have nb := rec_nodup (allB_fit fb) hkb
          rw [all_iff]
          constructor
          · intro hq
            refine ⟨e1, e2, e3, fun _ => ⟨fun i hi => ?_, .inr ?_⟩, fun hn => absurd (.inl hk) hn⟩
            · unfold recF
              split
              · next hx =>
                have := hq _ hx
                unfold nrA at this
                rw [idx_turn na hi hx, if_pos hi] at this
                rwa [ih i _ (by omega) (by omega)] at this
              · simp [lacksS, hk]
            · rw [restF_iff]; intro j hj
              have := hq j hj
              unfold nrA at this
              split at this
              · assumption
              · cases this
          · rintro ⟨-, -, -, h6, -⟩ j hj
            obtain ⟨hr, ht⟩ := h6 (.inl hk)
            have ht := restF_iff.1 (ht.resolve_left (by simp [lacksS, ← e1, hk]))
            have hx := ht j hj
            unfold nrA
            rw [if_pos hx]
            have := hr _ hx
            unfold recF at this
            rw [idx_turn nb hj hx, if_pos hj] at this
            rwa [ih _ j (by omega) (by omega)]
        · next hk6 =>
          split
          · next hk =>
            have hkb : b.kind = 6 ∨ b.kind = 7 := by rw [← e1]; exact .inr hk
            have la := rec_len (allB_fit fa) (.inr hk)
            have lb := rec_len (allB_fit fb) hkb
            rw [all_iff]
            have hone : ∀ i, i < a.names.length → (nrV (nrN N) a b i = true ↔ recF true (fitsN true N) a b i = true) := fun i hi => by
              unfold nrV recF
              split
              · rw [ih i _ (by omega) (by omega)]
              · simp [lacksS, hk]
            constructor
            · intro hq
              exact ⟨e1, e2, e3, fun _ => ⟨fun i hi => (hone i hi).1 (hq i hi), .inl (by simp [lacksS, ← e1, hk])⟩, fun hn => absurd (.inr hk) hn⟩
            · rintro ⟨-, -, -, h6, -⟩ i hi
              exact (hone i hi).2 ((h6 (.inr hk)).1 i hi)
          · next hk7 =>
            have hn67 : ¬ (a.kind = 6 ∨ a.kind = 7) := by omega
            split
            · next hk =>
              have p1 := fits8 (allB_fit fa) hk
              split
              · next hl => exact ⟨fun h => (by cases h), fun h => absurd (h.2.2.2.2 hn67).1 hl⟩
              · next hl =>
                have hl : a.parts.length = b.parts.length := Decidable.byContradiction hl
                have hlast : funF (fitsN true N) a b (a.parts.length - 1) = nrN N (a.parts.getD (a.parts.length - 1) default) (b.parts.getD (a.parts.length - 1) default) := by
                  unfold funF; rw [if_neg (by omega), ih _ _ (by omega) (by omega)]
                have hone : ∀ i, i < a.parts.length - 1 → funF (fitsN true N) a b i = nrN N (b.parts.getD i default) (a.parts.getD i default) := fun i hi => by
                  unfold funF; rw [if_pos (by omega), ih' i i (by omega) (by omega)]
                split
                · next hf =>
                  refine ⟨fun h => (by cases h), fun h => ?_⟩
                  have := (h.2.2.2.2 hn67).2 (a.parts.length - 1) (by omega)
                  rw [hlast, hf] at this; exact this
                · next hf =>
                  rw [all_iff]
                  constructor
                  · intro hq
                    refine ⟨e1, e2, e3, fun hn => absurd hn hn67, fun _ => ⟨hl, fun i hi => ?_⟩⟩
                    by_cases he : i = a.parts.length - 1
                    · rw [he, hlast]; simpa using hf
                    · rw [hone i (by omega)]; exact hq i (by omega)
                  · rintro ⟨-, -, -, -, h8⟩ i hi
                    rw [← hone i hi]; exact (h8 hn67).2 i (by omega)
            · next hk8 =>
              split
              · next hk =>
                have p1 := fits5 (allB_fit fa) hk
                have p2 := fits5 (allB_fit fb) (by omega)
                have h0 : funF (fitsN true N) a b 0 = nrN N (a.parts.getD 0 default) (b.parts.getD 0 default) := by
                  unfold funF; rw [if_neg (by omega), ih 0 0 (by omega) (by omega)]
                rw [← h0]
                constructor
                · intro hq
                  exact ⟨e1, e2, e3, fun hn => absurd hn hn67, fun _ => ⟨by omega, fun i hi => by rw [show i = 0 by omega]; exact hq⟩⟩
                · rintro ⟨-, -, -, -, h8⟩
                  exact (h8 hn67).2 0 (by omega)
              · next hk5 =>
                have p1 := fits0 (allB_fit fa) hk6 hk7 hk8 hk5
                have p2 := fits0 (allB_fit fb) (by omega) (by omega) (by omega) (by omega)
                exact ⟨fun _ => ⟨e1, e2, e3, fun hn => absurd hn hn67, fun _ => ⟨by omega, fun i hi => by omega⟩⟩, fun _ => rfl⟩
end Go.Gx
