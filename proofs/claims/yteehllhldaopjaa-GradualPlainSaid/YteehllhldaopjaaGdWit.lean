/- Between two types that are near: in plain words. Conditions: none. -/
import Derived.Test.YteehllhldaopjaaGdGrad4
namespace Go.Gx
def keepS (up : Bool) (a b : Sh) : Sh := if up = true then a else b
def otherS (up : Bool) (a b : Sh) : Sh := if up = true then b else a
def witP (W : Bool → Sh → Sh → Sh) (up : Bool) (K O : Sh) (i : Nat) : Sh :=
  if idxS (O.names.getD i []) K.names < K.names.length then
    W up (keepS up (K.parts.getD (idxS (O.names.getD i []) K.names) default) (O.parts.getD i default)) (otherS up (K.parts.getD (idxS (O.names.getD i []) K.names) default) (O.parts.getD i default))
  else O.parts.getD i default
def witQ (W : Bool → Sh → Sh → Sh) (up : Bool) (a b : Sh) (i : Nat) : Sh :=
  if a.kind = 8 ∧ i + 1 < a.parts.length then W (!up) (b.parts.getD i default) (a.parts.getD i default) else W up (a.parts.getD i default) (b.parts.getD i default)
def witF (W : Bool → Sh → Sh → Sh) (up : Bool) (a b : Sh) : Sh :=
  if (otherS up a b).kind = 4 then keepS up a b
  else if (keepS up a b).kind = 4 then .mk 4 [] [] [] []
  else if 0 < a.names.length + b.names.length then .mk a.kind [] [] (otherS up a b).names ((List.range (otherS up a b).names.length).map (witP W up (keepS up a b) (otherS up a b)))
  else .mk (keepS up a b).kind (keepS up a b).of (keepS up a b).name [] ((List.range a.parts.length).map (witQ W up a b))
def witN : Nat → Bool → Sh → Sh → Sh
  | 0 => fun _ _ _ => default
  | N + 1 => witF (witN N)
theorem idxS_nodup : ∀ {l : List Str} {i : Nat}, l.Nodup → i < l.length → idxS (l.getD i []) l = i
  | [], _, _, h => absurd h (by simp)
  | y :: l, 0, _, _ => by simp [idxS]
  | y :: l, i + 1, h, hi => by
    rw [List.nodup_cons] at h
    have hi : i < l.length := by simpa using hi
    have ih := idxS_nodup (i := i) h.2 hi
    have hg : (y :: l).getD (i + 1) [] = l.getD i [] := by simp
    have hne : ¬ y = l.getD i [] := fun e => h.1 (by rw [e, List.getD_eq_getElem?_getD, List.getElem?_eq_getElem hi]; exact List.getElem_mem _)
    rw [hg, idxS, if_neg hne, ih]
theorem names_kind {s : Sh} (h : fitsS s = true) (hn : s.names ≠ []) : s.kind = 6 ∨ s.kind = 7 := by
  have hl : 0 < s.names.length := List.length_pos_iff.2 hn
  unfold fitsS at h
  split at h
  · simp at h; exact absurd h.1.2 hn
  · split at h
    · cases h
    · split at h
      · next h6 => simpa using h6
      · rw [if_pos (by omega)] at h; cases h
theorem near_open {N : Nat} {a b : Sh} (h : fitsB true (fitsN true N) a b = true) (ha : a.kind ≠ 4) (hb : b.kind ≠ 4) :
    a.kind = b.kind ∧ a.of = b.of ∧ a.name = b.name ∧ ((a.kind = 6 ∨ a.kind = 7) → ∀ i, i < a.names.length → recF true (fitsN true N) a b i = true) ∧
    (¬ (a.kind = 6 ∨ a.kind = 7) → a.parts.length = b.parts.length ∧ ∀ i, i < a.parts.length → funF (fitsN true N) a b i = true) := by
  rw [fitsB, if_neg (by omega)] at h
  split at h
  · cases h
  · next h2 =>
    have e1 : a.kind = b.kind := Decidable.byContradiction fun e => h2 (.inl e)
    have e2 : a.of = b.of := Decidable.byContradiction fun e => h2 (.inr (.inl e))
    have e3 : a.name = b.name := Decidable.byContradiction fun e => h2 (.inr (.inr e))
    refine ⟨e1, e2, e3, fun h6 i hi => ?_, fun h6 => ?_⟩
    · rw [if_pos h6, Bool.and_eq_true] at h
      exact List.all_eq_true.1 h.1 i (List.mem_range.2 hi)
    · rw [if_neg h6] at h
      split at h
      · cases h
      · next h7 => exact ⟨Decidable.byContradiction h7, fun i hi => List.all_eq_true.1 h i (List.mem_range.2 hi)⟩
theorem near_pair {N : Nat} {up : Bool} {a b : Sh} (h : fitsB true (fitsN true N) a b = true) (ha : a.kind ≠ 4) (hb : b.kind ≠ 4) (fa : fitsS a = true) (fb : fitsS b = true) {i : Nat} (hi : i < (otherS up a b).names.length)
    (hj : idxS ((otherS up a b).names.getD i []) (keepS up a b).names < (keepS up a b).names.length) :
    fitsN true N (keepS up ((keepS up a b).parts.getD (idxS ((otherS up a b).names.getD i []) (keepS up a b).names) default) ((otherS up a b).parts.getD i default)) (otherS up ((keepS up a b).parts.getD (idxS ((otherS up a b).names.getD i []) (keepS up a b).names) default) ((otherS up a b).parts.getD i default)) = true := by
  obtain ⟨e1, -, -, hr, -⟩ := near_open h ha hb
  cases up
  · simp only [keepS, otherS, Bool.false_eq_true, if_false] at hi hj ⊢
    have hn : a.names ≠ [] := fun e => by rw [e] at hi; simp at hi
    have := hr (names_kind fa hn) i hi
    unfold recF at this
    rwa [if_pos hj] at this
  · simp only [keepS, otherS, if_true] at hi hj ⊢
    have hn : b.names ≠ [] := fun e => by rw [e] at hi; simp at hi
    have hk := names_kind fb hn
    have := hr (by rw [e1]; exact hk) _ hj
    unfold recF at this
    have hd : b.names.Nodup := nodup_iff.1 ((fits_names fb).resolve_left hn).2
    rw [idxS_get hj, idxS_nodup hd hi, if_pos hi] at this
    exact this
theorem near_fun {N : Nat} {a b : Sh} (h : fitsB true (fitsN true N) a b = true) (ha : a.kind ≠ 4) (hb : b.kind ≠ 4) (fa : fitsS a = true) (hn : a.names = []) {i : Nat} (hi : i < a.parts.length) :
    i < b.parts.length ∧ funF (fitsN true N) a b i = true := by
  obtain ⟨e1, -, -, -, hf⟩ := near_open h ha hb
  have h6 : ¬ (a.kind = 6 ∨ a.kind = 7) := fun hk => by
    have := rec_len fa hk
    rw [hn] at this
    simp at this; omega
  obtain ⟨hl, hq⟩ := hf h6
  exact ⟨by omega, hq i hi⟩
def AvC (M : Nat → Prop) (n1 n0 : Nat) (w : World) (v1 v2 : Value) (k : Nat) : Prop := (k < n1 ∧ M k) ∨ (n1 ≤ k ∧ k < n0) ∨ some k = v1.ownBlock ∨ some k = v2.ownBlock ∨ w.heap.size ≤ k
theorem avc_step {M : Nat → Prop} {n1 n0 : Nat} {w w2 : World} {v v' v1 v2 : Value} (hs : w.heap.size ≤ w2.heap.size) (h1 : v1.ownBlock = v.ownBlock ∨ ∀ k, some k = v1.ownBlock → w.heap.size ≤ k) (h2 : v2.ownBlock = v'.ownBlock ∨ ∀ k, some k = v2.ownBlock → w.heap.size ≤ k) {j : Nat} (h : AvC M n1 n0 w2 v1 v2 j) : AvC M n1 n0 w v v' j := by
  rcases h with h | h | h | h | h
  · exact .inl h
  · exact .inr (.inl h)
  · rcases h1 with e | e
    · exact .inr (.inr (.inl (h.trans e)))
    · exact .inr (.inr (.inr (.inr (e j h))))
  · rcases h2 with e | e
    · exact .inr (.inr (.inr (.inl (h.trans e))))
    · exact .inr (.inr (.inr (.inr (e j h))))
  · exact .inr (.inr (.inr (.inr (by omega))))
theorem avc_mono {M : Nat → Prop} {n1 n0 : Nat} {w w2 : World} {v1 v2 : Value} (hs : w.heap.size ≤ w2.heap.size) {j : Nat} (h : AvC M n1 n0 w2 v1 v2 j) : AvC M n1 n0 w v1 v2 j := avc_step hs (.inl rfl) (.inl rfl) h
theorem ShsOwn.snocW {A A' R : Nat → Prop} {w w' : World} {base : Nat} {e : TypeId} {v' : Value} {l : List Sh} {rows : List (List Value)} {cs : List Value} {t : Sh} (h1 : rows.length = l.length) (h3 : ∀ i, i < l.length → (rows.getD i []).length = 5) (h4 : ∀ i, i < l.length → ShC A w (rows.getD i []) (l.getD i default))
    (ht : ShC A' w' cs t) (ho : Own w' base e 5 v' (l.length + 1) (rows.flatten ++ cs)) (g : Gr R w w') (hR : ∀ j, R j → A j) (hA : ∀ j, A' j → A j) : ShsOwn A' w' base e v' (l ++ [t]) := by
  refine ⟨rows ++ [cs], by simp [h1], ?_, fun i hi => ?_, fun i hi => ?_⟩
  · have e1 : (rows ++ [cs]).flatten = rows.flatten ++ cs := by simp
    rw [e1, List.length_append]; exact ho
  · rw [getD_snoc (by simpa [h1] using hi)]
    split
    · exact h3 i (by omega)
    · exact ht.len
  · rw [getD_snoc (by simpa [h1] using hi), getD_snoc hi]
    by_cases hlt : i < l.length
    · rw [if_pos (by omega), if_pos hlt]; exact ((h4 i hlt).carryR g hR).mono fun j _ hj => hA j hj
    · rw [if_neg (by omega), if_neg hlt]; exact ht
theorem map_range_succ {α : Type} {f : Nat → α} {i : Nat} : (List.range (i + 1)).map f = (List.range i).map f ++ [f i] := by
  rw [List.range_succ, List.map_append]; rfl
end Go.Gx
