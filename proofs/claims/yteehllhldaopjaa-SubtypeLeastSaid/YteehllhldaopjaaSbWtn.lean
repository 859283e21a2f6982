/- What stands between two types that are near: its plain laws. Conditions: none. -/
import Derived.Test.YteehllhldaopjaaSbFree
namespace Go.Gx
theorem sizeL_sum : ∀ l : List Sh, sizeL l = (l.map Sh.size).sum
  | [] => rfl
  | x :: l => by rw [sizeL, sizeL_sum l]; rfl
theorem deepL_leq {n : Nat} : ∀ {l : List Sh}, deepL l ≤ n ↔ ∀ x ∈ l, x.deep ≤ n
  | [] => by simp [deepL]
  | x :: l => by
    rw [deepL, List.forall_mem_cons, ← deepL_leq (l := l)]
    omega
theorem part_deep {s : Sh} {i : Nat} (hi : i < s.parts.length) : (s.parts.getD i default).deep < s.deep := by
  have h : deepL s.parts ≤ deepL s.parts := Nat.le_refl _
  have := deepL_leq.1 h (s.parts.getD i default) (by rw [List.getD_eq_getElem?_getD, List.getElem?_eq_getElem hi]; exact List.getElem_mem _)
  have e : s.deep = 1 + deepL s.parts := by cases s; rfl
  omega
theorem partS_deep {s : Sh} {x : Str} {p : Sh} (fs : fitsS s = true) (h : partS s x = some p) : p.deep < s.deep := by
  obtain ⟨h1, rfl⟩ := partS_idx fs h; exact part_deep h1
def lkSize : List Str → List Sh → Str → Nat
  | y :: l, p :: ps, x => if y = x then p.size else lkSize l ps x
  | _, _, _ => 0
theorem lkSize_nil {ps : List Sh} {x : Str} : lkSize [] ps x = 0 := by cases ps <;> rfl
theorem lkSize_nil' {ns : List Str} {x : Str} : lkSize ns [] x = 0 := by cases ns <;> rfl
theorem lkSize_at : ∀ {ns : List Str} {ps : List Sh} {x : Str}, idxS x ns < ns.length → idxS x ns < ps.length → lkSize ns ps x = (ps.getD (idxS x ns) default).size
  | [], _, _, h, _ => by simp at h
  | _ :: _, [], _, _, h => by simp at h
  | y :: l, p :: ps, x, h, h' => by
    rw [lkSize, idxS] at *
    split
    · simp
    · next e =>
      rw [if_neg e] at h h'
      rw [lkSize_at (by simpa using h) (by simpa using h')]; simp
theorem lkSize_part {s : Sh} (fs : fitsS s = true) {x : Str} {p : Sh} (h : partS s x = some p) : lkSize s.names s.parts x = p.size := by
  obtain ⟨h1, rfl⟩ := partS_idx fs h
  exact lkSize_at (partS_some.1 h).1 h1
theorem zero_sum : ∀ {m : List Str}, (m.map fun _ => 0).sum = 0
  | [] => rfl
  | x :: m => by rw [List.map_cons, List.sum_cons, zero_sum]
theorem one_sum {y : Str} {c : Nat} : ∀ {m : List Str}, m.Nodup → (m.map fun x => if y = x then c else 0).sum ≤ c
  | [], _ => by simp
  | x :: m, h => by
    rw [List.nodup_cons] at h
    rw [List.map_cons, List.sum_cons]
    by_cases e : y = x
    · have h0 : (m.map fun x => if y = x then c else 0) = m.map fun _ => 0 := List.map_congr_left fun z hz => by
        rw [if_neg]; intro e2; exact h.1 (by rw [← e, e2]; exact hz)
      rw [h0, if_pos e, zero_sum]; omega
    · rw [if_neg e]; have := one_sum (y := y) (c := c) h.2; omega
theorem parts_sum {l : List Sh} : ((List.range l.length).map fun i => (l.getD i default).size).sum = sizeL l := by
  have : l.map Sh.size = (List.range l.length).map fun i => (l.getD i default).size := by
    apply List.ext_getElem
    · simp
    · intro i h1 h2
      have h1 : i < l.length := by simpa using h1
      simp [List.getD_eq_getElem?_getD, h1]
  rw [sizeL_sum, this]
theorem sum_le {α : Type} {f g : α → Nat} : ∀ {m : List α}, (∀ x ∈ m, f x ≤ g x) → (m.map f).sum ≤ (m.map g).sum
  | [], _ => by simp
  | x :: m, h => by
    rw [List.forall_mem_cons] at h
    simp only [List.map_cons, List.sum_cons]
    have := sum_le h.2
    omega
theorem sum_add {α : Type} {f g : α → Nat} : ∀ {m : List α}, (m.map fun x => f x + g x).sum = (m.map f).sum + (m.map g).sum
  | [] => by simp
  | x :: m => by simp only [List.map_cons, List.sum_cons, sum_add (m := m)]; omega
theorem lk_sum : ∀ {ns : List Str} {ps : List Sh} {m : List Str}, m.Nodup → (m.map (lkSize ns ps)).sum ≤ sizeL ps
  | [], ps, m, _ => by
    have : (m.map (lkSize [] ps)) = m.map fun _ => 0 := List.map_congr_left fun _ _ => lkSize_nil
    rw [this, zero_sum]; omega
  | y :: l, [], m, _ => by
    have : (m.map (lkSize (y :: l) [])) = m.map fun _ => 0 := List.map_congr_left fun _ _ => lkSize_nil'
    rw [this, zero_sum]; omega
  | y :: l, p :: ps, m, hm => by
    have h1 : (m.map (lkSize (y :: l) (p :: ps))).sum ≤ (m.map fun x => (if y = x then p.size else 0) + lkSize l ps x).sum := sum_le fun x _ => by
      rw [lkSize]; split <;> omega
    rw [sum_add] at h1
    have h2 := one_sum (y := y) (c := p.size) hm
    have h3 := lk_sum (ns := l) (ps := ps) hm
    rw [sizeL]; omega
def SubUp (up : Bool) (K w : Sh) : Prop := Rel false true (keepS up K w) (otherS up K w)
theorem deep_eq (s : Sh) : s.deep = 1 + deepL s.parts := by cases s; rfl
theorem fits67 {s : Sh} (h : fitsS s = true) (hk : s.kind = 6 ∨ s.kind = 7) : s.of = [] ∧ s.name = [] := by
  rw [fits_rec hk] at h
  simp only [Bool.and_eq_true, beq_iff_eq] at h
  exact h.1
theorem allB_mk {q : Sh → Bool} {k : Int} {o n : Str} {ns : List Str} {ps : List Sh} : (Sh.mk k o n ns ps).allB q = true ↔ q (.mk k o n ns ps) = true ∧ ∀ x ∈ ps, x.allB q = true := by
  rw [Sh.allB, Bool.and_eq_true, allL_iff]
theorem range_getD {f : Nat → Sh} {n i : Nat} (h : i < n) : ((List.range n).map f).getD i default = f i := by simp [List.getD_eq_getElem?_getD, h]
theorem subup_intro {up : Bool} {K w : Sh} (fK : K.allB fitsS = true) (fw : w.allB fitsS = true) (e1 : K.kind = w.kind) (e2 : K.of = w.of) (e3 : K.name = w.name)
    (hb : (K.kind = 6 ∨ K.kind = 7) → ∀ x p q, partS K x = some p → partS w x = some q → SubUp up p q)
    (h6 : K.kind = 6 → up = true → ∀ x, x ∈ w.names → x ∈ K.names) (h6' : K.kind = 6 → up = false → ∀ x, x ∈ K.names → x ∈ w.names)
    (h7 : K.kind = 7 → up = true → ∀ x, x ∈ K.names → x ∈ w.names) (h7' : K.kind = 7 → up = false → ∀ x, x ∈ w.names → x ∈ K.names)
    (hl : ¬ (K.kind = 6 ∨ K.kind = 7) → K.parts.length = w.parts.length)
    (hp : ¬ (K.kind = 6 ∨ K.kind = 7) → ∀ i, i < K.parts.length → SubUp (if K.kind = 8 ∧ i + 1 < K.parts.length then !up else up) (K.parts.getD i default) (w.parts.getD i default)) : SubUp up K w := by
  cases up
  · show Rel false true w K
    refine (rel_iff fw fK).2 (.inr ⟨e1.symm, e2.symm, e3.symm, fun hk x p q hp hq => hb (by rw [e1]; exact hk) x q p hq hp, fun hk hL x hx => ?_, fun hk hL x hx => ?_, fun hk => (hl (by rw [e1]; exact hk)).symm, fun hk i hi hn => ?_, fun h8 i hi => ?_⟩)
    · exact h7' (by simp at hL; omega) rfl x hx
    · exact h6' (by simp at hL; omega) rfl x hx
    · have l := hl (by rw [e1]; exact hk)
      have := hp (by rw [e1]; exact hk) i (by omega)
      rw [if_neg (by rw [e1, l]; exact hn)] at this
      exact this
    · have l := hl (by rw [e1]; omega)
      have := hp (by rw [e1]; omega) i (by omega)
      rw [if_pos (by rw [e1, l]; exact ⟨h8, hi⟩)] at this
      exact this
  · show Rel false true K w
    refine (rel_iff fK fw).2 (.inr ⟨e1, e2, e3, hb, fun hk hL x hx => ?_, fun hk hL x hx => ?_, hl, fun hk i hi hn => ?_, fun h8 i hi => ?_⟩)
    · exact h7 (by simp at hL; omega) rfl x hx
    · exact h6 (by simp at hL; omega) rfl x hx
    · have := hp hk i hi
      rw [if_neg hn] at this
      exact this
    · have := hp (by omega) i (by omega)
      rw [if_pos ⟨h8, hi⟩] at this
      exact this
end Go.Gx
