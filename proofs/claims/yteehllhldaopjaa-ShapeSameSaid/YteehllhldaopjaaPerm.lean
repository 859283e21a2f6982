/- The order of types, in plain words: it keeps what fits, is reached from each other order of the names, and stays. Conditions: none. -/
import Derived.Test.YteehllhldaopjaaSort1
import Derived.Test.YteehllhldaopjaaSort3
namespace Go.Gx
open Go.Sort

theorem sizeL_perm {l l' : List Sh} (h : l.Perm l') : sizeL l = sizeL l' := by
  induction h with
  | nil => rfl
  | cons x _ ih => simp only [sizeL, ih]
  | swap x y l => simp only [sizeL]; omega
  | trans _ _ h1 h2 => exact h1.trans h2
theorem deepL_perm {l l' : List Sh} (h : l.Perm l') : deepL l = deepL l' := by
  induction h with
  | nil => rfl
  | cons x _ ih => simp only [deepL, ih]
  | swap x y l => simp only [deepL]; omega
  | trans _ _ h1 h2 => exact h1.trans h2
theorem allL_iff {p : Sh → Bool} : ∀ {l : List Sh}, allL p l = true ↔ ∀ x ∈ l, x.allB p = true
  | [] => by simp [allL]
  | x :: l => by rw [allL, Bool.and_eq_true, allL_iff (l := l)]; simp
theorem namesOk_perm {l l' : List Str} (h : l.Perm l') (n : Int) : namesOk l n = namesOk l' n := by
  unfold namesOk
  have h1 : l.all nameS = l'.all nameS := by
    rw [Bool.eq_iff_iff, List.all_eq_true, List.all_eq_true]
    exact ⟨fun g x hx => g x (h.mem_iff.2 hx), fun g x hx => g x (h.mem_iff.1 hx)⟩
  have h2 : nodup l = nodup l' := by
    rw [Bool.eq_iff_iff, nodup_iff, nodup_iff]
    exact h.nodup_iff
  rw [h1, h2, h.length_eq]
def fitsF (k : Int) (o n : Str) (b : Bool) (x y : Int) : Bool :=
  if (decide (k = 9) || decide (k = 10)) = true then upperS n && (nameS o || (o == [] && decide (k = 9) && !plainS n)) && decide (x = 0) && decide (y = 0)
  else if (!(o == []) || !(n == [])) = true then false
  else if (decide (k = 6) || decide (k = 7)) = true then b
  else if (0 : Int) < x then false
  else if k = 8 then decide ((1 : Int) ≤ y)
  else if k = 5 then decide (y = 1)
  else decide (1 ≤ k) && decide (k ≤ 4) && decide (y = 0)
theorem fits_perm {k : Int} {o n : Str} {ns ns' : List Str} {ps ps' : List Sh} (h : ns.Perm ns') (hl : ps.length = ps'.length) : fitsS (.mk k o n ns ps) = fitsS (.mk k o n ns' ps') := by
  have e : ∀ ns ps, fitsS (.mk k o n ns ps) = fitsF k o n (namesOk ns (ps.length : Nat)) (ns.length : Nat) (ps.length : Nat) := fun _ _ => rfl
  rw [e, e, namesOk_perm h, hl, h.length_eq]
theorem zip_rev {α β : Type} : ∀ {l : List α} {m : List β}, l.length = m.length → l.reverse.zip m.reverse = (l.zip m).reverse
  | [], [], _ => rfl
  | x :: l, y :: m, h => by
    have h : l.length = m.length := by simpa using h
    rw [List.reverse_cons, List.reverse_cons, List.zip_append (by simpa using h), zip_rev h]
    simp

/-! ### Pairs in their order -/
theorem pairUp_perm {ns : List Str} {qs : List Sh} : (pairUp ns qs).Perm (ns.zip qs) := by
  have := foldP_perm (ns.zip qs) []
  rw [List.append_nil] at this; exact this
theorem pairUp_sorted {ns : List Str} {qs : List Sh} : (pairUp ns qs).Pairwise LeP := foldP_sorted _ _ .nil
theorem pairUp_names {ns : List Str} {qs : List Sh} (h : ns.length = qs.length) : ((pairUp ns qs).map (·.1)).Perm ns := by
  have := (pairUp_perm (ns := ns) (qs := qs)).map (·.1)
  rwa [List.map_fst_zip (by omega)] at this
theorem pairUp_parts {ns : List Str} {qs : List Sh} (h : ns.length = qs.length) : ((pairUp ns qs).map (·.2)).Perm qs := by
  have := (pairUp_perm (ns := ns) (qs := qs)).map (·.2)
  rwa [List.map_snd_zip (by omega)] at this
/-- Pairs with unlike names that are in order stand one way. -/
theorem pairs_one {l l' : List (Str × Sh)} (hn : (l.map (·.1)).Nodup) (hp : l.Perm l') (h : l.Pairwise LeP) (h' : l'.Pairwise LeP) : l = l' :=
  List.Perm.eq_of_pairwise (le := LeP) (fun _ _ ha hb h1 h2 => eq_of_fst hn ha (hp.mem_iff.2 hb) (ltStr_anti h2 h1)) h h' hp
theorem pairUp_of {ns ns' : List Str} {qs qs' : List Sh} (hp : (ns.zip qs).Perm (ns'.zip qs')) (hl : ns.length = qs.length) (hn : ns.Nodup) : pairUp ns qs = pairUp ns' qs' :=
  pairs_one ((pairUp_names hl).nodup_iff.2 hn) (pairUp_perm.trans (hp.trans pairUp_perm.symm)) pairUp_sorted pairUp_sorted
theorem zip_unzip (l : List (Str × Sh)) : (l.map (·.1)).zip (l.map (·.2)) = l := by
  induction l with
  | nil => rfl
  | cons x l ih => simp [ih]
theorem pairUp_self {ns : List Str} {qs : List Sh} (hl : ns.length = qs.length) (hn : ns.Nodup) : pairUp ((pairUp ns qs).map (·.1)) ((pairUp ns qs).map (·.2)) = pairUp ns qs := by
  refine (pairUp_of (ns := ns) (qs := qs) ?_ hl hn).symm
  rw [zip_unzip]; exact pairUp_perm.symm

/-! ### What the order keeps -/
theorem map_len {ns : List Str} {qs : List Sh} (h : ns.length = qs.length) : ((pairUp ns qs).map (·.2)).length = qs.length := (pairUp_parts h).length_eq
mutual
theorem Sh.sort_size : ∀ s : Sh, s.allB fitsS = true → s.sort.size = s.size
  | .mk k o n ns ps, h => by
    have hf := h
    rw [Sh.allB, Bool.and_eq_true] at h
    have ih := sortL_size ps h.2
    rw [Sh.sort]
    split
    · rw [Sh.size, Sh.size, ih]
    · next hne =>
      have hl := ((fits_names h.1).resolve_left hne).1
      have hl : ns.length = (sortL ps).length := by rw [sortL_eq]; simpa [Sh.names, Sh.parts] using hl
      rw [Sh.size, Sh.size, sizeL_perm (pairUp_parts hl), ih]
theorem sortL_size : ∀ l : List Sh, allL fitsS l = true → sizeL (sortL l) = sizeL l
  | [], _ => rfl
  | x :: xs, h => by
    rw [allL, Bool.and_eq_true] at h
    simp only [sortL, sizeL]; rw [Sh.sort_size x h.1, sortL_size xs h.2]
end
mutual
theorem Sh.sort_deep : ∀ s : Sh, s.allB fitsS = true → s.sort.deep = s.deep
  | .mk k o n ns ps, h => by
    rw [Sh.allB, Bool.and_eq_true] at h
    have ih := sortL_deep ps h.2
    rw [Sh.sort]
    split
    · rw [Sh.deep, Sh.deep, ih]
    · next hne =>
      have hl := ((fits_names h.1).resolve_left hne).1
      have hl : ns.length = (sortL ps).length := by rw [sortL_eq]; simpa [Sh.names, Sh.parts] using hl
      rw [Sh.deep, Sh.deep, deepL_perm (pairUp_parts hl), ih]
theorem sortL_deep : ∀ l : List Sh, allL fitsS l = true → deepL (sortL l) = deepL l
  | [], _ => rfl
  | x :: xs, h => by
    rw [allL, Bool.and_eq_true] at h
    simp only [sortL, deepL]; rw [Sh.sort_deep x h.1, sortL_deep xs h.2]
end
mutual
theorem Sh.sort_fits : ∀ s : Sh, s.allB fitsS = true → s.sort.allB fitsS = true
  | .mk k o n ns ps, h => by
    rw [Sh.allB, Bool.and_eq_true] at h
    have ih := sortL_fits ps h.2
    have hsl : (sortL ps).length = ps.length := by rw [sortL_eq]; simp
    rw [Sh.sort]
    split
    · next hne =>
      subst hne
      rw [Sh.allB, Bool.and_eq_true]
      exact ⟨by rw [fits_perm (.refl []) hsl]; exact h.1, ih⟩
    · next hne =>
      have hl := ((fits_names h.1).resolve_left hne).1
      have hl : ns.length = (sortL ps).length := by rw [hsl]; simpa [Sh.names, Sh.parts] using hl
      rw [Sh.allB, Bool.and_eq_true]
      refine ⟨?_, ?_⟩
      · rw [fits_perm (pairUp_names hl) ((map_len hl).trans hsl)]; exact h.1
      · rw [allL_iff] at ih ⊢
        exact fun x hx => ih x ((pairUp_parts hl).mem_iff.1 hx)
theorem sortL_fits : ∀ l : List Sh, allL fitsS l = true → allL fitsS (sortL l) = true
  | [], _ => rfl
  | x :: xs, h => by
    rw [allL, Bool.and_eq_true] at h
    simp only [sortL, allL, Bool.and_eq_true]; exact ⟨Sh.sort_fits x h.1, sortL_fits xs h.2⟩
end
mutual
theorem Sh.sort_sort : ∀ s : Sh, s.allB fitsS = true → s.sort.sort = s.sort
  | .mk k o n ns ps, h => by
    rw [Sh.allB, Bool.and_eq_true] at h
    have ih := sortL_sort ps h.2
    by_cases hne : ns = []
    · subst hne
      rw [Sh.sort, if_pos rfl, Sh.sort, if_pos rfl, ih]
    · obtain ⟨hl, hd⟩ := (fits_names h.1).resolve_left hne
      have hl : ns.length = (sortL ps).length := by rw [sortL_eq]; simpa [Sh.names, Sh.parts] using hl
      have hnn : (pairUp ns (sortL ps)).map (·.1) ≠ [] := fun e => by
        have := (pairUp_names hl).length_eq
        rw [e] at this
        exact hne (List.eq_nil_of_length_eq_zero this.symm)
      have hs : sortL ((pairUp ns (sortL ps)).map (·.2)) = (pairUp ns (sortL ps)).map (·.2) := by
        rw [sortL_eq]
        conv => rhs; rw [← List.map_id ((pairUp ns (sortL ps)).map (·.2))]
        refine List.map_congr_left fun x hx => ?_
        have hx := (pairUp_parts hl).mem_iff.1 hx
        have : ∀ x ∈ sortL ps, x.sort = x := by
          have e := ih
          rw [sortL_eq (sortL ps)] at e
          intro x hx
          obtain ⟨i, hi, rfl⟩ := List.getElem_of_mem hx
          have := congrArg (fun l => l[i]?) e
          simpa [hi] using this
        exact this x hx
      rw [Sh.sort, if_neg hne, Sh.sort, if_neg hnn, hs, pairUp_self hl (nodup_iff.1 hd)]
theorem sortL_sort : ∀ l : List Sh, allL fitsS l = true → sortL (sortL l) = sortL l
  | [], _ => rfl
  | x :: xs, h => by
    rw [allL, Bool.and_eq_true] at h
    simp only [sortL]; rw [Sh.sort_sort x h.1, sortL_sort xs h.2]
end
theorem check_intro {s : Sh} (h1 : s.size ≤ 400) (h2 : s.deep ≤ 40) (h3 : s.allB fitsS = true) : checkS s = 0 := by
  unfold checkS; rw [if_neg (by omega), if_neg (by omega), if_neg (by rw [h3]; simp)]
theorem check_sort {s : Sh} (h : checkS s = 0) : checkS s.sort = 0 := by
  obtain ⟨h1, h2, h3⟩ := check_zero h
  exact check_intro (by rw [Sh.sort_size s h3]; exact h1) (by rw [Sh.sort_deep s h3]; exact h2) (Sh.sort_fits s h3)
theorem sort_stays {s : Sh} (h : checkS s = 0) : s.sort.sort = s.sort := Sh.sort_sort s (check_zero h).2.2

/-! ### The names the other way round -/
mutual
def Sh.turn : Sh → Sh | .mk k o n ns ps => if ns = [] then .mk k o n [] (turnL ps) else .mk k o n ns.reverse (turnL ps).reverse
def turnL : List Sh → List Sh | [] => [] | x :: xs => x.turn :: turnL xs
end
theorem turnL_eq : ∀ l, turnL l = l.map Sh.turn
  | [] => rfl
  | x :: xs => by rw [turnL, turnL_eq xs]; rfl
theorem Sh.turn_eq (s : Sh) : s.turn = if s.names = [] then .mk s.kind s.of s.name [] (s.parts.map Sh.turn) else .mk s.kind s.of s.name s.names.reverse (s.parts.map Sh.turn).reverse := by
  cases s; rw [Sh.turn, turnL_eq]; rfl
mutual
theorem Sh.turn_size : ∀ s : Sh, s.turn.size = s.size
  | .mk k o n ns ps => by
    have ih := turnL_size ps
    rw [Sh.turn]
    split
    · rw [Sh.size, Sh.size, ih]
    · rw [Sh.size, Sh.size, sizeL_perm (List.reverse_perm _), ih]
theorem turnL_size : ∀ l : List Sh, sizeL (turnL l) = sizeL l
  | [] => rfl
  | x :: xs => by simp only [turnL, sizeL]; rw [Sh.turn_size x, turnL_size xs]
end
mutual
theorem Sh.turn_deep : ∀ s : Sh, s.turn.deep = s.deep
  | .mk k o n ns ps => by
    have ih := turnL_deep ps
    rw [Sh.turn]
    split
    · rw [Sh.deep, Sh.deep, ih]
    · rw [Sh.deep, Sh.deep, deepL_perm (List.reverse_perm _), ih]
theorem turnL_deep : ∀ l : List Sh, deepL (turnL l) = deepL l
  | [] => rfl
  | x :: xs => by simp only [turnL, deepL]; rw [Sh.turn_deep x, turnL_deep xs]
end
mutual
theorem Sh.turn_fits : ∀ s : Sh, s.allB fitsS = true → s.turn.allB fitsS = true
  | .mk k o n ns ps, h => by
    rw [Sh.allB, Bool.and_eq_true] at h
    have ih := turnL_fits ps h.2
    have hsl : (turnL ps).length = ps.length := by rw [turnL_eq]; simp
    rw [Sh.turn]
    split
    · next hne =>
      subst hne
      rw [Sh.allB, Bool.and_eq_true]
      exact ⟨by rw [fits_perm (.refl []) hsl]; exact h.1, ih⟩
    · rw [Sh.allB, Bool.and_eq_true]
      refine ⟨?_, ?_⟩
      · exact (fits_perm (ps' := ps) (List.reverse_perm ns) (by rw [List.length_reverse]; exact hsl)).trans h.1
      · rw [allL_iff] at ih ⊢
        exact fun x hx => ih x (List.mem_reverse.1 hx)
theorem turnL_fits : ∀ l : List Sh, allL fitsS l = true → allL fitsS (turnL l) = true
  | [], _ => rfl
  | x :: xs, h => by
    rw [allL, Bool.and_eq_true] at h
    simp only [turnL, allL, Bool.and_eq_true]; exact ⟨Sh.turn_fits x h.1, turnL_fits xs h.2⟩
end
mutual
theorem Sh.sort_turn : ∀ s : Sh, s.allB fitsS = true → s.turn.sort = s.sort
  | .mk k o n ns ps, h => by
    rw [Sh.allB, Bool.and_eq_true] at h
    have ih := sortL_turn ps h.2
    by_cases hne : ns = []
    · subst hne
      rw [Sh.turn, if_pos rfl, Sh.sort, if_pos rfl, Sh.sort, if_pos rfl, ih]
    · obtain ⟨hl, hd⟩ := (fits_names h.1).resolve_left hne
      have hl : ns.length = (sortL ps).length := by rw [sortL_eq]; simpa [Sh.names, Sh.parts] using hl
      have hr : sortL (turnL ps).reverse = (sortL ps).reverse := by
        rw [sortL_eq] at ih ⊢
        rw [List.map_reverse, ih]
      rw [Sh.turn, if_neg hne, Sh.sort, if_neg (by simpa using hne), Sh.sort, if_neg hne, hr, ← pairUp_of (ns := ns) (qs := sortL ps) (by rw [zip_rev hl]; exact (List.reverse_perm _).symm) hl (nodup_iff.1 hd)]
theorem sortL_turn : ∀ l : List Sh, allL fitsS l = true → sortL (turnL l) = sortL l
  | [], _ => rfl
  | x :: xs, h => by
    rw [allL, Bool.and_eq_true] at h
    simp only [turnL, sortL]; rw [Sh.sort_turn x h.1, sortL_turn xs h.2]
end
theorem check_turn {s : Sh} (h : checkS s = 0) : checkS s.turn = 0 := by
  obtain ⟨h1, h2, h3⟩ := check_zero h
  exact check_intro (by rw [Sh.turn_size s]; exact h1) (by rw [Sh.turn_deep s]; exact h2) (Sh.turn_fits s h3)
end Go.Gx
