/- The order of types, in plain words: it keeps what fits, is reached from each other order of the names, and stays. Conditions: none. -/
import Derived.Test.YteehllhldaopjaaGdSort1
import Derived.Test.YteehllhldaopjaaGdSort3
namespace Go.Gx
open Go.Sort
theorem sizeL_perm {l l' : List Sh} (h : l.Perm l') : sizeL l = sizeL l' := by
  induction h with
  | nil => rfl
  | cons x _ ih => simp only [sizeL, ih]
  | swap x y l => simp only [sizeL]; omega
  | trans _ _ h1 h2 => exact h1.trans h2
theorem deepL_perm {l l' : List Sh} (h : l.Perm l') : deepL l = deepL l' := by
  induction h with
  | nil => rfl
  | cons x _ ih => simp only [deepL, ih]
  | swap x y l => simp only [deepL]; omega
  | trans _ _ h1 h2 => exact h1.trans h2
theorem allL_iff {p : Sh → Bool} : ∀ {l : List Sh}, allL p l = true ↔ ∀ x ∈ l, x.allB p = true
  | [] => by simp [allL]
  | x :: l => by rw [allL, Bool.and_eq_true, allL_iff (l := l)]; simp
theorem namesOk_perm {l l' : List Str} (h : l.Perm l') (n : Int) : namesOk l n = namesOk l' n := by
  unfold namesOk
  have h1 : l.all nameS = l'.all nameS := by
    rw [Bool.eq_iff_iff, List.all_eq_true, List.all_eq_true]
    exact ⟨fun g x hx => g x (h.mem_iff.2 hx), fun g x hx => g x (h.mem_iff.1 hx)⟩
  have h2 : nodup l = nodup l' := by
    rw [Bool.eq_iff_iff, nodup_iff, nodup_iff]
    exact h.nodup_iff
  rw [h1, h2, h.length_eq]
def fitsF (k : Int) (o n : Str) (b : Bool) (x y : Int) : Bool :=
  if (decide (k = 9) || decide (k = 10)) = true then upperS n && (nameS o || (o == [] && decide (k = 9) && !plainS n)) && decide (x = 0) && decide (y = 0)
  else if (!(o == []) || !(n == [])) = true then false
  else if (decide (k = 6) || decide (k = 7)) = true then b
  else if (0 : Int) < x then false
  else if k = 8 then decide ((1 : Int) ≤ y)
  else if k = 5 then decide (y = 1)
  else decide (1 ≤ k) && decide (k ≤ 4) && decide (y = 0)
theorem fits_perm {k : Int} {o n : Str} {ns ns' : List Str} {ps ps' : List Sh} (h : ns.Perm ns') (hl : ps.length = ps'.length) : fitsS (.mk k o n ns ps) = fitsS (.mk k o n ns' ps') := by
  have e : ∀ ns ps, fitsS (.mk k o n ns ps) = fitsF k o n (namesOk ns (ps.length : Nat)) (ns.length : Nat) (ps.length : Nat) := fun _ _ => rfl
  rw [e, e, namesOk_perm h, hl, h.length_eq]
theorem pairUp_perm {ns : List Str} {qs : List Sh} : (pairUp ns qs).Perm (ns.zip qs) := by
  have := foldP_perm (ns.zip qs) []
  rw [List.append_nil] at this; exact this
theorem pairUp_sorted {ns : List Str} {qs : List Sh} : (pairUp ns qs).Pairwise LeP := foldP_sorted _ _ .nil
theorem pairUp_names {ns : List Str} {qs : List Sh} (h : ns.length = qs.length) : ((pairUp ns qs).map (·.1)).Perm ns := by
  have := (pairUp_perm (ns := ns) (qs := qs)).map (·.1)
  rwa [List.map_fst_zip (by omega)] at this
theorem pairUp_parts {ns : List Str} {qs : List Sh} (h : ns.length = qs.length) : ((pairUp ns qs).map (·.2)).Perm qs := by
  have := (pairUp_perm (ns := ns) (qs := qs)).map (·.2)
  rwa [List.map_snd_zip (by omega)] at this
theorem pairs_one {l l' : List (Str × Sh)} (hn : (l.map (·.1)).Nodup) (hp : l.Perm l') (h : l.Pairwise LeP) (h' : l'.Pairwise LeP) : l = l' :=
  List.Perm.eq_of_pairwise (le := LeP) (fun _ _ ha hb h1 h2 => eq_of_fst hn ha (hp.mem_iff.2 hb) (ltStr_anti h2 h1)) h h' hp
theorem pairUp_of {ns ns' : List Str} {qs qs' : List Sh} (hp : (ns.zip qs).Perm (ns'.zip qs')) (hl : ns.length = qs.length) (hn : ns.Nodup) : pairUp ns qs = pairUp ns' qs' :=
  pairs_one ((pairUp_names hl).nodup_iff.2 hn) (pairUp_perm.trans (hp.trans pairUp_perm.symm)) pairUp_sorted pairUp_sorted
theorem zip_unzip (l : List (Str × Sh)) : (l.map (·.1)).zip (l.map (·.2)) = l := by
  induction l with
  | nil => rfl
  | cons x l ih => simp [ih]
theorem map_len {ns : List Str} {qs : List Sh} (h : ns.length = qs.length) : ((pairUp ns qs).map (·.2)).length = qs.length := (pairUp_parts h).length_eq
mutual
theorem Sh.sort_size : ∀ s : Sh, s.allB fitsS = true → s.sort.size = s.size
  | .mk k o n ns ps, h => by
    have hf := h
    rw [Sh.allB, Bool.and_eq_true] at h
    have ih := sortL_size ps h.2
    rw [Sh.sort]
    split
    · rw [Sh.size, Sh.size, ih]
    · next hne =>
      have hl := ((fits_names h.1).resolve_left hne).1
      have hl : ns.length = (sortL ps).length := by rw [sortL_eq]; simpa [Sh.names, Sh.parts] using hl
      rw [Sh.size, Sh.size, sizeL_perm (pairUp_parts hl), ih]
theorem sortL_size : ∀ l : List Sh, allL fitsS l = true → sizeL (sortL l) = sizeL l
  | [], _ => rfl
  | x :: xs, h => by
    rw [allL, Bool.and_eq_true] at h
    simp only [sortL, sizeL]; rw [Sh.sort_size x h.1, sortL_size xs h.2]
end
mutual
theorem Sh.sort_deep : ∀ s : Sh, s.allB fitsS = true → s.sort.deep = s.deep
  | .mk k o n ns ps, h => by
    rw [Sh.allB, Bool.and_eq_true] at h
    have ih := sortL_deep ps h.2
    rw [Sh.sort]
    split
    · rw [Sh.deep, Sh.deep, ih]
    · next hne =>
      have hl := ((fits_names h.1).resolve_left hne).1
      have hl : ns.length = (sortL ps).length := by rw [sortL_eq]; simpa [Sh.names, Sh.parts] using hl
      rw [Sh.deep, Sh.deep, deepL_perm (pairUp_parts hl), ih]
theorem sortL_deep : ∀ l : List Sh, allL fitsS l = true → deepL (sortL l) = deepL l
  | [], _ => rfl
  | x :: xs, h => by
    rw [allL, Bool.and_eq_true] at h
    simp only [sortL, deepL]; rw [Sh.sort_deep x h.1, sortL_deep xs h.2]
end
mutual
theorem Sh.sort_fits : ∀ s : Sh, s.allB fitsS = true → s.sort.allB fitsS = true
  | .mk k o n ns ps, h => by
    rw [Sh.allB, Bool.and_eq_true] at h
    have ih := sortL_fits ps h.2
    have hsl : (sortL ps).length = ps.length := by rw [sortL_eq]; simp
    rw [Sh.sort]
    split
    · next hne =>
      subst hne
      rw [Sh.allB, Bool.and_eq_true]
      exact ⟨by rw [fits_perm (.refl []) hsl]; exact h.1, ih⟩
    · next hne =>
      have hl := ((fits_names h.1).resolve_left hne).1
      have hl : ns.length = (sortL ps).length := by rw [hsl]; simpa [Sh.names, Sh.parts] using hl
      rw [Sh.allB, Bool.and_eq_true]
      refine ⟨?_, ?_⟩
      · rw [fits_perm (pairUp_names hl) ((map_len hl).trans hsl)]; exact h.1
      · rw [allL_iff] at ih ⊢
        exact fun x hx => ih x ((pairUp_parts hl).mem_iff.1 hx)
theorem sortL_fits : ∀ l : List Sh, allL fitsS l = true → allL fitsS (sortL l) = true
  | [], _ => rfl
  | x :: xs, h => by
    rw [allL, Bool.and_eq_true] at h
    simp only [sortL, allL, Bool.and_eq_true]; exact ⟨Sh.sort_fits x h.1, sortL_fits xs h.2⟩
end
theorem check_intro {s : Sh} (h1 : s.size ≤ 400) (h2 : s.deep ≤ 40) (h3 : s.allB fitsS = true) : checkS s = 0 := by
  unfold checkS; rw [if_neg (by omega), if_neg (by omega), if_neg (by rw [h3]; simp)]
theorem check_sort {s : Sh} (h : checkS s = 0) : checkS s.sort = 0 := by
  obtain ⟨h1, h2, h3⟩ := check_zero h
  exact check_intro (by rw [Sh.sort_size s h3]; exact h1) (by rw [Sh.sort_deep s h3]; exact h2) (Sh.sort_fits s h3)
end Go.Gx
