/- Whether two types go together: the document's rules give what the program's give. Conditions: none. -/
import Derived.Test.YteehllhldaopjaaGdWit
namespace Go.Gx
def nrA (F : Sh → Sh → Bool) (a b : Sh) (i : Nat) : Bool := if idxS (b.names.getD i []) a.names < a.names.length then F (a.parts.getD (idxS (b.names.getD i []) a.names) default) (b.parts.getD i default) else false
def nrV (F : Sh → Sh → Bool) (a b : Sh) (i : Nat) : Bool := if idxS (a.names.getD i []) b.names < b.names.length then F (a.parts.getD i default) (b.parts.getD (idxS (a.names.getD i []) b.names) default) else false
theorem all_iff {q : Nat → Bool} {n : Nat} : (List.range n).all q = true ↔ ∀ i, i < n → q i = true := by
  rw [List.all_eq_true]; simp
theorem restF_iff {a b : Sh} : restF a b = true ↔ ∀ i, i < b.names.length → idxS (b.names.getD i []) a.names < a.names.length := by
  unfold restF
  rw [Bool.not_eq_true', List.any_eq_false]
  simp
theorem rec_nodup {s : Sh} (h : fitsS s = true) (_hk : s.kind = 6 ∨ s.kind = 7) : s.names.Nodup := by
  by_cases hn : s.names = []
  · rw [hn]; exact List.nodup_nil
  · exact nodup_iff.1 ((fits_names h).resolve_left hn).2
theorem mem_getD {l : List Str} {i : Nat} (h : i < l.length) : l.getD i [] ∈ l := by rw [List.getD_eq_getElem?_getD, List.getElem?_eq_getElem h]; exact List.getElem_mem _
theorem mem_at {l : List Str} {x : Str} (h : x ∈ l) : ∃ i, i < l.length ∧ l.getD i [] = x := ⟨idxS x l, idxS_lt.2 h, idxS_get (idxS_lt.2 h)⟩
theorem part_fit {s : Sh} (h : s.allB fitsS = true) {i : Nat} (hi : i < s.parts.length) : (s.parts.getD i default).allB fitsS = true := by
  rw [Sh.allB_eq] at h; simp at h; exact allL_getD h.2 hi
theorem fits8 {s : Sh} (h : fitsS s = true) (hk : s.kind = 8) : 1 ≤ s.parts.length := by
  unfold fitsS at h
  simp [hk] at h
  omega
theorem fits5 {s : Sh} (h : fitsS s = true) (hk : s.kind = 5) : s.parts.length = 1 := by
  unfold fitsS at h
  simp [hk] at h
  omega
theorem fits0 {s : Sh} (h : fitsS s = true) (h6 : s.kind ≠ 6) (h7 : s.kind ≠ 7) (h8 : s.kind ≠ 8) (h5 : s.kind ≠ 5) : s.parts.length = 0 := by
  unfold fitsS at h
  simp only [h6, h7, h8, h5, decide_false, Bool.or_self, Bool.false_eq_true, if_false] at h
  repeat' split at h
  all_goals first | (simp only [Bool.and_eq_true, decide_eq_true_eq] at h; omega) | cases h
end Go.Gx
