/- The laws of near and alike, plainly. Conditions: none. -/
import Derived.Test.YteehllhldaopjaaGdBel
import Derived.Test.YteehllhldaopjaaGdSame
import Derived.Test.YteehllhldaopjaaGdGrad6
namespace Go.Gx
theorem near_iff {a b : Sh} : goesS true a b = true ↔ checkS a = 0 ∧ checkS b = 0 ∧ Rel true true a b := by rw [goes_rel, goesR_iff]
theorem alike_iff {a b : Sh} : goesS false a b = true ↔ checkS a = 0 ∧ checkS b = 0 ∧ Rel true false a b := by rw [goes_rel, goesR_iff]
theorem below_iff {a b : Sh} : belowR a b = true ↔ checkS a = 0 ∧ checkS b = 0 ∧ Rel false true a b := by unfold belowR; rw [goesR_iff]
theorem fit_of {a : Sh} (h : checkS a = 0) : a.allB fitsS = true := (check_zero h).2.2
theorem near_moves {c a b : Sh} (h1 : belowR c a = true) (h2 : goesS true a b = true) : goesS true c b = true := by
  obtain ⟨hc, ha, r1⟩ := below_iff.1 h1
  obtain ⟨-, hb, r2⟩ := near_iff.1 h2
  exact near_iff.2 ⟨hc, hb, rel_transL (fit_of hc) (fit_of ha) (fit_of hb) r1 r2⟩
theorem near_moves' {c a b : Sh} (h1 : goesS true c a = true) (h2 : belowR a b = true) : goesS true c b = true := by
  obtain ⟨hc, ha, r1⟩ := near_iff.1 h1
  obtain ⟨-, hb, r2⟩ := below_iff.1 h2
  exact near_iff.2 ⟨hc, hb, rel_transR (fit_of hc) (fit_of ha) (fit_of hb) r1 r2⟩
theorem alike_self {a : Sh} (h : checkS a = 0) : goesS false a a = true := alike_iff.2 ⟨h, h, rel_refl (fit_of h)⟩
theorem alike_turn2 {a b : Sh} (h : goesS false a b = true) : goesS false b a = true := by
  obtain ⟨ha, hb, r⟩ := alike_iff.1 h
  exact alike_iff.2 ⟨hb, ha, rel_sym (fit_of ha) (fit_of hb) r⟩
theorem alike_comm {a b : Sh} : goesS false a b = goesS false b a := by rw [Bool.eq_iff_iff]; exact ⟨alike_turn2, alike_turn2⟩
theorem alike_near {a b : Sh} (h : goesS false a b = true) : goesS true a b = true := by
  obtain ⟨ha, hb, r⟩ := alike_iff.1 h
  exact near_iff.2 ⟨ha, hb, rel_mono id (by simp) (fit_of ha) (fit_of hb) r⟩
theorem below_near {a b : Sh} (h : belowR a b = true) : goesS true a b = true := by
  obtain ⟨ha, hb, r⟩ := below_iff.1 h
  exact near_iff.2 ⟨ha, hb, rel_mono (by simp) id (fit_of ha) (fit_of hb) r⟩
theorem below_alike {a u b : Sh} (h1 : belowR a u = true) (h2 : goesS false u b = true) : goesS true a b = true := near_moves h1 (alike_near h2)
theorem alike_below {a u b : Sh} (h1 : goesS false a u = true) (h2 : belowR u b = true) : goesS true a b = true := near_moves' (alike_near h1) h2
theorem goes_bad {L : Bool} {a b : Sh} (h : ¬ (checkS a = 0 ∧ checkS b = 0)) : goesS L a b = false := by
  unfold goesS; by_cases ha : checkS a = 0
  · have : checkS b ≠ 0 := fun e => h ⟨ha, e⟩
    simp [this]
  · simp [ha]
theorem near_plain {a b : Sh} (pa : (decide (checkS a = 0) && a.allB notAny) = true) (pb : (decide (checkS b = 0) && b.allB notAny) = true) : goesS true a b = belowR a b := by
  simp only [Bool.and_eq_true, decide_eq_true_eq] at pa pb
  rw [Bool.eq_iff_iff, near_iff, below_iff, rel_plain (fit_of pa.1) (fit_of pb.1) pa.2 pb.2]
theorem alike_plain {a b : Sh} (pa : (decide (checkS a = 0) && a.allB notAny) = true) (pb : (decide (checkS b = 0) && b.allB notAny) = true) : goesS false a b = sameS a b := by
  simp only [Bool.and_eq_true, decide_eq_true_eq] at pa pb
  rw [Bool.eq_iff_iff, alike_iff, rel_plain (fit_of pa.1) (fit_of pb.1) pa.2 pb.2, same_iff (fit_of pa.1) (fit_of pb.1)]
  unfold sameS
  simp only [pa.1, pb.1, decide_true, Bool.true_and, true_and, eqS_iff]
theorem wit_ok {up : Bool} {a b : Sh} (h : goesS true a b = true) : WitOk up (keepS up a b) (otherS up a b) (witN (SizeOf.sizeOf a + SizeOf.sizeOf b + 1) up a b) := by
  obtain ⟨ha, hb, r⟩ := near_iff.1 h
  have e : witN (SizeOf.sizeOf a + SizeOf.sizeOf b + 1) up a b = witK (SizeOf.sizeOf a + SizeOf.sizeOf b + 1) up (keepS up a b) (otherS up a b) := by unfold witK; rw [keep2, other2]
  rw [e]
  refine wit_okN _ up _ _ ?_ ?_ ?_ ?_
  · cases up <;> simp [keepS, otherS] <;> omega
  · cases up
    · exact fit_of hb
    · exact fit_of ha
  · cases up
    · exact fit_of ha
    · exact fit_of hb
  · unfold NearUp; rw [keep2, other2]; exact r
theorem made_true {up : Bool} {a b : Sh} (h : (madeS up a b).2 = true) : ∃ u, goesS true a b = true ∧ checkS u = 0 ∧ WitOk up (keepS up a b) (otherS up a b) u ∧ madeS up a b = (u.sort, true) := by
  unfold madeS at h ⊢
  split at h
  · next hc => rw [if_pos hc]; exact ⟨_, hc.1, hc.2, wit_ok hc.1, rfl⟩
  · cases h
theorem made_up {a b : Sh} (h : (madeS true a b).2 = true) : belowR a (madeS true a b).1 = true ∧ goesS false (madeS true a b).1 b = true := by
  obtain ⟨u, hn, cu, o, e⟩ := made_true h
  obtain ⟨ha, hb, -⟩ := near_iff.1 hn
  rw [e, below_iff, alike_iff]
  have fs := Sh.sort_fits u o.fit
  exact ⟨⟨ha, check_sort cu, rel_transL (fit_of ha) o.fit fs o.sub (rel_sort o.fit)⟩, check_sort cu, hb, rel_transL fs o.fit (fit_of hb) (rel_sort' o.fit) o.alike⟩
theorem made_down {a b : Sh} (h : (madeS false a b).2 = true) : goesS false (madeS false a b).1 a = true ∧ belowR (madeS false a b).1 b = true := by
  obtain ⟨u, hn, cu, o, e⟩ := made_true h
  obtain ⟨ha, hb, -⟩ := near_iff.1 hn
  rw [e, below_iff, alike_iff]
  have fs := Sh.sort_fits u o.fit
  exact ⟨⟨check_sort cu, ha, rel_transL fs o.fit (fit_of ha) (rel_sort' o.fit) o.alike⟩, check_sort cu, hb, rel_transL fs o.fit (fit_of hb) (rel_sort' o.fit) o.sub⟩
theorem made_not {up : Bool} {a b : Sh} (h : goesS true a b = false) : madeS up a b = (zeroS, false) := by
  unfold madeS; rw [if_neg (by rw [h]; simp)]
theorem made_small {up : Bool} {a b : Sh} (h : goesS true a b = true) (ha : a.size ≤ 200) (hb : b.size ≤ 200) : (madeS up a b).2 = true := by
  obtain ⟨ca, cb, -⟩ := near_iff.1 h
  have o := wit_ok (up := up) h
  have s := o.size
  have d := o.deep
  have ga := check_zero ca
  have gb := check_zero cb
  have h1 : (witN (SizeOf.sizeOf a + SizeOf.sizeOf b + 1) up a b).size ≤ 400 := by cases up <;> simp only [keepS, otherS, Bool.false_eq_true, if_false, if_true] at s <;> omega
  have h2 : (witN (SizeOf.sizeOf a + SizeOf.sizeOf b + 1) up a b).deep ≤ 40 := by cases up <;> simp only [keepS, otherS, Bool.false_eq_true, if_false, if_true] at d <;> omega
  unfold madeS
  rw [if_pos ⟨h, check_intro h1 h2 o.fit⟩]
end Go.Gx
