/- What stands between two types that are near: its plain laws. Conditions: none. -/
import Derived.Test.YteehllhldaopjaaGdRel
namespace Go.Gx
theorem Sh.eta (s : Sh) : Sh.mk s.kind s.of s.name s.names s.parts = s := by cases s; rfl
theorem sizeL_sum : ∀ l : List Sh, sizeL l = (l.map Sh.size).sum
  | [] => rfl
  | x :: l => by rw [sizeL, sizeL_sum l]; rfl
theorem deepL_leq {n : Nat} : ∀ {l : List Sh}, deepL l ≤ n ↔ ∀ x ∈ l, x.deep ≤ n
  | [] => by simp [deepL]
  | x :: l => by
    rw [deepL, List.forall_mem_cons, ← deepL_leq (l := l)]
    omega
theorem part_deep {s : Sh} {i : Nat} (hi : i < s.parts.length) : (s.parts.getD i default).deep < s.deep := by
  have h : deepL s.parts ≤ deepL s.parts := Nat.le_refl _
  have := deepL_leq.1 h (s.parts.getD i default) (by rw [List.getD_eq_getElem?_getD, List.getElem?_eq_getElem hi]; exact List.getElem_mem _)
  have e : s.deep = 1 + deepL s.parts := by cases s; rfl
  omega
theorem partS_deep {s : Sh} {x : Str} {p : Sh} (fs : fitsS s = true) (h : partS s x = some p) : p.deep < s.deep := by
  obtain ⟨h1, rfl⟩ := partS_idx fs h; exact part_deep h1
def lkSize : List Str → List Sh → Str → Nat
  | y :: l, p :: ps, x => if y = x then p.size else lkSize l ps x
  | _, _, _ => 0
theorem lkSize_nil {ps : List Sh} {x : Str} : lkSize [] ps x = 0 := by cases ps <;> rfl
theorem lkSize_nil' {ns : List Str} {x : Str} : lkSize ns [] x = 0 := by cases ns <;> rfl
theorem lkSize_at : ∀ {ns : List Str} {ps : List Sh} {x : Str}, idxS x ns < ns.length → idxS x ns < ps.length → lkSize ns ps x = (ps.getD (idxS x ns) default).size
  | [], _, _, h, _ => by simp at h
  | _ :: _, [], _, _, h => by simp at h
  | y :: l, p :: ps, x, h, h' => by
    rw [lkSize, idxS] at *
    split
    · simp
    · next e =>
      rw [if_neg e] at h h'
      rw [lkSize_at (by simpa using h) (by simpa using h')]; simp
theorem lkSize_part {s : Sh} (fs : fitsS s = true) {x : Str} {p : Sh} (h : partS s x = some p) : lkSize s.names s.parts x = p.size := by
  obtain ⟨h1, rfl⟩ := partS_idx fs h
  exact lkSize_at (partS_some.1 h).1 h1
theorem zero_sum : ∀ {m : List Str}, (m.map fun _ => 0).sum = 0
  | [] => rfl
  | x :: m => by rw [List.map_cons, List.sum_cons, zero_sum]
theorem one_sum {y : Str} {c : Nat} : ∀ {m : List Str}, m.Nodup → (m.map fun x => if y = x then c else 0).sum ≤ c
  | [], _ => by simp
  | x :: m, h => by
    rw [List.nodup_cons] at h
    rw [List.map_cons, List.sum_cons]
    by_cases e : y = x
    · have h0 : (m.map fun x => if y = x then c else 0) = m.map fun _ => 0 := List.map_congr_left fun z hz => by
        rw [if_neg]; intro e2; exact h.1 (by rw [← e, e2]; exact hz)
      rw [h0, if_pos e, zero_sum]; omega
    · rw [if_neg e]; have := one_sum (y := y) (c := c) h.2; omega
theorem parts_sum {l : List Sh} : ((List.range l.length).map fun i => (l.getD i default).size).sum = sizeL l := by
  have : l.map Sh.size = (List.range l.length).map fun i => (l.getD i default).size := by
    apply List.ext_getElem
    · simp
    · intro i h1 h2
      have h1 : i < l.length := by simpa using h1
      simp [List.getD_eq_getElem?_getD, h1]
  rw [sizeL_sum, this]
theorem names_sum {l : List Str} {f : Str → Nat} : ((List.range l.length).map fun i => f (l.getD i [])).sum = (l.map f).sum := by
  have : l.map f = (List.range l.length).map fun i => f (l.getD i []) := by
    apply List.ext_getElem
    · simp
    · intro i h1 h2
      have h1 : i < l.length := by simpa using h1
      simp [List.getD_eq_getElem?_getD, h1]
  rw [this]
theorem sum_le {α : Type} {f g : α → Nat} : ∀ {m : List α}, (∀ x ∈ m, f x ≤ g x) → (m.map f).sum ≤ (m.map g).sum
  | [], _ => by simp
  | x :: m, h => by
    rw [List.forall_mem_cons] at h
    simp only [List.map_cons, List.sum_cons]
    have := sum_le h.2
    omega
theorem sum_add {α : Type} {f g : α → Nat} : ∀ {m : List α}, (m.map fun x => f x + g x).sum = (m.map f).sum + (m.map g).sum
  | [] => by simp
  | x :: m => by simp only [List.map_cons, List.sum_cons, sum_add (m := m)]; omega
theorem lk_sum : ∀ {ns : List Str} {ps : List Sh} {m : List Str}, m.Nodup → (m.map (lkSize ns ps)).sum ≤ sizeL ps
  | [], ps, m, _ => by
    have : (m.map (lkSize [] ps)) = m.map fun _ => 0 := List.map_congr_left fun _ _ => lkSize_nil
    rw [this, zero_sum]; omega
  | y :: l, [], m, _ => by
    have : (m.map (lkSize (y :: l) [])) = m.map fun _ => 0 := List.map_congr_left fun _ _ => lkSize_nil'
    rw [this, zero_sum]; omega
  | y :: l, p :: ps, m, hm => by
    have h1 : (m.map (lkSize (y :: l) (p :: ps))).sum ≤ (m.map fun x => (if y = x then p.size else 0) + lkSize l ps x).sum := sum_le fun x _ => by
      rw [lkSize]; split <;> omega
    rw [sum_add] at h1
    have h2 := one_sum (y := y) (c := p.size) hm
    have h3 := lk_sum (ns := l) (ps := ps) hm
    rw [sizeL]; omega
def NearUp (up : Bool) (K O : Sh) : Prop := Rel true true (keepS up K O) (otherS up K O)
def SubUp (up : Bool) (K w : Sh) : Prop := Rel false true (keepS up K w) (otherS up K w)
def witK (N : Nat) (up : Bool) (K O : Sh) : Sh := witN N up (keepS up K O) (otherS up K O)
theorem keep2 {up : Bool} {a b : Sh} : keepS up (keepS up a b) (otherS up a b) = a := by cases up <;> rfl
theorem other2 {up : Bool} {a b : Sh} : otherS up (keepS up a b) (otherS up a b) = b := by cases up <;> rfl
def witR (N : Nat) (up : Bool) (K O : Sh) (i : Nat) : Sh := if idxS (O.names.getD i []) K.names < K.names.length then witK N up (K.parts.getD (idxS (O.names.getD i []) K.names) default) (O.parts.getD i default) else O.parts.getD i default
def witT (N : Nat) (up : Bool) (K O : Sh) (i : Nat) : Sh := if K.kind = 8 ∧ i + 1 < K.parts.length then witK N (!up) (K.parts.getD i default) (O.parts.getD i default) else witK N up (K.parts.getD i default) (O.parts.getD i default)
theorem witK_eq {N : Nat} {up : Bool} {K O : Sh} (hk : K.kind ≠ 4 → O.kind ≠ 4 → K.kind = O.kind ∧ K.parts.length = O.parts.length ∨ K.kind = O.kind ∧ 0 < K.names.length + O.names.length) : witK (N + 1) up K O =
    if O.kind = 4 then K else if K.kind = 4 then .mk 4 [] [] [] []
    else if 0 < K.names.length + O.names.length then .mk O.kind [] [] O.names ((List.range O.names.length).map (witR N up K O))
    else .mk K.kind K.of K.name [] ((List.range K.parts.length).map (witT N up K O)) := by
  show witF (witN N) up (keepS up K O) (otherS up K O) = _
  unfold witF
  rw [keep2, other2]
  split
  · rfl
  · next h4 =>
    split
    · rfl
    · next h4' =>
      have hk := hk h4' h4
      have hn : (keepS up K O).names.length + (otherS up K O).names.length = K.names.length + O.names.length := by cases up <;> simp [keepS, otherS]; omega
      rw [hn]
      have hkk : (keepS up K O).kind = O.kind := by rcases hk with h | h <;> cases up <;> simp [keepS, h.1]
      split
      · rw [hkk]; rfl
      · next h0 =>
        obtain ⟨e1, e2⟩ := hk.resolve_right (fun h => h0 h.2)
        have hl : (keepS up K O).parts.length = K.parts.length := by cases up <;> simp [keepS, e2]
        rw [hl]
        congr 1
        refine List.map_congr_left fun i _ => ?_
        unfold witQ witT
        rw [hkk, hl, ← e1]
        cases up <;> rfl
structure WitOk (up : Bool) (K O w : Sh) : Prop where
  fit : w.allB fitsS = true
  alike : Rel true false w O
  sub : SubUp up K w
  size : w.size ≤ K.size + O.size
  deep : w.deep ≤ max K.deep O.deep
theorem shAny_fit : (Sh.mk 4 [] [] [] []).allB fitsS = true := by decide +kernel
theorem fits4 {s : Sh} (h : fitsS s = true) (hk : s.kind = 4) : s.of = [] ∧ s.name = [] ∧ s.names = [] ∧ s.parts = [] := by
  rw [fits_bare (by omega)] at h
  simp only [Bool.and_eq_true, beq_iff_eq, decide_eq_true_eq] at h
  exact ⟨h.1.1.1, h.1.1.2, List.eq_nil_of_length_eq_zero (by omega), List.eq_nil_of_length_eq_zero (by omega)⟩
theorem size_pos (s : Sh) : 1 ≤ s.size := by rw [Sh.size_eq]; omega
theorem deep_eq (s : Sh) : s.deep = 1 + deepL s.parts := by cases s; rfl
theorem fits67 {s : Sh} (h : fitsS s = true) (hk : s.kind = 6 ∨ s.kind = 7) : s.of = [] ∧ s.name = [] := by
  rw [fits_rec hk] at h
  simp only [Bool.and_eq_true, beq_iff_eq] at h
  exact h.1
theorem allB_mk {q : Sh → Bool} {k : Int} {o n : Str} {ns : List Str} {ps : List Sh} : (Sh.mk k o n ns ps).allB q = true ↔ q (.mk k o n ns ps) = true ∧ ∀ x ∈ ps, x.allB q = true := by
  rw [Sh.allB, Bool.and_eq_true, allL_iff]
theorem partS_mk {k : Int} {o n : Str} {ns : List Str} {f : Nat → Sh} {x : Str} {p : Sh} : partS (.mk k o n ns ((List.range ns.length).map f)) x = some p ↔ idxS x ns < ns.length ∧ f (idxS x ns) = p := by
  rw [partS_some]
  simp only [Sh.names, Sh.parts]
  constructor
  · rintro ⟨h1, h2⟩; refine ⟨h1, ?_⟩; rw [← h2]; simp [List.getD_eq_getElem?_getD, h1]
  · rintro ⟨h1, h2⟩; refine ⟨h1, ?_⟩; rw [← h2]; simp [List.getD_eq_getElem?_getD, h1]
theorem range_getD {f : Nat → Sh} {n i : Nat} (h : i < n) : ((List.range n).map f).getD i default = f i := by simp [List.getD_eq_getElem?_getD, h]
theorem nearup_open {up : Bool} {K O : Sh} (fK : K.allB fitsS = true) (fO : O.allB fitsS = true) (h : NearUp up K O) (hK : K.kind ≠ 4) (hO : O.kind ≠ 4) :
    K.kind = O.kind ∧ K.of = O.of ∧ K.name = O.name ∧ ((K.kind = 6 ∨ K.kind = 7) → ∀ x p q, partS K x = some p → partS O x = some q → NearUp up p q) ∧
    (K.kind = 6 → up = true → ∀ x, x ∈ O.names → x ∈ K.names) ∧ (K.kind = 6 → up = false → ∀ x, x ∈ K.names → x ∈ O.names) ∧
    (K.kind = 7 → up = true → ∀ x, x ∈ K.names → x ∈ O.names) ∧ (K.kind = 7 → up = false → ∀ x, x ∈ O.names → x ∈ K.names) ∧
    (¬ (K.kind = 6 ∨ K.kind = 7) → K.parts.length = O.parts.length) ∧
    (¬ (K.kind = 6 ∨ K.kind = 7) → ∀ i, i < K.parts.length → NearUp (if K.kind = 8 ∧ i + 1 < K.parts.length then !up else up) (K.parts.getD i default) (O.parts.getD i default)) := by
  cases up
  · have h : Rel true true O K := h
    have h := ((rel_iff fO fK).1 h).resolve_left (fun h => h.2.elim hO hK)
    refine ⟨h.kind.symm, h.of.symm, h.name.symm, fun hk x p q hp hq => h.both (by rw [h.kind]; exact hk) x q p hq hp, fun _ e => (by cases e), fun hk _ => h.right (by rw [h.kind]; exact .inl hk) (by rw [h.kind]; omega), fun _ e => (by cases e), fun hk _ => h.left (by rw [h.kind]; exact .inr hk) (by rw [h.kind]; omega), fun hk => (h.len (by rw [h.kind]; exact hk)).symm, fun hk i hi => ?_⟩
    have hl := h.len (by rw [h.kind]; exact hk)
    split
    · next h8 => exact h.arg (by rw [h.kind]; exact h8.1) i (by omega)
    · next h8 => exact h.part (by rw [h.kind]; exact hk) i (by omega) (by rw [h.kind, hl]; exact h8)
  · have h : Rel true true K O := h
    have h := ((rel_iff fK fO).1 h).resolve_left (fun h => h.2.elim hK hO)
    refine ⟨h.kind, h.of, h.name, h.both, fun hk _ => h.right (.inl hk) (by omega), fun _ e => (by cases e), fun hk _ => h.left (.inr hk) (by omega), fun _ e => (by cases e), h.len, fun hk i hi => ?_⟩
    split
    · next h8 => exact h.arg h8.1 i h8.2
    · next h8 => exact h.part hk i hi h8
theorem subup_intro {up : Bool} {K w : Sh} (fK : K.allB fitsS = true) (fw : w.allB fitsS = true) (e1 : K.kind = w.kind) (e2 : K.of = w.of) (e3 : K.name = w.name)
    (hb : (K.kind = 6 ∨ K.kind = 7) → ∀ x p q, partS K x = some p → partS w x = some q → SubUp up p q)
    (h6 : K.kind = 6 → up = true → ∀ x, x ∈ w.names → x ∈ K.names) (h6' : K.kind = 6 → up = false → ∀ x, x ∈ K.names → x ∈ w.names)
    (h7 : K.kind = 7 → up = true → ∀ x, x ∈ K.names → x ∈ w.names) (h7' : K.kind = 7 → up = false → ∀ x, x ∈ w.names → x ∈ K.names)
    (hl : ¬ (K.kind = 6 ∨ K.kind = 7) → K.parts.length = w.parts.length)
    (hp : ¬ (K.kind = 6 ∨ K.kind = 7) → ∀ i, i < K.parts.length → SubUp (if K.kind = 8 ∧ i + 1 < K.parts.length then !up else up) (K.parts.getD i default) (w.parts.getD i default)) : SubUp up K w := by
  cases up
  · show Rel false true w K
    refine (rel_iff fw fK).2 (.inr ⟨e1.symm, e2.symm, e3.symm, fun hk x p q hp hq => hb (by rw [e1]; exact hk) x q p hq hp, fun hk hL x hx => ?_, fun hk hL x hx => ?_, fun hk => (hl (by rw [e1]; exact hk)).symm, fun hk i hi hn => ?_, fun h8 i hi => ?_⟩)
    · exact h7' (by simp at hL; omega) rfl x hx
    · exact h6' (by simp at hL; omega) rfl x hx
    · have l := hl (by rw [e1]; exact hk)
      have := hp (by rw [e1]; exact hk) i (by omega)
      rw [if_neg (by rw [e1, l]; exact hn)] at this
      exact this
    · have l := hl (by rw [e1]; omega)
      have := hp (by rw [e1]; omega) i (by omega)
      rw [if_pos (by rw [e1, l]; exact ⟨h8, hi⟩)] at this
      exact this
  · show Rel false true K w
    refine (rel_iff fK fw).2 (.inr ⟨e1, e2, e3, hb, fun hk hL x hx => ?_, fun hk hL x hx => ?_, hl, fun hk i hi hn => ?_, fun h8 i hi => ?_⟩)
    · exact h7 (by simp at hL; omega) rfl x hx
    · exact h6 (by simp at hL; omega) rfl x hx
    · have := hp hk i hi
      rw [if_neg hn] at this
      exact this
    · have := hp (by omega) i (by omega)
      rw [if_pos ⟨h8, hi⟩] at this
      exact this
theorem wit_okN : ∀ (N : Nat) (up : Bool) (K O : Sh), SizeOf.sizeOf K + SizeOf.sizeOf O < N → K.allB fitsS = true → O.allB fitsS = true → NearUp up K O → WitOk up K O (witK N up K O)
  | 0, _, _, _, h, _, _, _ => by omega
  | N + 1, up, K, O, hN, fK, fO, h => by
    have hshape : K.kind ≠ 4 → O.kind ≠ 4 → K.kind = O.kind ∧ K.parts.length = O.parts.length ∨ K.kind = O.kind ∧ 0 < K.names.length + O.names.length := fun h1 h2 => by
      obtain ⟨e1, -, -, -, -, -, -, -, hl, -⟩ := nearup_open fK fO h h1 h2
      by_cases hk : K.kind = 6 ∨ K.kind = 7
      · have la := rec_len (allB_fit fK) hk
        have lb := rec_len (allB_fit fO) (by rw [← e1]; exact hk)
        by_cases h0 : 0 < K.names.length + O.names.length
        · exact .inr ⟨e1, h0⟩
        · exact .inl ⟨e1, by omega⟩
      · exact .inl ⟨e1, hl hk⟩
    rw [witK_eq hshape]
    by_cases h1 : O.kind = 4
    · rw [if_pos h1]
      refine ⟨fK, (rel_iff fK fO).2 (.inl ⟨rfl, .inr h1⟩), ?_, by omega, by omega⟩
      unfold SubUp; cases up <;> exact rel_refl fK
    rw [if_neg h1]
    by_cases h2 : K.kind = 4
    · rw [if_pos h2]
      obtain ⟨k1, k2, k3, k4⟩ := fits4 (allB_fit fK) h2
      refine ⟨shAny_fit, (rel_iff shAny_fit fO).2 (.inl ⟨rfl, .inl rfl⟩), ?_, ?_, ?_⟩
      · refine subup_intro fK shAny_fit h2 k1 k2 (fun hk => absurd hk (by omega)) (fun hk => absurd hk (by omega)) (fun hk => absurd hk (by omega)) (fun hk => absurd hk (by omega)) (fun hk => absurd hk (by omega)) (fun _ => by rw [k4]; rfl) (fun _ i hi => by rw [k4] at hi; simp at hi)
      · have := size_pos K
        show 1 + 0 ≤ _; omega
      · have := deep_eq K
        show 1 + 0 ≤ _; omega
    rw [if_neg h2]
    obtain ⟨e1, e2, e3, hb, n6, n6', n7, n7', hl, hp⟩ := nearup_open fK fO h h2 h1
    by_cases h0 : 0 < K.names.length + O.names.length
    · rw [if_pos h0]
      have hk : K.kind = 6 ∨ K.kind = 7 := by
        by_cases hn : K.names = []
        · rw [e1]; exact names_kind (allB_fit fO) (fun e => by rw [hn, e] at h0; simp at h0)
        · exact names_kind (allB_fit fK) hn
      have hkO : O.kind = 6 ∨ O.kind = 7 := by rw [← e1]; exact hk
      have lK := rec_len (allB_fit fK) hk
      have lO := rec_len (allB_fit fO) hkO
      have dK := rec_nodup (allB_fit fK) hk
      have dO := rec_nodup (allB_fit fO) hkO
      obtain ⟨o1, o2⟩ := fits67 (allB_fit fO) hkO
      have hone : ∀ i, i < O.names.length → (∀ p, partS K (O.names.getD i []) = some p → witR N up K O i = witK N up p (O.parts.getD i default) ∧ WitOk up p (O.parts.getD i default) (witR N up K O i)) ∧ (partS K (O.names.getD i []) = none → witR N up K O i = O.parts.getD i default) := fun i hi => by
        refine ⟨fun p hpp => ?_, fun hn => ?_⟩
        · have hpi := partS_some.1 hpp
          have e : witR N up K O i = witK N up p (O.parts.getD i default) := by unfold witR; rw [if_pos hpi.1, hpi.2]
          refine ⟨e, ?_⟩
          rw [e]
          have := partS_lt fK hpp
          have := Sh.part_lt (s := O) (i := i) (by omega)
          exact wit_okN N up p _ (by omega) (partS_fit fK hpp) (part_fit fO (by omega)) (hb hk _ _ _ hpp (partS_at dO hi))
        · unfold witR; rw [if_neg]
          intro hx
          have : partS K (O.names.getD i []) = some _ := partS_some.2 ⟨hx, rfl⟩
          rw [this] at hn; cases hn
      have hfit : ∀ i, i < O.names.length → (witR N up K O i).allB fitsS = true := fun i hi => by
        cases hq : partS K (O.names.getD i []) with
        | none => rw [(hone i hi).2 hq]; exact part_fit fO (by omega)
        | some p => exact ((hone i hi).1 p hq).2.fit
      have fw : (Sh.mk O.kind [] [] O.names ((List.range O.names.length).map (witR N up K O))).allB fitsS = true := by
        rw [allB_mk]
        refine ⟨?_, fun x hx => ?_⟩
        · have := allB_fit fO
          rw [← Sh.eta O, o1, o2] at this
          rw [fits_perm (ns' := O.names) (ps' := O.parts) (.refl _) (by simp; exact lO)]
          exact this
        · obtain ⟨i, hi, rfl⟩ := List.mem_map.1 hx
          exact hfit i (List.mem_range.1 hi)
      refine ⟨fw, (rel_iff fw fO).2 (.inr ⟨rfl, o1.symm, o2.symm, fun _ x p q hpp hqq => ?_, fun _ _ x hx => hx, fun _ _ x hx => hx, fun hn => absurd hkO hn, fun hn => absurd hkO hn, fun h8 => absurd hkO (by have h8 : O.kind = 8 := h8; omega)⟩), ?_, ?_, ?_⟩
      · obtain ⟨hx, rfl⟩ := partS_mk.1 hpp
        obtain ⟨-, rfl⟩ := partS_some.1 hqq
        cases hq : partS K (O.names.getD (idxS x O.names) []) with
        | none => rw [(hone _ hx).2 hq]; exact rel_refl (part_fit fO (by omega))
        | some p => exact ((hone _ hx).1 p hq).2.alike
      · refine subup_intro fK fw e1 (by rw [e2, o1]; rfl) (by rw [e3, o2]; rfl) (fun _ x p q hpp hqq => ?_) n6 n6' n7 n7' (fun hn => absurd hk hn) (fun hn => absurd hk hn)
        obtain ⟨hx, rfl⟩ := partS_mk.1 hqq
        have hpp' : partS K (O.names.getD (idxS x O.names) []) = some p := by rw [idxS_get hx]; exact hpp
        exact ((hone _ hx).1 p hpp').2.sub
      · rw [Sh.size, Sh.size_eq K, Sh.size_eq O, sizeL_sum, List.map_map]
        have h3 : ((List.range O.names.length).map (Sh.size ∘ witR N up K O)).sum ≤ ((List.range O.names.length).map fun i => lkSize K.names K.parts (O.names.getD i []) + (O.parts.getD i default).size).sum := sum_le fun i hi => by
          have hi := List.mem_range.1 hi
          show (witR N up K O i).size ≤ _
          cases hq : partS K (O.names.getD i []) with
          | none => rw [(hone i hi).2 hq]; omega
          | some p => have := ((hone i hi).1 p hq).2.size; rw [lkSize_part (allB_fit fK) hq]; exact this
        rw [sum_add] at h3
        have h4 : ((List.range O.names.length).map fun i => lkSize K.names K.parts (O.names.getD i [])).sum ≤ sizeL K.parts := by
          rw [names_sum (f := lkSize K.names K.parts)]
          exact lk_sum dO
        have h5 : ((List.range O.names.length).map fun i => (O.parts.getD i default).size).sum = sizeL O.parts := by
          rw [lO]; exact parts_sum
        omega
      · rw [Sh.deep, deep_eq K, deep_eq O]
        have : deepL ((List.range O.names.length).map (witR N up K O)) ≤ max (deepL K.parts) (deepL O.parts) := deepL_leq.2 fun x hx => by
          obtain ⟨i, hi, rfl⟩ := List.mem_map.1 hx
          have hi := List.mem_range.1 hi
          have d1 := part_deep (s := O) (i := i) (by omega)
          rw [deep_eq O] at d1
          cases hq : partS K (O.names.getD i []) with
          | none => rw [(hone i hi).2 hq]; omega
          | some p =>
            have := ((hone i hi).1 p hq).2.deep
            have d2 := partS_deep (allB_fit fK) hq
            rw [deep_eq K] at d2
            omega
        omega
    · rw [if_neg h0]
      have kn : K.names = [] := List.eq_nil_of_length_eq_zero (by omega)
      have on : O.names = [] := List.eq_nil_of_length_eq_zero (by omega)
      have hlen : K.parts.length = O.parts.length := by
        by_cases hk : K.kind = 6 ∨ K.kind = 7
        · have la := rec_len (allB_fit fK) hk
          have lb := rec_len (allB_fit fO) (by rw [← e1]; exact hk)
          omega
        · exact hl hk
      have hno : ∀ i, i < K.parts.length → ¬ (K.kind = 6 ∨ K.kind = 7) := fun i hi hk => by
        have la := rec_len (allB_fit fK) hk
        rw [kn] at la; simp at la; omega
      have hone : ∀ i, i < K.parts.length → WitOk (if K.kind = 8 ∧ i + 1 < K.parts.length then !up else up) (K.parts.getD i default) (O.parts.getD i default) (witT N up K O i) := fun i hi => by
        have s1 := Sh.part_lt hi
        have s2 := Sh.part_lt (s := O) (i := i) (by omega)
        have hpi := hp (hno i hi) i hi
        unfold witT
        split
        · next h8 => rw [if_pos h8] at hpi; exact wit_okN N _ _ _ (by omega) (part_fit fK hi) (part_fit fO (by omega)) hpi
        · next h8 => rw [if_neg h8] at hpi; exact wit_okN N _ _ _ (by omega) (part_fit fK hi) (part_fit fO (by omega)) hpi
      have fw : (Sh.mk K.kind K.of K.name [] ((List.range K.parts.length).map (witT N up K O))).allB fitsS = true := by
        rw [allB_mk]
        refine ⟨?_, fun x hx => ?_⟩
        · have := allB_fit fK
          rw [← Sh.eta K, kn] at this
          rw [fits_perm (ns' := []) (ps' := K.parts) (.refl _) (by simp)]
          exact this
        · obtain ⟨i, hi, rfl⟩ := List.mem_map.1 hx
          exact (hone i (List.mem_range.1 hi)).fit
      have hg : ∀ i, i < K.parts.length → (Sh.mk K.kind K.of K.name [] ((List.range K.parts.length).map (witT N up K O))).parts.getD i default = witT N up K O i := fun i hi => range_getD hi
      refine ⟨fw, (rel_iff fw fO).2 (.inr ⟨e1, e2, e3, fun _ x p q hpp _ => ?_, fun _ _ x hx => ?_, fun _ _ x hx => ?_, fun _ => by simpa [Sh.parts] using hlen, fun _ i hi _ => ?_, fun h8 i hi => ?_⟩), ?_, ?_, ?_⟩
      · have := (partS_some.1 hpp).1; simp [Sh.names] at this
      · cases hx
      · rw [on] at hx; cases hx
      · have hi' : i < K.parts.length := by simpa [Sh.parts] using hi
        rw [hg i hi']; exact (hone i hi').alike
      · have hi' : i + 1 < K.parts.length := by simpa [Sh.parts] using hi
        rw [hg i (by omega)]
        exact rel_sym (hone i (by omega)).fit (part_fit fO (by omega)) (hone i (by omega)).alike
      · refine subup_intro fK fw rfl rfl rfl (fun _ x p q hpp _ => ?_) (fun _ _ x hx => ?_) (fun _ _ x hx => ?_) (fun _ _ x hx => ?_) (fun _ _ x hx => ?_) (fun _ => by simp [Sh.parts]) (fun _ i hi => by rw [hg i hi]; exact (hone i hi).sub)
        · have := (partS_some.1 hpp).1; rw [kn] at this; simp at this
        · cases hx
        · rw [kn] at hx; cases hx
        · rw [kn] at hx; cases hx
        · cases hx
      · rw [Sh.size, Sh.size_eq K, Sh.size_eq O, sizeL_sum, List.map_map]
        have h3 : ((List.range K.parts.length).map (Sh.size ∘ witT N up K O)).sum ≤ ((List.range K.parts.length).map fun i => (K.parts.getD i default).size + (O.parts.getD i default).size).sum := sum_le fun i hi => (hone i (List.mem_range.1 hi)).size
        rw [sum_add] at h3
        have h4 : ((List.range K.parts.length).map fun i => (K.parts.getD i default).size).sum = sizeL K.parts := parts_sum
        have h5 : ((List.range K.parts.length).map fun i => (O.parts.getD i default).size).sum = sizeL O.parts := by
          rw [hlen]; exact parts_sum
        omega
      · rw [Sh.deep, deep_eq K, deep_eq O]
        have : deepL ((List.range K.parts.length).map (witT N up K O)) ≤ max (deepL K.parts) (deepL O.parts) := deepL_leq.2 fun x hx => by
          obtain ⟨i, hi, rfl⟩ := List.mem_map.1 hx
          have hi := List.mem_range.1 hi
          have d1 := part_deep (s := O) (i := i) (by omega)
          have d2 := part_deep (s := K) (i := i) (by omega)
          rw [deep_eq O] at d1
          rw [deep_eq K] at d2
          have := (hone i hi).deep
          omega
        omega
end Go.Gx
