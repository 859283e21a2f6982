/- The text of a type. Conditions: none. -/
import Derived.Test.YteehllhldaopjaaGreatCheck
import Derived.Test.YteehllhldaopjaaGreatSort1
import Derived.Lib.Join
namespace Go.Gx

def join (sep : Str) : List Str → Str
  | [] => []
  | [x] => x
  | x :: y :: l => x ++ sep ++ join sep (y :: l)
theorem join_cons {sep x : Str} {l : List Str} (h : l ≠ []) : join sep (x :: l) = x ++ sep ++ join sep l := by
  cases l with
  | nil => exact absurd rfl h
  | cons y l => rfl
theorem join_snoc {sep x : Str} : ∀ {l : List Str}, join sep (l ++ [x]) = (if l = [] then [] else join sep l ++ sep) ++ x
  | [] => by simp [join]
  | [y] => by simp [join]
  | y :: z :: l => by
    have ih := join_snoc (sep := sep) (x := x) (l := z :: l)
    rw [if_neg (by simp)] at ih ⊢
    have e : (y :: z :: l) ++ [x] = y :: ((z :: l) ++ [x]) := rfl
    rw [e, join_cons (by simp), ih, show join sep (y :: z :: l) = y ++ sep ++ join sep (z :: l) from join_cons (by simp)]
    simp [List.append_assoc]
theorem join_take {sep : Str} {l : List Str} {i : Nat} (h : i < l.length) : join sep (l.take (i + 1)) = (if i = 0 then join sep (l.take i) else join sep (l.take i) ++ sep) ++ l.getD i [] := by
  rw [List.take_succ_eq_append_getElem h, join_snoc]
  have e : l.getD i [] = l[i] := by simp [List.getD_eq_getElem?_getD, h]
  rw [e]
  congr 1
  by_cases h0 : i = 0
  · subst h0; simp [join]
  · rw [if_neg h0, if_neg (by intro h1; have h2 := congrArg List.length h1; rw [List.length_take, List.length_nil] at h2; omega)]
theorem join_lib {sep : Str} : ∀ {l : List Str}, Lib.join l sep = join sep l
  | [] => rfl
  | [x] => by rw [Lib.join_one]; rfl
  | x :: y :: l => by
    have ih := join_lib (sep := sep) (l := y :: l)
    rw [join_cons (by simp), ← ih, Lib.join_cons, Lib.join_cons]
    simp [Lib.joinTail, List.append_assoc]
def lens : List Str → Nat
  | [] => 0
  | x :: l => x.length + lens l
theorem join_len {sep : Str} : ∀ {l : List Str}, (join sep l).length ≤ lens l + sep.length * l.length
  | [] => by simp [join]
  | [x] => by simp [join, lens]
  | x :: y :: l => by
    have ih := join_len (sep := sep) (l := y :: l)
    rw [join_cons (by simp)]
    simp only [List.length_append, List.length_cons, lens] at *
    rw [Nat.mul_succ]
    omega

def lab (ns ts : List Str) : List Str := if ns = [] then ts else List.zipWith (fun n t => n ++ [58, 32] ++ t) ns ts
def textOf (k : Int) (o n : Str) (ts : List Str) : Str :=
  if k = 1 then [73, 110, 116]
  else if k = 2 then [66, 111, 111, 108]
  else if k = 3 then [84, 101, 120, 116]
  else if k = 4 then [65, 110, 121]
  else if k = 5 then [91] ++ ts.getD 0 [] ++ [93]
  else if k = 6 then [123] ++ join [44, 32] ts ++ [125]
  else if k = 7 then [60] ++ join [32, 124, 32] ts ++ [62]
  else if k = 8 then [40] ++ join [44, 32] (ts.take (ts.length - 1)) ++ [41, 32, 45, 62, 32] ++ ts.getD (ts.length - 1) []
  else if o = [] then n else o ++ [47] ++ n
mutual
def Sh.text : Sh → Str | .mk k o n ns ps => textOf k o n (lab ns (textL ps))
def textL : List Sh → List Str | [] => [] | x :: xs => x.text :: textL xs
end
theorem textL_eq : ∀ l, textL l = l.map Sh.text
  | [] => rfl
  | x :: xs => by rw [textL, textL_eq xs]; rfl
def labels (s : Sh) : List Str := lab s.names (s.parts.map Sh.text)
theorem Sh.text_eq (s : Sh) : s.text = textOf s.kind s.of s.name (labels s) := by
  cases s; rw [Sh.text, textL_eq]; rfl
theorem labels_len {s : Sh} (h : s.names = [] ∨ s.names.length = s.parts.length) : (labels s).length = s.parts.length := by
  unfold labels lab
  split
  · simp
  · rcases h with h | h
    · exact absurd h (by assumption)
    · simp [h]
theorem labels_nil {s : Sh} {i : Nat} (h : s.names = []) (hi : i < s.parts.length) : (labels s).getD i [] = (s.parts.getD i default).text := by
  unfold labels lab
  rw [if_pos h]
  simp [List.getD_eq_getElem?_getD, hi]
theorem labels_at {s : Sh} {i : Nat} (h : s.names ≠ []) (hl : s.names.length = s.parts.length) (hi : i < s.parts.length) : (labels s).getD i [] = s.names.getD i [] ++ [58, 32] ++ (s.parts.getD i default).text := by
  unfold labels lab
  rw [if_neg h]
  simp [List.getD_eq_getElem?_getD, hi, hl]

/-! ### No text is long -/
theorem nameS_len {x : Str} (h : nameS x = true) : x.length ≤ 24 := by
  simp only [nameS, namedS, Bool.and_eq_true, decide_eq_true_eq] at h; exact h.1.1.2
theorem upperS_len {x : Str} (h : upperS x = true) : x.length ≤ 24 := by
  simp only [upperS, namedS, Bool.and_eq_true, decide_eq_true_eq] at h; exact h.1.2
/-- What the fit of a part gives of its name and its names. -/
theorem fits_len {s : Sh} (h : fitsS s = true) : s.of.length ≤ 24 ∧ s.name.length ≤ 24 ∧ ∀ x ∈ s.names, x.length ≤ 24 := by
  unfold fitsS at h
  have hnil : ∀ {x : Str}, (x == []) = true → x.length ≤ 24 := fun h => by rw [beq_iff_eq] at h; rw [h]; simp
  split at h
  · simp only [Bool.and_eq_true, Bool.or_eq_true, decide_eq_true_eq] at h
    obtain ⟨⟨⟨h1, h2⟩, h3⟩, -⟩ := h
    have hn : s.names = [] := List.eq_nil_of_length_eq_zero (by omega)
    refine ⟨?_, upperS_len h1, by simp [hn]⟩
    rcases h2 with h2 | h2
    · exact nameS_len h2
    · exact hnil h2.1.1
  · split at h
    · cases h
    · next hb =>
      simp only [Bool.or_eq_true, Bool.not_eq_true', not_or, Bool.not_eq_false] at hb
      refine ⟨hnil hb.1, hnil hb.2, ?_⟩
      split at h
      · unfold namesOk at h
        simp only [Bool.and_eq_true, List.all_eq_true] at h
        exact fun x hx => nameS_len (h.1.1 x hx)
      · split at h
        · cases h
        · have hn : s.names = [] := List.eq_nil_of_length_eq_zero (by omega)
          simp [hn]
theorem lens_lab {ns : List Str} (hn : ∀ x ∈ ns, x.length ≤ 24) : ∀ {ts : List Str}, lens (lab ns ts) ≤ lens ts + 26 * ts.length := by
  intro ts
  unfold lab
  split
  · omega
  · suffices H : ∀ (ns ts : List Str), (∀ x ∈ ns, x.length ≤ 24) → lens (List.zipWith (fun n t => n ++ [58, 32] ++ t) ns ts) ≤ lens ts + 26 * ts.length from H ns ts hn
    intro ns
    induction ns with
    | nil => intro ts _; simp [lens]
    | cons n ns ih =>
      intro ts hn
      cases ts with
      | nil => simp [lens]
      | cons t ts =>
        have := ih ts (fun x hx => hn x (by simp [hx]))
        have h1 := hn n (by simp)
        simp only [List.zipWith_cons_cons, lens, List.length_append, List.length_cons, List.length_nil]
        omega
theorem lens_take {l : List Str} : ∀ {n : Nat}, lens (l.take n) ≤ lens l := by
  induction l with
  | nil => intro n; simp [lens]
  | cons x l ih => intro n; cases n with
    | zero => simp [lens]
    | succ n => simp only [List.take_succ_cons, lens]; have := ih (n := n); omega
theorem lens_at {l : List Str} : ∀ {i : Nat}, (l.getD i []).length ≤ lens l := by
  induction l with
  | nil => intro i; simp [lens]
  | cons x l ih =>
    intro i
    cases i with
    | zero => simp [lens]
    | succ i => have := ih (i := i); simp only [List.getD_cons_succ, lens]; omega
theorem lens_fun {l : List Str} : lens (l.take (l.length - 1)) + (l.getD (l.length - 1) []).length ≤ lens l := by
  induction l with
  | nil => simp [lens]
  | cons x l ih =>
    cases l with
    | nil => simp [lens]
    | cons y l =>
      have e : (x :: y :: l).length - 1 = ((y :: l).length - 1) + 1 := by simp
      rw [e, List.take_succ_cons, List.getD_cons_succ]
      simp only [lens] at *
      omega
theorem textOf_len {k : Int} {o n : Str} {ts : List Str} (ho : o.length ≤ 24) (hn : n.length ≤ 24) : (textOf k o n ts).length ≤ 49 + lens ts + 3 * ts.length := by
  have h1 := @join_len [44, 32] ts
  have h2 := @join_len [32, 124, 32] ts
  have h3 := @join_len [44, 32] (ts.take (ts.length - 1))
  have h4 := @lens_at ts 0
  have h5 := @lens_fun ts
  have h6 : (ts.take (ts.length - 1)).length ≤ ts.length := by simp
  simp only [List.length_cons, List.length_nil] at h1 h2 h3
  unfold textOf
  repeat' split
  all_goals (try simp only [List.length_append, List.length_cons, List.length_nil])
  all_goals omega
mutual
theorem Sh.text_len : ∀ s : Sh, s.allB fitsS = true → s.text.length + 29 ≤ 80 * s.size
  | .mk k o n ns ps, h => by
    rw [Sh.allB, Bool.and_eq_true] at h
    obtain ⟨f1, f2, f3⟩ := fits_len h.1
    have hl := textL_len ps h.2
    have h1 := @textOf_len k o n (lab ns (textL ps)) f1 f2
    have h2 := @lens_lab ns f3 (textL ps)
    have h3 : (lab ns (textL ps)).length ≤ (textL ps).length := by unfold lab; split <;> simp; omega
    have h4 : (textL ps).length = ps.length := by rw [textL_eq]; simp
    rw [Sh.text, Sh.size]
    omega
theorem textL_len : ∀ l : List Sh, allL fitsS l = true → lens (textL l) + 29 * l.length ≤ 80 * sizeL l
  | [], _ => by simp [textL, lens, sizeL]
  | x :: xs, h => by
    rw [allL, Bool.and_eq_true] at h
    have h1 := Sh.text_len x h.1
    have h2 := textL_len xs h.2
    simp only [textL, lens, sizeL, List.length_cons]
    omega
end
end Go.Gx
