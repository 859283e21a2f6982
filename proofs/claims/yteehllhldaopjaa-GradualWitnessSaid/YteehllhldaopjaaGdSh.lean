/- Types as trees: the plain functions, and the reference's and the program's walks over them. Conditions: none. -/
import Derived.Test.YteehllhldaopjaaGdLex
namespace Go.Gx
open Go.Proofs
mutual
def Sh.size : Sh → Nat | .mk _ _ _ _ ps => 1 + sizeL ps
def sizeL : List Sh → Nat | [] => 0 | p :: ps => p.size + sizeL ps
end
mutual
def Sh.deep : Sh → Nat | .mk _ _ _ _ ps => 1 + deepL ps
def deepL : List Sh → Nat | [] => 0 | p :: ps => max p.deep (deepL ps)
end
theorem sizeL_take {l : List Sh} {k : Nat} (hk : k < l.length) : sizeL (l.take (k + 1)) = sizeL (l.take k) + (l.getD k default).size := by
  induction l generalizing k with
  | nil => simp at hk
  | cons x l ih =>
    cases k with
    | zero => simp [sizeL]
    | succ k => have := ih (k := k) (by simpa using hk); simp only [List.take_succ_cons, sizeL, this, List.getD_cons_succ]; omega
theorem sizeL_le {l : List Sh} {k : Nat} : sizeL (l.take k) ≤ sizeL l := by
  induction l generalizing k with
  | nil => simp
  | cons x l ih => cases k with
    | zero => simp [sizeL]
    | succ k => have := ih (k := k); simp only [List.take_succ_cons, sizeL]; omega
theorem deepL_take {l : List Sh} {k : Nat} (hk : k < l.length) : deepL (l.take (k + 1)) = max (deepL (l.take k)) (l.getD k default).deep := by
  induction l generalizing k with
  | nil => simp at hk
  | cons x l ih =>
    cases k with
    | zero => simp [deepL]
    | succ k => have := ih (k := k) (by simpa using hk); simp only [List.take_succ_cons, deepL, this, List.getD_cons_succ]; omega
theorem Sh.size_eq (s : Sh) : s.size = 1 + sizeL s.parts := by cases s; rfl
theorem Sh.deep_eq (s : Sh) : s.deep = 1 + deepL s.parts := by cases s; rfl
mutual
theorem Sh.deep_le : ∀ s : Sh, s.deep ≤ s.size
  | .mk _ _ _ _ ps => by have := deepL_le ps; simp only [Sh.deep, Sh.size]; omega
theorem deepL_le : ∀ l : List Sh, deepL l ≤ sizeL l
  | [] => Nat.le_refl _
  | p :: ps => by have := Sh.deep_le p; have := deepL_le ps; simp only [deepL, sizeL]; omega
end
theorem Sh.part_size {s : Sh} {i : Nat} (h : i < s.parts.length) : (s.parts.getD i default).size < s.size := by
  rw [Sh.size_eq s]
  have h1 := sizeL_take h
  have h2 := sizeL_le (l := s.parts) (k := i + 1)
  omega
def nodup : List Str → Bool
  | [] => true
  | x :: l => !l.contains x && nodup l
theorem take_snoc {α : Type} [Inhabited α] {l : List α} {k : Nat} {d : α} (hk : k < l.length) : l.take (k + 1) = l.take k ++ [l.getD k d] := by
  rw [List.take_succ_eq_append_getElem hk, List.getD_eq_getElem?_getD, List.getElem?_eq_getElem hk, Option.getD_some]
def namesOk (l : List Str) (parts : Int) : Bool := l.all nameS && nodup l && decide ((l.length : Int) = parts)
def plainS (s : Str) : Bool := s == [73, 110, 116] || s == [66, 111, 111, 108] || s == [84, 101, 120, 116] || s == [65, 110, 121]
def fitsS (s : Sh) : Bool :=
  if (decide (s.kind = 9) || decide (s.kind = 10)) = true then upperS s.name && (nameS s.of || (s.of == [] && decide (s.kind = 9) && !plainS s.name)) && decide ((s.names.length : Int) = 0) && decide ((s.parts.length : Int) = 0)
  else if (!(s.of == []) || !(s.name == [])) = true then false
  else if (decide (s.kind = 6) || decide (s.kind = 7)) = true then namesOk s.names s.parts.length
  else if (0 : Int) < s.names.length then false
  else if s.kind = 8 then decide ((1 : Int) ≤ s.parts.length)
  else if s.kind = 5 then decide ((s.parts.length : Int) = 1)
  else decide (1 ≤ s.kind) && decide (s.kind ≤ 4) && decide ((s.parts.length : Int) = 0)
mutual
def Sh.allB (p : Sh → Bool) : Sh → Bool | .mk k o n l ps => p (.mk k o n l ps) && allL p ps
def allL (p : Sh → Bool) : List Sh → Bool | [] => true | x :: xs => x.allB p && allL p xs
end
theorem Sh.allB_eq (p : Sh → Bool) (s : Sh) : s.allB p = (p s && allL p s.parts) := by cases s; rfl
theorem allL_take {p : Sh → Bool} {l : List Sh} {k : Nat} (hk : k < l.length) : allL p (l.take (k + 1)) = (allL p (l.take k) && (l.getD k default).allB p) := by
  induction l generalizing k with
  | nil => simp at hk
  | cons x l ih =>
    cases k with
    | zero => simp [allL]
    | succ k => have := ih (k := k) (by simpa using hk); simp only [List.take_succ_cons, allL, this, List.getD_cons_succ, Bool.and_assoc]
theorem allL_miss {p : Sh → Bool} {l : List Sh} {k : Nat} (hk : k < l.length) (h : (l.getD k default).allB p = false) : allL p l = false := by
  induction l generalizing k with
  | nil => simp at hk
  | cons x l ih =>
    cases k with
    | zero => simp only [allL]; rw [show x.allB p = false from h]; rfl
    | succ k => simp only [allL]; rw [ih (k := k) (by simpa using hk) h]; simp
def checkS (s : Sh) : Int := if 400 < s.size then 3 else if 40 < s.deep then 91 else if s.allB fitsS = false then 70 else 0
end Go.Gx
