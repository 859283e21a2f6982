/- Maps whose keys are strings: made, set, looked up. Conditions: none. -/
import Derived.WideMake
import Derived.MapKept
import Derived.Maps.RangeRun
import Derived.Laws.Externs
import Derived.RangeFuncSeq
import Derived.Test.YteehllhldaopjaaGreatBtSortF
import Derived.Test.YteehllhldaopjaaGreatBtGrad4
import Derived.Test.YteehllhldaopjaaGreatBtSort3
import Derived.Test.YteehllhldaopjaaGreatBtAlk
import Derived.Test.YteehllhldaopjaaGreatBtSort1
import Derived.Test.YteehllhldaopjaaGreatBtColl
import Derived.Test.YteehllhldaopjaaGreatBtFree
import Derived.Test.YteehllhldaopjaaGreatBtGrad6
namespace Go.Gx
open Go.Proofs
variable {P : Program} {n : Nat} {Q : Post} {D : List Deferred} {E : Env} {w : World}
def kvM (e : MapEntry) : Value × Value := (e.key, e.val)
def MapIs (es : Array MapEntry) (clock : Nat) (l : List (Str × Value)) : Prop := es.toList.map kvM = l.map (fun x => (S x.1, x.2)) ∧ (es.toList.map (·.born)).Nodup ∧ ∀ n ∈ es.toList.map (·.born), n < clock
def MapAt (w : World) (b : Nat) (l : List (Str × Value)) : Prop := ∃ es clock, w.heap[b]? = some (.map es clock) ∧ MapIs es clock l
theorem MapAt.lt {b : Nat} {l : List (Str × Value)} (h : MapAt w b l) : b < w.heap.size := by
  obtain ⟨es, c, h, -⟩ := h;exact (Array.getElem?_eq_some_iff.1 h).1
theorem MapAt.carryR {R : Nat → Prop} {w' : World} {b : Nat} {l : List (Str × Value)} (h : MapAt w b l) (g : Gr R w w') (hn : ¬ R b) : MapAt w' b l := by
  have hlt := h.lt;obtain ⟨es, c, h, hm⟩ := h;exact ⟨es, c, (g.block b hlt hn).trans h, hm⟩
theorem MapAt.carry {w' : World} {b : Nat} {l : List (Str × Value)} (h : MapAt w b l) (g : Bel w w') : MapAt w' b l := h.carryR g fun f => f
section
variable {t kt et : TypeId}
end
def fieldsF : Nat → List Str → List (Str × Value)
  | _, [] => []
  | n, x :: l => (x, .int .i64 (n : Nat)) :: fieldsF (n + 1) l
def FieldsAt (w : World) (b : Nat) (l : List Str) : Prop := MapAt w b (fieldsF 0 l)
theorem FieldsAt.carryR {R : Nat → Prop} {w' : World} {b : Nat} {l : List Str} (h : FieldsAt w b l) (g : Gr R w w') (hn : ¬ R b) : FieldsAt w' b l := MapAt.carryR h g hn
theorem FieldsAt.carry {w' : World} {b : Nat} {l : List Str} (h : FieldsAt w b l) (g : Bel w w') : FieldsAt w' b l := MapAt.carry h g
theorem FieldsAt.lt {b : Nat} {l : List Str} (h : FieldsAt w b l) : b < w.heap.size := MapAt.lt h
end Go.Gx
namespace Go.Gx
open Go.Proofs
variable {P : Program} {n : Nat} {Q : Post} {D : List Deferred} {E : Env} {w : World}
def unS : Value → Str
  | .string b => b.data.toList
  | _ => []
def decM (e : MapEntry) : Str × Value := (unS e.key, e.val)
def IterAt (w : World) (r b : Nat) (l vis : List (Str × Value)) : Prop :=
  ∃ es clock sb, ∃ ds : List MapEntry, w.heap[b]? = some (.map es clock) ∧ MapIs es clock l ∧ w.heap[r]? = some (.mapIter (some b) clock sb clock) ∧ sb.toList = ds.map (·.born) ∧ (∀ d ∈ ds, d ∈ es.toList) ∧ (ds.map (·.born)).Nodup ∧ ds.map decM = vis
theorem IterAt.lt {r b : Nat} {l vis : List (Str × Value)} (h : IterAt w r b l vis) : r < w.heap.size ∧ b < w.heap.size ∧ b ≠ r := by
  obtain ⟨es, c, sb, ds, h1, -, h2, -⟩ := h;refine ⟨(Array.getElem?_eq_some_iff.1 h2).1, (Array.getElem?_eq_some_iff.1 h1).1, fun e => ?_⟩;rw [e, h2] at h1; cases h1
theorem IterAt.carryR {R : Nat → Prop} {w' : World} {r b : Nat} {l vis : List (Str × Value)} (h : IterAt w r b l vis) (g : Gr R w w') (h1 : ¬ R r) (h2 : ¬ R b) : IterAt w' r b l vis := by
  obtain ⟨hr, hb, -⟩ := h.lt;obtain ⟨es, c, sb, ds, a1, a2, a3, a4⟩ := h;exact ⟨es, c, sb, ds, (g.block b hb h2).trans a1, a2, (g.block r hr h1).trans a3, a4⟩
theorem IterAt.carry {w' : World} {r b : Nat} {l vis : List (Str × Value)} (h : IterAt w r b l vis) (g : Bel w w') : IterAt w' r b l vis := h.carryR g (fun f => f) (fun f => f)
theorem IterAt.keep {w' : World} {r b : Nat} {l vis : List (Str × Value)} (h : IterAt w r b l vis) (g : KeepsWalks w w') : IterAt w' r b l vis := by
  obtain ⟨hr, hb, -⟩ := h.lt;obtain ⟨es, c, sb, ds, a1, a2, a3, a4⟩ := h;exact ⟨es, c, sb, ds, g.same b _ a1 rfl, a2, g.same r _ a3 rfl, a4⟩
end Go.Gx
namespace Go.Gx
def relB (any L : Bool) (F : Sh → Sh → Bool) (a b : Sh) : Bool :=
  if any = true ∧ (a.kind = 4 ∨ b.kind = 4) then true
  else if a.kind ≠ b.kind ∨ a.of ≠ b.of ∨ a.name ≠ b.name then false
  else if a.kind = 6 ∨ a.kind = 7 then (List.range a.names.length).all (recF L F a b) && (lacksS L b false || restF a b)
  else if a.parts.length ≠ b.parts.length then false
  else (List.range a.parts.length).all (funF F a b)
def relN (any L : Bool) : Nat → Sh → Sh → Bool
  | 0 => fun _ _ => false
  | N + 1 => relB any L (relN any L N)
def Rel (any L : Bool) (a b : Sh) : Prop := relN any L (SizeOf.sizeOf a + SizeOf.sizeOf b + 1) a b = true
noncomputable instance (any L : Bool) (a b : Sh) : Decidable (Rel any L a b) := inferInstanceAs (Decidable (_ = true))
end Go.Gx
namespace Go.Gx
theorem Sh.eta (s : Sh) : Sh.mk s.kind s.of s.name s.names s.parts = s := by cases s; rfl
theorem fits4 {s : Sh} (h : fitsS s = true) (hk : s.kind = 4) : s.of = [] ∧ s.name = [] ∧ s.names = [] ∧ s.parts = [] := by
  rw [fits_bare om_] at h;simp only [Bool.and_eq_true, beq_iff_eq, decide_eq_true_eq] at h;exact ⟨h.1.1.1, h.1.1.2, List.eq_nil_of_length_eq_zero om_, List.eq_nil_of_length_eq_zero om_⟩
theorem deep_eq (s : Sh) : s.deep = 1 + deepL s.parts := by cases s; rfl
theorem fits67 {s : Sh} (h : fitsS s = true) (hk : s.kind = 6 ∨ s.kind = 7) : s.of = [] ∧ s.name = [] := by
  rw [fits_rec hk] at h;simp only [Bool.and_eq_true, beq_iff_eq] at h;exact h.1
end Go.Gx
namespace Go.Gx
open Go.Proofs
def BndV (o : Option Sh) (M : Nat → Prop) (v : Value) (w' : World) : Prop := ∃ cs' s', v = .tuple #[.agg cs'.toArray, .bool o.isSome] ∧ ShC M w' cs' s' ∧ ∀ r, o = some r → s' = r
theorem BndV.mono {o : Option Sh} {M M' : Nat → Prop} {v : Value} {w' : World} (h : BndV o M v w') (hM : ∀ k, k < w'.heap.size → M' k → M k) : BndV o M' v w' := by
  obtain ⟨cs, s, h1, h2, h3⟩ := h;exact ⟨cs, s, h1, h2.mono hM, h3⟩
theorem avc_of {M : Nat → Prop} {n base : Nat} {wc w1 w2 : World} {vN vP : Value} {k : Nat} (hM : ∀ k, n ≤ k → M k) (h0 : n ≤ base) (hb : base ≤ wc.heap.size) (hN : ∀ j, some j = vN.ownBlock → base ≤ j ∧ j < wc.heap.size) (hP : ∀ j, some j = vP.ownBlock → base ≤ j ∧ j < wc.heap.size) (hs : w1.heap.size ≤ w2.heap.size)
    (h : AvC M n base w2 vN vP k) : (k < wc.heap.size ∧ M k ∧ M k) ∨ w1.heap.size ≤ k := by
  rcases h with h | h | h | h | h
  · exact .inl ⟨by omega, h.2, h.2⟩
  · exact .inl ⟨by omega, hM k h.1, hM k h.1⟩
  · have := hN k h; exact .inl ⟨by omega, hM k om_, hM k om_⟩
  · have := hP k h; exact .inl ⟨by omega, hM k om_, hM k om_⟩
  · exact .inr om_
theorem avc_M {M : Nat → Prop} {n base : Nat} {w2 : World} {vN vP : Value} {k : Nat} (hM : ∀ k, n ≤ k → M k) (h0 : n ≤ base) (hN : ∀ j, some j = vN.ownBlock → base ≤ j) (hP : ∀ j, some j = vP.ownBlock → base ≤ j) (hs : n ≤ w2.heap.size) (h : AvC M n base w2 vN vP k) : M k := by
  rcases h with h | h | h | h | h
  · exact h.2
  · exact hM k h.1
  · exact hM k (by have := hN k h; omega)
  · exact hM k (by have := hP k h; omega)
  · exact hM k om_
abbrev zeroL : List Value := [.int .i64 0, S [], S [], .slice none 0 0, .slice none 0 0]
end Go.Gx
