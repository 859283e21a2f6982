/- Arguments that are edits or acts, opened as they are read. Conditions: none. -/
import Derived.Test.YtnhbjfkeeegdgaaCaDraw
import Derived.Test.YtnhbjfkeeegdgaaCaSesW
namespace Go.Gx
open Go.ChangeShapes Go.WideShapes Go.Deep Go.RowKit
section
variable {H : Type} {enc : TypeId × Value → H} {P : Program} {w : World} {base : Nat} {spare : Nat → Bool} {held : Bool}
structure EdT (P : Program) (tB : TypeId) (g0 g1 g2 : Field) : Prop where
  hB : P.underlying tB = some (.struct #[g0, g1, g2])
  h0 : P.underlying g0.type = some .string
  h1 : P.underlying g1.type = some .string
  h2 : P.underlying g2.type = some .bool
  o : g0.offset = 0 ∧ g1.offset = 1 ∧ g2.offset = 2
  c : P.cellsOf g0.type = 1 ∧ P.cellsOf g1.type = 1 ∧ P.cellsOf g2.type = 1 ∧ P.cellsOf tB = 3
theorem ed_open {tB : TypeId} {g0 g1 g2 : Field} (G : EdT P tB g0 g1 g2) (fuel : Nat) (cs : List Value) (x : DataW H × List MemPlace) (h : DataW.trod enc P w base spare held fuel tB cs = some x) : ∃ e, EdC (fun _ => False) w cs e := by
  obtain ⟨xs, n, rfl, rfl, hlen, hxl, hf⟩ := DataW.trod_struct G.hB h
  obtain ⟨o0, o1, o2⟩ := G.o
  obtain ⟨c0, c1, c2, c3⟩ := G.c
  rw [c3] at hlen
  match cs, hlen with
  | [v0, v1, v2], _ =>
    match xs, hxl with
    | [x0, x1, x2], _ =>
      have g0' := hf 0 g0 rfl
      have g1' := hf 1 g1 rfl
      have g2' := hf 2 g2 rfl
      rw [o0, c0] at g0'; rw [o1, c1] at g1'; rw [o2, c2] at g2'
      obtain ⟨s0, e0, -, l0⟩ := DataW.trod_string G.h0 (x := x0) g0'
      obtain ⟨s1, e1, -, l1⟩ := DataW.trod_string G.h1 (x := x1) g1'
      obtain ⟨b2, e2, -⟩ := DataW.trod_bool G.h2 (x := x2) g2'
      simp at e0 e1 e2
      refine ⟨⟨s0.data.toList, s1.data.toList, b2⟩, ?_, max_le l0, max_le l1⟩
      rw [e0, e1, e2]; simp [edV, S]
structure AcT (P : Program) (tB tS : TypeId) (g0 g1 g2 : Field) : Prop where
  hB : P.underlying tB = some (.struct #[g0, g1, g2])
  h0 : P.underlying g0.type = some (.int .i64)
  h1 : P.underlying g1.type = some (.int .i64)
  h2 : g2.type = tS
  o : g0.offset = 0 ∧ g1.offset = 1 ∧ g2.offset = 2
  c : P.cellsOf g0.type = 1 ∧ P.cellsOf g1.type = 1 ∧ P.cellsOf tS = 3 ∧ P.cellsOf tB = 5
theorem ac_open {tB tS : TypeId} {g0 g1 g2 f0 f1 f2 : Field} (G : AcT P tB tS g0 g1 g2) (T : EdT P tS f0 f1 f2) (fuel : Nat) (cs : List Value) (x : DataW H × List MemPlace) (h : DataW.trod enc P w base spare held fuel tB cs = some x) : ∃ a, AcC (fun _ => False) w cs a := by
  obtain ⟨xs, n, rfl, rfl, hlen, hxl, hf⟩ := DataW.trod_struct G.hB h
  obtain ⟨o0, o1, o2⟩ := G.o
  obtain ⟨c0, c1, c2, c3⟩ := G.c
  rw [c3] at hlen
  match cs, hlen with
  | [v0, v1, v2, v3, v4], _ =>
    match xs, hxl with
    | [x0, x1, x2], _ =>
      have g0' := hf 0 g0 rfl
      have g1' := hf 1 g1 rfl
      have g2' := hf 2 g2 rfl
      rw [o0, c0] at g0'; rw [o1, c1] at g1'; rw [o2, G.h2, c2] at g2'
      obtain ⟨k0, e0, -, -⟩ := DataW.trod_int G.h0 (x := x0) g0'
      obtain ⟨k1, e1, -, -⟩ := DataW.trod_int G.h1 (x := x1) g1'
      obtain ⟨e, he1, he2⟩ := ed_open T _ _ x2 g2'
      simp at e0 e1
      refine ⟨⟨k0, k1, e⟩, ?_, he2⟩
      have he1 : [v2, v3, v4] = edV e := he1
      rw [e0, e1, show acV ⟨k0, k1, e⟩ = .int .i64 k0 :: .int .i64 k1 :: edV e from rfl, ← he1]
theorem ac_arg {tB tS : TypeId} {g0 g1 g2 f0 f1 f2 : Field} (G : AcT P tB tS g0 g1 g2) (T : EdT P tS f0 f1 f2) {W : World} {base : Nat} {v : Value} {d : DataW H} {p : List MemPlace}
    (hv : Value.okWide P W .any base tB v) (h : DataW.Trod enc P W 0 (fun _ => true) true tB v d p) (_hw : (d.weights P tB).all (· ≤ reachBytes) = true) : ∃ a, v = .agg (acV a).toArray ∧ EdOk a.ed := by
  unfold Value.okWide at hv
  rw [G.hB] at hv
  obtain ⟨a, rfl, -⟩ := hv
  obtain ⟨fuel, h⟩ := h
  obtain ⟨s, hs, ho⟩ := ac_open G T _ _ _ h
  refine ⟨s, ?_, ho⟩
  rw [← hs]; rfl
end
end Go.Gx
