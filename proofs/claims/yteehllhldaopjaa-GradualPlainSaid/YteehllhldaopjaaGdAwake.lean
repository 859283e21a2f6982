/- The answers that the document fixes (layer 7). Conditions: none. -/
import Derived.Lib.Join
import Derived.Shelf.Strings.OnBuilder
import Derived.Test.YteehllhldaopjaaProg
import Derived.Test.YteehllhldaopjaaGdCheck
import Derived.Test.YteehllhldaopjaaGdSort1
import Derived.Test.YteehllhldaopjaaGdSort3
import Derived.Test.YteehllhldaopjaaGdTake
namespace Go.Gx
open Go.Proofs
theorem shs_of_box {A : Nat → Prop} {w : World} {b : Nat} {t : TypeId} (rows : List (List Value)) (l : List Sh) (h : Box w b t rows.flatten) (hA : ¬ A b) (hl : l.length ≤ 70368744177664) (hr : rows.length = l.length)
    (hs : ∀ i, i < l.length → ShC A w (rows.getD i []) (l.getD i default)) : ShsAt A w (.slice (some ⟨b, 0, none⟩) l.length l.length) l := by
  refine ⟨some ⟨b, 0, none⟩, l.length, fun i => rows.getD i [], rfl, Nat.le_refl _, by omega, hl, ⟨fun _ => ⟨b, 0, rfl, hA, fun i j hi hj => ?_⟩, fun i hi => (hs i hi).len, hs⟩⟩
  have h5 : ∀ r ∈ rows, r.length = 5 := fun r hm => by
    obtain ⟨i, hi, rfl⟩ := List.getElem_of_mem hm
    have := (hs i (by omega)).len
    rwa [List.getD_eq_getElem?_getD, List.getElem?_eq_getElem hi] at this
  have hf := flat5 h5 hj (by omega : i < rows.length)
  have hlen : (rows.getD i []).length = 5 := (hs i hi).len
  have hv : (rows.getD i [])[j]? = some ((rows.getD i [])[j]'(by omega)) := List.getElem?_eq_getElem (by omega)
  show w.cell? ⟨b, 0 + i * 5 + j, none⟩ = (rows.getD i [])[j]?
  rw [hv] at hf ⊢
  rw [show 0 + i * 5 + j = i * 5 + j by omega]
  exact h.cell hf
abbrev leafC (k : Int) : List Value := [.int .i64 k, S [], S [], .slice none 0 0, .slice none 0 0]
theorem leaf (A : Nat → Prop) (w : World) (k : Int) : ShC A w (leafC k) (.mk k [] [] [] []) :=
  ShC.intro (StrsAt.nil _ _ _ _ (by simp)) (ShsAt.nil _ _ _ _ (by simp)) (by simp) (by simp)
theorem each1 {p : List Value → Sh → Prop} {r : List Value} {s : Sh} (h : p r s) : ∀ i, i < [s].length → p ([r].getD i []) ([s].getD i default) := by
  intro i hi
  match i, hi with
  | 0, _ => exact h
theorem each2 {p : List Value → Sh → Prop} {r r' : List Value} {s s' : Sh} (h : p r s) (h' : p r' s') : ∀ i, i < [s, s'].length → p ([r, r'].getD i []) ([s, s'].getD i default) := by
  intro i hi
  match i, hi with
  | 0, _ => exact h
  | 1, _ => exact h'
end Go.Gx
