/- The library's sort of strings, by the kit's contract. Conditions: none. -/
import Derived.Sort.LotD3
import Derived.Test.YteehllhldaopjaaGdDraw
import Derived.Test.YteehllhldaopjaaGdLaySort
namespace Go.Gx
open Go.Proofs Go.Sort
theorem putCells_row {α : Type} [Inhabited α] {enc : α → Value} {hd tl : List Value} {d d' : Array α} (hs : d'.size = d.size) :
    putCells enc hd.length d' (hd ++ d.toList.map enc ++ tl).toArray = (hd ++ d'.toList.map enc ++ tl).toArray := by
  apply Array.ext
  · simp [putCells, hs]
  · intro i h1 h2
    have h2 : i < (hd ++ d'.toList.map enc ++ tl).length := by simpa using h2
    simp only [putCells, Array.getElem_mapIdx, List.getElem_toArray]
    by_cases ha : i < hd.length
    · rw [if_neg (by omega)]
      rw [List.getElem_append_left (by simp; omega), List.getElem_append_left ha, List.getElem_append_left (by simp; omega), List.getElem_append_left ha]
    · by_cases hb : i < hd.length + d'.size
      · rw [if_pos ⟨by omega, hb⟩, List.getElem_append_left (by simp; omega), List.getElem_append_right (by omega)]
        simp [getElem!_pos d' (i - hd.length) (by omega)]
      · rw [if_neg (by omega), List.getElem_append_right (by simp; omega), List.getElem_append_right (by simp; omega)]
        simp [hs]
theorem row_put {α : Type} [Inhabited α] {enc : α → Value} {w : World} {b o : Nat} {T : TypeId} {hd tl : List Value} {d d' : Array α} (h : Row enc w b o T hd d tl) (hs : d'.size = d.size) (n : Nat) : Row enc (putRow enc (Sort.ahead w n) b o d') b o T hd d' tl := by
  obtain ⟨rfl, hb⟩ := h
  refine ⟨rfl, ?_⟩
  have hb' : w.heap[b]? = some (.cells (hd ++ d.toList.map enc ++ tl).toArray T (0, 0)) := hb
  show (w.heap.modify b (onCells (putCells enc hd.length d')))[b]? = _
  rw [Array.getElem?_modify, if_pos rfl, hb']
  simp only [Option.map_some, onCells]
  rw [putCells_row hs]
theorem gr_put {α : Type} [Inhabited α] {enc : α → Value} {w : World} {b o : Nat} {d' : Array α} (n : Nat) : Gr (· = b) w (putRow enc (Sort.ahead w n) b o d') := by
  refine ⟨rfl, rfl, rfl, ?_, fun k _ hk => ?_⟩
  · show _ ≤ (w.heap.modify b _).size
    simp
  · show (w.heap.modify b _)[k]? = _
    rw [Array.getElem?_modify, if_neg (fun e => hk e.symm)]
theorem bel_grow (w : World) (os : Array Obj) : Bel w (grow w os) :=
  ⟨rfl, rfl, rfl, by simp [grow], fun k hk _ => by show (w.heap ++ os)[k]? = _; rw [Array.getElem?_append_left hk]⟩
theorem sort_nil (cap : Nat) (w : World) : Ret Try.prog 140 #[.slice none 0 cap] w fun v w' => v = .tuple #[] ∧ Bel w w' :=
  Calls.mono (Try.slices_Sort_string_none none cap w) fun _ _ ⟨he, hw⟩ => ⟨_, he, rfl, hw ▸ Gr.refl _ _⟩
theorem sort_ok (b o cap n : Nat) (T : TypeId) (hd tl : List Value) (d : Array Str) (w : World) (hR : Row S w b o T hd d tl) (hn : d.size = n) (h1 : 1 ≤ n) (hc : n ≤ 2000000000000000000) :
    Ret Try.prog 140 #[.slice (some ⟨b, o, none⟩) n cap] w fun v w' => v = .tuple #[] ∧ Gr (· = b) w w' ∧ ∃ d', Row S w' b o T hd d' tl ∧ PermIn 0 n d d' ∧ SortedIn ltStr 0 n d' := by
  subst hn
  have hk := Try.slices_Sort_string b o cap d.toList w (fun j hj => by
    have hj : j < d.size := by simpa using hj
    have e : d.toList.toArray[j]! = d[j]! := by simp
    rw [e]; exact ⟨hR.at hj, hR.free _⟩) hR.lt (by simp; omega)
  have e0 : d.toList.length = d.size := by simp
  rw [e0] at hk
  refine Calls.mono hk fun e w' ⟨he, m, os, hw⟩ => ⟨_, he, rfl, ?_⟩
  subst hw
  obtain ⟨l, hl⟩ : ∃ l, l = d.toList.mergeSort fun x y => decide (x ≤ y) := ⟨_, rfl⟩
  have hp : l.Perm d.toList := by rw [hl]; exact List.mergeSort_perm _ _
  have hlen : l.length = d.size := by rw [hp.length_eq]; simp
  have hsr : l.Pairwise fun x y => decide (x ≤ y) = true := by
    rw [hl]
    refine List.pairwise_mergeSort (fun a b c h1 h2 => ?_) (fun a b => ?_) _
    · simp only [decide_eq_true_eq] at *; exact List.le_trans h1 h2
    · simp only [Bool.or_eq_true, decide_eq_true_eq]; exact List.le_total a b
  rw [← hl]
  refine ⟨(gr_put m).carry (bel_grow _ _), l.toArray, (row_put hR (by simpa using hlen) m).carry (bel_grow _ _), ⟨by simpa using hlen, fun i hi => ?_, ?_⟩, fun i j _ hij hj => ?_⟩
  · have hi : d.size ≤ i := by omega
    rw [getElem!_neg d i (by omega), getElem!_neg l.toArray i (by simp; omega)]
  · have e1 : l.toArray.extract 0 d.size = l.toArray := by rw [← hlen]; simp
    have e2 : d.extract 0 d.size = d := by simp
    rw [e1, e2]; simpa using hp
  · have hj' : j < l.length := by omega
    have hi' : i < l.length := by omega
    have hle := List.pairwise_iff_getElem.1 hsr i j hi' hj' hij
    simp only [decide_eq_true_eq] at hle
    rw [getElem!_pos l.toArray j (by simpa using hj'), getElem!_pos l.toArray i (by simpa using hi')]
    simp only [List.getElem_toArray, ltStr, decide_eq_false_iff_not]
    exact List.not_lt.2 hle
end Go.Gx
