/- Sessions: one act of a law, walked. Conditions: none. -/
import Derived.Test.YtnhbjfkeeegdgaaCdChain
namespace Go.Gx
open Go.Proofs
def DidC (i : Nat) (p : Part) : Prop := p = .log ∨ p = .eds i ∨ p = .own i ∨ p = .asked i ∨ p = .heads i
theorem dids_lens {ow : Labels} {td : Nat} {w : World} {ds : List Dd} {rows : List (List Value)} (hrl : rows.length = ds.length) (hrow : ∀ i, i < ds.length → DidAt ow td w i (rows.getD i []) (ds.getD i default)) : ∀ r ∈ rows, r.length = 8 := fun r hr => by
  obtain ⟨i, hi, rfl⟩ := List.getElem_of_mem hr
  obtain ⟨va, vv, vt, vk, kr, h1, -⟩ := hrow i (by omega)
  rw [List.getD_eq_getElem?_getD, List.getElem?_eq_getElem hi] at h1
  simp only [Option.getD_some] at h1
  rw [h1]; rfl
theorem row_cell {rows : List (List Value)} {tl : List Value} {i j : Nat} {x : Value} (h8 : ∀ r ∈ rows, r.length = 8) (hi : i < rows.length) (hj : j < 8) (hx : (rows.getD i [])[j]? = some x) : (rows.flatten ++ tl)[i * 8 + j]? = some x := by
  have hf := flatk h8 hj hi
  have hlt : i * 8 + j < rows.flatten.length := by rw [flat_len h8]; omega
  rw [List.getElem?_append_left hlt, hf, hx]
theorem flat_set_tl {rows : List (List Value)} {tl : List Value} {i j : Nat} {x : Value} (h8 : ∀ r ∈ rows, r.length = 8) (hi : i < rows.length) (hj : j < 8) : (rows.flatten ++ tl).set (i * 8 + j) x = (rows.set i ((rows.getD i []).set j x)).flatten ++ tl := by
  rw [set_append_left (by rw [flat_len h8]; omega), flat_set h8 hi hj]
theorem set_lens {rows : List (List Value)} {i : Nat} {r : List Value} (h8 : ∀ r ∈ rows, r.length = 8) (hr : r.length = 8) : ∀ q ∈ rows.set i r, q.length = 8 := fun q hq => by
  rcases List.mem_or_eq_of_mem_set hq with h | rfl
  · exact h8 q h
  · exact hr
theorem getD_set_same {α : Type} {l : List α} {i : Nat} {x d : α} (hi : i < l.length) : (l.set i x).getD i d = x := by rw [getD_set hi, if_pos rfl]
theorem did_set {ow : Labels} {td ba cap i j : Nat} {w w' : World} {ds : List Dd} {d' : Dd} {x : Value} {tl : List Value} {rows : List (List Value)} (hf : ∀ k, w.heap.size ≤ k → ow k = none)
    (hO : OwnP ow td .log w 41 8 (.slice (some ⟨ba, 0, none⟩) ds.length cap) ds.length rows.flatten) (hrl : rows.length = ds.length) (hrow : ∀ i, i < ds.length → DidAt ow td w i (rows.getD i []) (ds.getD i default))
    (hi : i < ds.length) (hj : j < 8) (hb0 : Box w ba 41 (rows.flatten ++ tl)) (hb : Box w' ba 41 ((rows.flatten ++ tl).set (i * 8 + j) x)) (g : Gr (fun k => k = ba) w w')
    (hd : ∀ va vv vt vk, (didV va vv vt vk (ds.getD i default)).set j x = didV va vv vt vk d') (he : d'.acts = (ds.getD i default).acts ∧ d'.values = (ds.getD i default).values ∧ d'.there = (ds.getD i default).there ∧ d'.keys = (ds.getD i default).keys) :
    Keeps td (fun p => p = .log) w w' ow ow ∧ DidsAt ow td w' (.slice (some ⟨ba, 0, none⟩) ds.length cap) (ds.set i d') := by
  have h8 := dids_lens hrl hrow
  have hla : ow ba = some (td, .log) := hO.2 ba rfl
  have hK : Keeps td (fun p => p = .log) w w' ow ow := ⟨g.mono (fun k _ e => ⟨_, rfl, by have e : k = ba := e; rw [e]; exact hla⟩), fun _ _ => .inl rfl, fun k hk => .inl (hf k hk), fun k hk => hf k (by have := g.size; omega)⟩
  refine ⟨hK, rows.set i ((rows.getD i []).set j x), ⟨?_, hO.2⟩, by rw [List.length_set, List.length_set, hrl], fun k hk => ?_⟩
  · rw [List.length_set]
    have h8' := set_lens (i := i) (r := (rows.getD i []).set j x) h8 (by rw [List.length_set]; obtain ⟨va, vv, vt, vk, kr, h1, -⟩ := hrow i hi; rw [h1]; rfl)
    rw [flat_set_tl h8 (by omega) hj] at hb
    refine Own.reset hO.1 hb0 hb ?_ ?_ ?_
    · simp only [List.length_append]; rw [flat_len h8, flat_len h8', List.length_set]
    · rw [List.take_left' (by rw [flat_len h8', List.length_set, hrl])]
    · rw [flat_len h8', List.length_set, hrl]
  · rw [List.length_set] at hk
    rw [getD_set (by omega), getD_set hi]
    have hk2 := (hrow k hk).keep hK ⟨by simp, by simp, by simp, by simp⟩
    by_cases hki : k = i
    · subst hki
      rw [if_pos rfl, if_pos rfl]
      obtain ⟨va, vv, vt, vk, kr, h1, h2, h3, h4, h5, h6, h7⟩ := hk2
      refine ⟨va, vv, vt, vk, kr, by rw [h1]; exact hd va vv vt vk, ?_⟩
      obtain ⟨e1, e2, e3, e4⟩ := he
      rw [e1, e2, e3, e4]
      exact ⟨h2, h3, h4, h5, h6, h7⟩
    · rw [if_neg hki, if_neg hki]; exact hk2
theorem did_done {ow : Labels} {td ba cap i : Nat} {w w' : World} {ds : List Dd} {a : Ac} {sv : Str} {bt : Bool} {ks : List Str} {kv : Value} {tl : List Value} {rows kr : List (List Value)} {va vv vt vk va' vv' vt' vk' : Value} (hf : ∀ k, w.heap.size ≤ k → ow k = none)
    (hO : OwnP ow td .log w 41 8 (.slice (some ⟨ba, 0, none⟩) ds.length cap) ds.length rows.flatten) (hrl : rows.length = ds.length) (hrow : ∀ i, i < ds.length → DidAt ow td w i (rows.getD i []) (ds.getD i default))
    (hi : i < ds.length) (hr : rows.getD i [] = didV va vv vt vk (ds.getD i default)) (h2 : OwnP ow td (.eds i) w 36 5 va (ds.getD i default).acts.length ((ds.getD i default).acts.map acV).flatten) (h3 : OwnP ow td (.own i) w 9 1 vv (ds.getD i default).values.length ((ds.getD i default).values.map S))
    (h4 : OwnP ow td (.asked i) w 4 1 vt (ds.getD i default).there.length ((ds.getD i default).there.map Value.bool)) (h5 : OwnP ow td (.heads i) w 37 1 vk (ds.getD i default).keys.length kr.flatten) (h6 : RowsC StC (fun k => ow k ≠ none) w kr (ds.getD i default).keys)
    (h7 : (∀ a ∈ (ds.getD i default).acts, EdOk a.ed) ∧ (ds.getD i default).values.length = (ds.getD i default).acts.length ∧ (ds.getD i default).there.length = (ds.getD i default).acts.length ∧ (ds.getD i default).keys.length = (ds.getD i default).acts.length) (hae : EdOk a.ed) (hks : StrsAt (fun k => ow k ≠ none) w kv ks)
    (n2 : Own w' 0 36 5 va' ((ds.getD i default).acts.length + 1) (((ds.getD i default).acts.map acV).flatten ++ acV a)) (o2 : va'.ownBlock = va.ownBlock ∨ ∃ j, va'.ownBlock = some j ∧ w.heap.size ≤ j)
    (n3 : Own w' 0 9 1 vv' ((ds.getD i default).values.length + 1) ((ds.getD i default).values.map S ++ [S sv])) (o3 : vv'.ownBlock = vv.ownBlock ∨ ∃ j, vv'.ownBlock = some j ∧ w.heap.size ≤ j)
    (n4 : Own w' 0 4 1 vt' ((ds.getD i default).there.length + 1) ((ds.getD i default).there.map Value.bool ++ [.bool bt])) (o4 : vt'.ownBlock = vt.ownBlock ∨ ∃ j, vt'.ownBlock = some j ∧ w.heap.size ≤ j)
    (n5 : Own w' 0 37 1 vk' ((ds.getD i default).keys.length + 1) (kr.flatten ++ [kv])) (o5 : vk'.ownBlock = vk.ownBlock ∨ ∃ j, vk'.ownBlock = some j ∧ w.heap.size ≤ j)
    (hb0 : Box w ba 41 (rows.flatten ++ tl)) (hb : Box w' ba 41 (((((rows.flatten ++ tl).set (i * 8 + 0) va').set (i * 8 + 1) vv').set (i * 8 + 2) vt').set (i * 8 + 3) vk'))
    (g : Gr (fun k => (some k = va.ownBlock ∨ some k = vv.ownBlock ∨ some k = vt.ownBlock ∨ some k = vk.ownBlock) ∨ k = ba) w w') :
    ∃ ow', Keeps td (DidC i) w w' ow ow' ∧ DidsAt ow' td w' (.slice (some ⟨ba, 0, none⟩) ds.length cap) (ds.set i ((ds.getD i default).add a sv bt ks)) := by
  have h8 := dids_lens hrl hrow
  have hla : ow ba = some (td, .log) := hO.2 ba rfl
  let ow' : Labels := fun k => if some k = va'.ownBlock then some (td, .eds i) else if some k = vv'.ownBlock then some (td, .own i) else if some k = vt'.ownBlock then some (td, .asked i) else if some k = vk'.ownBlock then some (td, .heads i) else ow k
  have lo : ∀ {v v' : Value} {p : Part} {k : Nat}, (v'.ownBlock = v.ownBlock ∨ ∃ j, v'.ownBlock = some j ∧ w.heap.size ≤ j) → (∀ j, some j = v.ownBlock → ow j = some (td, p)) → k < w.heap.size → some k = v'.ownBlock → ow k = some (td, p) := fun {v v' p k} ho hl hk e => by
    rcases ho with ho | ⟨j, ho, hj⟩
    · exact hl k (by rw [← ho]; exact e)
    · rw [ho] at e; cases e; omega
  have hK : Keeps td (DidC i) w w' ow ow' := by
    refine ⟨g.mono (fun k _ e => ?_), fun k hk => .inl ?_, fun k hk => ?_, fun k hk => ?_⟩
    · rcases e with (e | e | e | e) | e
      · exact ⟨_, .inr (.inl rfl), h2.2 k e⟩
      · exact ⟨_, .inr (.inr (.inl rfl)), h3.2 k e⟩
      · exact ⟨_, .inr (.inr (.inr (.inl rfl))), h4.2 k e⟩
      · exact ⟨_, .inr (.inr (.inr (.inr rfl))), h5.2 k e⟩
      · exact ⟨_, .inl rfl, by rw [e]; exact hla⟩
    · show (if some k = va'.ownBlock then some (td, Part.eds i) else if some k = vv'.ownBlock then some (td, .own i) else if some k = vt'.ownBlock then some (td, .asked i) else if some k = vk'.ownBlock then some (td, .heads i) else ow k) = ow k
      by_cases e1 : some k = va'.ownBlock
      · rw [if_pos e1, lo o2 h2.2 hk e1]
      · rw [if_neg e1]
        by_cases e2 : some k = vv'.ownBlock
        · rw [if_pos e2, lo o3 h3.2 hk e2]
        · rw [if_neg e2]
          by_cases e3 : some k = vt'.ownBlock
          · rw [if_pos e3, lo o4 h4.2 hk e3]
          · rw [if_neg e3]
            by_cases e4 : some k = vk'.ownBlock
            · rw [if_pos e4, lo o5 h5.2 hk e4]
            · rw [if_neg e4]
    · show (if some k = va'.ownBlock then some (td, Part.eds i) else if some k = vv'.ownBlock then some (td, .own i) else if some k = vt'.ownBlock then some (td, .asked i) else if some k = vk'.ownBlock then some (td, .heads i) else ow k) = none ∨ ∃ p, (if some k = va'.ownBlock then some (td, Part.eds i) else if some k = vv'.ownBlock then some (td, .own i) else if some k = vt'.ownBlock then some (td, .asked i) else if some k = vk'.ownBlock then some (td, .heads i) else ow k) = some (td, p)
      repeat' split
      all_goals first | exact .inr ⟨_, rfl⟩ | exact .inl (hf k hk)
    · have q2 : ¬ some k = va'.ownBlock := fun e => by have := (Own.lt n2 e).2; omega
      have q3 : ¬ some k = vv'.ownBlock := fun e => by have := (Own.lt n3 e).2; omega
      have q4 : ¬ some k = vt'.ownBlock := fun e => by have := (Own.lt n4 e).2; omega
      have q5 : ¬ some k = vk'.ownBlock := fun e => by have := (Own.lt n5 e).2; omega
      show (if some k = va'.ownBlock then some (td, Part.eds i) else if some k = vv'.ownBlock then some (td, .own i) else if some k = vt'.ownBlock then some (td, .asked i) else if some k = vk'.ownBlock then some (td, .heads i) else ow k) = none
      rw [if_neg q2, if_neg q3, if_neg q4, if_neg q5]
      exact hf k (by have := g.size; omega)
  have l2 : ∀ j, some j = va'.ownBlock → ow' j = some (td, .eds i) := fun j hj => if_pos hj
  have l3 : ∀ j, some j = vv'.ownBlock → ow' j = some (td, .own i) := fun j hj => (if_neg (own_ne n3 n2 (by decide) hj)).trans (if_pos hj)
  have l4 : ∀ j, some j = vt'.ownBlock → ow' j = some (td, .asked i) := fun j hj => (if_neg (own_ne n4 n2 (by decide) hj)).trans ((if_neg (own_ne n4 n3 (by decide) hj)).trans (if_pos hj))
  have l5 : ∀ j, some j = vk'.ownBlock → ow' j = some (td, .heads i) := fun j hj => (if_neg (own_ne n5 n2 (by decide) hj)).trans ((if_neg (own_ne n5 n3 (by decide) hj)).trans ((if_neg (own_ne n5 n4 (by decide) hj)).trans (if_pos hj)))
  have hrd : (rows.getD i []).length = 8 := by rw [hr]; rfl
  have hlog : ∀ j, some j = (Value.slice (some ⟨ba, 0, none⟩) ds.length cap).ownBlock → ow' j = some (td, .log) := fun j hj => by
    have hjb : j = ba := by simpa [Value.ownBlock] using hj
    have n8 : Nat.beq 36 41 = false ∧ Nat.beq 9 41 = false ∧ Nat.beq 4 41 = false ∧ Nat.beq 37 41 = false := by decide
    rw [hjb]
    exact (if_neg (own_box_ne n2 hb n8.1)).trans ((if_neg (own_box_ne n3 hb n8.2.1)).trans ((if_neg (own_box_ne n4 hb n8.2.2.1)).trans ((if_neg (own_box_ne n5 hb n8.2.2.2)).trans hla)))
  refine ⟨ow', hK, rows.set i (didV va' vv' vt' vk' ((ds.getD i default).add a sv bt ks)), ⟨?_, hlog⟩, by rw [List.length_set, List.length_set, hrl], fun k hk => ?_⟩
  · rw [List.length_set]
    have e0 : (((((rows.flatten ++ tl).set (i * 8 + 0) va').set (i * 8 + 1) vv').set (i * 8 + 2) vt').set (i * 8 + 3) vk') = (rows.set i (didV va' vv' vt' vk' ((ds.getD i default).add a sv bt ks))).flatten ++ tl := by
      have hil : i < rows.length := by omega
      rw [flat_set_tl h8 hil (by omega)]
      have s1 := set_lens (i := i) (r := (rows.getD i []).set 0 va') h8 (by rw [List.length_set]; exact hrd)
      rw [flat_set_tl s1 (by rw [List.length_set]; exact hil) (by omega), getD_set_same hil, List.set_set]
      have s2 := set_lens (i := i) (r := ((rows.getD i []).set 0 va').set 1 vv') h8 (by rw [List.length_set, List.length_set]; exact hrd)
      rw [flat_set_tl s2 (by rw [List.length_set]; exact hil) (by omega), getD_set_same hil, List.set_set]
      have s3 := set_lens (i := i) (r := (((rows.getD i []).set 0 va').set 1 vv').set 2 vt') h8 (by rw [List.length_set, List.length_set, List.length_set]; exact hrd)
      rw [flat_set_tl s3 (by rw [List.length_set]; exact hil) (by omega), getD_set_same hil, List.set_set, hr]
      rfl
    rw [e0] at hb
    have h8' := set_lens (i := i) (r := didV va' vv' vt' vk' ((ds.getD i default).add a sv bt ks)) h8 rfl
    refine Own.reset hO.1 hb0 hb ?_ ?_ ?_
    · simp only [List.length_append]; rw [flat_len h8, flat_len h8', List.length_set]
    · rw [List.take_left' (by rw [flat_len h8', List.length_set, hrl])]
    · rw [flat_len h8', List.length_set, hrl]
  · rw [List.length_set] at hk
    rw [getD_set (by omega), getD_set hi]
    by_cases hki : k = i
    · subst hki
      rw [if_pos rfl, if_pos rfl]
      refine ⟨va', vv', vt', vk', kr ++ [[kv]], rfl, ⟨by simpa [Dd.add] using n2, l2⟩, ⟨by simpa [Dd.add] using n3, l3⟩, ⟨by simpa [Dd.add] using n4, l4⟩, ⟨by simpa [Dd.add] using n5, l5⟩, ?_, ?_, ?_, ?_, ?_⟩
      · exact rows_keep (RowsC.append h6 (RowsC.one ⟨kv, rfl, hks⟩)) hK
      · intro x hx
        rcases List.mem_append.1 hx with hx | hx
        · exact h7.1 x hx
        · rw [List.mem_singleton.1 hx]; exact hae
      · simp only [Dd.add, List.length_append, List.length_singleton, h7.2.1]
      · simp only [Dd.add, List.length_append, List.length_singleton, h7.2.2.1]
      · simp only [Dd.add, List.length_append, List.length_singleton, h7.2.2.2]
    · rw [if_neg hki, if_neg hki]
      exact (hrow k hk).keep hK ⟨by simp [DidC, hki], by simp [DidC, hki], by simp [DidC, hki], by simp [DidC, hki]⟩
theorem didV_one {va vv vt vk : Value} (h : va.oneCell' = true ∧ vv.oneCell' = true ∧ vt.oneCell' = true ∧ vk.oneCell' = true) (d : Dd) : ∀ u ∈ didV va vv vt vk d, u.oneCell' = true := fun u hu => by
  simp only [didV, List.mem_cons, List.not_mem_nil, or_false] at hu
  obtain ⟨h1, h2, h3, h4⟩ := h
  rcases hu with rfl | rfl | rfl | rfl | rfl | rfl | rfl | rfl <;> first | assumption | rfl
theorem did_new {ow : Labels} {td n1 : Nat} {w w1 w2 : World} {ds : List Dd} {d : Dd} {v v' : Value} {rows : List (List Value)} (hf : ∀ k, w.heap.size ≤ k → ow k = none)
    (hO : OwnP ow td .log w 41 8 v ds.length rows.flatten) (hrl : rows.length = ds.length) (hrow : ∀ i, i < ds.length → DidAt ow td w i (rows.getD i []) (ds.getD i default))
    (hB : Bel w w1) (hO' : Own w2 0 41 8 v' n1 (rows.flatten ++ didV (.slice none 0 0) (.slice none 0 0) (.slice none 0 0) (.slice none 0 0) d)) (hg : Gr (fun j => some j = v.ownBlock) w1 w2) (hob : v'.ownBlock = v.ownBlock ∨ v'.ownBlock = some w1.heap.size)
    (hn1 : n1 = ds.length + 1) (he : d.acts = [] ∧ d.values = [] ∧ d.there = [] ∧ d.keys = []) : ∃ owd, Keeps td (fun p => p = .log) w w2 ow owd ∧ DidsAt owd td w2 v' (ds ++ [d]) := by
  subst hn1
  obtain ⟨ow', hK, ho, hn⟩ := keeps_own (C := fun p => p = .log) (p0 := .log) (v := v') (v0 := v) (((hB.mono (fun _ _ f => f.elim)).trans hg).mono (fun k _ e => ⟨_, rfl, hO.2 k e⟩)) hf hO.2 (hob.imp id (fun e => ⟨_, e, hB.size⟩)) (fun j hj => (Own.lt hO' hj).2)
  refine ⟨ow', hK, rows ++ [didV (.slice none 0 0) (.slice none 0 0) (.slice none 0 0) (.slice none 0 0) d], ⟨by simpa using hO', hn⟩, by simp [hrl], fun i hi => ?_⟩
  rw [getD_append_one, getD_append_one, hrl]
  by_cases h : i = ds.length
  · rw [if_pos h, if_pos h]
    obtain ⟨e1, e2, e3, e4⟩ := he
    refine ⟨_, _, _, _, [], rfl, ?_, ?_, ?_, ?_, ?_, ?_⟩
    · rw [e1]; exact ⟨own_nil, fun j hj => by simp [Value.ownBlock] at hj⟩
    · rw [e2]; exact ⟨own_nil, fun j hj => by simp [Value.ownBlock] at hj⟩
    · rw [e3]; exact ⟨own_nil, fun j hj => by simp [Value.ownBlock] at hj⟩
    · rw [e4]; exact ⟨own_nil, fun j hj => by simp [Value.ownBlock] at hj⟩
    · rw [e4]; exact RowsC.nil
    · rw [e1, e2, e3, e4]; exact ⟨by simp, rfl, rfl, rfl⟩
  · rw [if_neg h, if_neg h]
    exact (hrow i (by simp at hi; omega)).keep hK ⟨by simp, by simp, by simp, by simp⟩
end Go.Gx
