/- Rows of things joined, cut, and handed on. Conditions: none. -/
import Derived.Test.YtnhbjfkeeegdgaaCaEq
import Derived.Test.YtnhbjfkeeegdgaaCaSess
namespace Go.Gx
open Go.Proofs
section
variable {w : World}
theorem HoldsN.take {p : Option Addr} {n cap sz : Nat} {xs : List Value} (h : HoldsN w (.slice p n cap) n xs) {k : Nat} (hk : k ≤ n) : HoldsN w (.slice p k cap) k (xs.take (k * sz)) := by
  rcases h with ⟨a, c, e, hc⟩ | ⟨c, e, h0, hx⟩
  · cases e
    exact .inl ⟨a, cap, rfl, fun j x hj => hc j x (by rw [List.getElem?_take] at hj; split at hj; exact hj; cases hj)⟩
  · cases e
    have : k = 0 := by omega
    subst this
    exact .inr ⟨cap, rfl, rfl, by simp⟩
theorem HoldsN.drop {p : Option Addr} {n cap sz : Nat} {xs : List Value} (h : HoldsN w (.slice p n cap) n xs) (hl : xs.length = n * sz) (hn : n ≤ cap) {k : Nat} (hk : k ≤ n) : HoldsN w (.slice (if cap = k then p else p.map (·.add (k * sz))) (n - k) (cap - k)) (n - k) (xs.drop (k * sz)) := by
  rcases h with ⟨a, c, e, hc⟩ | ⟨c, e, h0, hx⟩
  · cases e
    by_cases hck : cap = k
    · have hkn : k = n := by omega
      rw [if_pos hck]
      refine .inl ⟨a, _, rfl, fun j x hj => ?_⟩
      rw [List.drop_of_length_le (by rw [hl, hkn]; exact Nat.le_refl _)] at hj
      simp at hj
    · rw [if_neg hck]
      refine .inl ⟨_, _, rfl, fun j x hj => ?_⟩
      rw [List.getElem?_drop] at hj
      have h1 := hc _ x hj
      obtain ⟨b, o, spot⟩ := a
      have hlt := (List.getElem?_eq_some_iff.1 hj).1
      have hsp : spot = none := by simpa [Addr.add] using World.cell?_spot (hc 0 _ (List.getElem?_eq_getElem (by omega : 0 < xs.length)))
      subst hsp
      show w.cell? (((⟨b, o, none⟩ : Addr).add (k * sz)).add j) = some x
      rw [addp, addp]
      rw [addp] at h1
      rw [← h1]; congr 2; omega
  · cases e
    have : k = 0 := by omega
    subst this
    refine .inr ⟨cap - 0, ?_, rfl, by rw [hx]; simp⟩
    split <;> rfl
def RowsC {α : Type} [Inhabited α] (C : Thing α) (A : Nat → Prop) (w : World) (rows : List (List Value)) (l : List α) : Prop := rows.length = l.length ∧ ∀ i, i < l.length → C A w (rows.getD i []) (l.getD i default)
theorem RecRow.rowsC {α : Type} [Inhabited α] {C : Thing α} {k : Nat} {A : Nat → Prop} {p : Option Addr} {row : Nat → List Value} {l : List α} (h : RecRow C k A w p row l) : RowsC C A w ((List.range l.length).map row) l :=
  ⟨by simp, fun i hi => by have := h.each i hi; simpa [hi] using this⟩
theorem RowsC.append {α : Type} [Inhabited α] {C : Thing α} {A : Nat → Prop} {r r' : List (List Value)} {l l' : List α} (h : RowsC C A w r l) (h' : RowsC C A w r' l') : RowsC C A w (r ++ r') (l ++ l') := by
  refine ⟨by simp [h.1, h'.1], fun i hi => ?_⟩
  simp only [List.getD_eq_getElem?_getD]
  by_cases hlt : i < l.length
  · rw [List.getElem?_append_left (by rw [h.1]; exact hlt), List.getElem?_append_left hlt]
    have := h.2 i hlt
    simpa only [List.getD_eq_getElem?_getD] using this
  · rw [List.getElem?_append_right (by rw [h.1]; omega), List.getElem?_append_right (by omega), h.1]
    have := h'.2 (i - l.length) (by simp at hi; omega)
    simpa only [List.getD_eq_getElem?_getD] using this
theorem RowsC.one {α : Type} [Inhabited α] {C : Thing α} {A : Nat → Prop} {r : List Value} {x : α} (h : C A w r x) : RowsC C A w [r] [x] := ⟨rfl, fun i hi => by match i, hi with | 0, _ => exact h⟩
theorem RowsC.nil {α : Type} [Inhabited α] {C : Thing α} {A : Nat → Prop} : RowsC C A w [] ([] : List α) := ⟨rfl, fun i hi => absurd hi (by simp)⟩
theorem RowsC.take {α : Type} [Inhabited α] {C : Thing α} {A : Nat → Prop} {r : List (List Value)} {l : List α} (h : RowsC C A w r l) (k : Nat) : RowsC C A w (r.take k) (l.take k) := by
  refine ⟨by simp [h.1], fun i hi => ?_⟩
  have hi2 : i < l.length ∧ i < k := by rw [List.length_take] at hi; omega
  have := h.2 i hi2.1
  simp only [List.getD_eq_getElem?_getD] at this ⊢
  rwa [List.getElem?_take_of_lt hi2.2, List.getElem?_take_of_lt hi2.2]
theorem RowsC.drop {α : Type} [Inhabited α] {C : Thing α} {A : Nat → Prop} {r : List (List Value)} {l : List α} (h : RowsC C A w r l) (k : Nat) : RowsC C A w (r.drop k) (l.drop k) := by
  refine ⟨by simp [h.1], fun i hi => ?_⟩
  have hi2 : k + i < l.length := by rw [List.length_drop] at hi; omega
  have := h.2 (k + i) hi2
  simp only [List.getD_eq_getElem?_getD] at this ⊢
  rwa [List.getElem?_drop, List.getElem?_drop]
section
variable {α : Type} [Inhabited α] {C : Thing α} {k : Nat} [Car C k] {A A' R : Nat → Prop} {r : List (List Value)} {l : List α}
theorem RowsC.lens (h : RowsC C A w r l) : ∀ q ∈ r, q.length = k := fun q hq => by
  obtain ⟨i, hi, rfl⟩ := List.getElem_of_mem hq
  have := Car.len (h.2 i (by rw [← h.1]; exact hi))
  rwa [List.getD_eq_getElem?_getD, List.getElem?_eq_getElem hi] at this
omit [Car C k] in
theorem RowsC.ones {k : Nat} [Car C k] (h : RowsC C A w r l) : ∀ u ∈ r.flatten, u.oneCell' = true := fun u hu => by
  obtain ⟨q, hq, hu⟩ := List.mem_flatten.1 hu
  obtain ⟨i, hi, rfl⟩ := List.getElem_of_mem hq
  refine Car.one (h.2 i (by rw [← h.1]; exact hi)) u ?_
  rwa [List.getD_eq_getElem?_getD, List.getElem?_eq_getElem hi]
omit [Car C k] in
theorem RowsC.carryR {k : Nat} [Car C k] {w' : World} (h : RowsC C A w r l) (g : Gr R w w') (hR : ∀ j, R j → A j) : RowsC C A w' r l := ⟨h.1, fun i hi => Car.carryR (h.2 i hi) g hR⟩
omit [Car C k] in
theorem RowsC.carry {k : Nat} [Car C k] {w' : World} (h : RowsC C A w r l) (g : Bel w w') : RowsC C A w' r l := ⟨h.1, fun i hi => Car.carry (h.2 i hi) g⟩
omit [Car C k] in
theorem RowsC.mono {k : Nat} [Car C k] (h : RowsC C A w r l) (hA : ∀ b, b < w.heap.size → A' b → A b) : RowsC C A' w r l := ⟨h.1, fun i hi => Car.mono (h.2 i hi) hA⟩
theorem RowsC.done {base : Nat} {e : TypeId} {v : Value} (h : RowsC C A w r l) (ho : Own w base e k v l.length r.flatten) (hl : l.length ≤ 70368744177664) (hA : ∀ j, A' j → A j) (hb : ∀ j, base ≤ j → ¬ A' j) : RecsAt C k A' w v l :=
  RecOwn.done (A := A) ⟨r, h.1, ho, fun i hi => Car.len (h.2 i hi), h.2⟩ hl hA hb
theorem RowsC.doneB {base : Nat} {e : TypeId} {v : Value} (h : RowsC C A w r l) (ho : Own w base e k v l.length r.flatten) (hl : l.length ≤ 70368744177664) (hA : ∀ j, A' j → A j) (hb : ∀ j, some j = v.ownBlock → ¬ A' j) : RecsAt C k A' w v l := by
  have h1 := h.done (A' := fun j => A' j ∧ j < base) ho hl (fun j hj => hA j hj.1) (fun j h1 h2 => by omega)
  obtain ⟨p, cap, row, e1, g1, g2, g3, hR⟩ := h1
  refine ⟨p, cap, row, e1, g1, g2, g3, fun hne => ?_, hR.len, fun i hi => ?_⟩
  · obtain ⟨b, o, hp, -, hc⟩ := hR.at_ hne
    exact ⟨b, o, hp, hb b (by rw [e1, hp]; rfl), hc⟩
  · obtain ⟨b, o, hp, -, hc⟩ := hR.at_ (by rintro rfl; simp at hi)
    have hrow : row i = r.getD i [] := by
      rcases Own.open ho with ⟨h1, h2, h3⟩ | ⟨g, cp, tl, h1, -, -, -, hbx⟩
      · rw [h2] at hi; omega
      · have hr : ∀ q ∈ r, q.length = k := h.lens
        rw [h1, hp] at e1
        simp only [Value.slice.injEq, Option.some.injEq, Addr.mk.injEq, and_true] at e1
        obtain ⟨⟨rfl, rfl⟩, -⟩ := e1
        have hri : i < r.length := by rw [h.1]; exact hi
        have hl1 : (r.getD i []).length = k := Car.len (h.2 i hi)
        apply List.ext_getElem?
        intro j
        by_cases hj : j < k
        · rw [← hc i j hi hj, Nat.zero_add, ← flatk hr hj hri]
          have hv : (r.getD i [])[j]? = some ((r.getD i [])[j]'(by omega)) := List.getElem?_eq_getElem (by omega)
          have hf := flatk hr hj hri
          rw [hv] at hf
          have hlt : i * k + j < r.flatten.length := (List.getElem?_eq_some_iff.1 hf).1
          rw [hf]
          exact hbx.cell (by rw [List.getElem?_append_left hlt]; exact hf)
        · rw [List.getElem?_eq_none (by rw [hR.len i hi]; omega), List.getElem?_eq_none (by omega)]
    rw [hrow]
    exact Car.mono (h.2 i hi) fun j _ hj => hA j hj
omit [Car C k] in
end
end
end Go.Gx
namespace Go.Gx
open Go.Proofs
def edV (e : Ed) : List Value := [S e.key, S e.val, .bool e.gone]
def EdOk (e : Ed) : Prop := e.key.length ≤ 9223372036854775807 ∧ e.val.length ≤ 9223372036854775807
def EdC (_ : Nat → Prop) (_ : World) (cs : List Value) (e : Ed) : Prop := cs = edV e ∧ EdOk e
instance car_ed : Car EdC 3 where
  pos := by omega
  len := fun h => by rw [h.1]; rfl
  one := fun h => by
    rw [h.1]
    intro v hv
    simp only [edV, List.mem_cons, List.not_mem_nil, or_false] at hv
    rcases hv with rfl | rfl | rfl <;> rfl
  move := fun _ h => h
abbrev EdsAt (A : Nat → Prop) (w : World) (v : Value) (l : List Ed) : Prop := RecsAt EdC 3 A w v l
def EsC (A : Nat → Prop) (w : World) (cs : List Value) (l : List Ed) : Prop := ∃ v, cs = [v] ∧ EdsAt A w v l
instance car_es : Car EsC 1 where
  pos := by omega
  len := fun h => by obtain ⟨v, rfl, -⟩ := h; rfl
  one := fun h => by
    obtain ⟨v, rfl, h⟩ := h
    intro u hu
    rw [List.mem_singleton.1 hu]
    exact h.one
  move := fun hc h => by obtain ⟨v, e, h⟩ := h; exact ⟨v, e, h.move hc⟩
def verV (x : Nat × Ed) : List Value := .int .i64 (x.1 : Nat) :: edV x.2
inductive Part where
  | base | held | opens | log
  | ver (k : Str)
  | ses (i : Nat) | eds (i : Nat) | own (i : Nat) | asked (i : Nat) | heads (i : Nat)
deriving DecidableEq
abbrev Labels := Nat → Option (Nat × Part)
def OwnP (ow : Labels) (t : Nat) (p : Part) (w : World) (e : TypeId) (sz : Nat) (v : Value) (k : Nat) (xs : List Value) : Prop := Own w 0 e sz v k xs ∧ ∀ j, some j = v.ownBlock → ow j = some (t, p)
def Mine (ow : Labels) (t : Nat) (k : Nat) : Prop := ∃ p, ow k = some (t, p)
structure Goes (t : Nat) (w w' : World) (ow ow' : Labels) : Prop where
  old : ∀ k, k < w.heap.size → ow' k = ow k ∨ (Mine ow t k ∧ ow' k = none)
  new : ∀ k, w.heap.size ≤ k → ow' k = none ∨ Mine ow' t k
  gr : Gr (Mine ow t) w w'
  /-- Nothing that is yet to come has a label. -/
  end_ : ∀ k, w'.heap.size ≤ k → ow' k = none
theorem Goes.refl {t : Nat} {w : World} {ow : Labels} (h : ∀ k, w.heap.size ≤ k → ow k = none) : Goes t w w ow ow := ⟨fun _ _ => .inl rfl, fun k hk => .inl (h k hk), Gr.refl _ _, h⟩
theorem Goes.bel {t : Nat} {w w' : World} {ow : Labels} (h : ∀ k, w.heap.size ≤ k → ow k = none) (g : Bel w w') : Goes t w w' ow ow := ⟨fun _ _ => .inl rfl, fun k hk => .inl (h k hk), g.mono (fun _ _ f => f.elim), fun k hk => h k (by have := g.size; omega)⟩
theorem Goes.mine {t : Nat} {w w' : World} {ow ow' : Labels} (h : Goes t w w' ow ow') {k : Nat} (hk : Mine ow' t k) : Mine ow t k ∨ w.heap.size ≤ k := by
  by_cases hlt : k < w.heap.size
  · rcases h.old k hlt with e | ⟨-, e⟩
    · obtain ⟨p, hp⟩ := hk; exact .inl ⟨p, by rw [← e]; exact hp⟩
    · obtain ⟨p, hp⟩ := hk; rw [e] at hp; cases hp
  · exact .inr (by omega)
theorem Goes.trans {t : Nat} {w w' w'' : World} {ow ow' ow'' : Labels} (h : Goes t w w' ow ow') (h2 : Goes t w' w'' ow' ow'') : Goes t w w'' ow ow'' := by
  have hs := h.gr.size
  refine ⟨fun k hk => ?_, fun k hk => ?_, ?_, h2.end_⟩
  · rcases h.old k hk with e | ⟨m, e⟩ <;> rcases h2.old k (by omega) with e2 | ⟨m2, e2⟩
    · exact .inl (e2.trans e)
    · exact .inr ⟨(h.mine m2).resolve_right (by omega), e2⟩
    · exact .inr ⟨m, by rw [e2, e]⟩
    · exact .inr ⟨m, e2⟩
  · by_cases hlt : k < w'.heap.size
    · rcases h2.old k hlt with e | ⟨-, e⟩
      · rcases h.new k hk with e1 | ⟨p, m⟩
        · exact .inl (e.trans e1)
        · exact .inr ⟨p, e.trans m⟩
      · exact .inl e
    · exact h2.new k (by omega)
  · exact ⟨h2.gr.os.trans h.gr.os, h2.gr.tape.trans h.gr.tape, h2.gr.output.trans h.gr.output, Nat.le_trans hs h2.gr.size, fun k hk hn => (h2.gr.block k (by omega) (fun m => (h.mine m).elim hn (by omega))).trans (h.gr.block k hk hn)⟩
def OwnMap (lw : List (Str × Value)) (eds : List Ed) : Prop := ∀ k, getK lw k = (lastE eds k).map fun e => .agg (edV e).toArray
def CntMap (la : List (Str × Value)) (ks : List Str) : Prop := ∀ k, (getK la k = none ∧ k ∉ ks) ∨ (∃ n : Nat, getK la k = some (.int .i64 (n : Nat)) ∧ 1 ≤ n ∧ n ≤ ks.length ∧ k ∈ ks)
def SesAt (ow : Labels) (t : Nat) (w : World) (i bs : Nat) (s : Sx) : Prop :=
  ∃ ve bw ba bh lw la lh, ow bs = some (t, .ses i) ∧ Box w bs 110 [.int .i64 (s.at_ : Nat), ve, .map (some bw), .map (some ba), .map (some bh)] ∧
    OwnP ow t (.eds i) w 34 3 ve s.eds.length (s.eds.map edV).flatten ∧ (∀ e ∈ s.eds, EdOk e ∧ okEd e = true) ∧
    ow bw = some (t, .own i) ∧ MapAtK S (fun _ => True) w bw lw ∧ OwnMap lw s.eds ∧
    ow ba = some (t, .asked i) ∧ MapAtK S (fun _ => True) w ba la ∧ CntMap la s.gets ∧
    ow bh = some (t, .heads i) ∧ MapAtK S (fun _ => True) w bh lh ∧ CntMap lh s.heads
def HeldAt (ow : Labels) (t : Nat) (w : World) (lh : List (Str × Value)) (g : List (List Ed)) : Prop :=
  ∀ k, (vers 0 g k = [] ∧ getK lh k = none) ∨ (vers 0 g k ≠ [] ∧ ∃ v, getK lh k = some v ∧ OwnP ow t (.ver k) w 151 4 v (vers 0 g k).length ((vers 0 g k).map verV).flatten)
def OpensAt (ow : Labels) (t : Nat) (w : World) (lo : List (Int × Value)) (all : List Sx) : Prop :=
  ∀ id : Int, (getK lo id = none ∧ ¬ (1 ≤ id ∧ id ≤ all.length ∧ (all.getD (id.toNat - 1) default).opn = true)) ∨
    (∃ i bs, id = ((i + 1 : Nat) : Int) ∧ i < all.length ∧ (all.getD i default).opn = true ∧ getK lo id = some (.pointer (some ⟨bs, 0, none⟩)) ∧ SesAt ow t w i bs (all.getD i default))
structure BaseAt (ow : Labels) (t : Nat) (w : World) (b : Nat) (s : Bs) (bh bo : Nat) (vl : Value) (lh : List (Str × Value)) (lo : List (Int × Value)) (rows : List (List Value)) : Prop where
  lab : ow b = some (t, .base)
  box : Box w b 97 [.map (some bh), vl, .map (some bo), .int .i64 (s.all.length : Nat)]
  labH : ow bh = some (t, .held)
  mapH : MapAtK S (fun _ => True) w bh lh
  held : HeldAt ow t w lh (s.first :: s.log)
  labO : ow bo = some (t, .opens)
  mapO : MapAtK I64 (fun _ => True) w bo lo
  opens : OpensAt ow t w lo s.all
  log : OwnP ow t .log w 22 1 vl s.log.length rows.flatten
  rows : RowsC EsC (fun k => ow k ≠ none) w rows s.log
  ok : ∀ e ∈ (s.first :: s.log).flatten, EdOk e
  free : ∀ k, w.heap.size ≤ k → ow k = none
theorem OwnP.goes {t t' : Nat} {p : Part} {w w' : World} {ow ow' : Labels} {e : TypeId} {sz k : Nat} {v : Value} {xs : List Value} (h : OwnP ow t p w e sz v k xs) (g : Goes t' w w' ow ow') (hne : t ≠ t') : OwnP ow' t p w' e sz v k xs := by
  have hm : ∀ j, some j = v.ownBlock → ¬ Mine ow t' j := fun j hj ⟨q, hq⟩ => by
    rw [h.2 j hj] at hq
    simp only [Option.some.injEq, Prod.mk.injEq] at hq
    exact hne hq.1
  refine ⟨h.1.carryR g.gr hm, fun j hj => ?_⟩
  rcases g.old j (Own.lt h.1 hj).2 with e | ⟨m, -⟩
  · rw [e]; exact h.2 j hj
  · exact absurd m (hm j hj)
theorem lab_goes {t t' : Nat} {p : Part} {w w' : World} {ow ow' : Labels} {b : Nat} (h : ow b = some (t, p)) (hb : b < w.heap.size) (g : Goes t' w w' ow ow') (hne : t ≠ t') : ow' b = some (t, p) ∧ ¬ Mine ow t' b := by
  have hm : ¬ Mine ow t' b := fun ⟨q, hq⟩ => by
    rw [h] at hq
    simp only [Option.some.injEq, Prod.mk.injEq] at hq
    exact hne hq.1
  rcases g.old b hb with e | ⟨m, -⟩
  · exact ⟨e.trans h, hm⟩
  · exact absurd m hm
theorem SesAt.goes {t t' i bs : Nat} {w w' : World} {ow ow' : Labels} {s : Sx} (h : SesAt ow t w i bs s) (g : Goes t' w w' ow ow') (hne : t ≠ t') : SesAt ow' t w' i bs s := by
  obtain ⟨ve, bw, ba, bh, lw, la, lh, l1, h1, h2, h3, l4, h4, h5, l6, h6, h7, l8, h8, h9⟩ := h
  have a1 := lab_goes l1 h1.lt g hne
  have a4 := lab_goes l4 h4.lt g hne
  have a6 := lab_goes l6 h6.lt g hne
  have a8 := lab_goes l8 h8.lt g hne
  exact ⟨ve, bw, ba, bh, lw, la, lh, a1.1, h1.carryR g.gr a1.2, h2.goes g hne, h3, a4.1, h4.carryR g.gr a4.2, h5, a6.1, h6.carryR g.gr a6.2, h7, a8.1, h8.carryR g.gr a8.2, h9⟩
theorem BaseAt.goes {t t' b bh bo : Nat} {w w' : World} {ow ow' : Labels} {s : Bs} {vl : Value} {lh : List (Str × Value)} {lo : List (Int × Value)} {rows : List (List Value)} (h : BaseAt ow t w b s bh bo vl lh lo rows) (g : Goes t' w w' ow ow') (hne : t ≠ t') : BaseAt ow' t w' b s bh bo vl lh lo rows := by
  have a1 := lab_goes h.lab h.box.lt g hne
  have a2 := lab_goes h.labH h.mapH.lt g hne
  have a3 := lab_goes h.labO h.mapO.lt g hne
  refine ⟨a1.1, h.box.carryR g.gr a1.2, a2.1, h.mapH.carryR g.gr a2.2, fun k => ?_, a3.1, h.mapO.carryR g.gr a3.2, fun id => ?_, h.log.goes g hne, ?_, h.ok, g.end_⟩
  · rcases h.held k with h1 | ⟨h1, v, h2, h3⟩
    · exact .inl h1
    · exact .inr ⟨h1, v, h2, h3.goes g hne⟩
  · rcases h.opens id with h1 | ⟨i, bs, h1, h2, h3, h4, h5⟩
    · exact .inl h1
    · exact .inr ⟨i, bs, h1, h2, h3, h4, h5.goes g hne⟩
  · refine ((h.rows.mono (A' := fun k => ow k ≠ none ∨ w.heap.size ≤ k) fun k hk hn => hn.resolve_right (by omega)).carryR g.gr (fun j ⟨p, hp⟩ => .inl (by rw [hp]; simp))).mono fun k _ hn => ?_
    by_cases hlt : k < w.heap.size
    · rcases g.old k hlt with e | ⟨-, e⟩
      · exact .inl (by rw [← e]; exact hn)
      · exact absurd e hn
    · exact .inr (by omega)
end Go.Gx
namespace Go.Gx
open Go.Proofs
theorem kses1_en53 : Go.Proofs.Enters Try.prog 53 := Go.Proofs.enters_of Try.func53 (by kernel_rfl) rfl
theorem kses1_en87 : Go.Proofs.Enters Try.prog 87 := Go.Proofs.enters_of Try.func87 (by kernel_rfl) rfl
theorem kses1_fo97_0 : fieldOff Try.prog 97 0 = some 0 := by kernel_rfl
theorem kses1_fo97_2 : fieldOff Try.prog 97 2 = some 2 := by kernel_rfl
theorem kses1_oc94 : oneCellT Try.prog 94 = true := by kernel_rfl
theorem kses1_oc95 : oneCellT Try.prog 95 = true := by kernel_rfl
theorem none_ok (b bh bo : Nat) (vl : Value) (m : Int) (w : World) (hb : Box w b 97 [.map (some bh), vl, .map (some bo), .int .i64 m]) :
    Ret Try.prog 53 #[.pointer (some ⟨b, 0, none⟩)] w fun v w' => v = .bool false ∧ w' = w := by
  refine ret_of_W Try.func53 rfl (Nat.le_of_ble_eq_true rfl) (res1 rfl) ?_
  refine W.seq ?_
  refine W.region ?_
  refine L.val (x_as (v := .bool _) rfl) rfl ?_
  refine L.nil ?_
  refine thn_n ?_
  refine W.seq ?_
  refine W.region ?_
  refine L.val (x_mv (v := .pointer _) rfl) rfl ?_
  refine L.val (x_eqp0 Try.underlying27 rfl rfl) rfl ?_
  refine L.val (x_mv (v := .bool _) rfl) rfl ?_
  refine' L.group0 5 6 10 10 5 false rfl ?_ ?_ ?_
  rotate_left 1
  ·intro g5
   have h5 := g5
   refine L.gyes' (dj := 5) (b := _) rfl rfl g5 ?_
   refine L.val (x_mv (v := .pointer _) rfl) rfl ?_
   refine L.gyes' (dj := 5) (b := _) rfl rfl g5 ?_
   refine L.val (x_nil rfl) rfl ?_
   refine L.gyes' (dj := 5) (b := _) rfl rfl g5 ?_
   refine L.val (x_fa kses1_fo97_0 rfl) rfl ?_
   refine L.gyes' (dj := 5) (b := _) rfl rfl g5 ?_
   refine L.val (x_ld (v := .map _) kses1_oc94 rfl (hb.cell0 rfl)) rfl ?_
   refine L.gyes' (dj := 5) (b := _) rfl rfl g5 ?_
   refine L.val (x_eqm0 Try.underlying94 rfl rfl) rfl ?_
   refine L.nil ?_
   refine thn_n ⟨rfl, rfl, ?_, rfl⟩
   repeat (first | exact jeq.refl _ _ _ | refine jeq.upd rfl ?_ | refine jeq.jk rfl rfl ?_)
  ·intro g5
   refine L.gno (dj := 5) (b := _) rfl rfl g5 rfl ?_
   refine L.gno (dj := 5) (b := _) rfl rfl g5 rfl ?_
   refine L.gno (dj := 5) (b := _) rfl rfl g5 rfl ?_
   refine L.gno (dj := 5) (b := _) rfl rfl g5 rfl ?_
   refine L.gno (dj := 5) (b := _) rfl rfl g5 rfl ?_
   refine L.nil (thn_n ⟨rfl, rfl, ?_⟩)
   repeat (first | exact jeq.refl _ _ _ | refine jeq.upd rfl ?_ | refine jeq.jk rfl rfl ?_)
  intro J5 j5
  refine L.val (x_or rfl j5) rfl ?_
  refine L.val (x_as (v := .bool _) rfl) rfl ?_
  refine L.nil ?_
  refine thn_n ?_
  refine W.ret (fin_mk (.inr rfl) ?_)
  exact ⟨vb (by simp), rfl⟩
theorem none_nil (w : World) : Ret Try.prog 53 #[.pointer none] w fun v w' => v = .bool true ∧ w' = w := by
  refine ret_of_W Try.func53 rfl (Nat.le_of_ble_eq_true rfl) (res1 rfl) ?_
  refine W.seq ?_
  refine W.region ?_
  refine L.val (x_as (v := .bool _) rfl) rfl ?_
  refine L.nil ?_
  refine thn_n ?_
  refine W.seq ?_
  refine W.region ?_
  refine L.val (x_mv (v := .pointer _) rfl) rfl ?_
  refine L.val (x_eqp0 Try.underlying27 rfl rfl) rfl ?_
  refine L.val (x_mv (v := .bool _) rfl) rfl ?_
  refine' L.group0 5 6 10 10 5 false rfl ?_ ?_ ?_
  rotate_left 1
  ·intro g5
   have h5 := g5
   refine L.gyes' (dj := 5) (b := _) rfl rfl g5 ?_
   refine L.val (x_mv (v := .pointer _) rfl) rfl ?_
   refine L.gyes' (dj := 5) (b := _) rfl rfl g5 ?_
   refine L.val ((show X _ _ _ _ _ (.pointer (some ⟨0, 0, none⟩)) w from absurd g5 (by decide))) rfl ?_
   refine L.gyes' (dj := 5) (b := _) rfl rfl g5 ?_
   refine L.val (x_fa kses1_fo97_0 rfl) rfl ?_
   refine L.gyes' (dj := 5) (b := _) rfl rfl g5 ?_
   refine L.val ((show X _ _ _ _ _ (.map none) w from absurd g5 (by decide))) rfl ?_
   refine L.gyes' (dj := 5) (b := _) rfl rfl g5 ?_
   refine L.val (x_eqm0 Try.underlying94 rfl rfl) rfl ?_
   refine L.nil ?_
   refine thn_n ⟨rfl, rfl, ?_, rfl⟩
   repeat (first | exact jeq.refl _ _ _ | refine jeq.upd rfl ?_ | refine jeq.jk rfl rfl ?_)
  ·intro g5
   refine L.gno (dj := 5) (b := _) rfl rfl g5 rfl ?_
   refine L.gno (dj := 5) (b := _) rfl rfl g5 rfl ?_
   refine L.gno (dj := 5) (b := _) rfl rfl g5 rfl ?_
   refine L.gno (dj := 5) (b := _) rfl rfl g5 rfl ?_
   refine L.gno (dj := 5) (b := _) rfl rfl g5 rfl ?_
   refine L.nil (thn_n ⟨rfl, rfl, ?_⟩)
   repeat (first | exact jeq.refl _ _ _ | refine jeq.upd rfl ?_ | refine jeq.jk rfl rfl ?_)
  intro J5 j5
  refine L.val (x_or rfl j5) rfl ?_
  refine L.val (x_as (v := .bool _) rfl) rfl ?_
  refine L.nil ?_
  refine thn_n ?_
  refine W.ret (fin_mk (.inr rfl) ?_)
  exact ⟨vb (by simp), rfl⟩
theorem none_zero (b : Nat) (vl vo : Value) (m : Int) (w : World) (hb : Box w b 97 [.map none, vl, vo, .int .i64 m]) :
    Ret Try.prog 53 #[.pointer (some ⟨b, 0, none⟩)] w fun v w' => v = .bool true ∧ w' = w := by
  refine ret_of_W Try.func53 rfl (Nat.le_of_ble_eq_true rfl) (res1 rfl) ?_
  refine W.seq ?_
  refine W.region ?_
  refine L.val (x_as (v := .bool _) rfl) rfl ?_
  refine L.nil ?_
  refine thn_n ?_
  refine W.seq ?_
  refine W.region ?_
  refine L.val (x_mv (v := .pointer _) rfl) rfl ?_
  refine L.val (x_eqp0 Try.underlying27 rfl rfl) rfl ?_
  refine L.val (x_mv (v := .bool _) rfl) rfl ?_
  refine' L.group0 5 6 10 10 5 false rfl ?_ ?_ ?_
  rotate_left 1
  ·intro g5
   have h5 := g5
   refine L.gyes' (dj := 5) (b := _) rfl rfl g5 ?_
   refine L.val (x_mv (v := .pointer _) rfl) rfl ?_
   refine L.gyes' (dj := 5) (b := _) rfl rfl g5 ?_
   refine L.val (x_nil rfl) rfl ?_
   refine L.gyes' (dj := 5) (b := _) rfl rfl g5 ?_
   refine L.val (x_fa kses1_fo97_0 rfl) rfl ?_
   refine L.gyes' (dj := 5) (b := _) rfl rfl g5 ?_
   refine L.val (x_ld (v := .map _) kses1_oc94 rfl (hb.cell0 rfl)) rfl ?_
   refine L.gyes' (dj := 5) (b := _) rfl rfl g5 ?_
   refine L.val (x_eqm0 Try.underlying94 rfl rfl) rfl ?_
   refine L.nil ?_
   refine thn_n ⟨rfl, rfl, ?_, rfl⟩
   repeat (first | exact jeq.refl _ _ _ | refine jeq.upd rfl ?_ | refine jeq.jk rfl rfl ?_)
  ·intro g5
   refine L.gno (dj := 5) (b := _) rfl rfl g5 rfl ?_
   refine L.gno (dj := 5) (b := _) rfl rfl g5 rfl ?_
   refine L.gno (dj := 5) (b := _) rfl rfl g5 rfl ?_
   refine L.gno (dj := 5) (b := _) rfl rfl g5 rfl ?_
   refine L.gno (dj := 5) (b := _) rfl rfl g5 rfl ?_
   refine L.nil (thn_n ⟨rfl, rfl, ?_⟩)
   repeat (first | exact jeq.refl _ _ _ | refine jeq.upd rfl ?_ | refine jeq.jk rfl rfl ?_)
  intro J5 j5
  refine L.val (x_or rfl j5) rfl ?_
  refine L.val (x_as (v := .bool _) rfl) rfl ?_
  refine L.nil ?_
  refine thn_n ?_
  refine W.ret (fin_mk (.inr rfl) ?_)
  exact ⟨vb (by simp), rfl⟩
theorem prefix_take (s h : Str) : (decide (h.length ≤ s.length) && (s.take h.length == h)) = h.isPrefixOf s := by
  rw [Bool.eq_iff_iff, Bool.and_eq_true, decide_eq_true_eq, beq_iff_eq, List.isPrefixOf_iff_prefix]
  constructor
  · rintro ⟨-, h2⟩; rw [← h2]; exact List.take_prefix _ _
  · intro h1; exact ⟨h1.length_le, (List.prefix_iff_eq_take.1 h1).symm⟩
theorem hasprefix_ok (s h : Str) (w : World) : Ret Try.prog 87 #[S s, S h] w fun v w' => v = .bool (h.isPrefixOf s) ∧ w' = w := by
  refine ret_of_W Try.func87 rfl (Nat.le_of_ble_eq_true rfl) (res1 rfl) ?_
  refine W.seq ?_
  refine W.region ?_
  refine L.val (x_as (v := .bool _) rfl) rfl ?_
  refine L.nil ?_
  refine thn_n ?_
  refine W.seq ?_
  refine W.region ?_
  refine L.val (x_mv (v := S _) rfl) rfl ?_
  refine L.val (x_len_str Try.underlying9 rfl) rfl ?_
  refine L.val (x_mv (v := S _) rfl) rfl ?_
  refine L.val (x_len_str Try.underlying9 rfl) rfl ?_
  refine L.val (x_geq rfl rfl) rfl ?_
  refine L.val (x_mv (v := .bool _) rfl) rfl ?_
  refine' L.group0 6 11 16 16 10 true rfl ?_ ?_ ?_
  rotate_left 1
  ·intro g10
   have h10 := of_decide_eq_true g10
   refine L.gyes' (dj := 10) (b := _) rfl rfl g10 ?_
   refine L.val (x_mv (v := S _) rfl) rfl ?_
   refine L.gyes' (dj := 10) (b := _) rfl rfl g10 ?_
   refine L.val (x_mv (v := S _) rfl) rfl ?_
   refine L.gyes' (dj := 10) (b := _) rfl rfl g10 ?_
   refine L.val (x_len_str Try.underlying9 rfl) rfl ?_
   refine L.gyes' (dj := 10) (b := _) rfl rfl g10 ?_
   refine L.val (x_slS (j := h.length) Try.underlying9 rfl rfl rfl (by omega)) rfl ?_
   refine L.gyes' (dj := 10) (b := _) rfl rfl g10 ?_
   refine L.val (x_mv (v := S _) rfl) rfl ?_
   refine L.gyes' (dj := 10) (b := _) rfl rfl g10 ?_
   refine L.val (x_eqs rfl rfl) rfl ?_
   refine L.nil ?_
   refine thn_n ⟨rfl, rfl, ?_, rfl⟩
   repeat (first | exact jeq.refl _ _ _ | refine jeq.upd rfl ?_ | refine jeq.jk rfl rfl ?_)
  ·intro g10
   refine L.gno (dj := 10) (b := _) rfl rfl g10 rfl ?_
   refine L.gno (dj := 10) (b := _) rfl rfl g10 rfl ?_
   refine L.gno (dj := 10) (b := _) rfl rfl g10 rfl ?_
   refine L.gno (dj := 10) (b := _) rfl rfl g10 rfl ?_
   refine L.gno (dj := 10) (b := _) rfl rfl g10 rfl ?_
   refine L.gno (dj := 10) (b := _) rfl rfl g10 rfl ?_
   refine L.nil (thn_n ⟨rfl, rfl, ?_⟩)
   repeat (first | exact jeq.refl _ _ _ | refine jeq.upd rfl ?_ | refine jeq.jk rfl rfl ?_)
  intro J10 j10
  refine L.val (x_and rfl j10) rfl ?_
  refine L.val (x_as (v := .bool _) rfl) rfl ?_
  refine L.nil ?_
  refine thn_n ?_
  refine W.ret (fin_mk (.inr rfl) ?_)
  exact ⟨vb (by rw [← prefix_take]; simp only [Int.ofNat_le]), rfl⟩
theorem prefix_ok (s h : Str) (w : World) : Ret Try.prog 59 #[S s, S h] w fun v w' => v = .bool (h.isPrefixOf s) ∧ w' = w := by
  refine ret_of_W Try.func59 rfl (Nat.le_of_ble_eq_true rfl) (res1 rfl) ?_
  refine W.seq ?_
  refine W.region ?_
  refine L.val (x_as (v := .bool _) rfl) rfl ?_
  refine L.nil ?_
  refine thn_n ?_
  refine W.seq ?_
  refine W.region ?_
  refine L.val (x_mv (v := S _) rfl) rfl ?_
  refine L.val (x_mv (v := S _) rfl) rfl ?_
  refine L.ret (x_call kses1_en87 rfl) rfl (hasprefix_ok s h _) ?_
  rintro _ w7 ⟨rfl, rfl⟩
  refine L.val (x_as (v := .bool _) rfl) rfl ?_
  refine L.nil ?_
  refine thn_n ?_
  refine W.ret (fin_mk (.inr rfl) ?_)
  exact ⟨rfl, rfl⟩
theorem find_ok (ow : Labels) (t b bh bo : Nat) (s : Bs) (vl : Value) (lh : List (Str × Value)) (lo : List (Int × Value)) (rows : List (List Value)) (id : Int) (w : World) (h : BaseAt ow t w b s bh bo vl lh lo rows) :
    Ret Try.prog 55 #[.pointer (some ⟨b, 0, none⟩), .int .i64 id] w fun v w' => w' = w ∧ ((¬ s.isOpen id ∧ v = .tuple #[.pointer none, .int .i64 400]) ∨
      (∃ i bs, id = ((i + 1 : Nat) : Int) ∧ i < s.all.length ∧ (s.all.getD i default).opn = true ∧ getK lo id = some (.pointer (some ⟨bs, 0, none⟩)) ∧ SesAt ow t w i bs (s.all.getD i default) ∧ v = .tuple #[.pointer (some ⟨bs, 0, none⟩), .int .i64 0])) := by
  have hb := h.box
  have hg := h.opens id
  rcases hg with ⟨h1, h2⟩ | ⟨i, bs, h1, h2, h3, h4, h5⟩
  · skip
    refine ret_of_W Try.func55 rfl (Nat.le_of_ble_eq_true rfl) (res2 rfl) ?_
    refine W.seq ?_
    refine W.region ?_
    refine L.val (x_as (v := .pointer _) rfl) rfl ?_
    refine L.val (x_as (v := .int _ _) rfl) rfl ?_
    refine L.nil ?_
    refine thn_n ?_
    refine W.seq ?_
    refine W.seq ?_
    refine W.region ?_
    refine L.val (x_mv (v := .pointer _) rfl) rfl ?_
    refine L.ret (x_call kses1_en53 rfl) rfl (none_ok b bh bo vl _ _ hb) ?_
    rintro _ w9 ⟨rfl, rfl⟩
    refine L.nil ?_
    refine thn_n ?_
    refine W.cond (b := _) rfl (fun g9 => ?_) (fun g9 => ?_)
    ·have h9 := g9
     cases g9
    ·have h9 := g9
     refine W.skip ?_
     refine thn_n ?_
     refine W.seq ?_
     refine W.region ?_
     refine L.val (x_mv (v := .pointer _) rfl) rfl ?_
     refine L.val (x_nil rfl) rfl ?_
     refine L.val (x_fa kses1_fo97_2 rfl) rfl ?_
     refine L.val (x_ld (v := .map _) kses1_oc95 rfl (hb.cell (i := 2) rfl)) rfl ?_
     refine L.val (x_mv (v := .int _ _) rfl) rfl ?_
     refine L.val (x_lookKn (z := .pointer none) Try.underlying95 (klawI Try.underlying3) (by kernel_rfl) rfl rfl trivial h.mapO h1) rfl ?_
     refine L.val (x_mv (v := _) rfl) rfl ?_
     refine L.val (x_ext (v := .pointer _) rfl rfl) rfl ?_
     refine L.val (x_ext (v := .bool _) rfl rfl) rfl ?_
     refine L.val (x_as (v := .pointer _) rfl) rfl ?_
     refine L.val (x_as (v := .bool _) rfl) rfl ?_
     refine L.nil ?_
     refine thn_n ?_
     refine W.seq ?_
     refine W.seq ?_
     refine W.region ?_
     refine L.val (x_mv (v := .bool _) rfl) rfl ?_
     refine L.val (x_not rfl) rfl ?_
     refine L.nil ?_
     refine thn_n ?_
     refine W.cond (b := _) rfl (fun g20 => ?_) (fun g20 => ?_)
     ·have h20 := (not_t g20)
      refine W.seq ?_
      refine W.region ?_
      refine L.val (x_as (v := .pointer _) rfl) rfl ?_
      refine L.val (x_as (v := .int _ _) rfl) rfl ?_
      refine L.nil ?_
      refine thn_n ?_
      refine W.ret (thn_r (fin_mk (.inr rfl) ?_))
      exact ⟨rfl, .inl ⟨h2, rfl⟩⟩
     ·have h20 := (not_f g20)
      cases g20
  · skip
    refine ret_of_W Try.func55 rfl (Nat.le_of_ble_eq_true rfl) (res2 rfl) ?_
    refine W.seq ?_
    refine W.region ?_
    refine L.val (x_as (v := .pointer _) rfl) rfl ?_
    refine L.val (x_as (v := .int _ _) rfl) rfl ?_
    refine L.nil ?_
    refine thn_n ?_
    refine W.seq ?_
    refine W.seq ?_
    refine W.region ?_
    refine L.val (x_mv (v := .pointer _) rfl) rfl ?_
    refine L.ret (x_call kses1_en53 rfl) rfl (none_ok b bh bo vl _ _ hb) ?_
    rintro _ w9 ⟨rfl, rfl⟩
    refine L.nil ?_
    refine thn_n ?_
    refine W.cond (b := _) rfl (fun g9 => ?_) (fun g9 => ?_)
    ·have h9 := g9
     cases g9
    ·have h9 := g9
     refine W.skip ?_
     refine thn_n ?_
     refine W.seq ?_
     refine W.region ?_
     refine L.val (x_mv (v := .pointer _) rfl) rfl ?_
     refine L.val (x_nil rfl) rfl ?_
     refine L.val (x_fa kses1_fo97_2 rfl) rfl ?_
     refine L.val (x_ld (v := .map _) kses1_oc95 rfl (hb.cell (i := 2) rfl)) rfl ?_
     refine L.val (x_mv (v := .int _ _) rfl) rfl ?_
     refine L.val (x_lookKs (z := .pointer none) Try.underlying95 (klawI Try.underlying3) (by kernel_rfl) rfl rfl trivial h.mapO h4) rfl ?_
     refine L.val (x_mv (v := _) rfl) rfl ?_
     refine L.val (x_ext (v := .pointer _) rfl rfl) rfl ?_
     refine L.val (x_ext (v := .bool _) rfl rfl) rfl ?_
     refine L.val (x_as (v := .pointer _) rfl) rfl ?_
     refine L.val (x_as (v := .bool _) rfl) rfl ?_
     refine L.nil ?_
     refine thn_n ?_
     refine W.seq ?_
     refine W.seq ?_
     refine W.region ?_
     refine L.val (x_mv (v := .bool _) rfl) rfl ?_
     refine L.val (x_not rfl) rfl ?_
     refine L.nil ?_
     refine thn_n ?_
     refine W.cond (b := _) rfl (fun g20 => ?_) (fun g20 => ?_)
     ·have h20 := (not_t g20)
      cases g20
     ·have h20 := (not_f g20)
      refine W.skip ?_
      refine thn_n ?_
      refine W.seq ?_
      refine W.region ?_
      refine L.val (x_mv (v := .pointer _) rfl) rfl ?_
      refine L.val (x_as (v := .pointer _) rfl) rfl ?_
      refine L.val (x_as (v := .int _ _) rfl) rfl ?_
      refine L.nil ?_
      refine thn_n ?_
      refine W.ret (fin_mk (.inr rfl) ?_)
      exact ⟨rfl, .inr ⟨i, bs, h1, h2, h3, h4, h5, rfl⟩⟩
end Go.Gx
namespace Go.Gx
open Go.Proofs
section
variable {ow : Labels} {t : Nat} {p q : Part} {w w' : World}
theorem lab_part {b : Nat} (h : ow b = some (t, q)) (hne : q ≠ p) : ¬ ow b = some (t, p) := fun e => by
  rw [h] at e
  simp only [Option.some.injEq, Prod.mk.injEq, true_and] at e
  exact hne e
theorem OwnP.part {e : TypeId} {sz k : Nat} {v : Value} {xs : List Value} (h : OwnP ow t q w e sz v k xs) (g : Gr (fun k => ow k = some (t, p)) w w') (hne : q ≠ p) : OwnP ow t q w' e sz v k xs :=
  ⟨h.1.carryR g fun j hj => lab_part (h.2 j hj) hne, h.2⟩
theorem SesAt.part {i bs : Nat} {s : Sx} (h : SesAt ow t w i bs s) (g : Gr (fun k => ow k = some (t, p)) w w') (hne : Part.ses i ≠ p ∧ Part.eds i ≠ p ∧ Part.own i ≠ p ∧ Part.asked i ≠ p ∧ Part.heads i ≠ p) : SesAt ow t w' i bs s := by
  obtain ⟨n1, n2, n3, n4, n5⟩ := hne
  obtain ⟨ve, bw, ba, bh, lw, la, lh, l1, h1, h2, h3, l4, h4, h5, l6, h6, h7, l8, h8, h9⟩ := h
  exact ⟨ve, bw, ba, bh, lw, la, lh, l1, h1.carryR g (lab_part l1 n1), h2.part g n2, h3, l4, h4.carryR g (lab_part l4 n3), h5, l6, h6.carryR g (lab_part l6 n4), h7, l8, h8.carryR g (lab_part l8 n5), h9⟩
theorem HeldAt.part {lh : List (Str × Value)} {gs : List (List Ed)} (h : HeldAt ow t w lh gs) (g : Gr (fun k => ow k = some (t, p)) w w') (hne : ∀ k, Part.ver k ≠ p) : HeldAt ow t w' lh gs := fun k => by
  rcases h k with h1 | ⟨h1, v, h2, h3⟩
  · exact .inl h1
  · exact .inr ⟨h1, v, h2, h3.part g (hne k)⟩
theorem OpensAt.shut {lo : List (Int × Value)} {s : Bs} {i : Nat} (h : OpensAt ow t w lo s.all) (hn : (lo.map (·.1)).Nodup) (g : Gr (fun k => ow k = some (t, .opens)) w w') (hi : i < s.all.length) :
    OpensAt ow t w' (delK lo ((i + 1 : Nat) : Int)) (s.shut ((i + 1 : Nat) : Int)).all := fun id => by
  have hlen : (s.shut ((i + 1 : Nat) : Int)).all.length = s.all.length := by simp [Bs.shut, Bs.upd]
  have hat : ∀ j, (s.shut ((i + 1 : Nat) : Int)).all.getD j default = if j = i then { s.all.getD i default with opn := false } else s.all.getD j default := fun j => by
    simp only [Bs.shut, Bs.upd, Bs.ses, List.getD_eq_getElem?_getD, List.getElem?_set, Int.toNat_natCast, Nat.add_sub_cancel]
    by_cases hj : j = i
    · subst hj; simp [hi]
    · rw [if_neg (fun e => hj e.symm), if_neg hj]
  rw [getK_del hn, hlen]
  by_cases hid : id = ((i + 1 : Nat) : Int)
  · refine .inl ⟨by rw [if_pos hid], fun ⟨_, _, h3⟩ => ?_⟩
    have e : id.toNat - 1 = i := by omega
    rw [e, hat, if_pos rfl] at h3
    cases h3
  · rw [if_neg hid]
    rcases h id with ⟨h1, h2⟩ | ⟨j, bs, h1, h2, h3, h4, h5⟩
    · refine .inl ⟨h1, fun ⟨a, b, c⟩ => h2 ⟨a, b, ?_⟩⟩
      rw [hat, if_neg (by omega)] at c
      exact c
    · have hj : j ≠ i := fun e => hid (by rw [h1, e])
      refine .inr ⟨j, bs, h1, h2, ?_, h4, ?_⟩
      · rw [hat, if_neg hj]; exact h3
      · rw [hat, if_neg hj]
        exact h5.part g ⟨by simp, by simp, by simp, by simp, by simp⟩
end
end Go.Gx
namespace Go.Gx
variable {P : Program} {ops : Array Oper} {Q : Exit → Act → World → Prop} {C : World → Prop}
def YF (P : Program) (ops : Array Oper) (C : World → Prop) (o : Oper) (v : Value) (a : Act) : Prop :=
  (Region.wanted o (yielded ops a.tmps) = true ∧ ∀ w, C w → (execOp a.eval o).run P w = .ok (.value v) w) ∨ (Region.wanted o (yielded ops a.tmps) = false ∧ v = undef)
theorem YF.same {o : Oper} {v : Value} {a a' : Act} (hy : YF P ops C o v a) (he : execOp a'.eval o = execOp a.eval o) (hw : Region.wanted o (yielded ops a'.tmps) = Region.wanted o (yielded ops a.tmps)) : YF P ops C o v a' := by
  unfold YF at *
  rw [he, hw]
  exact hy
theorem YF.take {i : Nat} {o : Oper} {v : Value} {a : Act} (hi : ops[i]? = some o) (hy : YF P ops C o v a) {K : Act → World → Prop} {w : World} (hC : C w) (h : K (a.put o.dst v) w) : wpOp P ops Q i K a w := by
  unfold wpOp
  rcases hy with ⟨h1, h2⟩ | ⟨h1, rfl⟩
  · simp only [hi, h1, if_true, Oper.wp, h2 w hC, Oper.upon]
    exact .inl h
  · simp only [hi]
    rw [if_neg (by rw [h1]; simp)]
    exact h
theorem wpOp_lateF {j : Nat} {oi oj : Oper} {v : Value} (hj : ops[j]? = some oj) (hap : oi.apart ops oj = true)
    (hsi : ∀ cs b, oi.op ≠ .select cs b) (hsj : ∀ cs b, oj.op ≠ .select cs b)
    (hQ : ∀ c a w, Q (.panic c) (a.put oi.dst v) w → Q (.panic c) a w) {K : Act → World → Prop} {a : Act} {w : World}
    (hy : YF P ops C oi v a) (h : wpOp P ops Q j K (a.put oi.dst v) w) :
    wpOp P ops Q j (fun a' w' => YF P ops C oi v a' ∧ K (a'.put oi.dst v) w') a w := by
  obtain ⟨h1, h2, h3⟩ := Oper.apart_spec hap
  have keep : ∀ u, YF P ops C oi v (a.put oj.dst u) := fun u => hy.same (execOp_put oi hsi a oj.dst u h3) (wanted_put oi a oj.dst u h3)
  have hw1 := wanted_put oj a oi.dst v h1
  have he1 := execOp_put oj hsj a oi.dst v h1
  unfold wpOp at h ⊢
  simp only [hj] at h ⊢
  rw [hw1] at h
  by_cases hw : Region.wanted oj (yielded ops a.tmps) = true
  · rw [if_pos hw] at h ⊢
    rcases h with h | ⟨ha, hl⟩
    · left
      unfold Oper.wp at h ⊢
      rw [he1] at h
      generalize (execOp a.eval oj).run P w = r at h ⊢
      cases r with
      | halt x w' =>
        cases x with
        | panic u => exact hQ _ _ _ h
        | _ => exact h
      | ok x w' =>
        cases x with
        | value u => exact ⟨keep u, by rw [← Act.put_comm a v u h2]; exact h⟩
        | skip => exact ⟨keep _, by rw [← Act.put_comm a v undef h2]; exact h⟩
        | defer d =>
          refine ⟨(hy.same (a' := { a with defers := d :: a.defers }) rfl rfl).same (execOp_put oi hsi _ oj.dst _ h3) (wanted_put oi _ oj.dst _ h3), ?_⟩
          rw [← Act.put_comm _ v undef h2, ← Act.put_defers]
          exact h
        | enter f args =>
          refine Calls.mono h fun e w'' he => ?_
          cases e with
          | returned u => exact ⟨keep u, by rw [← Act.put_comm a v u h2]; exact he⟩
          | panicked c => exact hQ _ _ _ he
          | outgrown => exact he
        | row row args => exact Rows.mono h fun u w'' he => ⟨keep u, by rw [← Act.put_comm a v u h2]; exact he⟩
        | _ => exact h
    · exact .inr ⟨by unfold Oper.asks at *; rw [he1] at ha; exact ha, hl⟩
  · rw [if_neg hw] at h ⊢
    exact ⟨keep _, by rw [← Act.put_comm a v undef h2]; exact h⟩
section
variable {n st : Nat} {K : List Deferred → Env → World → Prop} {D : List Deferred} {E : Env} {w : World}
theorem LAC.split {fuel : Nat} {listed : Array Bool} {dj : Nat} {b : Bool} (_hE : E dj = .bool b) (ht : b = true → LAC P n ops C st K fuel listed D E w) (hf : b = false → LAC P n ops C st K fuel listed D E w) : LAC P n ops C st K fuel listed D E w := by
  cases b
  · exact hf rfl
  · exact ht rfl
end
end Go.Gx
