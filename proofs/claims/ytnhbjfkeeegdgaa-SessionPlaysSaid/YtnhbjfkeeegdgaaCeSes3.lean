/- Sessions: Begin. Conditions: none. -/
import Derived.RangeFuncNested
import Derived.Test.YtnhbjfkeeegdgaaCeSes2
import Derived.Test.YtnhbjfkeeegdgaaCeDef
namespace Go.Gx
open Go.Proofs
theorem kses3_en53 : Go.Proofs.Enters Try.prog 53 := Go.Proofs.enters_of Try.func53 (by kernel_rfl) rfl
theorem kses3_fo97_1 : fieldOff Try.prog 97 1 = some 1 := by kernel_rfl
theorem kses3_fo97_2 : fieldOff Try.prog 97 2 = some 2 := by kernel_rfl
theorem kses3_fo97_3 : fieldOff Try.prog 97 3 = some 3 := by kernel_rfl
theorem kses3_mixed : Try.prog.follows .mixedOrders = true := by kernel_rfl
theorem kses3_oc3 : oneCellT Try.prog 3 = true := by kernel_rfl
theorem kses3_oc30 : oneCellT Try.prog 30 = true := by kernel_rfl
theorem kses3_oc95 : oneCellT Try.prog 95 = true := by kernel_rfl
theorem kses3_si110 : structInfo Try.prog 110 = some ([(0, 1), (1, 1), (2, 1), (3, 1), (4, 1)], [Value.int .i64 0, Value.slice none 0 0, Value.map none, Value.map none, Value.map none]) := by kernel_rfl
theorem kses3_sz3 : (Try.prog.info? 3).map (·.size) = some 1 := by kernel_rfl
structure Keeps (t : Nat) (C : Part → Prop) (w w' : World) (ow ow' : Labels) : Prop where
  gr : Gr (fun k => ∃ p, C p ∧ ow k = some (t, p)) w w'
  old : ∀ k, k < w.heap.size → ow' k = ow k ∨ ((∃ p, C p ∧ ow k = some (t, p)) ∧ ow' k = none)
  new : ∀ k, w.heap.size ≤ k → ow' k = none ∨ Mine ow' t k
  end_ : ∀ k, w'.heap.size ≤ k → ow' k = none
section
variable {ow ow' : Labels} {t : Nat} {p q : Part} {C : Part → Prop} {w w' : World}
theorem Keeps.goes (g : Keeps t C w w' ow ow') : Goes t w w' ow ow' :=
  ⟨fun k hk => (g.old k hk).imp id (fun ⟨⟨p, _, h⟩, e⟩ => ⟨⟨p, h⟩, e⟩), g.new, g.gr.mono (fun _ _ ⟨p, _, h⟩ => ⟨p, h⟩), g.end_⟩
theorem Keeps.refl {C : Part → Prop} (h : ∀ k, w.heap.size ≤ k → ow k = none) : Keeps t C w w ow ow := ⟨Gr.refl _ _, fun _ _ => .inl rfl, fun k hk => .inl (h k hk), h⟩
theorem Keeps.bel (h : ∀ k, w.heap.size ≤ k → ow k = none) (g : Bel w w') : Keeps t C w w' ow ow := ⟨g.mono (fun _ _ f => f.elim), fun _ _ => .inl rfl, fun k hk => .inl (h k hk), fun k hk => h k (by have := g.size; omega)⟩
theorem Keeps.not {k : Nat} (h : ow k = some (t, q)) (hq : ¬ C q) : ¬ ∃ p, C p ∧ ow k = some (t, p) := fun ⟨p, hp, e⟩ => by
  rw [h] at e
  simp only [Option.some.injEq, Prod.mk.injEq, true_and] at e
  exact hq (e ▸ hp)
theorem Keeps.lab {b : Nat} (g : Keeps t C w w' ow ow') (h : ow b = some (t, q)) (hb : b < w.heap.size) (hq : ¬ C q) : ow' b = some (t, q) := by
  rcases g.old b hb with e | ⟨m, -⟩
  · exact e.trans h
  · exact absurd m (Keeps.not h hq)
theorem Box.keep {b : Nat} {T : TypeId} {cs : List Value} (h : Box w b T cs) (g : Keeps t C w w' ow ow') (hl : ow b = some (t, q)) (hq : ¬ C q) : Box w' b T cs := h.carryR g.gr (Keeps.not hl hq)
theorem MapAtK.keep {κ : Type} [DecidableEq κ] {K : κ → Value} {V : κ → Prop} {b : Nat} {l : List (κ × Value)} (h : MapAtK K V w b l) (g : Keeps t C w w' ow ow') (hl : ow b = some (t, q)) (hq : ¬ C q) : MapAtK K V w' b l := h.carryR g.gr (Keeps.not hl hq)
theorem OwnP.keep {e : TypeId} {sz k : Nat} {v : Value} {xs : List Value} (h : OwnP ow t q w e sz v k xs) (g : Keeps t C w w' ow ow') (hq : ¬ C q) : OwnP ow' t q w' e sz v k xs :=
  ⟨h.1.carryR g.gr fun j hj => Keeps.not (h.2 j hj) hq, fun j hj => g.lab (h.2 j hj) (Own.lt h.1 hj).2 hq⟩
theorem SesAt.keep {i bs : Nat} {s : Sx} (h : SesAt ow t w i bs s) (g : Keeps t C w w' ow ow') (hne : ¬ C (.ses i) ∧ ¬ C (.eds i) ∧ ¬ C (.own i) ∧ ¬ C (.asked i) ∧ ¬ C (.heads i)) : SesAt ow' t w' i bs s := by
  obtain ⟨n1, n2, n3, n4, n5⟩ := hne
  obtain ⟨ve, bw, ba, bh, lw, la, lh, l1, h1, h2, h3, l4, h4, h5, l6, h6, h7, l8, h8, h9⟩ := h
  exact ⟨ve, bw, ba, bh, lw, la, lh, g.lab l1 h1.lt n1, h1.keep g l1 n1, h2.keep g n2, h3, g.lab l4 h4.lt n3, h4.keep g l4 n3, h5, g.lab l6 h6.lt n4, h6.keep g l6 n4, h7, g.lab l8 h8.lt n5, h8.keep g l8 n5, h9⟩
theorem HeldAt.keep {lh : List (Str × Value)} {gs : List (List Ed)} (h : HeldAt ow t w lh gs) (g : Keeps t C w w' ow ow') (hne : ∀ k, ¬ C (.ver k)) : HeldAt ow' t w' lh gs := fun k => by
  rcases h k with h1 | ⟨h1, v, h2, h3⟩
  · exact .inl h1
  · exact .inr ⟨h1, v, h2, h3.keep g (hne k)⟩
theorem rows_keep {α : Type} [Inhabited α] {Th : Thing α} {k : Nat} [Car Th k] {r : List (List Value)} {l : List α} (h : RowsC Th (fun k => ow k ≠ none) w r l) (g : Keeps t C w w' ow ow') : RowsC Th (fun k => ow' k ≠ none) w' r l := by
  have hs := g.gr.size
  refine ((h.mono (A' := fun k => ow k ≠ none ∨ w.heap.size ≤ k) fun k hk hn => hn.resolve_right (by omega)).carryR g.gr (fun j ⟨p, _, hp⟩ => .inl (by rw [hp]; simp))).mono fun k _ hn => ?_
  by_cases hlt : k < w.heap.size
  · rcases g.old k hlt with e | ⟨-, e⟩
    · exact .inl (by rw [← e]; exact hn)
    · exact absurd e hn
  · exact .inr (by omega)
end
def relab (ow : Labels) (t : Nat) (l : List (Nat × Part)) : Labels := fun k => match l.find? (fun x => x.1 == k) with
  | some x => some (t, x.2)
  | none => ow k
theorem relab_old {ow : Labels} {t : Nat} {l : List (Nat × Part)} {k : Nat} (h : ∀ x ∈ l, x.1 ≠ k) : relab ow t l k = ow k := by
  unfold relab
  have : l.find? (fun x => x.1 == k) = none := List.find?_eq_none.2 fun x hx => by simpa using h x hx
  rw [this]
theorem relab_new {ow : Labels} {t : Nat} {l : List (Nat × Part)} {k : Nat} : relab ow t l k = ow k ∨ ∃ x ∈ l, x.1 = k ∧ relab ow t l k = some (t, x.2) := by
  unfold relab
  cases h : l.find? (fun x => x.1 == k) with
  | none => exact .inl rfl
  | some x => exact .inr ⟨x, List.mem_of_find?_eq_some h, by simpa using List.find?_some h, rfl⟩
theorem keeps_relab {ow : Labels} {t : Nat} {C : Part → Prop} {w w' : World} (l : List (Nat × Part)) (g : Gr (fun k => ∃ p, C p ∧ ow k = some (t, p)) w w') (hf : ∀ k, w.heap.size ≤ k → ow k = none) (h1 : ∀ x ∈ l, w.heap.size ≤ x.1 ∧ x.1 < w'.heap.size) : Keeps t C w w' ow (relab ow t l) := by
  have hs := g.size
  refine ⟨g, fun k hk => .inl (relab_old fun x hx e => by have := h1 x hx; omega), fun k hk => ?_, fun k hk => ?_⟩
  · rcases relab_new (ow := ow) (t := t) (l := l) (k := k) with e | ⟨x, hx, e, e2⟩
    · exact .inl (e.trans (hf k hk))
    · exact .inr ⟨_, e2⟩
  · rw [relab_old fun x hx e => by have := h1 x hx; omega]; exact hf k (by omega)
theorem getD_append_one {α : Type} {l : List α} {x d : α} {i : Nat} : (l ++ [x]).getD i d = if i = l.length then x else l.getD i d := by
  simp only [List.getD_eq_getElem?_getD]
  by_cases h : i = l.length
  · rw [if_pos h, List.getElem?_append_right (by omega), h, Nat.sub_self]; rfl
  · rw [if_neg h]
    by_cases h2 : i < l.length
    · rw [List.getElem?_append_left h2]
    · rw [List.getElem?_append_right (by omega), List.getElem?_eq_none (by simp; omega), List.getElem?_eq_none (by omega)]
theorem begin_done {ow : Labels} {t b bh bo : Nat} {s : Bs} {vl : Value} {lh : List (Str × Value)} {lo : List (Int × Value)} {rows : List (List Value)} {w w' : World} (h : BaseAt ow t w b s bh bo vl lh lo rows) {bs bw ba bd : Nat} {cs : List Value}
    (hb : Box w' b 97 cs) (hcs : cs = [.map (some bh), vl, .map (some bo), .int .i64 ((s.all.length : Nat) + 1)])
    (mo : MapAtK I64 (fun _ => True) w' bo (putK lo ((s.all.length : Nat) + 1) (.pointer (some ⟨bs, 0, none⟩))))
    (bx : Box w' bs 110 [.int .i64 (s.log.length : Nat), .slice none 0 0, .map (some bw), .map (some ba), .map (some bd)])
    (m1 : MapAtK S (fun _ => True) w' bw []) (m2 : MapAtK S (fun _ => True) w' ba []) (m3 : MapAtK S (fun _ => True) w' bd [])
    (hg : Gr (fun k => k = b ∨ k = bo) w w') (n0 : w.heap.size ≤ bw ∧ w.heap.size ≤ ba ∧ w.heap.size ≤ bd ∧ w.heap.size ≤ bs) (n1 : bw ≠ ba ∧ bw ≠ bd ∧ bw ≠ bs ∧ ba ≠ bd ∧ ba ≠ bs ∧ bd ≠ bs) :
    ∃ ow' lo', Goes t w w' ow ow' ∧ BaseAt ow' t w' b s.begin_ bh bo vl lh lo' rows := by
  subst hcs
  have hlt := bx.lt
  have l1 := m1.lt; have l2 := m2.lt; have l3 := m3.lt
  obtain ⟨d1, d2, d3, d4, d5, d6⟩ := n1
  obtain ⟨c1, c2, c3, c4⟩ := n0
  let n := s.all.length
  have hK : Keeps t (fun p => p = .base ∨ p = .opens) w w' ow (relab ow t [(bs, .ses n), (bw, .own n), (ba, .asked n), (bd, .heads n)]) := by
    refine keeps_relab _ (hg.mono fun k _ e => ?_) h.free ?_
    · rcases e with rfl | rfl
      · exact ⟨_, .inl rfl, h.lab⟩
      · exact ⟨_, .inr rfl, h.labO⟩
    · intro x hx
      simp only [List.mem_cons, List.not_mem_nil, or_false] at hx
      rcases hx with rfl | rfl | rfl | rfl <;> (dsimp only; omega)
  have r0 : relab ow t [(bs, .ses n), (bw, .own n), (ba, .asked n), (bd, .heads n)] bs = some (t, .ses n) := by simp [relab]
  have r1 : relab ow t [(bs, .ses n), (bw, .own n), (ba, .asked n), (bd, .heads n)] bw = some (t, .own n) := by simp [relab, List.find?, beq_eq_false_iff_ne.2 (Ne.symm d3)]
  have r2 : relab ow t [(bs, .ses n), (bw, .own n), (ba, .asked n), (bd, .heads n)] ba = some (t, .asked n) := by simp [relab, List.find?, beq_eq_false_iff_ne.2 (Ne.symm d5), beq_eq_false_iff_ne.2 d1]
  have r3 : relab ow t [(bs, .ses n), (bw, .own n), (ba, .asked n), (bd, .heads n)] bd = some (t, .heads n) := by simp [relab, List.find?, beq_eq_false_iff_ne.2 (Ne.symm d6), beq_eq_false_iff_ne.2 d2, beq_eq_false_iff_ne.2 d4]
  have ro : ∀ k, k < w.heap.size → relab ow t [(bs, .ses n), (bw, .own n), (ba, .asked n), (bd, .heads n)] k = ow k := fun k hk => relab_old (fun x hx => by
    simp only [List.mem_cons, List.not_mem_nil, or_false] at hx
    rcases hx with rfl | rfl | rfl | rfl <;> (dsimp only; omega))
  refine ⟨_, putK lo ((s.all.length : Nat) + 1) (.pointer (some ⟨bs, 0, none⟩)), hK.goes, ?_⟩
  refine ⟨(ro b h.box.lt).trans h.lab, ?_, hK.lab h.labH h.mapH.lt (by simp), h.mapH.keep hK h.labH (by simp), h.held.keep hK (by simp), (ro bo h.mapO.lt).trans h.labO, mo, ?_, h.log.keep hK (by simp), rows_keep h.rows hK, h.ok, hK.end_⟩
  · simpa [Bs.begin_] using hb
  · intro id
    rw [getK_put]
    by_cases hid : id = ((n + 1 : Nat) : Int)
    · rw [if_pos (by rw [hid]; rfl)]
      refine .inr ⟨n, bs, hid, by simp [Bs.begin_, n], ?_, rfl, ?_⟩
      · simp only [Bs.begin_, getD_append_one]; rw [if_pos rfl]
      · simp only [Bs.begin_, getD_append_one]; rw [if_pos rfl]
        refine ⟨_, bw, ba, bd, [], [], [], r0, bx, ⟨own_nil, fun j hj => by simp [Value.ownBlock] at hj⟩, by simp, r1, m1, fun k => by simp [getK, idxK, lastE], r2, m2, fun k => .inl ⟨by simp [getK, idxK], by simp⟩, r3, m3, fun k => .inl ⟨by simp [getK, idxK], by simp⟩⟩
    · rw [if_neg (fun e => hid (by rw [e]; rfl))]
      rcases h.opens id with ⟨h1, h2⟩ | ⟨i, b1, h1, h2, h3, h4, h5⟩
      · refine .inl ⟨h1, fun ⟨a1, a2, a3⟩ => h2 ⟨a1, ?_, ?_⟩⟩
        · simp only [Bs.begin_, List.length_append, List.length_singleton] at a2
          have : ((s.all.length + 1 : Nat) : Int) ≠ id := fun e => hid e.symm
          omega
        · simp only [Bs.begin_, getD_append_one, List.length_append, List.length_singleton] at a2 a3
          rw [if_neg (by intro e; apply hid; show id = ((s.all.length + 1 : Nat) : Int); omega)] at a3
          exact a3
      · refine .inr ⟨i, b1, h1, by simp [Bs.begin_]; omega, ?_, h4, ?_⟩
        · simp only [Bs.begin_, getD_append_one]; rw [if_neg (by omega)]; exact h3
        · simp only [Bs.begin_, getD_append_one]; rw [if_neg (by omega)]
          exact h5.keep hK ⟨by simp, by simp, by simp, by simp, by simp⟩
theorem begin_ok (ow : Labels) (t b bh bo : Nat) (s : Bs) (vl : Value) (lh : List (Str × Value)) (lo : List (Int × Value)) (rows : List (List Value)) (w : World) (h : BaseAt ow t w b s bh bo vl lh lo rows) (hn : s.all.length ≤ 1000000) :
    Ret Try.prog 18 #[.pointer (some ⟨b, 0, none⟩)] w fun v w' => v = .int .i64 ((s.all.length + 1 : Nat) : Int) ∧ ∃ ow' lo', Goes t w w' ow ow' ∧ BaseAt ow' t w' b s.begin_ bh bo vl lh lo' rows := by
  obtain ⟨al, cl, hvl, -⟩ := own_shape h.log.1
  subst hvl
  have hb := h.box
  refine ret_of_W Try.func18 rfl (Nat.le_of_ble_eq_true rfl) (res1 rfl) ?_
  have mo := h.mapO
  have hne : b ≠ bo := fun e => lab_part h.lab (q := .base) (p := .opens) (by simp) (by rw [e]; exact h.labO)
  refine W.seq ?_
  refine W.region ?_
  refine L.val (x_as (v := .int _ _) rfl) rfl ?_
  refine L.nil ?_
  refine thn_n ?_
  refine W.seq ?_
  refine W.seq ?_
  refine W.region ?_
  refine L.val (x_mv (v := .pointer _) rfl) rfl ?_
  refine L.ret (x_call kses3_en53 rfl) rfl (none_ok b bh bo _ _ _ hb) ?_
  rintro v4 w4 ⟨rfl, hq⟩
  rw [hq]
  refine L.nil ?_
  refine thn_n ?_
  refine W.cond (b := _) rfl (fun g4 => ?_) (fun g4 => ?_)
  ·have h4 := g4
   cases g4
  ·have h4 := g4
   refine W.skip ?_
   refine thn_n ?_
   refine W.seq ?_
   refine W.region ?_
   refine L.val (x_mv (v := .pointer _) rfl) rfl ?_
   refine L.val (x_nil rfl) rfl ?_
   refine L.val (x_fa kses3_fo97_3 rfl) rfl ?_
   refine L.val (x_ld (v := .int _ _) kses3_oc3 rfl (hb.cell0 rfl)) rfl ?_
   refine L.val (x_add rfl rfl (wr64 (by omega))) rfl ?_
   refine L.val (x_nil rfl) rfl ?_
   refine L.val (x_fa kses3_fo97_3 rfl) rfl ?_
   refine L.set (v := .int _ _) kses3_sz3 rfl rfl rfl hb rfl (fun wl12 hb hw hzl12 => ?_)
   have mo := mo.carryR hw (by intro e; first | exact hne e.symm | omega)
   have hg0 := hw
   refine L.nil ?_
   refine thn_n ?_
   refine W.seq ?_
   refine W.drawD (fun j => j = bo) (fun _ => False) 18 kses3_mixed (fun wD12 hw => ?_)
   have hb := hb.carry hw; have mo := mo.carry hw
   have hB0 := Gr.refl (fun _ => False) wD12; have hR0 := Gr.refl (fun j => j = bo) wD12
   have hg1 : Gr (fun k => k = b ∨ k = bo) w wD12 := (hg0.mono (fun _ _ e => .inl e)).carry hw
   have hsD := hg1.size
   have hbo := h.mapO.lt
   refine LAD.take0 (i := 0) rfl (by kernel_rfl) (by kernel_rfl) (by kernel_rfl) (by kernel_rfl) (fun w hw => x_mv (v := .pointer _) rfl) rfl ?_
   refine LAD.take0 (i := 1) rfl (by kernel_rfl) (by kernel_rfl) (by kernel_rfl) (by kernel_rfl) (fun w hw => x_nil rfl) rfl ?_
   refine LAD.take0 (i := 2) rfl (by kernel_rfl) (by kernel_rfl) (by kernel_rfl) (by kernel_rfl) (fun w hw => x_fa kses3_fo97_2 rfl) rfl ?_
   refine LAD.take0 (i := 3) rfl (by kernel_rfl) (by kernel_rfl) (by kernel_rfl) (by kernel_rfl) (fun w hw => x_ld (v := .map _) kses3_oc95 rfl (hw.keepR ((fun e => hne e)) (hb.cell0 rfl))) rfl ?_
   refine LAD.take0 (i := 4) rfl (by kernel_rfl) (by kernel_rfl) (by kernel_rfl) (by kernel_rfl) (fun w hw => x_mv (v := .pointer _) rfl) rfl ?_
   refine LAD.take0 (i := 5) rfl (by kernel_rfl) (by kernel_rfl) (by kernel_rfl) (by kernel_rfl) (fun w hw => x_nil rfl) rfl ?_
   refine LAD.take0 (i := 6) rfl (by kernel_rfl) (by kernel_rfl) (by kernel_rfl) (by kernel_rfl) (fun w hw => x_fa kses3_fo97_3 rfl) rfl ?_
   refine LAD.take0 (i := 7) rfl (by kernel_rfl) (by kernel_rfl) (by kernel_rfl) (by kernel_rfl) (fun w hw => x_ld (v := .int _ _) kses3_oc3 rfl (hw.keepR ((fun e => hne e)) (hb.cell0 rfl))) rfl ?_
   refine LAD.take0 (i := 8) rfl (by kernel_rfl) (by kernel_rfl) (by kernel_rfl) (by kernel_rfl) (fun w hw => x_mv (v := .pointer _) rfl) rfl ?_
   refine LAD.take0 (i := 9) rfl (by kernel_rfl) (by kernel_rfl) (by kernel_rfl) (by kernel_rfl) (fun w hw => x_nil rfl) rfl ?_
   refine LAD.take0 (i := 10) rfl (by kernel_rfl) (by kernel_rfl) (by kernel_rfl) (by kernel_rfl) (fun w hw => x_fa kses3_fo97_1 rfl) rfl ?_
   refine LAD.take0 (i := 11) rfl (by kernel_rfl) (by kernel_rfl) (by kernel_rfl) (by kernel_rfl) (fun w hw => x_ld (v := .slice _ _ _) kses3_oc30 rfl (hw.keepR ((fun e => hne e)) (hb.cell0 rfl))) rfl ?_
   refine LAD.take0 (i := 12) rfl (by kernel_rfl) (by kernel_rfl) (by kernel_rfl) (by kernel_rfl) (fun w hw => x_len_slice Try.underlying30 rfl) rfl ?_
   refine LAD.step (rs := [13, 14, 15]) hR0 (fun _ => hB0) (by kernel_rfl) (by simp) ⟨⟨_, rfl, ?_⟩, ⟨_, rfl, ?_⟩, ⟨_, rfl, ?_⟩, trivial⟩
   ·refine L.mkmapK (κ := Str) (K := S) (V := fun _ => True) Try.underlying107 rfl (fun w25 mp25 hw hz25 => ?_)
    have hB0 := hB0.carry hw; have hR0 := hR0.carry hw
    refine L.nil ?_
    refine thn_n ?_
    refine LAD.step (rs := [14, 15]) hR0 (fun _ => hB0) (by kernel_rfl) (by simp) ⟨⟨_, rfl, ?_⟩, ⟨_, rfl, ?_⟩, trivial⟩
    ·refine L.mkmapK (κ := Str) (K := S) (V := fun _ => True) Try.underlying108 rfl (fun w26 mp26 hw hz26 => ?_)
     have hB0 := hB0.carry hw; have hR0 := hR0.carry hw; have mp25 := mp25.carry hw
     refine L.nil ?_
     refine thn_n ?_
     refine LAD.step (rs := [15]) hR0 (fun _ => hB0) (by kernel_rfl) (by simp) ⟨⟨_, rfl, ?_⟩, trivial⟩
     refine L.mkmapK (κ := Str) (K := S) (V := fun _ => True) Try.underlying108 rfl (fun w27 mp27 hw hz27 => ?_)
     have hB0 := hB0.carry hw; have hR0 := hR0.carry hw; have mp25 := mp25.carry hw; have mp26 := mp26.carry hw
     refine L.nil ?_
     refine thn_n ?_
     refine LAD.take0 (i := 16) rfl (by kernel_rfl) (by kernel_rfl) (by kernel_rfl) (by kernel_rfl) (fun w hw => x_build (cells := [.int _ _, .slice _ _ _, .map _, .map _, .map _]) kses3_si110 rfl rfl) rfl ?_
     refine LAD.step (rs := [17]) hR0 (fun _ => hB0) (by kernel_rfl) (by simp) ⟨⟨_, rfl, ?_⟩, trivial⟩
     refine L.box (cs := _) rfl rfl (fun w29 bx29 hw hz29 => ?_)
     have hB0 := hB0.carry hw; have hR0 := hR0.carry hw; have mp25 := mp25.carry hw; have mp26 := mp26.carry hw; have mp27 := mp27.carry hw
     refine L.nil ?_
     refine thn_n ?_
     refine LAD.step (rs := [18]) hR0 (fun _ => hB0) (by kernel_rfl) (by simp) ⟨⟨_, rfl, ?_⟩, trivial⟩
     refine L.mapsetK Try.underlying95 (klawI Try.underlying3) rfl rfl trivial rfl (mo.carry hB0) (fun w31 mo31 hw hz31 => ?_)
     have hR0 := (hB0.mono (fun _ _ f => f.elim)).trans (hw.mono (fun _ _ e => e))
     refine L.nil ?_
     refine thn_n ?_
     refine LAD.done (by kernel_rfl) (by kernel_rfl) hR0 ?_
     have hb := hb.carryR hR0 (fun e => hne e)
     have mo := mo
     refine thn_n ?_
     refine W.seq ?_
     refine W.region ?_
     refine L.val (x_mv (v := .pointer _) rfl) rfl ?_
     refine L.val (x_nil rfl) rfl ?_
     refine L.val (x_fa kses3_fo97_3 rfl) rfl ?_
     refine L.val (x_ld (v := .int _ _) kses3_oc3 rfl (hb.cell0 rfl)) rfl ?_
     refine L.val (x_as (v := .int _ _) rfl) rfl ?_
     refine L.nil ?_
     refine thn_n ?_
     refine W.ret (fin_mk (.inr rfl) ?_)
     refine ⟨by rw [Int.natCast_add]; rfl, ?_⟩
     have hn : ∀ j, wD12.heap.size ≤ j → ¬ j = bo := fun j hj e => by omega
     refine begin_done h hb rfl mo31 (bx29.carryR hw (hn _ (by omega))) (mp25.carryR hw (hn _ (by omega))) (mp26.carryR hw (hn _ (by omega))) (mp27.carryR hw (hn _ (by omega))) (hg1.trans (hR0.mono (fun _ _ e => .inr e))) (by omega) (by omega)
    ·refine L.mkmapK (κ := Str) (K := S) (V := fun _ => True) Try.underlying108 rfl (fun w27 mp27 hw hz27 => ?_)
     have hB0 := hB0.carry hw; have hR0 := hR0.carry hw; have mp25 := mp25.carry hw
     refine L.nil ?_
     refine thn_n ?_
     refine LAD.step (rs := [14]) hR0 (fun _ => hB0) (by kernel_rfl) (by simp) ⟨⟨_, rfl, ?_⟩, trivial⟩
     refine L.mkmapK (κ := Str) (K := S) (V := fun _ => True) Try.underlying108 rfl (fun w26 mp26 hw hz26 => ?_)
     have hB0 := hB0.carry hw; have hR0 := hR0.carry hw; have mp25 := mp25.carry hw; have mp27 := mp27.carry hw
     refine L.nil ?_
     refine thn_n ?_
     refine LAD.take0 (i := 16) rfl (by kernel_rfl) (by kernel_rfl) (by kernel_rfl) (by kernel_rfl) (fun w hw => x_build (cells := [.int _ _, .slice _ _ _, .map _, .map _, .map _]) kses3_si110 rfl rfl) rfl ?_
     refine LAD.step (rs := [17]) hR0 (fun _ => hB0) (by kernel_rfl) (by simp) ⟨⟨_, rfl, ?_⟩, trivial⟩
     refine L.box (cs := _) rfl rfl (fun w29 bx29 hw hz29 => ?_)
     have hB0 := hB0.carry hw; have hR0 := hR0.carry hw; have mp25 := mp25.carry hw; have mp27 := mp27.carry hw; have mp26 := mp26.carry hw
     refine L.nil ?_
     refine thn_n ?_
     refine LAD.step (rs := [18]) hR0 (fun _ => hB0) (by kernel_rfl) (by simp) ⟨⟨_, rfl, ?_⟩, trivial⟩
     refine L.mapsetK Try.underlying95 (klawI Try.underlying3) rfl rfl trivial rfl (mo.carry hB0) (fun w31 mo31 hw hz31 => ?_)
     have hR0 := (hB0.mono (fun _ _ f => f.elim)).trans (hw.mono (fun _ _ e => e))
     refine L.nil ?_
     refine thn_n ?_
     refine LAD.done (by kernel_rfl) (by kernel_rfl) hR0 ?_
     have hb := hb.carryR hR0 (fun e => hne e)
     have mo := mo
     refine thn_n ?_
     refine W.seq ?_
     refine W.region ?_
     refine L.val (x_mv (v := .pointer _) rfl) rfl ?_
     refine L.val (x_nil rfl) rfl ?_
     refine L.val (x_fa kses3_fo97_3 rfl) rfl ?_
     refine L.val (x_ld (v := .int _ _) kses3_oc3 rfl (hb.cell0 rfl)) rfl ?_
     refine L.val (x_as (v := .int _ _) rfl) rfl ?_
     refine L.nil ?_
     refine thn_n ?_
     refine W.ret (fin_mk (.inr rfl) ?_)
     refine ⟨by rw [Int.natCast_add]; rfl, ?_⟩
     have hn : ∀ j, wD12.heap.size ≤ j → ¬ j = bo := fun j hj e => by omega
     refine begin_done h hb rfl mo31 (bx29.carryR hw (hn _ (by omega))) (mp25.carryR hw (hn _ (by omega))) (mp26.carryR hw (hn _ (by omega))) (mp27.carryR hw (hn _ (by omega))) (hg1.trans (hR0.mono (fun _ _ e => .inr e))) (by omega) (by omega)
   ·refine L.mkmapK (κ := Str) (K := S) (V := fun _ => True) Try.underlying108 rfl (fun w26 mp26 hw hz26 => ?_)
    have hB0 := hB0.carry hw; have hR0 := hR0.carry hw
    refine L.nil ?_
    refine thn_n ?_
    refine LAD.step (rs := [13, 15]) hR0 (fun _ => hB0) (by kernel_rfl) (by simp) ⟨⟨_, rfl, ?_⟩, ⟨_, rfl, ?_⟩, trivial⟩
    ·refine L.mkmapK (κ := Str) (K := S) (V := fun _ => True) Try.underlying107 rfl (fun w25 mp25 hw hz25 => ?_)
     have hB0 := hB0.carry hw; have hR0 := hR0.carry hw; have mp26 := mp26.carry hw
     refine L.nil ?_
     refine thn_n ?_
     refine LAD.step (rs := [15]) hR0 (fun _ => hB0) (by kernel_rfl) (by simp) ⟨⟨_, rfl, ?_⟩, trivial⟩
     refine L.mkmapK (κ := Str) (K := S) (V := fun _ => True) Try.underlying108 rfl (fun w27 mp27 hw hz27 => ?_)
     have hB0 := hB0.carry hw; have hR0 := hR0.carry hw; have mp26 := mp26.carry hw; have mp25 := mp25.carry hw
     refine L.nil ?_
     refine thn_n ?_
     refine LAD.take0 (i := 16) rfl (by kernel_rfl) (by kernel_rfl) (by kernel_rfl) (by kernel_rfl) (fun w hw => x_build (cells := [.int _ _, .slice _ _ _, .map _, .map _, .map _]) kses3_si110 rfl rfl) rfl ?_
     refine LAD.step (rs := [17]) hR0 (fun _ => hB0) (by kernel_rfl) (by simp) ⟨⟨_, rfl, ?_⟩, trivial⟩
     refine L.box (cs := _) rfl rfl (fun w29 bx29 hw hz29 => ?_)
     have hB0 := hB0.carry hw; have hR0 := hR0.carry hw; have mp26 := mp26.carry hw; have mp25 := mp25.carry hw; have mp27 := mp27.carry hw
     refine L.nil ?_
     refine thn_n ?_
     refine LAD.step (rs := [18]) hR0 (fun _ => hB0) (by kernel_rfl) (by simp) ⟨⟨_, rfl, ?_⟩, trivial⟩
     refine L.mapsetK Try.underlying95 (klawI Try.underlying3) rfl rfl trivial rfl (mo.carry hB0) (fun w31 mo31 hw hz31 => ?_)
     have hR0 := (hB0.mono (fun _ _ f => f.elim)).trans (hw.mono (fun _ _ e => e))
     refine L.nil ?_
     refine thn_n ?_
     refine LAD.done (by kernel_rfl) (by kernel_rfl) hR0 ?_
     have hb := hb.carryR hR0 (fun e => hne e)
     have mo := mo
     refine thn_n ?_
     refine W.seq ?_
     refine W.region ?_
     refine L.val (x_mv (v := .pointer _) rfl) rfl ?_
     refine L.val (x_nil rfl) rfl ?_
     refine L.val (x_fa kses3_fo97_3 rfl) rfl ?_
     refine L.val (x_ld (v := .int _ _) kses3_oc3 rfl (hb.cell0 rfl)) rfl ?_
     refine L.val (x_as (v := .int _ _) rfl) rfl ?_
     refine L.nil ?_
     refine thn_n ?_
     refine W.ret (fin_mk (.inr rfl) ?_)
     refine ⟨by rw [Int.natCast_add]; rfl, ?_⟩
     have hn : ∀ j, wD12.heap.size ≤ j → ¬ j = bo := fun j hj e => by omega
     refine begin_done h hb rfl mo31 (bx29.carryR hw (hn _ (by omega))) (mp25.carryR hw (hn _ (by omega))) (mp26.carryR hw (hn _ (by omega))) (mp27.carryR hw (hn _ (by omega))) (hg1.trans (hR0.mono (fun _ _ e => .inr e))) (by omega) (by omega)
    ·refine L.mkmapK (κ := Str) (K := S) (V := fun _ => True) Try.underlying108 rfl (fun w27 mp27 hw hz27 => ?_)
     have hB0 := hB0.carry hw; have hR0 := hR0.carry hw; have mp26 := mp26.carry hw
     refine L.nil ?_
     refine thn_n ?_
     refine LAD.step (rs := [13]) hR0 (fun _ => hB0) (by kernel_rfl) (by simp) ⟨⟨_, rfl, ?_⟩, trivial⟩
     refine L.mkmapK (κ := Str) (K := S) (V := fun _ => True) Try.underlying107 rfl (fun w25 mp25 hw hz25 => ?_)
     have hB0 := hB0.carry hw; have hR0 := hR0.carry hw; have mp26 := mp26.carry hw; have mp27 := mp27.carry hw
     refine L.nil ?_
     refine thn_n ?_
     refine LAD.take0 (i := 16) rfl (by kernel_rfl) (by kernel_rfl) (by kernel_rfl) (by kernel_rfl) (fun w hw => x_build (cells := [.int _ _, .slice _ _ _, .map _, .map _, .map _]) kses3_si110 rfl rfl) rfl ?_
     refine LAD.step (rs := [17]) hR0 (fun _ => hB0) (by kernel_rfl) (by simp) ⟨⟨_, rfl, ?_⟩, trivial⟩
     refine L.box (cs := _) rfl rfl (fun w29 bx29 hw hz29 => ?_)
     have hB0 := hB0.carry hw; have hR0 := hR0.carry hw; have mp26 := mp26.carry hw; have mp27 := mp27.carry hw; have mp25 := mp25.carry hw
     refine L.nil ?_
     refine thn_n ?_
     refine LAD.step (rs := [18]) hR0 (fun _ => hB0) (by kernel_rfl) (by simp) ⟨⟨_, rfl, ?_⟩, trivial⟩
     refine L.mapsetK Try.underlying95 (klawI Try.underlying3) rfl rfl trivial rfl (mo.carry hB0) (fun w31 mo31 hw hz31 => ?_)
     have hR0 := (hB0.mono (fun _ _ f => f.elim)).trans (hw.mono (fun _ _ e => e))
     refine L.nil ?_
     refine thn_n ?_
     refine LAD.done (by kernel_rfl) (by kernel_rfl) hR0 ?_
     have hb := hb.carryR hR0 (fun e => hne e)
     have mo := mo
     refine thn_n ?_
     refine W.seq ?_
     refine W.region ?_
     refine L.val (x_mv (v := .pointer _) rfl) rfl ?_
     refine L.val (x_nil rfl) rfl ?_
     refine L.val (x_fa kses3_fo97_3 rfl) rfl ?_
     refine L.val (x_ld (v := .int _ _) kses3_oc3 rfl (hb.cell0 rfl)) rfl ?_
     refine L.val (x_as (v := .int _ _) rfl) rfl ?_
     refine L.nil ?_
     refine thn_n ?_
     refine W.ret (fin_mk (.inr rfl) ?_)
     refine ⟨by rw [Int.natCast_add]; rfl, ?_⟩
     have hn : ∀ j, wD12.heap.size ≤ j → ¬ j = bo := fun j hj e => by omega
     refine begin_done h hb rfl mo31 (bx29.carryR hw (hn _ (by omega))) (mp25.carryR hw (hn _ (by omega))) (mp26.carryR hw (hn _ (by omega))) (mp27.carryR hw (hn _ (by omega))) (hg1.trans (hR0.mono (fun _ _ e => .inr e))) (by omega) (by omega)
   ·refine L.mkmapK (κ := Str) (K := S) (V := fun _ => True) Try.underlying108 rfl (fun w27 mp27 hw hz27 => ?_)
    have hB0 := hB0.carry hw; have hR0 := hR0.carry hw
    refine L.nil ?_
    refine thn_n ?_
    refine LAD.step (rs := [13, 14]) hR0 (fun _ => hB0) (by kernel_rfl) (by simp) ⟨⟨_, rfl, ?_⟩, ⟨_, rfl, ?_⟩, trivial⟩
    ·refine L.mkmapK (κ := Str) (K := S) (V := fun _ => True) Try.underlying107 rfl (fun w25 mp25 hw hz25 => ?_)
     have hB0 := hB0.carry hw; have hR0 := hR0.carry hw; have mp27 := mp27.carry hw
     refine L.nil ?_
     refine thn_n ?_
     refine LAD.step (rs := [14]) hR0 (fun _ => hB0) (by kernel_rfl) (by simp) ⟨⟨_, rfl, ?_⟩, trivial⟩
     refine L.mkmapK (κ := Str) (K := S) (V := fun _ => True) Try.underlying108 rfl (fun w26 mp26 hw hz26 => ?_)
     have hB0 := hB0.carry hw; have hR0 := hR0.carry hw; have mp27 := mp27.carry hw; have mp25 := mp25.carry hw
     refine L.nil ?_
     refine thn_n ?_
     refine LAD.take0 (i := 16) rfl (by kernel_rfl) (by kernel_rfl) (by kernel_rfl) (by kernel_rfl) (fun w hw => x_build (cells := [.int _ _, .slice _ _ _, .map _, .map _, .map _]) kses3_si110 rfl rfl) rfl ?_
     refine LAD.step (rs := [17]) hR0 (fun _ => hB0) (by kernel_rfl) (by simp) ⟨⟨_, rfl, ?_⟩, trivial⟩
     refine L.box (cs := _) rfl rfl (fun w29 bx29 hw hz29 => ?_)
     have hB0 := hB0.carry hw; have hR0 := hR0.carry hw; have mp27 := mp27.carry hw; have mp25 := mp25.carry hw; have mp26 := mp26.carry hw
     refine L.nil ?_
     refine thn_n ?_
     refine LAD.step (rs := [18]) hR0 (fun _ => hB0) (by kernel_rfl) (by simp) ⟨⟨_, rfl, ?_⟩, trivial⟩
     refine L.mapsetK Try.underlying95 (klawI Try.underlying3) rfl rfl trivial rfl (mo.carry hB0) (fun w31 mo31 hw hz31 => ?_)
     have hR0 := (hB0.mono (fun _ _ f => f.elim)).trans (hw.mono (fun _ _ e => e))
     refine L.nil ?_
     refine thn_n ?_
     refine LAD.done (by kernel_rfl) (by kernel_rfl) hR0 ?_
     have hb := hb.carryR hR0 (fun e => hne e)
     have mo := mo
     refine thn_n ?_
     refine W.seq ?_
     refine W.region ?_
     refine L.val (x_mv (v := .pointer _) rfl) rfl ?_
     refine L.val (x_nil rfl) rfl ?_
     refine L.val (x_fa kses3_fo97_3 rfl) rfl ?_
     refine L.val (x_ld (v := .int _ _) kses3_oc3 rfl (hb.cell0 rfl)) rfl ?_
     refine L.val (x_as (v := .int _ _) rfl) rfl ?_
     refine L.nil ?_
     refine thn_n ?_
     refine W.ret (fin_mk (.inr rfl) ?_)
     refine ⟨by rw [Int.natCast_add]; rfl, ?_⟩
     have hn : ∀ j, wD12.heap.size ≤ j → ¬ j = bo := fun j hj e => by omega
     refine begin_done h hb rfl mo31 (bx29.carryR hw (hn _ (by omega))) (mp25.carryR hw (hn _ (by omega))) (mp26.carryR hw (hn _ (by omega))) (mp27.carryR hw (hn _ (by omega))) (hg1.trans (hR0.mono (fun _ _ e => .inr e))) (by omega) (by omega)
    ·refine L.mkmapK (κ := Str) (K := S) (V := fun _ => True) Try.underlying108 rfl (fun w26 mp26 hw hz26 => ?_)
     have hB0 := hB0.carry hw; have hR0 := hR0.carry hw; have mp27 := mp27.carry hw
     refine L.nil ?_
     refine thn_n ?_
     refine LAD.step (rs := [13]) hR0 (fun _ => hB0) (by kernel_rfl) (by simp) ⟨⟨_, rfl, ?_⟩, trivial⟩
     refine L.mkmapK (κ := Str) (K := S) (V := fun _ => True) Try.underlying107 rfl (fun w25 mp25 hw hz25 => ?_)
     have hB0 := hB0.carry hw; have hR0 := hR0.carry hw; have mp27 := mp27.carry hw; have mp26 := mp26.carry hw
     refine L.nil ?_
     refine thn_n ?_
     refine LAD.take0 (i := 16) rfl (by kernel_rfl) (by kernel_rfl) (by kernel_rfl) (by kernel_rfl) (fun w hw => x_build (cells := [.int _ _, .slice _ _ _, .map _, .map _, .map _]) kses3_si110 rfl rfl) rfl ?_
     refine LAD.step (rs := [17]) hR0 (fun _ => hB0) (by kernel_rfl) (by simp) ⟨⟨_, rfl, ?_⟩, trivial⟩
     refine L.box (cs := _) rfl rfl (fun w29 bx29 hw hz29 => ?_)
     have hB0 := hB0.carry hw; have hR0 := hR0.carry hw; have mp27 := mp27.carry hw; have mp26 := mp26.carry hw; have mp25 := mp25.carry hw
     refine L.nil ?_
     refine thn_n ?_
     refine LAD.step (rs := [18]) hR0 (fun _ => hB0) (by kernel_rfl) (by simp) ⟨⟨_, rfl, ?_⟩, trivial⟩
     refine L.mapsetK Try.underlying95 (klawI Try.underlying3) rfl rfl trivial rfl (mo.carry hB0) (fun w31 mo31 hw hz31 => ?_)
     have hR0 := (hB0.mono (fun _ _ f => f.elim)).trans (hw.mono (fun _ _ e => e))
     refine L.nil ?_
     refine thn_n ?_
     refine LAD.done (by kernel_rfl) (by kernel_rfl) hR0 ?_
     have hb := hb.carryR hR0 (fun e => hne e)
     have mo := mo
     refine thn_n ?_
     refine W.seq ?_
     refine W.region ?_
     refine L.val (x_mv (v := .pointer _) rfl) rfl ?_
     refine L.val (x_nil rfl) rfl ?_
     refine L.val (x_fa kses3_fo97_3 rfl) rfl ?_
     refine L.val (x_ld (v := .int _ _) kses3_oc3 rfl (hb.cell0 rfl)) rfl ?_
     refine L.val (x_as (v := .int _ _) rfl) rfl ?_
     refine L.nil ?_
     refine thn_n ?_
     refine W.ret (fin_mk (.inr rfl) ?_)
     refine ⟨by rw [Int.natCast_add]; rfl, ?_⟩
     have hn : ∀ j, wD12.heap.size ≤ j → ¬ j = bo := fun j hj e => by omega
     refine begin_done h hb rfl mo31 (bx29.carryR hw (hn _ (by omega))) (mp25.carryR hw (hn _ (by omega))) (mp26.carryR hw (hn _ (by omega))) (mp27.carryR hw (hn _ (by omega))) (hg1.trans (hR0.mono (fun _ _ e => .inr e))) (by omega) (by omega)
end Go.Gx
namespace Go.Gx
variable {P : Program} {n m : Nat} {Q : Post} {D : List Deferred} {E : Env} {w : World} {F : Fence}
def isDefer (o : Oper) : Bool := match o.op with
  | .defer _ => true
  | _ => false
theorem rowsIn_wide {row : String} {args : Array Value} {R : Value → World → Prop} (h : Rows P row args w R) : RowsIn Fence.wide m P row args w R := fun c cs _ =>
  let ⟨v, w', r, s⟩ := h c cs; ⟨v, w', r, stepsIn_wide.2 s⟩
theorem LI.of_L {i : Nat} {ops : Array Oper} {l : List Oper} (h : L P n ops Q l D E w) (hd : l.all (fun o => !isDefer o) = true) : LI (Fence.wide.inRound i) m P n ops Q l D E w := by
  suffices H : ∀ (l : List Oper) (a : Act) (w : World), l.all (fun o => !isDefer o) = true → wpList P ops (lift n Q) l a w → wpListIn (Fence.wide.inRound i) m P ops (lift n Q) l a w from fun a ha => H l a w hd (h a ha)
  intro l
  induction l with
  | nil => intro a w _ h; exact h
  | cons o r ih =>
    intro a w hd h
    rw [List.all_cons, Bool.and_eq_true] at hd
    have hnd : ∀ c, o.op ≠ .defer c := fun c e => by have := hd.1; simp [isDefer, e] at this
    unfold wpList at h
    unfold wpListIn
    split
    · rename_i hw; rw [if_pos hw] at h
      rcases h with h | ⟨_, a', w', h⟩
      · refine ⟨fun f _ => trivial, ?_⟩
        rw [Oper.semAt_eq _ _ _ hnd]
        unfold Oper.wp at h
        generalize (execOp a.eval o).run P w = res at h ⊢
        cases res with
        | ok x w' =>
          cases x <;> simp only [Oper.upon, Oper.uponIn] at h ⊢ <;> try exact ih _ _ hd.2 h
          · refine ⟨fun h => (by cases h), (callsIn_wide (n := m - 1)).2 (h.mono fun e w'' h => ?_)⟩
            cases e with
            | returned v => exact ih _ _ hd.2 h
            | panicked c => exact h
            | outgrown => obtain ⟨a', w', h⟩ := h; exact absurd rfl h.1
          · exact ⟨fun h => (by cases h), rowsIn_wide (h.mono fun v w'' h => ih _ _ hd.2 h)⟩
        | halt x w' => cases x <;> simp only [Oper.upon, Oper.uponIn] at h ⊢ <;> try exact h
      · exact absurd rfl h.1
    · rename_i hw; rw [if_neg hw] at h; exact ⟨fun f _ => trivial, ih _ _ hd.2 h⟩
theorem WI.mono {c : Code} {Q' : Post} (h : WI F m P n c Q D E w) (hq : ∀ e D E w, Q e D E w → Q' e D E w) : WI F m P n c Q' D E w := fun a ha =>
  wpIn_mono (h a ha) fun _ _ _ ⟨h1, E', h2, h3⟩ => ⟨h1, E', h2, hq _ _ _ _ h3⟩
theorem WI.seq {c d : Code} (h : WI F m P n c (thn (WI F m P n d Q) Q) D E w) : WI F m P n (.seq c d) Q D E w := by
  intro a ha
  refine wpIn_seq (wpIn_mono (h a ha) ?_)
  rintro e a' w' ⟨he, E', hE, hq⟩
  cases e <;> simp only [thn, Exit.then] at hq ⊢
  case normal => exact hq a' hE
  case outgrown => exact (he rfl).elim
  all_goals exact ⟨by simp, E', hE, hq⟩
theorem WI.skip (h : Q .normal D E w) : WI F m P n .skip Q D E w := fun _ ha => wpIn_skip (lift_mk (by simp) ha h)
theorem WI.label {l : Nat} (h : Q .normal D E w) : WI F m P n (.label l) Q D E w := fun _ ha => wpIn_label (lift_mk (by simp) ha h)
theorem WI.ret (h : Q .ret D E w) : WI F m P n .ret Q D E w := fun _ ha => wpIn_ret (lift_mk (by simp) ha h)
theorem WI.exit {id : Nat} (h : Q (.exit id) D E w) : WI F m P n (.exit id) Q D E w := fun _ ha => wpIn_exit (lift_mk (by simp) ha h)
theorem WI.cond {c : Operand} {x y : Code} {b : Bool} (hc : ev E c = .bool b) (ht : b = true → WI F m P n x Q D E w) (hf : b = false → WI F m P n y Q D E w) : WI F m P n (.cond c x y) Q D E w := by
  intro a ha
  exact wpIn_cond_split (t := b) (by rw [ha.eval]; exact hc) (fun h => ht h a ha) (fun h => hf h a ha)
theorem WI.reg {i id : Nat} {l : List Oper} (hd : l.all (fun o => !isDefer o) = true) (h : L P n l.toArray Q l D E w) : WI (Fence.wide.inRound i) m P n (.region id l.toArray false) Q D E w := WI.region (LI.of_L h hd)
theorem LI.yieldN {ops : Array Oper} {r : List Oper} {d : Nat} {g : Operand} {xs : Array Operand} {tys : Array TypeId} {t : TypeId} {p : String} {af : Array Edge} {l : Nat} {vs : List Value} {R : Ending → World → Prop} (hF : ∀ f, F.fn f) (hdep : F.depth = none)
    (hg : ev E g = .func (.yield l) #[] #[]) (hx : xs.toList.map (ev E) = vs) (hd : Nat.blt d n = true) (hy : YieldAt F (m - 1) P l vs.toArray w R) (hr : ∀ e w', R e w' → ∃ u, e = .returned u)
    (k : ∀ u w', R (.returned u) w' → LI F m P n ops Q r D (upd E d u) w') : LI F m P n ops Q (⟨some d, .call ⟨.value g, xs, tys⟩, t, p, af, none⟩ :: r) D E w := by
  intro a ha
  obtain ⟨fn, tmps, assign, body, hrun, hR⟩ := hy
  have hxs : xs.map (ev E) = vs.toArray := by apply Array.ext'; simpa using hx
  unfold wpListIn
  rw [if_pos (by simp [Region.wanted])]
  refine ⟨fun f _ => hF f, ?_⟩
  rw [Oper.semAt_plain F _ _ (fun c h => by cases h), ha.eval]
  have hrun2 : (execOp (ev E) ⟨some d, .call ⟨.value g, xs, tys⟩, t, p, af, none⟩).run P w = .ok (.round l fn tmps assign body) w := by
    simp [execOp, resolve, invoke, hg, hxs, hrun, go_sem]
  rw [hrun2, Oper.uponIn_round]
  refine ⟨fun h => (by rw [hdep] at h; cases h), RoundIn.mono hR ?_⟩
  intro e w' hR'
  obtain ⟨u, rfl⟩ := hr e w' hR'
  exact k u w' hR' _ (ha.put u hd)
def updN (E : Env) : List (Nat × Value) → Env
  | [] => E
  | (p, v) :: l => updN (upd E p v) l
theorem fr_updN : ∀ {l : List (Nat × Value)} {E : Env} {tmps : Array Value}, Fr [] n ({ tmps, defers := [] } : Act) E → l.all (fun x => Nat.blt x.1 n) = true →
    Fr [] n ({ tmps := l.foldl (fun t x => t.setIfInBounds x.1 x.2) tmps, defers := [] } : Act) (updN E l)
  | [], _, _, h, _ => h
  | (p, v) :: l, E, tmps, h, hl => by
    rw [List.all_cons, Bool.and_eq_true] at hl
    exact fr_updN (tmps := tmps.setIfInBounds p v) (h.put v hl.1) hl.2
def rndX {α : Type} (B n₀ : Nat) (I : List α → World → Prop) (Ix : Code → List α → World → Prop) (xs : List α) (W : World) : Post := fun e _ _ W' => match e with
  | .normal => KeepsFrom B W W' ∧ KpB n₀ W W' ∧ I xs W'
  | .ret => KeepsFrom B W W' ∧ Ix .ret xs W'
  | .exit id => KeepsFrom B W W' ∧ Ix (.exit id) xs W'
  | _ => False
theorem W.rangeFx {α : Type} {g : Operand} {ps : Array Tmp} {assign body : Code} {gf : Nat} {lb : Array Value} {encs : α → Array Value} {n₀ N : Nat} {So Sp : List α → Prop} {w0 : World}
    (hg : ev E g = .func (.func gf) #[] lb) (eg : Go.Proofs.Enters P gf) (hseq : SeqStopsK Fence.wide 1 P gf lb encs (KpB n₀) So Sp N w0) (hb0 : RowKit.Below w0.heap.size w0 w) (hn0 : n₀ ≤ w.heap.size)
    (hps : ∀ x, (encs x).size = ps.size) (hpn : ps.toList.all (fun p => Nat.blt p n) = true)
    (I : List α → World → Prop) (Ix : Code → List α → World → Prop) (hI : OwnFrom w.heap.size I) (hIx : ∀ c, OwnFrom w.heap.size (Ix c)) (h0 : I [] w)
    (Ax : α → Env → World → Prop) (hAx : ∀ x a', OwnFrom w.heap.size (fun (_ : Unit) W => Ax x a' W))
    (hassign : ∀ (l : Nat) (pre : List α) (x : α) (W : World), I pre W → WI (Fence.wide.inRound l) 0 P n assign (fun e D' E' W' => e = .normal ∧ D' = [] ∧ KeepsFrom w.heap.size W W' ∧ KpB n₀ W W' ∧ I pre W' ∧ Ax x E' W') [] (updN E (ps.toList.zip (encs x).toList)) W)
    (hbody : ∀ (l : Nat) (pre : List α) (x : α) (E' : Env) (W : World), I pre W → Ax x E' W → pre.length < N → WI (Fence.wide.inRound l) 0 P n body (rndX w.heap.size n₀ I Ix (pre ++ [x]) W) [] E' W)
    (hdone : ∀ (Db : Nat) (xs : List α) (w' : World), w.heap.size ≤ Db → So xs → I xs w' → w'.heap[Db]? = some (.deferred (some [])) → Q .normal ({ target := .collected Db, args := #[] } :: D) E w')
    (hstop : ∀ (Db : Nat) (c : Code) (pre : List α) (w' : World), w.heap.size ≤ Db → Sp pre → Ix c pre w' → w'.heap[Db]? = some (.deferred (some [])) → W P n c Q ({ target := .collected Db, args := #[] } :: D) E w') :
    W P n (.rangeFunc g ps assign body) Q D E w := by
  refine W.wide (m := 2) ?_
  intro a ha
  have h1 : Fr [] n ({ tmps := a.tmps, defers := [] } : Act) E := ⟨rfl, ha.size, ha.get⟩
  refine wpIn_rangeFunc_ownH rfl (by decide) (by rw [ha.eval]; exact hg) trivial eg hseq (fun h k => ⟨h.1.trans k.1, h.2.trans k.2⟩) (fun W l o o' hl h hc hk => ⟨belowK_b hn0 W l o o' hl h hc hk, walksK_b (w := w) W l o o' hl h hc hk⟩) hb0 hps I Ix hI hIx h0
    (fun x a' W => ∃ E', Fr [] n a' E' ∧ Ax x E' W) (fun x a' s X Y row hs hg hr => ?_) ?_ ?_ ?_ ?_
  · obtain ⟨E', h1, h2⟩ := hs
    exact ⟨E', h1, hAx x E' () X Y row h2 hg hr⟩
  · intro l pre x W' K hi hK
    have hz : (ps.zip (encs x)).foldl (fun t (p, v) => t.setIfInBounds p v) a.tmps = (ps.toList.zip (encs x).toList).foldl (fun t x => t.setIfInBounds x.1 x.2) a.tmps := by
      rw [← Array.foldl_toList, Array.toList_zip]
    have hall : (ps.toList.zip (encs x).toList).all (fun x => Nat.blt x.1 n) = true := by
      rw [List.all_eq_true] at hpn ⊢
      intro y hy
      obtain ⟨p, v⟩ := y
      exact hpn p (List.of_mem_zip hy).1
    have hfr := fr_updN (tmps := a.tmps) (l := ps.toList.zip (encs x).toList) h1 hall
    rw [hz]
    refine wpIn_mono (hassign l pre x W' hi _ hfr) ?_
    rintro e a' w'' ⟨_, E', hE, rfl, hD, k1, k2, k3, k4⟩
    rw [hD] at hE
    exact hK a' w'' k1 k2 k3 ⟨E', hE, k4⟩
  · rintro l pre x a' W' _ _ hi ⟨E', hE, hA⟩ hlen
    refine wpIn_mono (hbody l pre x E' W' hi hA hlen a' hE) ?_
    rintro e a3 w3 ⟨h1, E3, hE3, hq⟩
    cases e <;> simp only [rndX, ownPostG] at hq ⊢ <;> exact hq
  · intro Db xs w' hD hS hi hK
    exact lift_mk (by simp) ⟨by rw [← ha.defers], ha.size, ha.get⟩ (hdone Db xs w' hD hS hi hK)
  · intro Db c pre w' hD hS hi hK
    exact wpIn_wide.2 (hstop Db c pre w' hD hS hi hK _ ⟨by rw [← ha.defers], ha.size, ha.get⟩)
theorem kp_of_bel {n₀ : Nat} {w' : World} (B : Nat) (h : Bel w w') (hn : n₀ ≤ w.heap.size) : KeepsFrom B w w' ∧ KpB n₀ w w' := by
  have hs : ∀ k o, w.heap[k]? = some o → w'.heap[k]? = some o := fun k o hk => (h.block k (Array.getElem?_eq_some_iff.1 hk).1 (fun f => f)).trans hk
  exact ⟨⟨h.size, fun k o _ hk _ => hs k o hk⟩, ⟨h.os, h.tape, h.output, h.size, fun k hk => h.block k (by omega) (fun f => f)⟩, ⟨h.size, fun k o hk _ => hs k o hk⟩⟩
theorem kf_of_gr {R : Nat → Prop} {w' : World} (B : Nat) (h : Gr R w w') (hR : ∀ k o, R k → w.heap[k]? = some o → o.isCells = true) : KeepsFrom B w w' := (keeps_of_gr h hR).from B
theorem Box.cells {b : Nat} {T : TypeId} {cs : List Value} (h : Box w b T cs) {o : Obj} (ho : w.heap[b]? = some o) : o.isCells = true := by
  unfold Box at h; rw [h] at ho; cases ho; rfl
theorem Box.from {b : Nat} {T : TypeId} {cs : List Value} {w' : World} {row : Option Nat} (h : Box w b T cs) (hg : w.grownBy w' row) (hr : ∀ r, row = some r → ∃ o : Obj, w.heap[r]? = some o ∧ o.isCells = false) : Box w' b T cs :=
  h.carryR (gr_of_grown hg) fun e => by
    obtain ⟨o, ho, hc⟩ := hr _ e.symm
    rw [h.cells ho] at hc; cases hc
theorem Bel.from {a w' : World} {row : Option Nat} (h : Bel a w) (hg : w.grownBy w' row) (hr : ∀ r, row = some r → a.heap.size ≤ r) : Bel a w' :=
  h.step (gr_of_grown hg) fun i hi e => by have := hr _ e.symm; omega
theorem defk {R : Nat → Prop} {w' : World} {k : Nat} {o : Obj} (g : Gr R w w') (h : w.heap[k]? = some o) (hR : ¬ R k) : w'.heap[k]? = some o := (g.block k (Array.getElem?_eq_some_iff.1 h).1 hR).trans h
def finMR (P : Program) (fn : Func) (Φ : Value → World → Prop) : Post := fun e D E w => (e = .normal ∨ e = .ret) ∧ ∃ Db, D = [{ target := .collected Db, args := #[] }] ∧ w.heap[Db]? = some (.deferred (some [])) ∧
  ∃ v, (∀ a : Array Value, (∀ t, a.getD t undef = E t) → (results fn a).run P (w.putObj Db (.deferred none)) = .ok v (w.putObj Db (.deferred none))) ∧ Φ v (w.putObj Db (.deferred none))
theorem finMR_mk {fn : Func} {Φ : Value → World → Prop} {e : Exit} (he : e = .normal ∨ e = .ret) (h : ∃ Db, D = [{ target := .collected Db, args := #[] }] ∧ w.heap[Db]? = some (.deferred (some [])) ∧
  ∃ v, (∀ a : Array Value, (∀ t, a.getD t undef = E t) → (results fn a).run P (w.putObj Db (.deferred none)) = .ok v (w.putObj Db (.deferred none))) ∧ Φ v (w.putObj Db (.deferred none))) : finMR P fn Φ e D E w := ⟨he, h⟩
theorem ret_of_W_marksR {f : FuncId} {fn : Func} {c : Code} {args : Array Value} {Φ : Value → World → Prop}
    (hf : P.funcs[f]? = some fn) (hb : fn.body = some c) (hn : args.size ≤ fn.ntmps) (h : W P fn.ntmps c (finMR P fn Φ) [] (env0 args.toList) w) : Ret P f args w Φ := by
  refine callsIn_wide.1 (callsIn_of_wp_marks (n := 2) hf hb trivial (wpIn_wide.2 (wp_mono (h _ (fr0 hn)) ?_)))
  rintro e a' w' ⟨he, E', hE, h1, Db, hD, hK, v, hv, hΦ⟩
  have key : LeavesInM Fence.wide 2 P fn a'.tmps (fun e w' => ∃ v, e = .returned v ∧ Φ v w') a'.defers .returning w' := by
    rw [hD]
    exact ⟨by simp, .inl ⟨_, _, rfl, run_takeDeferred hK, ⟨v, hv _ hE.get, _, rfl, hΦ⟩⟩⟩
  rcases h1 with rfl | rfl
  · exact key
  · exact key
theorem run_load1 {T : TypeId} {a : Addr} {v : Value} (ht : oneCellT P T = true) (hc : w.cell? a = some v) : (loadVar T a).run P w = .ok v w := by
  have hb : ∀ w, (isAgg T).run P w = .ok false w := by
    unfold oneCellT at ht
    cases hu : P.underlying T with
    | none => simp [hu] at ht
    | some d =>
      intro w
      refine Go.Proofs.run_isAgg_plain hu ?_ w
      cases d <;> simp_all
  simp [loadVar, hb, hc]
theorem resC2 {fn : Func} {t u : Tmp} {T U : TypeId} {b1 b2 : Nat} {T1 T2 : TypeId} {v1 v2 : Value} (hr : fn.results = #[.cell t T, .cell u U]) (h1 : oneCellT P T = true) (h2 : oneCellT P U = true)
    (e1 : E t = .pointer (some ⟨b1, 0, none⟩)) (e2 : E u = .pointer (some ⟨b2, 0, none⟩)) (x1 : Box w b1 T1 [v1]) (x2 : Box w b2 T2 [v2]) : ∀ a : Array Value, (∀ t, a.getD t undef = E t) → (results fn a).run P w = .ok (.tuple #[v1, v2]) w := by
  intro a ha
  have g1 : a.getD t undef = .pointer (some ⟨b1, 0, none⟩) := by rw [ha, e1]
  have g2 : a.getD u undef = .pointer (some ⟨b2, 0, none⟩) := by rw [ha, e2]
  have l1 : (loadVar T ⟨b1, 0, none⟩).run P w = .ok v1 w := run_load1 h1 (x1.cell (i := 0) rfl)
  have l2 : (loadVar U ⟨b2, 0, none⟩).run P w = .ok v2 w := run_load1 h2 (x2.cell (i := 0) rfl)
  rw [Array.getD_eq_getD_getElem?] at g1 g2
  simp [results, hr, g1, g2, asAddr, l1, l2]
end Go.Gx
