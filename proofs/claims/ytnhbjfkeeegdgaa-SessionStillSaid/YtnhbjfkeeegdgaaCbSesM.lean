/- Sessions: the law Still. Conditions: none. -/
import Derived.Test.YtnhbjfkeeegdgaaCbSesL
namespace Go.Gx
open Go.Proofs
theorem ksesm_ag36 : aggT Try.prog 36 5 = true := by kernel_rfl
theorem ksesm_el41 : elT Try.prog 41 8 = true := by kernel_rfl
theorem ksesm_en12 : Go.Proofs.Enters Try.prog 12 := Go.Proofs.enters_of Try.func12 (by kernel_rfl) rfl
theorem ksesm_en13 : Go.Proofs.Enters Try.prog 13 := Go.Proofs.enters_of Try.func13 (by kernel_rfl) rfl
theorem ksesm_en14 : Go.Proofs.Enters Try.prog 14 := Go.Proofs.enters_of Try.func14 (by kernel_rfl) rfl
theorem ksesm_en15 : Go.Proofs.Enters Try.prog 15 := Go.Proofs.enters_of Try.func15 (by kernel_rfl) rfl
theorem ksesm_en17 : Go.Proofs.Enters Try.prog 17 := Go.Proofs.enters_of Try.func17 (by kernel_rfl) rfl
theorem ksesm_en18 : Go.Proofs.Enters Try.prog 18 := Go.Proofs.enters_of Try.func18 (by kernel_rfl) rfl
theorem ksesm_en19 : Go.Proofs.Enters Try.prog 19 := Go.Proofs.enters_of Try.func19 (by kernel_rfl) rfl
theorem ksesm_en20 : Go.Proofs.Enters Try.prog 20 := Go.Proofs.enters_of Try.func20 (by kernel_rfl) rfl
theorem ksesm_en21 : Go.Proofs.Enters Try.prog 21 := Go.Proofs.enters_of Try.func21 (by kernel_rfl) rfl
theorem ksesm_en22 : Go.Proofs.Enters Try.prog 22 := Go.Proofs.enters_of Try.func22 (by kernel_rfl) rfl
theorem ksesm_fo36_0 : fieldOff Try.prog 36 0 = some 0 := by kernel_rfl
theorem ksesm_fo36_1 : fieldOff Try.prog 36 1 = some 1 := by kernel_rfl
theorem ksesm_oc3 : oneCellT Try.prog 3 = true := by kernel_rfl
theorem ksesm_si41 : structInfo Try.prog 41 = some ([(0, 1), (1, 1), (2, 1), (3, 1), (4, 1), (5, 1), (6, 1), (7, 1)], [Value.slice none 0 0, Value.slice none 0 0, Value.slice none 0 0, Value.slice none 0 0, Value.int .i64 0, Value.int .i64 0, Value.bool false, Value.bool false]) := by kernel_rfl
theorem ksesm_sz36 : (Try.prog.info? 36).map (·.size) = some 5 := by kernel_rfl
theorem ksesm_zr36 : (Try.prog.info? 36).bind (·.zero) = some (Value.agg [Value.int .i64 0, Value.int .i64 0, S [], S [], Value.bool false].toArray) := by kernel_rfl
structure St (first : List Ed) (s : Bs) : Prop where
  fi : s.first = first
  le : 1 ≤ s.all.length
  op : (s.all.getD 0 default).opn = true
  at_ : (s.all.getD 0 default).at_ = 0
  ed : (s.all.getD 0 default).eds = []
theorem St.sees {first : List Ed} {s : Bs} (h : St first s) : s.seesE (s.ses 1) = first := by
  have e : s.ses 1 = s.all.getD 0 default := rfl
  unfold Bs.seesE Bs.hist
  rw [e, h.at_, h.ed, h.fi]; simp
theorem St.open {first : List Ed} {s : Bs} (h : St first s) : s.isOpen 1 := ⟨by decide, by have := h.le; omega, h.op⟩
def stA (first : List Ed) (k : Str) : Str × Bool := match valE first k with
  | some v => (v, true)
  | none => ([], false)
theorem St.getA {first : List Ed} {s : Bs} (h : St first s) (k : Str) : s.getA 1 k = stA first k := by unfold Bs.getA; rw [h.sees]; rfl
theorem St.keysA {first : List Ed} {s : Bs} (h : St first s) : s.keysA 1 [] = ((comes [] first).map (·.key)).filter fun k => List.isPrefixOf [] k := by unfold Bs.keysA; rw [h.sees]
theorem St.upd {first : List Ed} {s : Bs} (h : St first s) {id : Int} {x : Sx} (hid : id.toNat - 1 ≠ 0) : St first (s.upd id x) := by
  have e : (s.upd id x).all.getD 0 default = s.all.getD 0 default := by
    by_cases hi : id.toNat - 1 < s.all.length
    · unfold Bs.upd; dsimp only; rw [getD_set hi, if_neg (fun e => hid e.symm)]
    · unfold Bs.upd; dsimp only; rw [List.set_eq_of_length_le (by omega)]
  exact ⟨h.fi, by rw [upd_len]; exact h.le, by rw [e]; exact h.op, by rw [e]; exact h.at_, by rw [e]; exact h.ed⟩
theorem St.one {first : List Ed} {s : Bs} (h : St first s) {x : Sx} (h1 : x.opn = true) (h2 : x.at_ = 0) (h3 : x.eds = []) : St first (s.upd 1 x) := by
  have e : (s.upd 1 x).all.getD 0 default = x := by
    unfold Bs.upd; dsimp only
    exact getD_set_same (by have := h.le; omega)
  exact ⟨h.fi, by rw [upd_len]; exact h.le, by rw [e]; exact h1, by rw [e]; exact h2, by rw [e]; exact h3⟩
theorem St.getS {first : List Ed} {s : Bs} (h : St first s) (k : Str) : St first (s.getS 1 k) := by
  unfold Bs.getS
  split
  · exact h.one h.op h.at_ h.ed
  · exact h
theorem St.keysS {first : List Ed} {s : Bs} (h : St first s) (k : Str) : St first (s.keysS 1 k) := h.one h.op h.at_ h.ed
theorem St.step {first : List Ed} {s : Bs} (h : St first s) (ds : List Dd) {a : Ac} (ha : ¬ (1 ≤ a.kind ∧ a.kind ≤ 5 ∧ a.id = 1)) : St first (stepS s ds a).1 := by
  unfold stepS
  split
  · refine ⟨h.fi, by simp [Bs.begin_], ?_, ?_, ?_⟩ <;>
    · have e : (s.begin_).all.getD 0 default = s.all.getD 0 default := by
        show (s.all ++ [_]).getD 0 default = _
        rw [getD_append_one, if_neg (by have := h.le; omega)]
      rw [e]
      first | exact h.op | exact h.at_ | exact h.ed
  · next hk =>
    split
    · exact h
    · next hid =>
      have hne : a.id.toNat - 1 ≠ 0 := by omega
      dsimp only
      split
      · split
        · dsimp only; unfold Bs.getS; split
          · exact h.upd hne
          · exact h
        · exact h
      · split
        · split
          · exact h.upd hne
          · exact h
        · split
          · split
            · exact h.upd hne
            · exact h
          · split
            · split
              · dsimp only; unfold Bs.commitS; split
                · exact h.upd hne
                · have := h.upd (x := { s.ses a.id with opn := false }) hne
                  exact ⟨this.fi, this.le, this.op, this.at_, this.ed⟩
              · exact h
            · dsimp only; split
              · exact h.upd hne
              · exact h
theorem strs_goes2 {ow ow' : Labels} {w w' : World} {v : Value} {l : List Str} (h : StrsAt (fun k => ow k ≠ none) w v l) (g : Goes2 0 1 w w' ow ow') : StrsAt (fun k => ow' k ≠ none) w' v l := by
  refine ((h.mono (A' := fun k => ow k ≠ none ∨ w.heap.size ≤ k) fun k hk hn => hn.resolve_right (by omega)).carryR g.gr (fun j m => .inl (by rcases m with ⟨p, hp⟩ | ⟨p, hp⟩ <;> (rw [hp]; simp)))).mono fun k _ hn => ?_
  by_cases hlt : k < w.heap.size
  · rcases g.old k hlt with e | ⟨-, e⟩
    · exact .inl (by rw [← e]; exact hn)
    · exact absurd e hn
  · exact .inr (by omega)
theorem own_of_box {w : World} {b sz k : Nat} {e : TypeId} {xs : List Value} (h : Box w b e xs) (hl : xs.length = k * sz) (hk : k ≤ 9223372036854775807) : Own w 0 e sz (.slice (some ⟨b, 0, none⟩) k k) k xs :=
  ⟨hl, .inr ⟨b, k, xs.toArray, rfl, Nat.zero_le _, h, Nat.le_refl _, hk, by simpa using hl, by simp [← hl]⟩⟩
theorem DBnd.mono {N M : Nat} {ds : List Dd} (h : DBnd N ds) (hM : N ≤ M) : DBnd M ds := ⟨Nat.le_trans h.1 hM, fun d hd => Nat.le_trans (h.2 d hd) hM⟩
theorem dids_one {ow : Labels} {w w' : World} {d : Dd} {b : Nat} (hf : ∀ k, w.heap.size ≤ k → ow k = none) (hB : Bel w w') (hb : w.heap.size ≤ b) (hbx : Box w' b 41 (didV (.slice none 0 0) (.slice none 0 0) (.slice none 0 0) (.slice none 0 0) d)) (he : d.acts = [] ∧ d.values = [] ∧ d.there = [] ∧ d.keys = []) :
    ∃ owd, Keeps 1 (fun _ => False) w w' ow owd ∧ DidsAt owd 1 w' (.slice (some ⟨b, 0, none⟩) 1 1) [d] := by
  have hK : Keeps 1 (fun _ => False) w w' ow (relab ow 1 [(b, .log)]) := keeps_relab _ (hB.mono (fun _ _ f => f.elim)) hf (fun x hx => by rw [List.mem_singleton.1 hx]; exact ⟨hb, hbx.lt⟩)
  refine ⟨_, hK, [didV (.slice none 0 0) (.slice none 0 0) (.slice none 0 0) (.slice none 0 0) d], ⟨?_, fun j hj => ?_⟩, rfl, fun i hi => ?_⟩
  · exact own_of_box (k := 1) (by simpa using hbx) (by simp [didV]) (by omega)
  · have : j = b := by simpa [Value.ownBlock] using hj
    subst this; simp [relab]
  · have : i = 0 := by simp at hi; omega
    subst this
    obtain ⟨e1, e2, e3, e4⟩ := he
    have hn : ∀ {e : TypeId} {sz : Nat} {p : Part}, OwnP (relab ow 1 [(b, .log)]) 1 p w' e sz (.slice none 0 0) 0 [] := ⟨own_nil, fun j hj => by simp [Value.ownBlock] at hj⟩
    show DidAt _ _ _ _ (didV (.slice none 0 0) (.slice none 0 0) (.slice none 0 0) (.slice none 0 0) d) d
    refine ⟨_, _, _, _, [], rfl, ?_, ?_, ?_, ?_, ?_, ?_⟩
    · rw [e1]; exact hn
    · rw [e2]; exact hn
    · rw [e3]; exact hn
    · rw [e4]; exact hn
    · rw [e4]; exact RowsC.nil
    · rw [e1, e2, e3, e4]; exact ⟨by simp, rfl, rfl, rfl⟩
theorem still_law (A B : Nat → Prop) (first : List Ed) (acts : List Ac) (key : Str) (v0 v1 : Value) (w : World) (h0 : EdsAt A w v0 first) (h1 : RecsAt AcC 5 B w v1 acts) (_ : key.length ≤ 9223372036854775807) :
    Ret Try.prog 4 #[v0, v1, S key] w fun r w' => r = .bool true ∧ Bel w w' := by
  have hok0 := eds_ok h0
  have h0r := h0
  obtain ⟨p0, c0, row0, rfl, -⟩ := id h0
  obtain ⟨p1, c1, row1, rfl, a1, a2, a3, hR⟩ := h1
  have h1r : RecsAt AcC 5 B w (.slice p1 acts.length c1) acts := ⟨p1, c1, row1, rfl, a1, a2, a3, hR⟩
  refine ret_of_W Try.func4 rfl (Nat.le_of_ble_eq_true rfl) (res1 rfl) ?_
  have hB := Gr.refl (fun _ => False) w
  refine W.seq ?_
  refine W.region ?_
  refine L.val (x_as (v := .bool _) rfl) rfl ?_
  refine L.nil ?_
  refine thn_n ?_
  refine W.seq ?_
  refine W.seq ?_
  refine W.region ?_
  refine L.val (x_mv (v := .slice _ _ _) rfl) rfl ?_
  refine L.ret (x_call ksesm_en12 rfl) rfl (fews_ok B _ acts _ h1r) ?_
  rintro v23 w23 ⟨rfl, hw⟩
  have hB := hB.carry hw
  refine L.val (x_not rfl) rfl ?_
  refine L.val (x_mv (v := .bool _) rfl) rfl ?_
  refine' L.group 3 26 28 28 25 false rfl ?_ ?_ ?_
  rotate_left 1
  ·intro g25 hg25
   have h25 := (not_f g25)
   refine L.gyes' (dj := 25) (b := _) rfl rfl g25 ?_
   refine L.val (x_mv (v := .slice _ _ _) rfl) rfl ?_
   refine L.gyes' (dj := 25) (b := _) rfl rfl g25 ?_
   refine L.ret (x_call ksesm_en13 rfl) rfl (few_ok A _ first 40 _ (h0r.carry hB)) ?_
   rintro v27 w27 ⟨rfl, hq⟩
   rw [hq]
   refine L.gyes' (dj := 25) (b := _) rfl rfl g25 ?_
   refine L.val (x_not rfl) rfl ?_
   refine L.nil ?_
   refine thn_n ⟨rfl, ?_, ?_, fun _ => rfl⟩
   ·exact hg25
   ·repeat (first | exact jeq.refl _ _ _ | refine jeq.upd rfl ?_ | refine jeq.jk rfl rfl ?_)
  ·intro g25
   refine L.gno (dj := 25) (b := _) rfl rfl g25 rfl ?_
   refine L.gno (dj := 25) (b := _) rfl rfl g25 rfl ?_
   refine L.gno (dj := 25) (b := _) rfl rfl g25 rfl ?_
   refine L.nil (thn_n ⟨rfl, Gr.refl _ _, ?_⟩)
   refine ⟨?_, fun h => h.elim⟩
   repeat (first | exact jeq.refl _ _ _ | refine jeq.upd rfl ?_ | refine jeq.jk rfl rfl ?_)
  intro J25 w25 hw j25
  have hB := hB.carry hw
  refine L.val (x_or rfl j25) rfl ?_
  refine L.val (x_mv (v := .bool _) rfl) rfl ?_
  refine' L.group0 3 31 33 33 30 false rfl ?_ ?_ ?_
  rotate_left 1
  ·intro g30
   have h30 := g30
   refine L.gyes' (dj := 30) (b := _) rfl rfl g30 ?_
   refine L.val (x_mv (v := S _) rfl) rfl ?_
   refine L.gyes' (dj := 30) (b := _) rfl rfl g30 ?_
   refine L.val (x_len_str Try.underlying9 rfl) rfl ?_
   refine L.gyes' (dj := 30) (b := _) rfl rfl g30 ?_
   refine L.val (x_gtr rfl rfl) rfl ?_
   refine L.nil ?_
   refine thn_n ⟨rfl, rfl, ?_, rfl⟩
   repeat (first | exact jeq.refl _ _ _ | refine jeq.upd rfl ?_ | refine jeq.jk rfl rfl ?_)
  ·intro g30
   refine L.gno (dj := 30) (b := _) rfl rfl g30 rfl ?_
   refine L.gno (dj := 30) (b := _) rfl rfl g30 rfl ?_
   refine L.gno (dj := 30) (b := _) rfl rfl g30 rfl ?_
   refine L.nil (thn_n ⟨rfl, rfl, ?_⟩)
   repeat (first | exact jeq.refl _ _ _ | refine jeq.upd rfl ?_ | refine jeq.jk rfl rfl ?_)
  intro J30 j30
  refine L.val (x_or rfl j30) rfl ?_
  refine L.nil ?_
  refine thn_n ?_
  refine W.cond (b := _) rfl (fun g34 => ?_) (fun g34 => ?_)
  ·have h34 := g34
   refine W.seq ?_
   refine W.region ?_
   refine L.ret (x_call ksesm_en14 rfl) rfl (awake40 _) ?_
   rintro v35 w35 ⟨rfl, hw⟩
   have hB := hB.carry hw
   refine L.val (x_as (v := .bool _) rfl) rfl ?_
   refine L.nil ?_
   refine thn_n ?_
   refine W.ret (thn_r (fin_mk (.inr rfl) ?_))
   exact ⟨rfl, hB⟩
  ·have h34 := g34
   simp only [Bool.or_eq_false_iff, Bool.not_eq_false', decide_eq_false_iff_not] at g34
   have hfew : FewB acts = true := by simpa using g34.1.1
   have hfirst : fewB first 40 = true := by simpa using g34.1.2
   have hal : acts.length ≤ 150 := by unfold FewB at hfew; simp only [Bool.and_eq_true, decide_eq_true_eq] at hfew; exact hfew.1
   have hfl : first.length ≤ 40 := by unfold fewB at hfirst; simp only [Bool.and_eq_true, decide_eq_true_eq] at hfirst; exact hfirst.1
   refine W.skip ?_
   refine thn_n ?_
   refine W.seq ?_
   refine W.region ?_
   refine L.val (x_mv (v := .slice _ _ _) rfl) rfl ?_
   refine L.ret (x_call ksesm_en15 rfl) rfl (new_ok (fun _ => none) 0 _ first _ ((h0r.carry hB).mono (fun b hb h => absurd h (by omega))) (fun _ _ => rfl) (fun _ _ h => by cases h) hok0) ?_
   rintro v37 w37 ⟨b, bh, bo, lh0, ow0, rfl, hG0, hN0⟩
   have hgs := hB.size
   have hB := hB.step hG0.gr (fun i hi m => by obtain ⟨p, m⟩ := m; cases m)
   have hlow0 : ∀ j, j < w.heap.size → ow0 j = none := fun j hj => (hG0.old j (by omega)).elim (fun e => e) (fun e => e.2)
   have hb0 : Bnd 0 ⟨first, [], []⟩ := ⟨by simp, by simp, hfl, by simp, by simp⟩
   have hs0 := hB.size
   refine L.val (x_as (v := .pointer _) rfl) rfl ?_
   refine L.nil ?_
   refine thn_n ?_
   refine W.seq ?_
   refine W.seq ?_
   refine W.region ?_
   refine L.val (x_mv (v := .pointer _) rfl) rfl ?_
   refine L.val (x_eqp0 Try.underlying27 rfl rfl) rfl ?_
   refine L.nil ?_
   refine thn_n ?_
   refine W.cond (b := _) rfl (fun g39 => ?_) (fun g39 => ?_)
   ·have h39 := g39
    cases g39
   ·have h39 := g39
    refine W.skip ?_
    refine thn_n ?_
    refine W.seq ?_
    refine W.region ?_
    refine L.val (x_mv (v := .pointer _) rfl) rfl ?_
    refine L.ret (x_call ksesm_en18 rfl) rfl (begin_ok ow0 0 b bh bo ⟨first, [], []⟩ _ lh0 _ _ _ hN0 (by simp)) ?_
    rintro v41 w41 ⟨rfl, ow1, lo1, hG1, hN1⟩
    have hb1 := hb0.begin_
    have hst1 : St first (Bs.begin_ ⟨first, [], []⟩) := ⟨rfl, by simp [Bs.begin_], rfl, rfl, rfl⟩
    obtain ⟨hlow1, hnm1⟩ := low_goes hlow0 (by omega) (hG1.two (td := 1))
    have hB := hB.step (hG1.two (td := 1)).gr (fun i hi m => hnm1 i hi m)
    have hs1 := hB.size
    generalize Bs.begin_ ⟨first, [], []⟩ = s1 at hN1 hb1 hst1
    refine L.val (x_as (v := .int _ _) rfl) rfl ?_
    refine L.nil ?_
    refine thn_n ?_
    refine W.seq ?_
    refine W.region ?_
    refine L.val (x_mv (v := .pointer _) rfl) rfl ?_
    refine L.val (x_mv (v := .int _ _) rfl) rfl ?_
    refine L.val (x_mv (v := S _) rfl) rfl ?_
    refine L.ret (x_call ksesm_en19 rfl) rfl (get_ok ow1 0 b bh bo s1 _ lh0 _ _ 1 key _ hN1 (fun x hx => by have := (hb1.se x hx).2.2.1; omega) (by have := hb1.lg; simp only [List.length_cons]; omega)) ?_
    rintro v46 w46 ⟨rfl, hG2, hN2⟩
    rw [if_pos hst1.open] at hN2 ⊢
    rw [hst1.getA]
    have hb2 := hb1.getS 1 key
    have hst2 := hst1.getS key
    obtain ⟨-, hnm2⟩ := low_goes hlow1 (by omega) (hG2.two (td := 1))
    have hB := hB.step (hG2.two (td := 1)).gr (fun i hi m => hnm2 i hi m)
    have hs2 := hB.size
    generalize s1.getS 1 key = s2 at hN2 hb2 hst2
    refine L.val (x_mv (v := _) rfl) rfl ?_
    refine L.val (x_ext (v := S _) rfl rfl) rfl ?_
    refine L.val (x_ext (v := .bool _) rfl rfl) rfl ?_
    refine L.val (x_ext (v := .int _ _) rfl rfl) rfl ?_
    refine L.val (x_as (v := S _) rfl) rfl ?_
    refine L.val (x_as (v := .bool _) rfl) rfl ?_
    refine L.val (x_as (v := .int _ _) rfl) rfl ?_
    refine L.nil ?_
    refine thn_n ?_
    refine W.seq ?_
    refine W.region ?_
    refine L.val (x_mv (v := .pointer _) rfl) rfl ?_
    refine L.val (x_mv (v := .int _ _) rfl) rfl ?_
    refine L.ret (x_call ksesm_en20 rfl) rfl (keysOk ow1 0 b bh bo s2 _ lh0 _ _ 1 [] _ hN2 (fun x hx => by have := (hb2.se x hx).2; omega) (by have := hb2.lg; simp only [List.length_cons]; omega) (hb2.flat (by omega))) ?_
    rintro v53 w53 ⟨⟨u53, rfl, hu⟩, hG3, hN3⟩
    have hf2 := hN2.free
    rw [if_pos hst2.open] at hN3 hu ⊢
    rw [hst2.keysA] at hu
    have hu := hu.mono (A' := fun k => ow1 k ≠ none) (fun k hk hn => Decidable.byContradiction fun hlt => hn (hf2 k (by omega)))
    obtain ⟨pl, cl, rfl, -⟩ := id hu
    have hb3 := hb2.keysS 1 []
    have hst3 := hst2.keysS []
    obtain ⟨-, hnm3⟩ := low_goes hlow1 (by omega) (hG3.two (td := 1))
    have hB := hB.step (hG3.two (td := 1)).gr (fun i hi m => hnm3 i hi m)
    have hs3 := hB.size
    generalize s2.keysS 1 [] = s3 at hN3 hb3 hst3
    generalize hkl : ((comes [] first).map (·.key)).filter (fun k => List.isPrefixOf [] k) = kl at hu
    refine L.val (x_mv (v := _) rfl) rfl ?_
    refine L.val (x_ext (v := .slice _ _ _) rfl rfl) rfl ?_
    refine L.val (x_ext (v := .int _ _) rfl rfl) rfl ?_
    refine L.val (x_as (v := .slice _ _ _) rfl) rfl ?_
    refine L.val (x_as (v := .int _ _) rfl) rfl ?_
    refine L.nil ?_
    refine thn_n ?_
    refine W.seq ?_
    refine W.region ?_
    refine L.val (x_build (cells := [.slice _ _ _, .slice _ _ _, .slice _ _ _, .slice _ _ _, .int _ _, .int _ _, .bool _, .bool _]) ksesm_si41 rfl rfl) rfl ?_
    have huo := hu
    refine L.bs (sz := 8) (cells := didV (.slice none 0 0) (.slice none 0 0) (.slice none 0 0) (.slice none 0 0) ⟨[], [], [], [], 0, -1, false, false⟩) Try.underlying29 ksesm_el41 rfl rfl rfl rfl (fun w57 bx57 hw hz57 => ?_)
    have hB := hB.carry hw; have hu := hu.carry hw
    obtain ⟨ow2, hKd, hDs⟩ := dids_one (d := ⟨[], [], [], [], 0, -1, false, false⟩) hN3.free hw (Nat.le_refl _) (by simpa using bx57) ⟨rfl, rfl, rfl, rfl⟩
    obtain ⟨hlow2, -⟩ := low_goes hlow1 (by omega) (hKd.goes.two' (tb := 0))
    have hN4 := hN3.goes hKd.goes (by decide)
    have hu := strs_goes2 huo (hKd.goes.two' (tb := 0))
    refine L.val (x_as (v := .slice _ _ _) rfl) rfl ?_
    refine L.nil ?_
    refine thn_n ?_
    refine W.seq ?_
    refine W.seq ?_
    refine W.region ?_
    refine L.val (x_as (v := .int _ _) rfl) rfl ?_
    refine L.nil ?_
    refine thn_n ?_
    refine W.block ?_
    refine W.loop (fun m' E w' => ∃ (k : Nat) (s : Bs) (ds : List Dd) (ow : Labels) (v14 vl : Value) (lh : List (Str × Value)) (lo : List (Int × Value)) (rows : List (List Value)), m' = acts.length - k ∧ E 1 = .slice p1 acts.length c1 ∧ E 2 = S key ∧ E 7 = .pointer (some ⟨b, 0, none⟩) ∧ E 8 = .int .i64 1 ∧ E 9 = S (stA first key).1 ∧ E 10 = .bool (stA first key).2 ∧ E 11 = .int .i64 0 ∧ E 12 = .slice pl kl.length cl ∧ E 13 = .int .i64 0 ∧ E 14 = v14 ∧ E 15 = .int .i64 (k : Nat) ∧ (k ≤ acts.length) ∧ (Bel w w') ∧ (∀ j, j < w.heap.size → ow j = none) ∧ (BaseAt ow 0 w' b s bh bo vl lh lo rows) ∧ (DidsAt ow 1 w' v14 ds) ∧ (Bnd (3 * k + 3) s) ∧ (DBnd (k + 1) ds) ∧ (St first s) ∧ (StrsAt (fun j => ow j ≠ none) w' (.slice pl kl.length cl) kl)) (acts.length) ?_ ?_
    ·exact ⟨0, s3, _, ow2, _, _, lh0, lo1, _, by omega, by first | rfl | exact vi (by omega) | exact vs (by first | assumption | (rw [hst]; done) | (rw [hst]; simp only [List.append_assoc])), by first | rfl | exact vi (by omega) | exact vs (by first | assumption | (rw [hst]; done) | (rw [hst]; simp only [List.append_assoc])), by first | rfl | exact vi (by omega) | exact vs (by first | assumption | (rw [hst]; done) | (rw [hst]; simp only [List.append_assoc])), by first | rfl | exact vi (by omega) | exact vs (by first | assumption | (rw [hst]; done) | (rw [hst]; simp only [List.append_assoc])), by first | rfl | exact vi (by omega) | exact vs (by first | assumption | (rw [hst]; done) | (rw [hst]; simp only [List.append_assoc])), by first | rfl | exact vi (by omega) | exact vs (by first | assumption | (rw [hst]; done) | (rw [hst]; simp only [List.append_assoc])) | exact vb (by assumption), by first | rfl | exact vi (by omega) | exact vs (by first | assumption | (rw [hst]; done) | (rw [hst]; simp only [List.append_assoc])), by first | rfl | exact vi (by omega) | exact vs (by first | assumption | (rw [hst]; done) | (rw [hst]; simp only [List.append_assoc])), by first | rfl | exact vi (by omega) | exact vs (by first | assumption | (rw [hst]; done) | (rw [hst]; simp only [List.append_assoc])), by first | rfl | exact vi (by omega) | exact vs (by first | assumption | (rw [hst]; done) | (rw [hst]; simp only [List.append_assoc])), by first | rfl | exact vi (by omega) | exact vs (by first | assumption | (rw [hst]; done) | (rw [hst]; simp only [List.append_assoc])), (by first | assumption | omega | rfl), (by first | assumption | omega | rfl), (by exact hlow2), (by exact hN4), (by exact hDs), (by exact hb3), (by exact ⟨by simp, by simp⟩), (by exact hst3), (by exact hu)⟩
    ·rintro _ E wL58 ⟨k, s, ds, ow, v14, vl, lh, lo, rows, em, e1, e2, e7, e8, e9, e10, e11, e12, e13, e14, e15, hk, hB, hlow, hBN, hDs, hbd, hdb, hst, hu⟩
     rw [upd_self e1, upd_self e2, upd_self e7, upd_self e8, upd_self e9, upd_self e10, upd_self e11, upd_self e12, upd_self e13, upd_self e14, upd_self e15]
     refine W.seq ?_
     refine W.seq ?_
     refine W.region ?_
     refine L.val (x_mv (v := .int _ _) rfl) rfl ?_
     refine L.val (x_mv (v := .slice _ _ _) rfl) rfl ?_
     refine L.val (x_len_slice Try.underlying23 rfl) rfl ?_
     refine L.val (x_lss rfl rfl) rfl ?_
     refine L.nil ?_
     refine thn_n ?_
     refine W.cond (b := _) rfl (fun g61 => ?_) (fun g61 => ?_)
     ·have h61 := of_decide_eq_true g61
      have hlt : k < acts.length := by omega
      obtain ⟨ba, oa, rfl, -, hca⟩ := (hR.carry hB).elem hlt
      have hra := (hR.each k hlt).1
      have hae := (hR.each k hlt).2
      rw [hra] at hca
      obtain ⟨p14, c14, hv14, -⟩ := Dids.row hDs
      subst hv14
      have hV := Gr.refl (fun _ => False) wL58
      have hsB := hB.size
      refine W.skip ?_
      refine thn_n ?_
      refine W.seq ?_
      refine W.block ?_
      refine W.seq ?_
      refine W.region ?_
      refine L.val (x_mv (v := .slice _ _ _) rfl) rfl ?_
      refine L.val (x_mv (v := .int _ _) rfl) rfl ?_
      refine L.val (x_ia (j := k) Try.underlying23 ksesm_sz36 rfl rfl (by omega) (by omega)) rfl ?_
      refine L.val (x_ldn (vs := acV (acts.getD k default)) ksesm_ag36 rfl rfl hca) rfl ?_
      refine L.alloc (cs := [Value.int .i64 0, Value.int .i64 0, S [], S [], Value.bool false]) ksesm_zr36 rfl rfl (fun w16 bx16 hw hz16 => ?_)
      have hB := hB.carry hw; have hV := hV.carry hw
      refine L.setRow ksesm_ag36 rfl rfl bx16 rfl rfl (acV_one _) (fun wl58 bx16 hw hzl58 => ?_)
      have hsz := hB.size
      have hB := hB.set hw (by omega); have hV := hV.set hw (by omega)
      refine L.nil ?_
      refine thn_n ?_
      refine W.seq ?_
      refine W.seq ?_
      refine W.region ?_
      refine L.val (x_fa ksesm_fo36_0 rfl) rfl ?_
      refine L.val (x_ld (v := .int _ _) ksesm_oc3 rfl (bx16.cell0 rfl)) rfl ?_
      refine L.val (x_geq rfl rfl) rfl ?_
      refine L.val (x_mv (v := .bool _) rfl) rfl ?_
      refine' L.group0 3 72 74 74 71 true rfl ?_ ?_ ?_
      rotate_left 1
      ·intro g71
       have h71 := of_decide_eq_true g71
       refine L.gyes' (dj := 71) (b := _) rfl rfl g71 ?_
       refine L.val (x_fa ksesm_fo36_0 rfl) rfl ?_
       refine L.gyes' (dj := 71) (b := _) rfl rfl g71 ?_
       refine L.val (x_ld (v := .int _ _) ksesm_oc3 rfl (bx16.cell0 rfl)) rfl ?_
       refine L.gyes' (dj := 71) (b := _) rfl rfl g71 ?_
       refine L.val (x_leq rfl rfl) rfl ?_
       refine L.nil ?_
       refine thn_n ⟨rfl, rfl, ?_, rfl⟩
       repeat (first | exact jeq.refl _ _ _ | refine jeq.upd rfl ?_ | refine jeq.jk rfl rfl ?_)
      ·intro g71
       refine L.gno (dj := 71) (b := _) rfl rfl g71 rfl ?_
       refine L.gno (dj := 71) (b := _) rfl rfl g71 rfl ?_
       refine L.gno (dj := 71) (b := _) rfl rfl g71 rfl ?_
       refine L.nil (thn_n ⟨rfl, rfl, ?_⟩)
       repeat (first | exact jeq.refl _ _ _ | refine jeq.upd rfl ?_ | refine jeq.jk rfl rfl ?_)
      intro J71 j71
      refine L.val (x_and rfl j71) rfl ?_
      refine L.val (x_mv (v := .bool _) rfl) rfl ?_
      refine' L.group0 4 77 80 80 76 true rfl ?_ ?_ ?_
      rotate_left 1
      ·intro g76
       have h76 := g76
       refine L.gyes' (dj := 76) (b := _) rfl rfl g76 ?_
       refine L.val (x_fa ksesm_fo36_1 rfl) rfl ?_
       refine L.gyes' (dj := 76) (b := _) rfl rfl g76 ?_
       refine L.val (x_ld (v := .int _ _) ksesm_oc3 rfl (bx16.cell0 rfl)) rfl ?_
       refine L.gyes' (dj := 76) (b := _) rfl rfl g76 ?_
       refine L.val (x_mv (v := .int _ _) rfl) rfl ?_
       refine L.gyes' (dj := 76) (b := _) rfl rfl g76 ?_
       refine L.val (x_eql rfl rfl) rfl ?_
       refine L.nil ?_
       refine thn_n ⟨rfl, rfl, ?_, rfl⟩
       repeat (first | exact jeq.refl _ _ _ | refine jeq.upd rfl ?_ | refine jeq.jk rfl rfl ?_)
      ·intro g76
       refine L.gno (dj := 76) (b := _) rfl rfl g76 rfl ?_
       refine L.gno (dj := 76) (b := _) rfl rfl g76 rfl ?_
       refine L.gno (dj := 76) (b := _) rfl rfl g76 rfl ?_
       refine L.gno (dj := 76) (b := _) rfl rfl g76 rfl ?_
       refine L.nil (thn_n ⟨rfl, rfl, ?_⟩)
       repeat (first | exact jeq.refl _ _ _ | refine jeq.upd rfl ?_ | refine jeq.jk rfl rfl ?_)
      intro J76 j76
      refine L.val (x_and rfl j76) rfl ?_
      refine L.nil ?_
      refine thn_n ?_
      refine W.cond (b := _) rfl (fun g81 => ?_) (fun g81 => ?_)
      ·have h81 := g81
       simp only [Bool.and_eq_true, decide_eq_true_eq] at g81
       have hlow9 := hlow
       have hDs9 := hDs.bel hV hBN.free
       have hBN9 := hBN.bel hV
       have hu9 := hu.carry hV
       have hst9 := hst
       have hbd9 := hbd.mono (M := 3 * (k + 1) + 3) (by omega)
       have hdb9 := hdb.mono (M := k + 1 + 1) (by omega)
       refine W.exit (thn_x (blk_hit ?_))
       refine thn_n ?_
       refine W.region ?_
       refine L.val (x_mv (v := .int _ _) rfl) rfl ?_
       refine L.val (x_add rfl rfl (wr64 (by omega))) rfl ?_
       refine L.val (x_as (v := .int _ _) rfl) rfl ?_
       refine L.nil ?_
       refine thn_n ⟨rfl, ?_⟩
       refine ⟨_, ?_, k + 1, _, _, _, _, _, _, _, _, rfl, by first | rfl | exact vi (by omega) | exact vs (by first | assumption | (rw [hst]; done) | (rw [hst]; simp only [List.append_assoc])), by first | rfl | exact vi (by omega) | exact vs (by first | assumption | (rw [hst]; done) | (rw [hst]; simp only [List.append_assoc])), by first | rfl | exact vi (by omega) | exact vs (by first | assumption | (rw [hst]; done) | (rw [hst]; simp only [List.append_assoc])), by first | rfl | exact vi (by omega) | exact vs (by first | assumption | (rw [hst]; done) | (rw [hst]; simp only [List.append_assoc])), by first | rfl | exact vi (by omega) | exact vs (by first | assumption | (rw [hst]; done) | (rw [hst]; simp only [List.append_assoc])), by first | rfl | exact vi (by omega) | exact vs (by first | assumption | (rw [hst]; done) | (rw [hst]; simp only [List.append_assoc])) | exact vb (by assumption), by first | rfl | exact vi (by omega) | exact vs (by first | assumption | (rw [hst]; done) | (rw [hst]; simp only [List.append_assoc])), by first | rfl | exact vi (by omega) | exact vs (by first | assumption | (rw [hst]; done) | (rw [hst]; simp only [List.append_assoc])), by first | rfl | exact vi (by omega) | exact vs (by first | assumption | (rw [hst]; done) | (rw [hst]; simp only [List.append_assoc])), by first | rfl | exact vi (by omega) | exact vs (by first | assumption | (rw [hst]; done) | (rw [hst]; simp only [List.append_assoc])), by first | rfl | exact vi (by omega) | exact vs (by first | assumption | (rw [hst]; done) | (rw [hst]; simp only [List.append_assoc])), (by first | assumption | omega | rfl), (by first | assumption | omega | rfl), (by exact hlow9), (by exact hBN9), (by exact hDs9), (by exact hbd9), (by exact hdb9), (by exact hst9), (by exact hu9)⟩
       omega
      ·have h81 := g81
       have hna : ¬ (1 ≤ (acts.getD k default).kind ∧ (acts.getD k default).kind ≤ 5 ∧ (acts.getD k default).id = 1) := fun ⟨q1, q2, q3⟩ => by
         simp only [Bool.and_eq_false_iff, decide_eq_false_iff_not] at g81
         rcases g81 with (e | e) | e <;> omega
       have hDs := hDs.bel hV hBN.free
       have hu := hu.carry hV
       have hBN := hBN.bel hV
       refine W.skip ?_
       refine thn_n ?_
       refine W.seq ?_
       refine W.region ?_
       refine L.val (x_mv (v := .pointer _) rfl) rfl ?_
       refine L.val (x_mv (v := .slice _ _ _) rfl) rfl ?_
       refine L.val (x_ldn (vs := _) ksesm_ag36 rfl rfl (bx16.row rfl)) rfl ?_
       have hs84 := hB.size
       refine L.ret (x_call ksesm_en17 rfl) rfl (step_ok ow 0 1 b bh bo (3 * k + 3) s ds (acts.getD k default) _ _ lh lo rows _ hBN hDs (by decide) hbd (hdb.mono (by omega)) (by omega) hae) ?_
       rintro v85 w85 ⟨ow4, vl4, lh4, lo4, rows4, hBN4, hDs4, hG4⟩
       obtain ⟨hlow4, hnm4⟩ := low_goes hlow (by omega) hG4
       have hB := hB.step hG4.gr (fun i hi m => hnm4 i hi m)
       have hu4 := strs_goes2 hu hG4
       have hst4 := hst.step ds hna
       have hbd4 := hbd.step ds (acts.getD k default)
       have hdb4 : DBnd (k + 1 + 1) (stepS s ds (acts.getD k default)).2 := hdb.step s (acts.getD k default)
       generalize (stepS s ds (acts.getD k default)).1 = s4 at hBN4 hst4 hbd4
       generalize (stepS s ds (acts.getD k default)).2 = ds4 at hDs4 hdb4
       obtain ⟨p85, c85, hv85, -⟩ := Dids.row hDs4
       subst hv85
       have hs85 := hB.size
       refine L.val (x_as (v := .slice _ _ _) rfl) rfl ?_
       refine L.nil ?_
       refine thn_n ?_
       refine W.seq ?_
       refine W.region ?_
       refine L.val (x_mv (v := .pointer _) rfl) rfl ?_
       refine L.val (x_mv (v := .int _ _) rfl) rfl ?_
       refine L.val (x_mv (v := S _) rfl) rfl ?_
       refine L.ret (x_call ksesm_en19 rfl) rfl (get_ok ow4 0 b bh bo s4 _ lh4 _ _ 1 key _ hBN4 (fun x hx => by have := (hbd4.se x hx).2.2.1; omega) (by have := hbd4.lg; simp only [List.length_cons]; omega)) ?_
       rintro v90 w90 ⟨rfl, hG5, hBN5⟩
       rw [if_pos hst4.open] at hBN5 ⊢
       rw [hst4.getA]
       have hbd5 := hbd4.getS 1 key
       have hst5 := hst4.getS key
       obtain ⟨-, hnm5⟩ := low_goes hlow4 (by omega) (hG5.two (td := 1))
       have hB := hB.step (hG5.two (td := 1)).gr (fun i hi m => hnm5 i hi m)
       have hDs5 := hDs4.goes hG5 (by decide)
       have hu5 := strs_goes2 hu4 (hG5.two (td := 1))
       have hs90 := hB.size
       generalize s4.getS 1 key = s5 at hBN5 hbd5 hst5
       refine L.val (x_mv (v := _) rfl) rfl ?_
       refine L.val (x_ext (v := S _) rfl rfl) rfl ?_
       refine L.val (x_ext (v := .bool _) rfl rfl) rfl ?_
       refine L.val (x_ext (v := .int _ _) rfl rfl) rfl ?_
       refine L.val (x_as (v := S _) rfl) rfl ?_
       refine L.val (x_as (v := .bool _) rfl) rfl ?_
       refine L.val (x_as (v := .int _ _) rfl) rfl ?_
       refine L.nil ?_
       refine thn_n ?_
       refine W.seq ?_
       refine W.region ?_
       refine L.val (x_mv (v := .pointer _) rfl) rfl ?_
       refine L.val (x_mv (v := .int _ _) rfl) rfl ?_
       refine L.ret (x_call ksesm_en20 rfl) rfl (keysOk ow4 0 b bh bo s5 _ lh4 _ _ 1 [] _ hBN5 (fun x hx => by have := (hbd5.se x hx).2; omega) (by have := hbd5.lg; simp only [List.length_cons]; omega) (hbd5.flat (by omega))) ?_
       rintro v97 w97 ⟨⟨u97, rfl, hu97⟩, hG6, hBN6⟩
       rw [if_pos hst5.open] at hBN6 hu97 ⊢
       rw [hst5.keysA, hkl] at hu97
       obtain ⟨pm, cm, rfl, -⟩ := id hu97
       have hbd6 := hbd5.keysS 1 []
       have hst6 := hst5.keysS []
       obtain ⟨-, hnm6⟩ := low_goes hlow4 (by omega) (hG6.two (td := 1))
       have hB := hB.step (hG6.two (td := 1)).gr (fun i hi m => hnm6 i hi m)
       have hDs6 := hDs5.goes hG6 (by decide)
       have hu6 := strs_goes2 hu5 (hG6.two (td := 1))
       have hs97 := hB.size
       have hV := Gr.refl (fun _ => False) w97
       refine L.val (x_mv (v := _) rfl) rfl ?_
       refine L.val (x_ext (v := .slice _ _ _) rfl rfl) rfl ?_
       refine L.val (x_ext (v := .int _ _) rfl rfl) rfl ?_
       refine L.val (x_as (v := .slice _ _ _) rfl) rfl ?_
       refine L.val (x_as (v := .int _ _) rfl) rfl ?_
       refine L.nil ?_
       refine thn_n ?_
       refine W.seq ?_
       refine W.region ?_
       refine L.val (x_mv (v := S _) rfl) rfl ?_
       refine L.val (x_mv (v := S _) rfl) rfl ?_
       refine L.val (x_nes rfl rfl) rfl ?_
       refine L.val (x_mv (v := .bool _) rfl) rfl ?_
       refine L.splitat (dj := 103) (b := _) rfl (fun g103 => ?_) (fun g103 => ?_)
       ·have h103 := sne_t g103
        simp at g103
       ·have h103 := sne_f g103
        refine L.gyes' (dj := 103) (b := _) rfl rfl g103 ?_
        refine L.val (x_mv (v := .bool _) rfl) rfl ?_
        refine L.gyes' (dj := 103) (b := _) rfl rfl g103 ?_
        refine L.val (x_mv (v := .bool _) rfl) rfl ?_
        refine L.gyes' (dj := 103) (b := _) rfl rfl g103 ?_
        refine L.val (x_neb Try.underlying4 rfl rfl) rfl ?_
        refine L.val (x_pick_f (v := .bool _) (congrArg Value.bool g103) rfl) rfl ?_
        refine L.val (x_mv (v := .bool _) rfl) rfl ?_
        refine L.splitat (dj := 108) (b := _) rfl (fun g108 => ?_) (fun g108 => ?_)
        ·have h108 := g108
         simp at g108
        ·have h108 := g108
         refine L.gyes' (dj := 108) (b := _) rfl rfl g108 ?_
         refine L.val (x_mv (v := .int _ _) rfl) rfl ?_
         refine L.gyes' (dj := 108) (b := _) rfl rfl g108 ?_
         refine L.val (x_mv (v := .int _ _) rfl) rfl ?_
         refine L.gyes' (dj := 108) (b := _) rfl rfl g108 ?_
         refine L.val (x_neq rfl rfl) rfl ?_
         refine L.val (x_pick_f (v := .bool _) (congrArg Value.bool g108) rfl) rfl ?_
         refine L.val (x_mv (v := .bool _) rfl) rfl ?_
         refine L.splitat (dj := 113) (b := _) rfl (fun g113 => ?_) (fun g113 => ?_)
         ·have h113 := dne_t g113
          simp at g113
         ·have h113 := dne_f g113
          refine L.gyes' (dj := 113) (b := _) rfl rfl g113 ?_
          refine L.val (x_mv (v := .slice _ _ _) rfl) rfl ?_
          refine L.gyes' (dj := 113) (b := _) rfl rfl g113 ?_
          refine L.val (x_mv (v := .slice _ _ _) rfl) rfl ?_
          refine L.gyes' (dj := 113) (b := _) rfl rfl g113 ?_
          refine L.ret (x_call ksesm_en21 rfl) rfl (same_ok _ _ _ _ kl kl _ hu6 hu97) ?_
          rintro v116 w116 ⟨rfl, hw⟩
          have hB := hB.carry hw; have hV := hV.carry hw
          refine L.gyes' (dj := 113) (b := _) rfl rfl g113 ?_
          refine L.val (x_not rfl) rfl ?_
          refine L.val (x_pick_f (v := .bool _) (congrArg Value.bool g113) rfl) rfl ?_
          refine L.val (x_mv (v := .bool _) rfl) rfl ?_
          refine L.splitat (dj := 119) (b := _) rfl (fun g119 => ?_) (fun g119 => ?_)
          ·have h119 := (not_t g119)
           simp at g119
          ·have h119 := (not_f g119)
           refine L.gyes' (dj := 119) (b := _) rfl rfl g119 ?_
           refine L.val (x_mv (v := .int _ _) rfl) rfl ?_
           refine L.gyes' (dj := 119) (b := _) rfl rfl g119 ?_
           refine L.val (x_mv (v := .int _ _) rfl) rfl ?_
           refine L.gyes' (dj := 119) (b := _) rfl rfl g119 ?_
           refine L.val (x_neq rfl rfl) rfl ?_
           refine L.val (x_pick_f (v := .bool _) (congrArg Value.bool g119) rfl) rfl ?_
           refine L.nil ?_
           refine thn_n ?_
           refine W.cond (b := _) rfl (fun g122 => ?_) (fun g122 => ?_)
           ·have h122 := dne_t g122
            simp at g122
           ·have h122 := dne_f g122
            have hlow9 := hlow4
            have hDs9 := hDs6.bel hV hBN6.free
            have hBN9 := hBN6.bel hV
            have hu9 := hu6.carry hV
            have hst9 := hst6
            have hbd9 := hbd6.mono (M := 3 * (k + 1) + 3) (by omega)
            have hdb9 := hdb4
            refine W.skip ?_
            refine blk_n ?_
            refine thn_n ?_
            refine W.region ?_
            refine L.val (x_mv (v := .int _ _) rfl) rfl ?_
            refine L.val (x_add rfl rfl (wr64 (by omega))) rfl ?_
            refine L.val (x_as (v := .int _ _) rfl) rfl ?_
            refine L.nil ?_
            refine thn_n ⟨rfl, ?_⟩
            refine ⟨_, ?_, k + 1, _, _, _, _, _, _, _, _, rfl, by first | rfl | exact vi (by omega) | exact vs (by first | assumption | (rw [hst]; done) | (rw [hst]; simp only [List.append_assoc])), by first | rfl | exact vi (by omega) | exact vs (by first | assumption | (rw [hst]; done) | (rw [hst]; simp only [List.append_assoc])), by first | rfl | exact vi (by omega) | exact vs (by first | assumption | (rw [hst]; done) | (rw [hst]; simp only [List.append_assoc])), by first | rfl | exact vi (by omega) | exact vs (by first | assumption | (rw [hst]; done) | (rw [hst]; simp only [List.append_assoc])), by first | rfl | exact vi (by omega) | exact vs (by first | assumption | (rw [hst]; done) | (rw [hst]; simp only [List.append_assoc])), by first | rfl | exact vi (by omega) | exact vs (by first | assumption | (rw [hst]; done) | (rw [hst]; simp only [List.append_assoc])) | exact vb (by assumption), by first | rfl | exact vi (by omega) | exact vs (by first | assumption | (rw [hst]; done) | (rw [hst]; simp only [List.append_assoc])), by first | rfl | exact vi (by omega) | exact vs (by first | assumption | (rw [hst]; done) | (rw [hst]; simp only [List.append_assoc])), by first | rfl | exact vi (by omega) | exact vs (by first | assumption | (rw [hst]; done) | (rw [hst]; simp only [List.append_assoc])), by first | rfl | exact vi (by omega) | exact vs (by first | assumption | (rw [hst]; done) | (rw [hst]; simp only [List.append_assoc])), by first | rfl | exact vi (by omega) | exact vs (by first | assumption | (rw [hst]; done) | (rw [hst]; simp only [List.append_assoc])), (by first | assumption | omega | rfl), (by first | assumption | omega | rfl), (by exact hlow9), (by exact hBN9), (by exact hDs9), (by exact hbd9), (by exact hdb9), (by exact hst9), (by exact hu9)⟩
            omega
     ·have h61 := dlt_f g61
      refine W.exit (thn_x (thn_x (blk_hit ?_)))
      refine thn_n ?_
      refine W.seq ?_
      refine W.region ?_
      refine L.val (x_mv (v := .int _ _) rfl) rfl ?_
      refine L.val (x_eql rfl rfl) rfl ?_
      refine L.val (x_mv (v := .bool _) rfl) rfl ?_
      refine L.splitat (dj := 126) (b := _) rfl (fun g126 => ?_) (fun g126 => ?_)
      ·have h126 := of_decide_eq_true g126
       refine L.gyes' (dj := 126) (b := _) rfl rfl g126 ?_
       refine L.val (x_mv (v := .int _ _) rfl) rfl ?_
       refine L.gyes' (dj := 126) (b := _) rfl rfl g126 ?_
       refine L.val (x_eql rfl rfl) rfl ?_
       refine L.val (x_pick_t (v := .bool _) (congrArg Value.bool g126) rfl) rfl ?_
       refine L.val (x_mv (v := .bool _) rfl) rfl ?_
       refine L.splitat (dj := 130) (b := _) rfl (fun g130 => ?_) (fun g130 => ?_)
       ·have h130 := of_decide_eq_true g130
        refine L.gyes' (dj := 130) (b := _) rfl rfl g130 ?_
        refine L.val (x_mv (v := .pointer _) rfl) rfl ?_
        refine L.gyes' (dj := 130) (b := _) rfl rfl g130 ?_
        refine L.val (x_mv (v := .int _ _) rfl) rfl ?_
        have hsE := hB.size
        refine L.gyes' (dj := 130) (b := _) rfl rfl g130 ?_
        refine L.ret (x_call ksesm_en22 rfl) rfl (abort_ok ow 0 b bh bo s _ lh lo rows 1 _ hBN) ?_
        rintro v133 w133 ⟨rfl, hG9, lo9, -⟩
        rw [if_pos hst.open]
        obtain ⟨-, hnm9⟩ := low_goes hlow (by omega) (hG9.two (td := 1))
        have hB := hB.step (hG9.two (td := 1)).gr (fun i hi m => hnm9 i hi m)
        refine L.gyes' (dj := 130) (b := _) rfl rfl g130 ?_
        refine L.val (x_eql rfl rfl) rfl ?_
        refine L.val (x_pick_t (v := .bool _) (congrArg Value.bool g130) rfl) rfl ?_
        refine L.val (x_mv (v := .bool _) rfl) rfl ?_
        refine L.splitat (dj := 136) (b := _) rfl (fun g136 => ?_) (fun g136 => ?_)
        ·have h136 := of_decide_eq_true g136
         refine L.gyes' (dj := 136) (b := _) rfl rfl g136 ?_
         refine L.ret (x_call ksesm_en14 rfl) rfl (awake40 _) ?_
         rintro v137 w137 ⟨rfl, hw⟩
         have hB := hB.carry hw
         refine L.val (x_pick_t (v := .bool _) (congrArg Value.bool g136) rfl) rfl ?_
         refine L.val (x_as (v := .bool _) rfl) rfl ?_
         refine L.nil ?_
         refine thn_n ?_
         refine W.ret (fin_mk (.inr rfl) ?_)
         exact ⟨rfl, hB⟩
        ·have h136 := of_decide_eq_false g136
         exact absurd g136 (by decide)
       ·have h130 := of_decide_eq_false g130
        exact absurd g130 (by decide)
      ·have h126 := of_decide_eq_false g126
       exact absurd g126 (by decide)
end Go.Gx
