/- Sessions: the law Alone. Conditions: none. -/
import Derived.Laws.StructEq
import Derived.Test.YtnhbjfkeeegdgaaCdSesT
namespace Go.Gx
open Go.Proofs
def Rel (s : Bs) (ds : List Dd) : Prop := ds.length = s.all.length ∧ ∀ i, i < ds.length → (ds.getD i default).at_ = (s.all.getD i default).at_ ∧ ((ds.getD i default).writes = true ↔ (s.all.getD i default).eds ≠ [])
theorem upd_at {s : Bs} {id : Int} {x : Sx} {j : Nat} (h1 : 1 ≤ id) (h2 : id ≤ s.all.length) : (s.upd id x).all.getD j default = if j = id.toNat - 1 then x else s.all.getD j default := getD_set (by omega)
theorem upd_len {s : Bs} {id : Int} {x : Sx} : (s.upd id x).all.length = s.all.length := by simp [Bs.upd]
theorem Rel.upd {s : Bs} {ds : List Dd} {id : Int} {x : Sx} {d' : Dd} (h : Rel s ds) (h1 : 1 ≤ id) (h2 : id ≤ s.all.length) (ha : d'.at_ = x.at_) (hw : d'.writes = true ↔ x.eds ≠ []) : Rel (s.upd id x) (ds.set (id.toNat - 1) d') := by
  have hl := h.1
  refine ⟨by rw [List.length_set, upd_len]; exact hl, fun i hi => ?_⟩
  rw [List.length_set] at hi
  rw [upd_at h1 h2, getD_set (by omega)]
  by_cases hi2 : i = id.toNat - 1
  · rw [if_pos hi2, if_pos hi2]; exact ⟨ha, hw⟩
  · rw [if_neg hi2, if_neg hi2]; exact h.2 i hi
theorem set_self {α : Type} {l : List α} {i : Nat} {d : α} (hi : i < l.length) : l.set i (l.getD i d) = l := by
  apply List.ext_getElem?
  intro j
  rw [List.getElem?_set]
  by_cases h : i = j
  · subst h; rw [if_pos rfl, if_pos hi, List.getD_eq_getElem?_getD, List.getElem?_eq_getElem hi]; rfl
  · rw [if_neg h]
theorem Rel.shut {s : Bs} {ds : List Dd} {id : Int} (h : Rel s ds) (h1 : 1 ≤ id) (h2 : id ≤ s.all.length) {d' : Dd} (hd : d'.at_ = (ds.getD (id.toNat - 1) default).at_ ∧ d'.writes = (ds.getD (id.toNat - 1) default).writes) : Rel (s.shut id) (ds.set (id.toNat - 1) d') := by
  have hl := h.1
  obtain ⟨r1, r2⟩ := h.2 (id.toNat - 1) (by omega)
  exact h.upd h1 h2 (hd.1.trans r1) (by rw [hd.2]; exact r2)
theorem eds_ok {A : Nat → Prop} {w : World} {v : Value} {l : List Ed} (h : EdsAt A w v l) : ∀ e ∈ l, EdOk e := fun e he => by
  obtain ⟨p, c, row, -, -, -, -, hR⟩ := h
  obtain ⟨i, hi, rfl⟩ := List.getElem_of_mem he
  have := (hR.each i hi).2
  rwa [List.getD_eq_getElem?_getD, List.getElem?_eq_getElem hi] at this
theorem low_goes {ow ow' : Labels} {w0 w w' : World} (hl : ∀ j, j < w0.heap.size → ow j = none) (hs : w0.heap.size ≤ w.heap.size) (g : Goes2 0 1 w w' ow ow') : (∀ j, j < w0.heap.size → ow' j = none) ∧ ∀ j, j < w0.heap.size → ¬ (Mine ow 0 j ∨ Mine ow 1 j) :=
  ⟨fun j hj => (g.old j (by omega)).elim (fun e => e.trans (hl j hj)) (fun e => e.2), fun j hj m => by rcases m with ⟨p, m⟩ | ⟨p, m⟩ <;> (rw [hl j hj] at m; cases m)⟩
theorem Dids.row {ow : Labels} {t : Nat} {w : World} {v : Value} {ds : List Dd} (h : DidsAt ow t w v ds) : ∃ pa ca, v = .slice pa ds.length ca ∧ ∀ i, i < ds.length → ∃ ba, pa = some ⟨ba, 0, none⟩ ∧ ba < w.heap.size ∧ ∃ va vv vt vk, (va.oneCell' = true ∧ vv.oneCell' = true ∧ vt.oneCell' = true ∧ vk.oneCell' = true) ∧ ∀ j, j < 8 → w.cell? ⟨ba, 0 + i * 8 + j, none⟩ = (didV va vv vt vk (ds.getD i default))[j]? := by
  obtain ⟨rows, hO, hrl, hrow⟩ := h
  obtain ⟨pa, ca, rfl, -⟩ := own_shape hO.1
  refine ⟨pa, ca, rfl, fun i hi => ?_⟩
  obtain ⟨ba, rfl⟩ := own_pos hO.1 (by omega)
  have h8 := dids_lens hrl hrow
  obtain ⟨va, vv, vt, vk, kr, hr, d2, d3, d4, d5, -⟩ := hrow i hi
  rcases Own.open hO.1 with ⟨e, -⟩ | ⟨b', c', tl, e, -, -, -, hbx⟩
  · cases e
  · simp only [Value.slice.injEq, Option.some.injEq, Addr.mk.injEq, and_true, true_and] at e
    obtain ⟨e, -⟩ := e
    subst e
    refine ⟨ba, rfl, hbx.lt, va, vv, vt, vk, ⟨own_one d2.1, own_one d3.1, own_one d4.1, own_one d5.1⟩, fun j hj => ?_⟩
    have hx : (didV va vv vt vk (ds.getD i default))[j]? = some ((didV va vv vt vk (ds.getD i default))[j]'(by simp [didV]; omega)) := List.getElem?_eq_getElem _
    rw [hx]
    rw [Nat.zero_add]
    exact hbx.cell (row_cell h8 (by omega) hj (by rw [hr]; exact hx))
theorem getD_mem {α : Type} {l : List α} {i : Nat} {d : α} (h : i < l.length) : l.getD i d ∈ l := by rw [List.getD_eq_getElem?_getD, List.getElem?_eq_getElem h]; exact List.getElem_mem h
end Go.Gx
namespace Go.Gx
open Go.Proofs
structure St (first : List Ed) (s : Bs) : Prop where
  fi : s.first = first
  le : 1 ≤ s.all.length
  op : (s.all.getD 0 default).opn = true
  at_ : (s.all.getD 0 default).at_ = 0
  ed : (s.all.getD 0 default).eds = []
theorem St.sees {first : List Ed} {s : Bs} (h : St first s) : s.seesE (s.ses 1) = first := by
  have e : s.ses 1 = s.all.getD 0 default := rfl
  unfold Bs.seesE Bs.hist
  rw [e, h.at_, h.ed, h.fi]; simp
theorem St.open {first : List Ed} {s : Bs} (h : St first s) : s.isOpen 1 := ⟨by decide, by have := h.le; omega, h.op⟩
def stA (first : List Ed) (k : Str) : Str × Bool := match valE first k with
  | some v => (v, true)
  | none => ([], false)
theorem St.getA {first : List Ed} {s : Bs} (h : St first s) (k : Str) : s.getA 1 k = stA first k := by unfold Bs.getA; rw [h.sees]; rfl
theorem St.keysA {first : List Ed} {s : Bs} (h : St first s) : s.keysA 1 [] = ((comes [] first).map (·.key)).filter fun k => List.isPrefixOf [] k := by unfold Bs.keysA; rw [h.sees]
theorem St.upd {first : List Ed} {s : Bs} (h : St first s) {id : Int} {x : Sx} (hid : id.toNat - 1 ≠ 0) : St first (s.upd id x) := by
  have e : (s.upd id x).all.getD 0 default = s.all.getD 0 default := by
    by_cases hi : id.toNat - 1 < s.all.length
    · unfold Bs.upd; dsimp only; rw [getD_set hi, if_neg (fun e => hid e.symm)]
    · unfold Bs.upd; dsimp only; rw [List.set_eq_of_length_le (by omega)]
  exact ⟨h.fi, by rw [upd_len]; exact h.le, by rw [e]; exact h.op, by rw [e]; exact h.at_, by rw [e]; exact h.ed⟩
theorem St.one {first : List Ed} {s : Bs} (h : St first s) {x : Sx} (h1 : x.opn = true) (h2 : x.at_ = 0) (h3 : x.eds = []) : St first (s.upd 1 x) := by
  have e : (s.upd 1 x).all.getD 0 default = x := by
    unfold Bs.upd; dsimp only
    exact getD_set_same (by have := h.le; omega)
  exact ⟨h.fi, by rw [upd_len]; exact h.le, by rw [e]; exact h1, by rw [e]; exact h2, by rw [e]; exact h3⟩
theorem St.getS {first : List Ed} {s : Bs} (h : St first s) (k : Str) : St first (s.getS 1 k) := by
  unfold Bs.getS
  split
  · exact h.one h.op h.at_ h.ed
  · exact h
theorem St.keysS {first : List Ed} {s : Bs} (h : St first s) (k : Str) : St first (s.keysS 1 k) := h.one h.op h.at_ h.ed
theorem St.step {first : List Ed} {s : Bs} (h : St first s) (ds : List Dd) {a : Ac} (ha : ¬ (1 ≤ a.kind ∧ a.kind ≤ 5 ∧ a.id = 1)) : St first (stepS s ds a).1 := by
  unfold stepS
  split
  · refine ⟨h.fi, by simp [Bs.begin_], ?_, ?_, ?_⟩ <;>
    · have e : (s.begin_).all.getD 0 default = s.all.getD 0 default := by
        show (s.all ++ [_]).getD 0 default = _
        rw [getD_append_one, if_neg (by have := h.le; omega)]
      rw [e]
      first | exact h.op | exact h.at_ | exact h.ed
  · next hk =>
    split
    · exact h
    · next hid =>
      have hne : a.id.toNat - 1 ≠ 0 := by omega
      dsimp only
      split
      · split
        · dsimp only; unfold Bs.getS; split
          · exact h.upd hne
          · exact h
        · exact h
      · split
        · split
          · exact h.upd hne
          · exact h
        · split
          · split
            · exact h.upd hne
            · exact h
          · split
            · split
              · dsimp only; unfold Bs.commitS; split
                · exact h.upd hne
                · have := h.upd (x := { s.ses a.id with opn := false }) hne
                  exact ⟨this.fi, this.le, this.op, this.at_, this.ed⟩
              · exact h
            · dsimp only; split
              · exact h.upd hne
              · exact h
theorem DBnd.mono {N M : Nat} {ds : List Dd} (h : DBnd N ds) (hM : N ≤ M) : DBnd M ds := ⟨Nat.le_trans h.1 hM, fun d hd => Nat.le_trans (h.2 d hd) hM⟩
end Go.Gx
namespace Go.Gx
open Go.Proofs
def ansOf (h : List Ed) (a : Ac) : Str × Bool × List Str :=
  if a.kind = 1 then ((stA h a.ed.key).1, (stA h a.ed.key).2, []) else if a.kind = 2 then ([], false, ((comes [] h).map (·.key)).filter fun k => a.ed.key.isPrefixOf k) else ([], false, [])
def eff (a : Ac) : List Ed := if a.kind = 3 then [a.ed] else []
def wrote (l : List Ac) : List Ed := l.flatMap eff
def plays (h : List Ed) : List Ac → List (Str × Bool × List Str)
  | [] => []
  | a :: l => ansOf h a :: plays (h ++ eff a) l
theorem wrote_append {l m : List Ac} : wrote (l ++ m) = wrote l ++ wrote m := by simp [wrote]
theorem plays_snoc {h : List Ed} {l : List Ac} {a : Ac} : plays h (l ++ [a]) = plays h l ++ [ansOf (h ++ wrote l) a] := by
  induction l generalizing h with
  | nil => simp [plays, wrote]
  | cons b l ih =>
    rw [List.cons_append, plays, plays, ih, List.cons_append]
    have e : h ++ eff b ++ wrote l = h ++ wrote (b :: l) := by simp [wrote]
    rw [e]
theorem valE_app {a b : List Ed} {k : Str} : valE (a ++ b) k = if lastE b k = none then valE a k else valE b k := by
  unfold valE
  rw [lastE_append]
  cases lastE b k <;> simp
theorem stA_congr {h h' : List Ed} {k : Str} (e : valE h k = valE h' k) : stA h k = stA h' k := by unfold stA; rw [e]
theorem rises_filter {l : List Ed} (h : Rises l) (p : Ed → Bool) : Rises (l.filter p) := ⟨h.1.sublist List.filter_sublist, fun e he => h.2 e (List.mem_filter.1 he).1⟩
theorem keys_congr {h h' : List Ed} {p : Str → Bool} (e : ∀ k, p k = true → valE h k = valE h' k) : ((comes [] h).map (·.key)).filter p = ((comes [] h').map (·.key)).filter p := by
  rw [List.filter_map, List.filter_map]
  congr 1
  refine rises_ext (rises_filter (comes_rises rises_nil) _) (rises_filter (comes_rises rises_nil) _) fun x => ?_
  rw [List.mem_filter, List.mem_filter, comes_mem, comes_mem]
  constructor
  · rintro ⟨⟨h1, h2⟩, h3⟩; exact ⟨⟨h1, by rw [← e x.key h3]; exact h2⟩, h3⟩
  · rintro ⟨⟨h1, h2⟩, h3⟩; exact ⟨⟨h1, by rw [e x.key h3]; exact h2⟩, h3⟩
theorem ans_congr {h h' : List Ed} {a : Ac} (h1 : a.kind = 1 → valE h a.ed.key = valE h' a.ed.key) (h2 : a.kind = 2 → ∀ k, a.ed.key.isPrefixOf k = true → valE h k = valE h' k) : ansOf h a = ansOf h' a := by
  unfold ansOf
  split
  · next hk => rw [stA_congr (h1 hk)]
  · split
    · next hk => rw [keys_congr (h2 hk)]
    · rfl
theorem plays_congr {h h' : List Ed} {acts : List Ac} (e : ∀ l a m, acts = l ++ a :: m → ansOf (h ++ wrote l) a = ansOf (h' ++ wrote l) a) : plays h acts = plays h' acts := by
  suffices H : ∀ k, k ≤ acts.length → plays h (acts.take k) = plays h' (acts.take k) by
    have := H acts.length (Nat.le_refl _)
    rwa [List.take_length] at this
  intro k
  induction k with
  | zero => intro _; rfl
  | succ k ih =>
    intro hk
    have e1 : acts.take (k + 1) = acts.take k ++ [acts[k]] := by rw [List.take_add_one, List.getElem?_eq_getElem (by omega)]; rfl
    have e2 : acts = acts.take k ++ acts[k] :: acts.drop (k + 1) := by rw [List.getElem_cons_drop, List.take_append_drop]
    rw [e1, plays_snoc, plays_snoc, ih (by omega), e (acts.take k) acts[k] (acts.drop (k + 1)) e2]
theorem plays_comes (h : List Ed) (acts : List Ac) : plays (comes [] h) acts = plays h acts := by
  have hv : ∀ w k, valE (comes [] h ++ w) k = valE (h ++ w) k := fun w k => by
    rw [valE_app, valE_app, comes_val rises_nil, List.nil_append]
  exact plays_congr fun l a m _ => ans_congr (fun _ => hv _ _) (fun _ k _ => hv _ k)
structure DidRel (s : Bs) (x : Sx) (d : Dd) : Prop where
  at_ : d.at_ = x.at_
  le : x.at_ ≤ s.log.length
  wr : d.writes = true ↔ x.eds ≠ []
  eds : x.eds = wrote d.acts
  ans : d.values = (plays (s.hist x.at_) d.acts).map (·.1) ∧ d.there = (plays (s.hist x.at_) d.acts).map (·.2.1) ∧ d.keys = (plays (s.hist x.at_) d.acts).map (·.2.2)
  kinds : ∀ a ∈ d.acts, 1 ≤ a.kind ∧ a.kind ≤ 3 ∧ (a.kind = 3 → okEd a.ed = true)
  asked : ∀ l a m, d.acts = l ++ a :: m → (a.kind = 1 → lastE (wrote l) a.ed.key = none → a.ed.key ∈ x.gets) ∧ (a.kind = 2 → a.ed.key ∈ x.heads)
  fin : d.end_ = -1 ∨ (x.opn = false ∧ ∃ n : Nat, d.end_ = (n : Nat) ∧ n ≤ s.log.length ∧ x.at_ ≤ n ∧ (x.eds ≠ [] → ∀ e ∈ ((s.log.take n).drop x.at_).flatten, hitE x e = false))
def Rel3 (s : Bs) (ds : List Dd) : Prop := ds.length = s.all.length ∧ ∀ i, i < ds.length → DidRel s (s.all.getD i default) (ds.getD i default)
theorem DidRel.grow {s s' : Bs} {x : Sx} {d : Dd} (h : DidRel s x d) (hf : s'.first = s.first) (hl : ∃ m, s'.log = s.log ++ m) : DidRel s' x d := by
  obtain ⟨m, hm⟩ := hl
  have hle := h.le
  have e : ∀ n, n ≤ s.log.length → s'.hist n = s.hist n := fun n hn => by
    unfold Bs.hist
    rw [hf, hm, List.take_append_of_le_length hn]
  refine ⟨h.at_, by rw [hm]; simp; omega, h.wr, h.eds, by rw [e _ hle]; exact h.ans, h.kinds, h.asked, h.fin.imp id fun ⟨h1, n, h2, h3, h4, h5⟩ => ⟨h1, n, h2, by rw [hm]; simp; omega, h4, by rw [hm, List.take_append_of_le_length h3]; exact h5⟩⟩
theorem DidRel.more {s : Bs} {x x' : Sx} {d d' : Dd} {a : Ac} (h : DidRel s x d) (ho : x.opn = true) (hx : x'.at_ = x.at_ ∧ x'.eds = x.eds ++ eff a ∧ x'.opn = true ∧ (∀ k ∈ x.gets, k ∈ x'.gets) ∧ ∀ k ∈ x.heads, k ∈ x'.heads)
    (hd : d' = { d.add a (ansOf (s.hist x.at_ ++ x.eds) a).1 (ansOf (s.hist x.at_ ++ x.eds) a).2.1 (ansOf (s.hist x.at_ ++ x.eds) a).2.2 with writes := d'.writes }) (hw : d'.writes = true ↔ x'.eds ≠ []) (hk : 1 ≤ a.kind ∧ a.kind ≤ 3 ∧ (a.kind = 3 → okEd a.ed = true))
    (ha : (a.kind = 1 → lastE x.eds a.ed.key = none → a.ed.key ∈ x'.gets) ∧ (a.kind = 2 → a.ed.key ∈ x'.heads)) : DidRel s x' d' := by
  obtain ⟨q1, q2, q3, q4, q5⟩ := hx
  have e1 : d'.acts = d.acts ++ [a] := by rw [hd]; rfl
  have e2 : d'.values = d.values ++ [(ansOf (s.hist x.at_ ++ x.eds) a).1] := by rw [hd]; rfl
  have e3 : d'.there = d.there ++ [(ansOf (s.hist x.at_ ++ x.eds) a).2.1] := by rw [hd]; rfl
  have e4 : d'.keys = d.keys ++ [(ansOf (s.hist x.at_ ++ x.eds) a).2.2] := by rw [hd]; rfl
  have e5 : d'.at_ = d.at_ := by rw [hd]; rfl
  have e6 : d'.end_ = d.end_ := by rw [hd]; rfl
  have hp : plays (s.hist x.at_) (d.acts ++ [a]) = plays (s.hist x.at_) d.acts ++ [ansOf (s.hist x.at_ ++ x.eds) a] := by rw [plays_snoc, h.eds]
  refine ⟨by rw [e5, q1]; exact h.at_, by rw [q1]; exact h.le, hw, by rw [q2, e1, wrote_append, h.eds]; simp [wrote], ?_, ?_, ?_, ?_⟩
  · rw [q1, e1, e2, e3, e4, hp]
    obtain ⟨a1, a2, a3⟩ := h.ans
    rw [a1, a2, a3]; simp
  · intro b hb
    rw [e1] at hb
    rcases List.mem_append.1 hb with hb | hb
    · exact h.kinds b hb
    · rw [List.mem_singleton.1 hb]; exact hk
  · intro l b m hm
    rw [e1] at hm
    rcases List.eq_nil_or_concat m with rfl | ⟨m', c, rfl⟩
    · obtain ⟨r1, r2⟩ := List.append_inj' hm rfl
      simp only [List.cons.injEq, and_true] at r2
      subst r1; subst r2
      exact ⟨fun hk hn => ha.1 hk (by rw [h.eds]; exact hn), ha.2⟩
    · rw [List.concat_eq_append, ← List.cons_append, ← List.append_assoc] at hm
      obtain ⟨r1, -⟩ := List.append_inj' hm rfl
      obtain ⟨h1, h2⟩ := h.asked l b m' r1
      exact ⟨fun hk hn => q4 _ (h1 hk hn), fun hk => q5 _ (h2 hk)⟩
  · rw [e6]
    rcases h.fin with h1 | ⟨h1, -⟩
    · exact .inl h1
    · rw [ho] at h1; cases h1
theorem DidRel.replay {s : Bs} {x : Sx} {d : Dd} (h : DidRel s x d) {n : Nat} (_ : n ≤ s.log.length) (ha : x.at_ ≤ n) (hh : ∀ e ∈ ((s.log.take n).drop x.at_).flatten, hitE x e = false) : plays (s.hist n) d.acts = plays (s.hist x.at_) d.acts := by
  have e : s.hist n = s.hist x.at_ ++ ((s.log.take n).drop x.at_).flatten := by
    unfold Bs.hist
    rw [List.flatten_cons, List.flatten_cons, List.append_assoc, ← List.flatten_append]
    have : s.log.take n = s.log.take x.at_ ++ (s.log.take n).drop x.at_ := by
      have := List.take_append_drop x.at_ (s.log.take n)
      rw [List.take_take, Nat.min_eq_left ha] at this
      exact this.symm
    rw [← this]
  rw [e]
  generalize ((s.log.take n).drop x.at_).flatten = mid at hh
  have key : ∀ (w : List Ed) k, (lastE w k = none → lastE mid k = none) → valE (s.hist x.at_ ++ mid ++ w) k = valE (s.hist x.at_ ++ w) k := fun w k hk => by
    rw [valE_app (a := s.hist x.at_ ++ mid) (b := w), valE_app (a := s.hist x.at_) (b := w)]
    split
    · next hw => rw [valE_app (a := s.hist x.at_) (b := mid), if_pos (hk hw)]
    · rfl
  refine plays_congr fun l a m hm => ?_
  obtain ⟨h1, h2⟩ := h.asked l a m hm
  refine ans_congr (fun hk => key _ _ fun hw => ?_) (fun hk k hp => key _ _ fun _ => ?_)
  · refine lastE_none.2 fun y hy hyk => ?_
    have := hh y hy
    unfold hitE at this
    rw [Bool.or_eq_false_iff] at this
    have h3 := h1 hk hw
    rw [← hyk] at h3
    rw [List.contains_iff_mem.2 h3] at this
    cases this.1
  · refine lastE_none.2 fun y hy hyk => ?_
    have := hh y hy
    unfold hitE at this
    rw [Bool.or_eq_false_iff, List.any_eq_false] at this
    exact this.2 _ (h2 hk) (by rw [hyk]; exact hp)
theorem Rel3.set {s s' : Bs} {ds : List Dd} {i : Nat} {x' : Sx} {d' : Dd} (h : Rel3 s ds) (hf : s'.first = s.first) (hl : ∃ m, s'.log = s.log ++ m) (ha : s'.all = s.all.set i x') (hi : i < s.all.length) (hd : DidRel s' x' d') : Rel3 s' (ds.set i d') := by
  have h1 := h.1
  refine ⟨by rw [List.length_set, ha, List.length_set]; exact h1, fun j hj => ?_⟩
  rw [List.length_set] at hj
  rw [ha, getD_set hi, getD_set (by omega)]
  by_cases hji : j = i
  · rw [if_pos hji, if_pos hji]; exact hd
  · rw [if_neg hji, if_neg hji]; exact (h.2 j hj).grow hf hl
theorem DidRel.shut {s s' : Bs} {x : Sx} {d d' : Dd} (h : DidRel s x d) (hf : s'.first = s.first) (hl : ∃ m, s'.log = s.log ++ m) (hd : d' = { d with end_ := d'.end_, clashed := d'.clashed })
    (he : d'.end_ = -1 ∨ (∃ n : Nat, d'.end_ = (n : Nat) ∧ n ≤ s'.log.length ∧ x.at_ ≤ n ∧ (x.eds ≠ [] → ∀ e ∈ ((s'.log.take n).drop x.at_).flatten, hitE x e = false))) : DidRel s' { x with opn := false } d' := by
  have g := h.grow hf hl
  have e1 : d'.acts = d.acts := by rw [hd]
  have e2 : d'.values = d.values := by rw [hd]
  have e3 : d'.there = d.there := by rw [hd]
  have e4 : d'.keys = d.keys := by rw [hd]
  have e5 : d'.at_ = d.at_ := by rw [hd]
  have e6 : d'.writes = d.writes := by rw [hd]
  exact ⟨by rw [e5]; exact g.at_, g.le, by rw [e6]; exact g.wr, by rw [e1]; exact g.eds, by rw [e1, e2, e3, e4]; exact g.ans, by rw [e1]; exact g.kinds, by rw [e1]; exact g.asked, he.imp id fun ⟨n, h2⟩ => ⟨rfl, n, h2⟩⟩
theorem rel3_step {s : Bs} {ds : List Dd} (h : Rel3 s ds) (a : Ac) : Rel3 (stepS s ds a).1 (stepS s ds a).2 := by
  have hl := h.1
  have h0 : ∃ m, s.log = s.log ++ m := ⟨[], by simp⟩
  unfold stepS
  split
  · refine ⟨by simp [Bs.begin_, hl], fun i hi => ?_⟩
    have e : (s.begin_).all = s.all ++ [⟨true, s.log.length, [], [], []⟩] := rfl
    rw [e, getD_append_one, getD_append_one, hl]
    by_cases hi2 : i = s.all.length
    · rw [if_pos hi2, if_pos hi2]
      exact ⟨rfl, Nat.le_refl _, by simp, rfl, ⟨rfl, rfl, rfl⟩, by simp, fun l a m hm => by simp at hm, .inl rfl⟩
    · rw [if_neg hi2, if_neg hi2]; exact (h.2 i (by simp at hi; omega)).grow rfl h0
  · split
    · exact h
    · next hk hid =>
      have hin : a.id.toNat - 1 < ds.length := by omega
      have hr := h.2 (a.id.toNat - 1) hin
      have hses : s.ses a.id = s.all.getD (a.id.toNat - 1) default := rfl
      dsimp only
      split
      · next hk1 =>
        split
        · next ho =>
          have hop : (s.ses a.id).opn = true := ho.2.2
          have hans : ansOf (s.hist (s.ses a.id).at_ ++ (s.ses a.id).eds) a = ((s.getA a.id a.ed.key).1, (s.getA a.id a.ed.key).2, []) := by unfold ansOf; rw [if_pos hk1]; rfl
          dsimp only
          unfold Bs.getS
          split
          · next hle =>
            refine h.set rfl h0 rfl (by omega) (DidRel.grow (s := s) (hr.more (a := a) hop ⟨rfl, by simp [eff, hk1, hses], hop, fun k hk => List.mem_append_left _ hk, fun k hk => hk⟩ ?_ (by rw [hses]; exact hr.wr) ⟨by omega, by omega, fun e => by omega⟩ ⟨fun _ _ => by simp, fun e => by omega⟩) rfl h0)
            rw [← hses, hans]
          · next hle =>
            have := h.set (s' := s) (x' := s.ses a.id) (d' := (ds.getD (a.id.toNat - 1) default).add a (s.getA a.id a.ed.key).1 (s.getA a.id a.ed.key).2 []) rfl h0 (by rw [hses, set_self (by omega)]) (by omega) (DidRel.grow (s := s) (hr.more (a := a) hop ⟨rfl, by simp [eff, hk1, hses], hop, fun k hk => hk, fun k hk => hk⟩ (by rw [← hses, hans]) hr.wr ⟨by omega, by omega, fun e => by omega⟩ ⟨fun _ hn => absurd hn hle, fun e => by omega⟩) rfl h0)
            exact this
        · exact h
      · next hk1 =>
        split
        · next hk2 =>
          split
          · next ho =>
            have hop : (s.ses a.id).opn = true := ho.2.2
            have hans : ansOf (s.hist (s.ses a.id).at_ ++ (s.ses a.id).eds) a = ([], false, s.keysA a.id a.ed.key) := by unfold ansOf; rw [if_neg hk1, if_pos hk2]; rfl
            refine h.set rfl h0 rfl (by omega) (DidRel.grow (s := s) (hr.more (a := a) hop ⟨rfl, by simp [eff, hk2, hses], hop, fun k hk => hk, fun k hk => List.mem_append_left _ hk⟩ ?_ (by rw [hses]; exact hr.wr) ⟨by omega, by omega, fun e => by omega⟩ ⟨fun e => by omega, fun _ => by simp⟩) rfl h0)
            rw [← hses, hans]
          · exact h
        · next hk2 =>
          split
          · next hk3 =>
            split
            · next ho =>
              have hop : (s.ses a.id).opn = true := ho.1.2.2
              have hans : ansOf (s.hist (s.ses a.id).at_ ++ (s.ses a.id).eds) a = ([], false, []) := by unfold ansOf; rw [if_neg hk1, if_neg hk2]
              refine h.set rfl h0 rfl (by omega) (DidRel.grow (s := s) (hr.more (a := a) hop ⟨rfl, by simp [eff, hk3, hses], hop, fun k hk => hk, fun k hk => hk⟩ ?_ (by simp) ⟨by omega, by omega, fun _ => ho.2⟩ ⟨fun e => by omega, fun e => by omega⟩) rfl h0)
              rw [← hses, hans]
            · exact h
          · split
            · split
              · next ho =>
                have hop : (s.ses a.id).opn = true := ho.2.2
                have hfin : (ds.getD (a.id.toNat - 1) default).end_ = -1 := by
                  rcases hr.fin with e | ⟨e, -⟩
                  · exact e
                  · rw [← hses, hop] at e; cases e
                have hlg : (s.commitS a.id).first = s.first ∧ (∃ m, (s.commitS a.id).log = s.log ++ m) ∧ (s.commitS a.id).all = s.all.set (a.id.toNat - 1) { s.ses a.id with opn := false } := by
                  unfold Bs.commitS
                  split
                  · exact ⟨rfl, h0, rfl⟩
                  · exact ⟨rfl, ⟨_, rfl⟩, rfl⟩
                dsimp only
                split
                · next hca =>
                  refine h.set hlg.1 hlg.2.1 hlg.2.2 (by omega) (hr.shut hlg.1 hlg.2.1 rfl (.inr ⟨s.log.length, rfl, ?_, hr.le, fun hne e he => ?_⟩))
                  · obtain ⟨m, hm⟩ := hlg.2.1; rw [hm]; simp
                  · obtain ⟨m, hm⟩ := hlg.2.1
                    rw [hm, List.take_left' rfl] at he
                    have hch : s.changed (s.ses a.id) = false := by
                      unfold Bs.commitA at hca
                      split at hca
                      · cases hca
                      · next hn =>
                        cases hc : s.changed (s.ses a.id) with
                        | false => rfl
                        | true => exact absurd ⟨hne, hc⟩ hn
                    rw [changed_hit, List.any_eq_false] at hch
                    have := hch e he
                    exact Bool.eq_false_iff.2 this
                · exact h.set hlg.1 hlg.2.1 hlg.2.2 (by omega) (hr.shut hlg.1 hlg.2.1 rfl (.inl hfin))
              · exact h
            · dsimp only
              split
              · next ho =>
                have hop : (s.ses a.id).opn = true := ho.2.2
                have hfin : (ds.getD (a.id.toNat - 1) default).end_ = -1 := by
                  rcases hr.fin with e | ⟨e, -⟩
                  · exact e
                  · rw [← hses, hop] at e; cases e
                have := h.set (s' := s.shut a.id) (x' := { s.ses a.id with opn := false }) (d' := ds.getD (a.id.toNat - 1) default) rfl h0 rfl (by omega) (hr.shut rfl h0 rfl (.inl hfin))
                rwa [set_self hin] at this
              · exact h
end Go.Gx
namespace Go.Gx
open Go.Proofs
theorem ksesq_ag34 : aggT Try.prog 34 3 = true := by kernel_rfl
theorem ksesq_mixed : Try.prog.follows .mixedOrders = true := by kernel_rfl
theorem ksesq_sz34 : (Try.prog.info? 34).map (·.size) = some 3 := by kernel_rfl
theorem hS_ed : (Try.prog).underlying 34 = some (.struct ((Try.prog).fieldsOf 34)) := by kernel_rfl
theorem hp_ed : (Try.prog).stoodInHeld 34 = false := by kernel_rfl
theorem hm_ed : (Try.prog).eqGuardType (Try.prog).depth 34 = false := by kernel_rfl
theorem eq_ed (a b : Ed) (w : World) : (Op.equalIn 10000 34 (.agg (edV a).toArray) (.agg (edV b).toArray)).run (Try.prog) w = .ok (decide (a = b)) w := by
  have us := Try.underlying9
  have ub := Try.underlying4
  have is := Try.isAgg9
  have ib := Try.isAgg4
  rw [show (10000 : Nat) = 9999 + 1 from rfl, run_equalIn_agg w 9999 34 _ _ hS_ed hp_ed]
  simp only [Program.fieldsOf, Try.underlying34, edV, S]
  go_simp
  obtain ⟨k1, v1, g1⟩ := a
  obtain ⟨k2, v2, g2⟩ := b
  by_cases h1 : k1 = k2 <;> by_cases h2 : v1 = v2 <;> by_cases h3 : g1 = g2 <;> simp [h1, h2, h3]
theorem x_neEd {x y : Operand} {t z : TypeId} {E : Env} {w : World} {a b : Ed} (hx : ev E x = .agg (edV a).toArray) (hy : ev E y = .agg (edV b).toArray) : X (Try.prog) (.binOp .neq 34 x y z) t E w (.bool (decide (a ≠ b))) w := by
  unfold X
  have h2 : (binOp .neq 34 (.agg (edV a).toArray) (.agg (edV b).toArray)).run (Try.prog) w = .ok (.bool (decide (a ≠ b))) w := by
    rw [run_neq_struct, eq_ed]; simp [Result.andThen]
  simp [execOp, hx, hy, run_eqGuard_agg w .neq 34 x y _ _ hm_ed, h2]
theorem same_eds (A B : Nat → Prop) (v u : Value) (l m : List Ed) (w : World) (h : EdsAt A w v l) (h' : EdsAt B w u m) :
    Ret Try.prog 46 #[v, u] w fun r w' => r = .bool (decide (l = m)) ∧ Bel w w' := by
  obtain ⟨pl, cl, rowl, rfl, a1, a2, a3, hR⟩ := h
  obtain ⟨pm, cm, rowm, rfl, b1, b2, b3, hS⟩ := h'
  refine ret_of_W Try.func46 rfl (Nat.le_of_ble_eq_true rfl) (res1 rfl) ?_
  have hB := Gr.refl (fun _ => False) w
  refine W.seq ?_
  refine W.region ?_
  refine L.val (x_as (v := .bool _) rfl) rfl ?_
  refine L.nil ?_
  refine thn_n ?_
  refine W.seq ?_
  refine W.seq ?_
  refine W.region ?_
  refine L.val (x_mv (v := .slice _ _ _) rfl) rfl ?_
  refine L.val (x_len_slice Try.underlying22 rfl) rfl ?_
  refine L.val (x_mv (v := .slice _ _ _) rfl) rfl ?_
  refine L.val (x_len_slice Try.underlying22 rfl) rfl ?_
  refine L.val (x_neq rfl rfl) rfl ?_
  refine L.nil ?_
  refine thn_n ?_
  refine W.cond (b := _) rfl (fun g10 => ?_) (fun g10 => ?_)
  ·have h10 := dne_t g10
   have hne : ¬ l = m := fun e => by rw [e] at h10; exact h10 rfl
   refine W.seq ?_
   refine W.region ?_
   refine L.val (x_as (v := .bool _) rfl) rfl ?_
   refine L.nil ?_
   refine thn_n ?_
   refine W.ret (thn_r (fin_mk (.inr rfl) ?_))
   rw [decide_eq_false hne]; exact ⟨rfl, hB⟩
  ·have h10 := dne_f g10
   have hlm : l.length = m.length := by omega
   refine W.skip ?_
   refine thn_n ?_
   refine W.seq ?_
   refine W.seq ?_
   refine W.region ?_
   refine L.val (x_as (v := .int _ _) rfl) rfl ?_
   refine L.nil ?_
   refine thn_n ?_
   refine W.block ?_
   refine W.loop (fun m' E w' => ∃ (k : Nat), m' = l.length - k ∧ E 0 = .slice pl l.length cl ∧ E 1 = .slice pm m.length cm ∧ E 5 = .int .i64 (k : Nat) ∧ (k ≤ l.length) ∧ (Bel w w') ∧ (l.take k = m.take k)) (l.length) ?_ ?_
   ·exact ⟨0, by omega, by first | rfl | exact vi (by omega), by first | rfl | exact vi (by omega), by first | rfl | exact vi (by omega), (by first | assumption | omega | rfl), (by first | assumption | omega | rfl), (by rfl)⟩
   ·rintro _ E wL11 ⟨k, em, e0, e1, e5, hk, hB, heq⟩
    rw [upd_self e0, upd_self e1, upd_self e5]
    refine W.seq ?_
    refine W.seq ?_
    refine W.region ?_
    refine L.val (x_mv (v := .int _ _) rfl) rfl ?_
    refine L.val (x_mv (v := .slice _ _ _) rfl) rfl ?_
    refine L.val (x_len_slice Try.underlying22 rfl) rfl ?_
    refine L.val (x_lss rfl rfl) rfl ?_
    refine L.nil ?_
    refine thn_n ?_
    refine W.cond (b := _) rfl (fun g14 => ?_) (fun g14 => ?_)
    ·have h14 := of_decide_eq_true g14
     have hlt : k < l.length := by omega
     have hlt2 : k < m.length := by omega
     obtain ⟨bl, ol, rfl, -, hca⟩ := (hR.carry hB).elem hlt
     obtain ⟨bm, om, rfl, -, hcb⟩ := (hS.carry hB).elem hlt2
     rw [(hR.each k hlt).1] at hca
     rw [(hS.each k hlt2).1] at hcb
     refine W.skip ?_
     refine thn_n ?_
     refine W.seq ?_
     refine W.block ?_
     refine W.seq ?_
     refine W.drawB ksesq_mixed (by kernel_rfl) ?_
     refine LQ.val (fun w hw => x_mv (v := .slice _ _ _) rfl) rfl ?_
     refine LQ.val (fun w hw => x_mv (v := .int _ _) rfl) rfl ?_
     refine LQ.val (fun w hw => x_ia (j := k) Try.underlying22 ksesq_sz34 rfl rfl (by omega) (by omega)) rfl ?_
     refine LQ.val (fun w hw => x_ldn (vs := edV (l.getD k default)) ksesq_ag34 rfl rfl (hw.keepRow rfl hca)) rfl ?_
     refine LQ.val (fun w hw => x_mv (v := .slice _ _ _) rfl) rfl ?_
     refine LQ.val (fun w hw => x_mv (v := .int _ _) rfl) rfl ?_
     refine LQ.val (fun w hw => x_ia (j := k) Try.underlying22 ksesq_sz34 rfl rfl (by omega) (by omega)) rfl ?_
     refine LQ.val (fun w hw => x_ldn (vs := edV (m.getD k default)) ksesq_ag34 rfl rfl (hw.keepRow rfl hcb)) rfl ?_
     refine LQ.val (fun w hw => x_neEd rfl rfl) rfl ?_
     refine LQ.nil ?_
     intro w17 hw
     have hB := hB.carry hw
     refine thn_n ?_
     refine W.cond (b := _) rfl (fun g25 => ?_) (fun g25 => ?_)
     ·have h25 := g25
      have hne : ¬ l = m := fun e => by rw [e] at g25; simp at g25
      refine W.seq ?_
      refine W.region ?_
      refine L.val (x_as (v := .bool _) rfl) rfl ?_
      refine L.nil ?_
      refine thn_n ?_
      refine W.ret (blk_r (thn_r (thn_r (blk_r (thn_r (fin_mk (.inr rfl) ?_))))))
      rw [decide_eq_false hne]; exact ⟨rfl, hB⟩
     ·have h25 := g25
      have he25 : l.getD k default = m.getD k default := by simpa using g25
      refine W.skip ?_
      refine blk_n ?_
      refine thn_n ?_
      refine W.region ?_
      refine L.val (x_mv (v := .int _ _) rfl) rfl ?_
      refine L.val (x_add rfl rfl (wr64 (by omega))) rfl ?_
      refine L.val (x_as (v := .int _ _) rfl) rfl ?_
      refine L.nil ?_
      refine thn_n ⟨rfl, ?_⟩
      refine ⟨_, ?_, k + 1, rfl, by first | rfl | exact vi (by omega), by first | rfl | exact vi (by omega), by first | rfl | exact vi (by omega), (by first | assumption | omega | rfl), (by first | assumption | omega | rfl), (by rw [take_snoc (d := default) hlt, take_snoc (d := default) hlt2, heq, he25])⟩
      omega
    ·have h14 := dlt_f g14
     refine W.exit (thn_x (thn_x (blk_hit ?_)))
     refine thn_n ?_
     refine W.seq ?_
     refine W.region ?_
     refine L.val (x_as (v := .bool _) rfl) rfl ?_
     refine L.nil ?_
     refine thn_n ?_
     refine W.ret (fin_mk (.inr rfl) ?_)
     have hh : l = m := by
       have e1 : l.take k = l := by rw [show k = l.length by omega, List.take_length]
       have e2 : m.take k = m := by rw [show k = m.length by omega, List.take_length]
       rw [← e1, heq, e2]
     rw [decide_eq_true hh]; exact ⟨rfl, hB⟩
end Go.Gx
