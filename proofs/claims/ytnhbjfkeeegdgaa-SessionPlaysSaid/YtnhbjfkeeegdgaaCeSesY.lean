/- Sessions, the reference: what edits come to. Conditions: none. -/
import Derived.Test.YtnhbjfkeeegdgaaCeSesD
namespace Go.Gx
open Go.Proofs Go.Sort
theorem ksesy_ag34 : aggT Try.prog 34 3 = true := by kernel_rfl
theorem ksesy_el34 : elT Try.prog 34 3 = true := by kernel_rfl
theorem ksesy_fo34_0 : fieldOff Try.prog 34 0 = some 0 := by kernel_rfl
theorem ksesy_fo34_2 : fieldOff Try.prog 34 2 = some 2 := by kernel_rfl
theorem ksesy_mixed : Try.prog.follows .mixedOrders = true := by kernel_rfl
theorem ksesy_oc4 : oneCellT Try.prog 4 = true := by kernel_rfl
theorem ksesy_oc9 : oneCellT Try.prog 9 = true := by kernel_rfl
theorem ksesy_sz34 : (Try.prog.info? 34).map (·.size) = some 3 := by kernel_rfl
def behindE (e : Ed) : List Ed → List Ed
  | [] => []
  | x :: r => if x.key = e.key then r else x :: r
theorem come1_split {h : List Ed} {e : Ed} {i : Nat} (hi : i ≤ h.length) (hlt : ∀ j, j < i → ltStr (h.getD j default).key e.key = true) (hs : i < h.length → ltStr (h.getD i default).key e.key = false) :
    come1 h e = h.take i ++ ((if e.gone then [] else [e]) ++ behindE e (h.drop i)) := by
  induction i generalizing h with
  | zero =>
    cases h with
    | nil => simp [come1, behindE]
    | cons x r =>
      have h0 := hs (by simp)
      have h0 : ltStr x.key e.key = false := h0
      rw [come1, if_neg (by rw [h0]; decide)]
      simp [behindE]
  | succ i ih =>
    cases h with
    | nil => simp at hi
    | cons x r =>
      have h0 : ltStr x.key e.key = true := hlt 0 (by omega)
      rw [come1, if_pos h0, ih (by simpa using hi) (fun j hj => hlt (j + 1) (by omega)) (fun hj => hs (by simpa using hj))]
      simp
theorem behind_len (e : Ed) (l : List Ed) : (behindE e l).length ≤ l.length := by
  cases l with
  | nil => simp [behindE]
  | cons x r => rw [behindE]; split <;> simp
theorem lt_less (a b : Str) : ltStr a b = Op.bytesLess a b := by simp [Go.Proofs.bytesLess_eq, ltStr]
theorem eds_flat (l : List Ed) : (l.map edV).flatten.length = l.length * 3 := by
  rw [flat_len (k := 3) (fun r hr => by obtain ⟨e, -, rfl⟩ := List.mem_map.1 hr; rfl), List.length_map]
theorem eds_one (l : List Ed) : ∀ u ∈ (l.map edV).flatten, u.oneCell' = true := fun u hu => by
  obtain ⟨r, hr, hu⟩ := List.mem_flatten.1 hu
  obtain ⟨e, -, rfl⟩ := List.mem_map.1 hr
  simp only [edV, List.mem_cons, List.not_mem_nil, or_false] at hu
  rcases hu with rfl | rfl | rfl <;> rfl
theorem eds_cut (l : List Ed) (i : Nat) : (l.map edV).flatten.drop (i * 3) = ((l.drop i).map edV).flatten ∧ (l.map edV).flatten.take (i * 3) = ((l.take i).map edV).flatten := by
  have hr : ∀ r ∈ l.map edV, r.length = 3 := fun r hr => by obtain ⟨e, -, rfl⟩ := List.mem_map.1 hr; rfl
  obtain ⟨h1, h2⟩ := flatk_take hr i
  rw [← h1, ← h2, List.map_take, List.map_drop]
  exact ⟨rfl, rfl⟩
theorem row_edV {A : Nat → Prop} {w : World} {p : Option Addr} {row : Nat → List Value} {l : List Ed} (h : RecRow EdC 3 A w p row l) : ((List.range l.length).map row).flatten = (l.map edV).flatten := by
  congr 1
  refine List.ext_getElem (by simp) fun i h1 h2 => ?_
  have hi : i < l.length := by simpa using h1
  have := (h.each i hi).1
  rw [List.getD_eq_getElem?_getD, List.getElem?_eq_getElem hi] at this
  simpa using this
theorem eds_holds {A : Nat → Prop} {w : World} {v : Value} {l : List Ed} (h : EdsAt A w v l) : ∃ p c, v = .slice p l.length c ∧ l.length ≤ c ∧ HoldsN w (.slice p l.length c) l.length (l.map edV).flatten ∧ ∀ e ∈ l, EdOk e := by
  obtain ⟨p, c, row, rfl, h1, h2, h3, hR⟩ := h
  refine ⟨p, c, rfl, h1, by rw [← row_edV hR]; exact hR.holds, fun e he => ?_⟩
  obtain ⟨i, hi, rfl⟩ := List.getElem_of_mem he
  have := (hR.each i hi).2
  rwa [List.getD_eq_getElem?_getD, List.getElem?_eq_getElem hi] at this
theorem eds_holdsN {A : Nat → Prop} {w : World} {p : Option Addr} {c : Nat} {l : List Ed} (h : EdsAt A w (.slice p l.length c) l) : HoldsN w (.slice p l.length c) l.length (l.map edV).flatten := by
  obtain ⟨p', c', e, -, h2, -⟩ := eds_holds h
  rw [e]; exact h2
theorem eds_cell {A : Nat → Prop} {w : World} {p : Option Addr} {c : Nat} {l : List Ed} (h : EdsAt A w (.slice p l.length c) l) {i : Nat} (hi : i < l.length) : ∃ b o, p = some ⟨b, o, none⟩ ∧ ∀ j, j < 3 → w.cell? ⟨b, o + i * 3 + j, none⟩ = (edV (l.getD i default))[j]? := by
  obtain ⟨p', c', row, e, h1, h2, h3, hR⟩ := h
  simp only [Value.slice.injEq] at e
  obtain ⟨rfl, -, rfl⟩ := e
  obtain ⟨b, o, e, -, hc⟩ := hR.elem hi
  refine ⟨b, o, e, fun j hj => ?_⟩
  rw [hc j hj, (hR.each i hi).1]
theorem own_eds {w : World} {base : Nat} {p : Option Addr} {c : Nat} {l : List Ed} (h : Own w base 34 3 (.slice p l.length c) l.length (l.map edV).flatten) (hok : ∀ e ∈ l, EdOk e) (hl : l.length ≤ 1000000) : EdsAt (fun j => j < base) w (.slice p l.length c) l :=
  (rows_pure (C := EdC) (A := fun _ => True) (w := w) (f := edV) l fun e he => ⟨rfl, hok e he⟩).doneB h (by omega) (fun _ _ => trivial) (fun _ hj hA => by have := (Own.lt h hj).1; omega)
theorem eds_drop {A : Nat → Prop} {w : World} {p : Option Addr} {c : Nat} {l : List Ed} (h : EdsAt A w (.slice p l.length c) l) (j : Nat) (hj : j ≤ l.length) : EdsAt A w (.slice (if c = j then p else p.map (·.add (j * 3))) (l.length - j) (c - j)) (l.drop j) := by
  obtain ⟨p', c', row, e, h1, h2, h3, hR⟩ := h
  simp only [Value.slice.injEq] at e
  obtain ⟨rfl, -, rfl⟩ := e
  refine ⟨_, _, _, by rw [List.length_drop], by rw [List.length_drop]; omega, by omega, by rw [List.length_drop]; omega, hR.drop h1 j⟩
theorem comes_sub {h l : List Ed} {e : Ed} (he : e ∈ comes h l) : e ∈ h ∨ e ∈ l := by
  induction l generalizing h with
  | nil => exact .inl he
  | cons x l ih =>
    rcases ih (h := come1 h x) he with h1 | h1
    · rcases come1_mem h1 with rfl | h1
      · exact .inr (by simp)
      · exact .inl h1
    · exact .inr (List.mem_cons_of_mem _ h1)
theorem comes_take {h l : List Ed} {k : Nat} (hk : k < l.length) : comes h (l.take (k + 1)) = come1 (comes h (l.take k)) (l.getD k default) := by
  rw [take_snoc (d := default) hk, comes_append]; rfl
theorem behind_pos {e x : Ed} {l : List Ed} {i : Nat} (hi : i < l.length) (hx : l.getD i default = x) : behindE e (l.drop i) = if x.key = e.key then l.drop (i + 1) else l.drop i := by
  have e1 : l.drop i = x :: l.drop (i + 1) := by
    rw [List.drop_eq_getElem_cons hi, ← hx, List.getD_eq_getElem?_getD, List.getElem?_eq_getElem hi]; rfl
  rw [e1]
  rfl
theorem comes_ref (A B : Nat → Prop) (v u : Value) (h l : List Ed) (w : World) (hv : EdsAt A w v h) (hu : EdsAt B w u l) (hl : h.length + l.length ≤ 1000000) :
    Ret Try.prog 75 #[v, u] w fun r w' => (EdsAt (fun k => k < w.heap.size) w' r (comes h l) ∧ r.oneCell' = true) ∧ Bel w w' := by
  obtain ⟨pv, cv, rfl, -, hh, hokh⟩ := eds_holds hv
  obtain ⟨pu, cu, rfl, -, -, hoku⟩ := eds_holds hu
  have hU : EdsAt (fun k => w.heap.size ≤ k) w (.slice pu l.length cu) l := hu.up.mono fun k _ hk => .inr hk
  have hoks : ∀ k, ∀ e ∈ comes h (l.take k), EdOk e := fun k e he => (comes_sub he).elim (hokh e) (fun hm => hoku e (List.mem_of_mem_take hm))
  refine ret_of_W Try.func75 rfl (Nat.le_of_ble_eq_true rfl) (res1 rfl) ?_
  have hB := Gr.refl (fun _ => False) w
  refine W.seq ?_
  refine W.region ?_
  refine L.val (x_as (v := .slice _ _ _) rfl) rfl ?_
  refine L.nil ?_
  refine thn_n ?_
  refine W.seq ?_
  refine W.region ?_
  refine L.bs0 Try.underlying22 ksesy_el34 rfl (fun w9 hO9 hw hz9 => ?_)
  have hB := hB.carry hw; have hU := hU.carry hw; have hh := hh.carry hw
  refine L.val (x_mv (v := .slice _ _ _) rfl) rfl ?_
  refine L.appendN (m := h.length) Try.underlying22 ksesy_el34 rfl rfl rfl hO9 (eds_flat h) hh (eds_one h) (by omega) (by omega) (fun v11 w11 hO11 hg hob11 => ?_)
  have hlO := fun j (e : some j = _) => (Own.lt hO9 (j := j) e).1
  have hB := hB.step hg (fun i hi e => by have := hlO i e; omega)
  have hU := hU.carryR hg (fun i e => hlO i e)
  rw [Nat.zero_add, List.nil_append] at hO11
  obtain ⟨a11, c11, e11, -⟩ := own_shape hO11
  subst e11
  refine L.val (x_as (v := .slice _ _ _) rfl) rfl ?_
  refine L.nil ?_
  refine thn_n ?_
  refine W.seq ?_
  refine W.seq ?_
  refine W.region ?_
  refine L.val (x_as (v := .int _ _) rfl) rfl ?_
  refine L.nil ?_
  refine thn_n ?_
  refine W.block ?_
  refine W.loop (fun m' E w' => ∃ (k : Nat) (v5 : Value), m' = l.length - k ∧ E 1 = .slice pu l.length cu ∧ E 5 = v5 ∧ E 6 = .int .i64 (k : Nat) ∧ (k ≤ l.length) ∧ (Bel w w') ∧ (EdsAt (fun k => w.heap.size ≤ k) w' (.slice pu l.length cu) l) ∧ (Own w' w.heap.size 34 3 v5 (comes h (l.take k)).length ((comes h (l.take k)).map edV).flatten)) (l.length) ?_ ?_
  ·exact ⟨0, _, by omega, by first | rfl | exact vi (by omega), by first | rfl | exact vi (by omega), by first | rfl | exact vi (by omega), (by first | assumption | omega | rfl), (by first | assumption | omega | rfl), (by first | assumption | omega | rfl), (by exact hO11)⟩
  ·rintro _ E wL12 ⟨k, v5, em, e1, e5, e6, hk, hB, hU, hO⟩
   rw [upd_self e1, upd_self e5, upd_self e6]
   refine W.seq ?_
   refine W.seq ?_
   refine W.region ?_
   refine L.val (x_mv (v := .int _ _) rfl) rfl ?_
   refine L.val (x_mv (v := .slice _ _ _) rfl) rfl ?_
   refine L.val (x_len_slice Try.underlying22 rfl) rfl ?_
   refine L.val (x_lss rfl rfl) rfl ?_
   refine L.nil ?_
   refine thn_n ?_
   refine W.cond (b := _) rfl (fun g15 => ?_) (fun g15 => ?_)
   ·have h15 := of_decide_eq_true g15
    have hlt : k < l.length := by omega
    obtain ⟨bu, ou, rfl, hcu⟩ := eds_cell hU hlt
    obtain ⟨cur, hcur⟩ : ∃ cur, cur = comes h (l.take k) := ⟨_, rfl⟩
    have hok := hoks k
    have hcl := comes_len0 (g := h) (h := l.take k)
    have hct := comes_take (h := h) hlt
    rw [List.length_take] at hcl
    rw [← hcur] at hO hok hcl hct
    obtain ⟨a5, c5, e5s, hc5⟩ := own_shape hO
    subst e5s
    obtain ⟨e, he⟩ : ∃ e, e = l.getD k default := ⟨_, rfl⟩
    rw [← he] at hcu hct
    have heok : EdOk e := by rw [he, List.getD_eq_getElem?_getD, List.getElem?_eq_getElem hlt]; exact hoku _ (List.getElem_mem hlt)
    refine W.skip ?_
    refine thn_n ?_
    refine W.seq ?_
    refine W.block ?_
    refine W.seq ?_
    refine W.region ?_
    refine L.val (x_as (v := .int _ _) rfl) rfl ?_
    refine L.nil ?_
    refine thn_n ?_
    refine W.cut (fun D' E' w' => D' = [] ∧ ∃ i : Nat, E' 1 = .slice (some ⟨bu, ou, none⟩) l.length cu ∧ E' 5 = .slice a5 cur.length c5 ∧ E' 6 = .int .i64 (k : Nat) ∧ E' 7 = .int .i64 (i : Nat) ∧ i ≤ cur.length ∧ (∀ j, j < i → ltStr (cur.getD j default).key e.key = true) ∧ (i < cur.length → ltStr (cur.getD i default).key e.key = false) ∧ Bel w w' ∧ EdsAt (fun k => w.heap.size ≤ k) w' (.slice (some ⟨bu, ou, none⟩) l.length cu) l ∧ Own w' w.heap.size 34 3 (.slice a5 cur.length c5) cur.length (cur.map edV).flatten) ?_ ?_
    ·refine W.block ?_
     refine W.loop (fun m' E w' => ∃ (i : Nat), m' = cur.length - i ∧ E 1 = .slice (some ⟨bu, ou, none⟩) l.length cu ∧ E 5 = .slice a5 cur.length c5 ∧ E 6 = .int .i64 (k : Nat) ∧ E 7 = .int .i64 (i : Nat) ∧ (i ≤ cur.length) ∧ (Bel w w') ∧ (EdsAt (fun k => w.heap.size ≤ k) w' (.slice (some ⟨bu, ou, none⟩) l.length cu) l) ∧ (Own w' w.heap.size 34 3 (.slice a5 cur.length c5) cur.length (cur.map edV).flatten) ∧ (∀ j, j < i → ltStr (cur.getD j default).key e.key = true)) (cur.length) ?_ ?_
     ·exact ⟨0, by omega, by first | rfl | exact vi (by omega), by first | rfl | exact vi (by omega), by first | rfl | exact vi (by omega), by first | rfl | exact vi (by omega), (by first | assumption | omega | rfl), (by first | assumption | omega | rfl), (by first | assumption | omega | rfl), (by first | assumption | omega | rfl), (by exact fun j hj => absurd hj (by omega))⟩
     ·rintro _ E wL18 ⟨i, em, e1, e5, e6, e7, hi, hB, hU, hO, hlts⟩
      rw [upd_self e1, upd_self e5, upd_self e6, upd_self e7]
      refine W.seq ?_
      refine W.seq ?_
      refine W.drawB ksesy_mixed (by kernel_rfl) ?_
      refine LQ.val (fun w hw => x_mv (v := .int _ _) rfl) rfl ?_
      refine LQ.val (fun w hw => x_mv (v := .slice _ _ _) rfl) rfl ?_
      refine LQ.val (fun w hw => x_len_slice Try.underlying22 rfl) rfl ?_
      refine LQ.val (fun w hw => x_lss rfl rfl) rfl ?_
      refine LQ.val (fun w hw => x_mv (v := .bool _) rfl) rfl ?_
      refine LQ.splitat (dj := 22) (b := _) rfl (fun g22 => ?_) (fun g22 => ?_)
      ·have h22 := of_decide_eq_true g22
       have hii : i < cur.length := by omega
       obtain ⟨b5, o5, rfl, hc5c⟩ := eds_cell (own_eds hO hok (by omega)) hii
       obtain ⟨bu', ou', eu, hcu⟩ := eds_cell hU hlt
       cases eu
       rw [← he] at hcu
       refine LQ.gyes' (dj := 22) (b := _) rfl rfl g22 ?_
       refine LQ.val (fun w hw => x_mv (v := .slice _ _ _) rfl) rfl ?_
       refine LQ.gyes' (dj := 22) (b := _) rfl rfl g22 ?_
       refine LQ.val (fun w hw => x_mv (v := .int _ _) rfl) rfl ?_
       refine LQ.gyes' (dj := 22) (b := _) rfl rfl g22 ?_
       refine LQ.val (fun w hw => x_ia (j := i) Try.underlying22 ksesy_sz34 rfl rfl (by omega) (by omega)) rfl ?_
       refine LQ.gyes' (dj := 22) (b := _) rfl rfl g22 ?_
       refine LQ.val (fun w hw => x_fa ksesy_fo34_0 rfl) rfl ?_
       refine LQ.gyes' (dj := 22) (b := _) rfl rfl g22 ?_
       refine LQ.val (fun w hw => x_ld (v := S _) ksesy_oc9 rfl (hw.keep (hc5c 0 (by omega)))) rfl ?_
       refine LQ.gyes' (dj := 22) (b := _) rfl rfl g22 ?_
       refine LQ.val (fun w hw => x_mv (v := .slice _ _ _) rfl) rfl ?_
       refine LQ.gyes' (dj := 22) (b := _) rfl rfl g22 ?_
       refine LQ.val (fun w hw => x_mv (v := .int _ _) rfl) rfl ?_
       refine LQ.gyes' (dj := 22) (b := _) rfl rfl g22 ?_
       refine LQ.val (fun w hw => x_ia (j := k) Try.underlying22 ksesy_sz34 rfl rfl (by omega) (by omega)) rfl ?_
       refine LQ.gyes' (dj := 22) (b := _) rfl rfl g22 ?_
       refine LQ.val (fun w hw => x_fa ksesy_fo34_0 rfl) rfl ?_
       refine LQ.gyes' (dj := 22) (b := _) rfl rfl g22 ?_
       refine LQ.val (fun w hw => x_ld (v := S _) ksesy_oc9 rfl (hw.keep (hcu 0 (by omega)))) rfl ?_
       refine LQ.gyes' (dj := 22) (b := _) rfl rfl g22 ?_
       refine LQ.val (fun w hw => x_lts rfl rfl) rfl ?_
       refine LQ.val (fun w hw => x_pick_t (v := .bool _) (congrArg Value.bool g22) rfl) rfl ?_
       refine LQ.nil ?_
       intro w18 hw
       have hB := hB.carry hw; have hU := hU.carry hw; have hO := hO.carry hw
       refine thn_n ?_
       refine W.cond (b := _) rfl (fun g33 => ?_) (fun g33 => ?_)
       ·have h33 := g33
        refine W.skip ?_
        refine thn_n ?_
        refine W.block ?_
        refine W.region ?_
        refine L.val (x_mv (v := .int _ _) rfl) rfl ?_
        refine L.val (x_add rfl rfl (wr64 (by omega))) rfl ?_
        refine L.val (x_as (v := .int _ _) rfl) rfl ?_
        refine L.nil ?_
        refine blk_n ?_
        refine thn_n ⟨rfl, ?_⟩
        refine ⟨_, ?_, i + 1, rfl, by first | rfl | exact vi (by omega), by first | rfl | exact vi (by omega), by first | rfl | exact vi (by omega), by first | rfl | exact vi (by omega), (by first | assumption | omega | rfl), (by first | assumption | omega | rfl), (by first | assumption | omega | rfl), (by first | assumption | omega | rfl), (by exact fun j hj => by rcases Nat.lt_succ_iff_lt_or_eq.1 hj with h1 | rfl; exact hlts j h1; exact (lt_less _ _).trans h33)⟩
        omega
       ·have h33 := g33
        refine W.exit (thn_x (thn_x (blk_hit ?_)))
        refine thn_n ?_
        exact ⟨rfl, i, rfl, rfl, rfl, rfl, hi, hlts, by first | exact fun _ => (lt_less _ _).trans h33 | exact fun h => absurd h (by omega), hB, hU, hO⟩
      ·have h22 := dlt_f g22
       refine LQ.gno (dj := 22) (b := _) rfl rfl g22 rfl ?_
       refine LQ.gno (dj := 22) (b := _) rfl rfl g22 rfl ?_
       refine LQ.gno (dj := 22) (b := _) rfl rfl g22 rfl ?_
       refine LQ.gno (dj := 22) (b := _) rfl rfl g22 rfl ?_
       refine LQ.gno (dj := 22) (b := _) rfl rfl g22 rfl ?_
       refine LQ.gno (dj := 22) (b := _) rfl rfl g22 rfl ?_
       refine LQ.gno (dj := 22) (b := _) rfl rfl g22 rfl ?_
       refine LQ.gno (dj := 22) (b := _) rfl rfl g22 rfl ?_
       refine LQ.gno (dj := 22) (b := _) rfl rfl g22 rfl ?_
       refine LQ.gno (dj := 22) (b := _) rfl rfl g22 rfl ?_
       refine LQ.gno (dj := 22) (b := _) rfl rfl g22 rfl ?_
       refine LQ.val (fun w hw => x_pick_f (v := .bool _) (congrArg Value.bool g22) rfl) rfl ?_
       refine LQ.nil ?_
       intro w18 hw
       have hB := hB.carry hw; have hU := hU.carry hw; have hO := hO.carry hw
       refine thn_n ?_
       refine W.cond (b := false) rfl (fun h => nomatch h) (fun _ => ?_)
       refine W.exit (thn_x (thn_x (blk_hit ?_)))
       refine thn_n ?_
       exact ⟨rfl, i, rfl, rfl, rfl, rfl, hi, hlts, by first | exact fun _ => (lt_less _ _).trans h33 | exact fun h => absurd h (by omega), hB, hU, hO⟩
    ·rintro D E w36 ⟨rfl, i, e1, e5, e6, e7, hi, hlts, hge, hB, hU, hO⟩
     rw [upd_self e1, upd_self e5, upd_self e6, upd_self e7]
     have hB37 := hB.size
     have hOlt := fun j (hj : some j = (Value.slice a5 cur.length c5).ownBlock) => (Own.lt hO hj).2
     refine W.seq ?_
     refine W.region ?_
     refine L.bs0 Try.underlying22 ksesy_el34 rfl (fun w37 hO37 hw hz37 => ?_)
     have hB := hB.carry hw; have hU := hU.carry hw; have hO := hO.carry hw
     refine L.val (x_mv (v := .slice _ _ _) rfl) rfl ?_
     refine L.val (x_mv (v := .int _ _) rfl) rfl ?_
     refine L.val (x_slog (j := i) Try.underlying22 ksesy_sz34 rfl rfl rfl hi) rfl ?_
     refine L.appendN (m := (cur.length - i)) Try.underlying22 ksesy_el34 rfl rfl rfl hO37 (by rw [(eds_cut cur i).1, eds_flat, List.length_drop]) (HoldsN.drop (eds_holdsN (own_eds hO hok (by omega))) (eds_flat cur) hc5 hi) (by rw [(eds_cut cur i).1]; exact eds_one _) (by omega) (by have := hB.size; omega) (fun v41 w41 hO41 hg hob41 => ?_)
     have hlO := fun j (e : some j = _) => Own.lt hO37 (j := j) e
     have hB := hB.step hg (fun i hi e => by have := hlO i e; omega)
     have hU := hU.carryR hg (fun i e => by have := hlO i e; omega)
     have hO := Own.carryR hO hg (fun j hj e => by have := hlO j e; have := hOlt j hj; omega)
     obtain ⟨a8, c8, e8, hc8⟩ := own_shape hO41
     rw [Nat.zero_add, List.nil_append, (eds_cut cur i).1, ← List.length_drop] at hO41
     rw [Nat.zero_add, ← List.length_drop] at e8 hc8
     subst e8
     have hE8 : EdsAt (fun j => w41.heap.size ≤ j) w41 (.slice a8 (cur.drop i).length c8) (cur.drop i) := (own_eds hO41 (fun e he => hok e (List.mem_of_mem_drop he)) (by rw [List.length_drop]; omega)).up.mono fun k _ hk => .inr hk
     refine L.val (x_as (v := .slice _ _ _) rfl) rfl ?_
     refine L.nil ?_
     refine thn_n ?_
     refine W.cut (fun D' E' w' => D' = [] ∧ ∃ p8 c8, E' 1 = .slice (some ⟨bu, ou, none⟩) l.length cu ∧ E' 5 = .slice a5 cur.length c5 ∧ E' 6 = .int .i64 (k : Nat) ∧ E' 7 = .int .i64 (i : Nat) ∧ E' 8 = .slice p8 (behindE e (cur.drop i)).length c8 ∧ Bel w w' ∧ EdsAt (fun k => w.heap.size ≤ k) w' (.slice (some ⟨bu, ou, none⟩) l.length cu) l ∧ Own w' w.heap.size 34 3 (.slice a5 cur.length c5) cur.length (cur.map edV).flatten ∧ EdsAt (fun j => w'.heap.size ≤ j) w' (.slice p8 (behindE e (cur.drop i)).length c8) (behindE e (cur.drop i))) ?_ ?_
     ·refine W.seq ?_
      refine W.drawB ksesy_mixed (by kernel_rfl) ?_
      refine LQ.val (fun w hw => x_mv (v := .slice _ _ _) rfl) rfl ?_
      refine LQ.val (fun w hw => x_len_slice Try.underlying22 rfl) rfl ?_
      refine LQ.val (fun w hw => x_gtr rfl rfl) rfl ?_
      refine LQ.val (fun w hw => x_mv (v := .bool _) rfl) rfl ?_
      refine LQ.splitat (dj := 45) (b := _) rfl (fun g45 => ?_) (fun g45 => ?_)
      ·have h45 := of_decide_eq_true g45
       have hi8 : 0 < (cur.drop i).length := by omega
       obtain ⟨b8, o8, rfl, hc8c⟩ := eds_cell hE8 hi8
       obtain ⟨bu', ou', eu, hcu⟩ := eds_cell hU hlt
       cases eu
       rw [← he] at hcu
       have e80 : (cur.drop i).getD 0 default = cur.getD i default := by simp [List.getD_eq_getElem?_getD]
       rw [e80] at hc8c
       have hii : i < cur.length := by rw [List.length_drop] at hi8; omega
       refine LQ.gyes' (dj := 45) (b := _) rfl rfl g45 ?_
       refine LQ.val (fun w hw => x_mv (v := .slice _ _ _) rfl) rfl ?_
       refine LQ.gyes' (dj := 45) (b := _) rfl rfl g45 ?_
       refine LQ.val (fun w hw => x_ia (j := 0) Try.underlying22 ksesy_sz34 rfl rfl (by omega) (by omega)) rfl ?_
       refine LQ.gyes' (dj := 45) (b := _) rfl rfl g45 ?_
       refine LQ.val (fun w hw => x_fa ksesy_fo34_0 rfl) rfl ?_
       refine LQ.gyes' (dj := 45) (b := _) rfl rfl g45 ?_
       refine LQ.val (fun w hw => x_ld (v := S _) ksesy_oc9 rfl (hw.keep (hc8c 0 (by omega)))) rfl ?_
       refine LQ.gyes' (dj := 45) (b := _) rfl rfl g45 ?_
       refine LQ.val (fun w hw => x_mv (v := .slice _ _ _) rfl) rfl ?_
       refine LQ.gyes' (dj := 45) (b := _) rfl rfl g45 ?_
       refine LQ.val (fun w hw => x_mv (v := .int _ _) rfl) rfl ?_
       refine LQ.gyes' (dj := 45) (b := _) rfl rfl g45 ?_
       refine LQ.val (fun w hw => x_ia (j := k) Try.underlying22 ksesy_sz34 rfl rfl (by omega) (by omega)) rfl ?_
       refine LQ.gyes' (dj := 45) (b := _) rfl rfl g45 ?_
       refine LQ.val (fun w hw => x_fa ksesy_fo34_0 rfl) rfl ?_
       refine LQ.gyes' (dj := 45) (b := _) rfl rfl g45 ?_
       refine LQ.val (fun w hw => x_ld (v := S _) ksesy_oc9 rfl (hw.keep (hcu 0 (by omega)))) rfl ?_
       refine LQ.gyes' (dj := 45) (b := _) rfl rfl g45 ?_
       refine LQ.val (fun w hw => x_eqs rfl rfl) rfl ?_
       refine LQ.val (fun w hw => x_pick_t (v := .bool _) (congrArg Value.bool g45) rfl) rfl ?_
       refine LQ.nil ?_
       intro w42 hw
       have hB := hB.carry hw; have hU := hU.carry hw; have hO := hO.carry hw; have hE8 := hE8.carry hw
       refine thn_n ?_
       refine W.cond (b := _) rfl (fun g55 => ?_) (fun g55 => ?_)
       ·have h55 := seq_t g55
        have hbe : behindE e (cur.drop i) = (cur.drop i).drop 1 := by rw [behind_pos hii rfl, if_pos h55, List.drop_drop]
        have h8v := fun (w' : World) (hE : EdsAt (fun j => w41.heap.size ≤ j) w' (.slice (some ⟨b8, o8, none⟩) (cur.drop i).length c8) (cur.drop i)) => (⟨_, _, by rw [hbe, List.length_drop (l := cur.drop i)], by rw [hbe, List.length_drop (l := cur.drop i)]; exact eds_drop hE 1 hi8⟩ : ∃ p c, Value.slice (if c8 = 1 then some ⟨b8, o8, none⟩ else (some ⟨b8, o8, none⟩ : Option Addr).map (·.add (1 * 3))) ((cur.drop i).length - 1) (c8 - 1) = .slice p (behindE e (cur.drop i)).length c ∧ EdsAt (fun j => w41.heap.size ≤ j) w' (.slice p (behindE e (cur.drop i)).length c) (behindE e (cur.drop i)))
        refine W.region ?_
        refine L.val (x_mv (v := .slice _ _ _) rfl) rfl ?_
        refine L.val (x_slog (j := 1) Try.underlying22 ksesy_sz34 rfl rfl rfl (by omega)) rfl ?_
        refine L.val (x_as (v := .slice _ _ _) rfl) rfl ?_
        refine L.nil ?_
        refine thn_n ?_
        obtain ⟨p8, c8', e8v, hE9⟩ := h8v _ hE8
        exact ⟨rfl, p8, c8', rfl, rfl, rfl, rfl, e8v, hB, hU, hO, hE9.up.mono fun _ _ hk => .inr hk⟩
       ·have h55 := seq_f g55
        have hbe : behindE e (cur.drop i) = cur.drop i := by rw [behind_pos hii rfl, if_neg h55]
        have h8v := fun (w' : World) (hE : EdsAt (fun j => w41.heap.size ≤ j) w' (.slice (some ⟨b8, o8, none⟩) (cur.drop i).length c8) (cur.drop i)) => (⟨_, _, by rw [hbe], by rw [hbe]; exact hE⟩ : ∃ p c, Value.slice (some ⟨b8, o8, none⟩) (cur.drop i).length c8 = .slice p (behindE e (cur.drop i)).length c ∧ EdsAt (fun j => w41.heap.size ≤ j) w' (.slice p (behindE e (cur.drop i)).length c) (behindE e (cur.drop i)))
        refine W.skip ?_
        refine thn_n ?_
        obtain ⟨p8, c8', e8v, hE9⟩ := h8v _ hE8
        exact ⟨rfl, p8, c8', rfl, rfl, rfl, rfl, e8v, hB, hU, hO, hE9.up.mono fun _ _ hk => .inr hk⟩
      ·have h45 := dlt_f g45
       have hX : cur.drop i = [] := List.eq_nil_of_length_eq_zero (by omega)
       have hbe : behindE e (cur.drop i) = cur.drop i := by rw [hX]; rfl
       have h8v := fun (w' : World) (hE : EdsAt (fun j => w41.heap.size ≤ j) w' (.slice a8 (cur.drop i).length c8) (cur.drop i)) => (⟨a8, c8, by rw [hbe], by rw [hbe]; exact hE⟩ : ∃ p c, Value.slice a8 (cur.drop i).length c8 = .slice p (behindE e (cur.drop i)).length c ∧ EdsAt (fun j => w41.heap.size ≤ j) w' (.slice p (behindE e (cur.drop i)).length c) (behindE e (cur.drop i)))
       refine LQ.gno (dj := 45) (b := _) rfl rfl g45 rfl ?_
       refine LQ.gno (dj := 45) (b := _) rfl rfl g45 rfl ?_
       refine LQ.gno (dj := 45) (b := _) rfl rfl g45 rfl ?_
       refine LQ.gno (dj := 45) (b := _) rfl rfl g45 rfl ?_
       refine LQ.gno (dj := 45) (b := _) rfl rfl g45 rfl ?_
       refine LQ.gno (dj := 45) (b := _) rfl rfl g45 rfl ?_
       refine LQ.gno (dj := 45) (b := _) rfl rfl g45 rfl ?_
       refine LQ.gno (dj := 45) (b := _) rfl rfl g45 rfl ?_
       refine LQ.gno (dj := 45) (b := _) rfl rfl g45 rfl ?_
       refine LQ.gno (dj := 45) (b := _) rfl rfl g45 rfl ?_
       refine LQ.val (fun w hw => x_pick_f (v := .bool _) (congrArg Value.bool g45) rfl) rfl ?_
       refine LQ.nil ?_
       intro w42 hw
       have hB := hB.carry hw; have hU := hU.carry hw; have hO := hO.carry hw; have hE8 := hE8.carry hw
       refine thn_n ?_
       refine W.cond (b := false) rfl (fun h => nomatch h) (fun _ => ?_)
       refine W.skip ?_
       refine thn_n ?_
       obtain ⟨p8, c8', e8v, hE9⟩ := h8v _ hE8
       exact ⟨rfl, p8, c8', rfl, rfl, rfl, rfl, e8v, hB, hU, hO, hE9.up.mono fun _ _ hk => .inr hk⟩
     ·rintro D E w59 ⟨rfl, p8, c8', e1, e5, e6, e7, e8, hB, hU, hO, hE8⟩
      rw [upd_self e1, upd_self e5, upd_self e6, upd_self e7, upd_self e8]
      have hB59 := hB.size
      have hbl := behind_len e (cur.drop i)
      rw [List.length_drop] at hbl
      refine W.seq ?_
      refine W.region ?_
      refine L.bs0 Try.underlying22 ksesy_el34 rfl (fun w59b hO59 hw hz59 => ?_)
      have hB := hB.carry hw; have hU := hU.carry hw; have hO := hO.carry hw; have hE8 := hE8.carry hw
      refine L.val (x_mv (v := .slice _ _ _) rfl) rfl ?_
      refine L.val (x_mv (v := .int _ _) rfl) rfl ?_
      refine L.val (x_shi (j := i) Try.underlying22 ksesy_sz34 rfl rfl rfl (by omega)) rfl ?_
      refine L.appendN (m := i) Try.underlying22 ksesy_el34 rfl rfl rfl hO59 (by rw [(eds_cut cur i).2, eds_flat, List.length_take]; congr 1; omega) (HoldsN.take (sz := 3) (eds_holdsN (own_eds hO hok (by omega))) hi) (by rw [(eds_cut cur i).2]; exact eds_one _) (by omega) (by have := hB.size; omega) (fun v63 w63 hO63 hg hob63 => ?_)
      have hlO := fun j (e : some j = _) => Own.lt hO59 (j := j) e
      have hB := hB.step hg (fun i hi e => by have := hlO i e; omega)
      have hU := hU.carryR hg (fun i e => by have := hlO i e; omega)
      have hE8 := hE8.carryR hg (fun i e => by have := hlO i e; omega)
      obtain ⟨a9, c9, e9, hc9⟩ := own_shape hO63
      rw [Nat.zero_add, List.nil_append, (eds_cut cur i).2] at hO63
      rw [Nat.zero_add] at e9 hc9
      subst e9
      have hO := Own.weak hO63 (base' := w.heap.size) (by omega)
      have hs63 := hg.size
      have hq63 := fun j (hj : some j = (Value.slice a9 i c9).ownBlock) => (Own.lt hO63 hj).1
      refine L.val (x_as (v := .slice _ _ _) rfl) rfl ?_
      refine L.nil ?_
      refine thn_n ?_
      refine W.seq ?_
      refine W.seq ?_
      refine W.region ?_
      obtain ⟨bu', ou', eu, hcu⟩ := eds_cell hU hlt
      cases eu
      rw [← he] at hcu
      refine L.val (x_mv (v := .slice _ _ _) rfl) rfl ?_
      refine L.val (x_mv (v := .int _ _) rfl) rfl ?_
      refine L.val (x_ia (j := k) Try.underlying22 ksesy_sz34 rfl rfl (by omega) (by omega)) rfl ?_
      refine L.val (x_fa ksesy_fo34_2 rfl) rfl ?_
      refine L.val (x_ld (v := .bool _) ksesy_oc4 rfl (hcu 2 (by omega))) rfl ?_
      refine L.val (x_not rfl) rfl ?_
      refine L.nil ?_
      refine thn_n ?_
      refine W.cond (b := _) rfl (fun g69 => ?_) (fun g69 => ?_)
      ·have h69 := (not_t g69)
       have hgone : e.gone = false := by simpa using g69
       have et : comes h (l.take (k + 1)) = cur.take i ++ ([e] ++ behindE e (cur.drop i)) := by rw [hct, come1_split hi hlts hge, hgone]; rfl
       have el : (cur.take i ++ ([e] ++ behindE e (cur.drop i))).length = i + 1 + (behindE e (cur.drop i)).length := by simp only [List.length_append, List.length_take, List.length_singleton]; omega
       refine W.region ?_
       refine L.val (x_mv (v := .slice _ _ _) rfl) rfl ?_
       refine L.val (x_mv (v := .slice _ _ _) rfl) rfl ?_
       refine L.val (x_mv (v := .int _ _) rfl) rfl ?_
       refine L.val (x_ia (j := k) Try.underlying22 ksesy_sz34 rfl rfl (by omega) (by omega)) rfl ?_
       refine L.val (x_ldn (vs := edV e) ksesy_ag34 rfl rfl hcu) rfl ?_
       refine L.bs (sz := 3) (cells := edV e) Try.underlying22 ksesy_el34 rfl rfl rfl rfl (fun w75 bx75 hw hz75 => ?_)
       have hB := hB.carry hw; have hU := hU.carry hw; have hO := hO.carry hw; have hE8 := hE8.carry hw
       refine L.appendN (m := 1) Try.underlying22 ksesy_el34 rfl rfl rfl hO rfl (holdsN_box bx75) (edV_one e) (by omega) (by omega) (fun v76 w76 hO76 hg hob76 => ?_)
       have hB := hB.step hg (fun i hi e => by have := hq63 i e; omega)
       have hs76 := hg.size
       have hE8 := hE8.carryR hg (fun i e => hq63 i e)
       have hU := hU.carryR hg (fun i e => by have := hq63 i e; omega)
       obtain ⟨a10, c10, e10, -⟩ := own_shape hO76
       subst e10
       have hq76 := fun j (hj : some j = (Value.slice a10 (i + 1) c10).ownBlock) => show w59.heap.size ≤ j from hob76.elim (fun e => hq63 j (hj.trans e)) (fun e => by rw [e] at hj; cases hj; omega)
       refine L.val (x_as (v := .slice _ _ _) rfl) rfl ?_
       refine L.nil ?_
       refine thn_n ?_
       refine W.region ?_
       refine L.val (x_mv (v := .slice _ _ _) rfl) rfl ?_
       refine L.val (x_mv (v := .slice _ _ _) rfl) rfl ?_
       refine L.appendN (m := _) Try.underlying22 ksesy_el34 rfl rfl rfl hO76 (eds_flat _) (eds_holdsN hE8) (eds_one _) (by omega) (by omega) (fun v79 w79 hO79 hg hob79 => ?_)
       have hB := hB.step hg (fun i hi e => by have := hq76 i e; omega)
       have hU := hU.carryR hg (fun i e => by have := hq76 i e; omega)
       have hO2 : Own w79 w.heap.size 34 3 v79 (comes h (l.take (k + 1))).length ((comes h (l.take (k + 1))).map edV).flatten := by
         rw [et, el]
         simpa only [List.map_append, List.flatten_append, List.map_cons, List.map_nil, List.flatten_cons, List.flatten_nil, List.append_nil, List.append_assoc] using hO79
       obtain ⟨a11, c11, e11, -⟩ := own_shape hO79
       subst e11
       refine L.val (x_as (v := .slice _ _ _) rfl) rfl ?_
       refine L.nil ?_
       refine blk_n ?_
       refine thn_n ?_
       refine W.region ?_
       refine L.val (x_mv (v := .int _ _) rfl) rfl ?_
       refine L.val (x_add rfl rfl (wr64 (by omega))) rfl ?_
       refine L.val (x_as (v := .int _ _) rfl) rfl ?_
       refine L.nil ?_
       refine thn_n ⟨rfl, ?_⟩
       refine ⟨_, ?_, k + 1, _, rfl, by first | rfl | exact vi (by omega), by first | rfl | exact vi (by omega), by first | rfl | exact vi (by omega), (by first | assumption | omega | rfl), (by first | assumption | omega | rfl), (by first | assumption | omega | rfl), (by exact hO2)⟩
       omega
      ·have h69 := (not_f g69)
       have hgone : e.gone = true := by simpa using g69
       have et : comes h (l.take (k + 1)) = cur.take i ++ behindE e (cur.drop i) := by rw [hct, come1_split hi hlts hge, hgone]; rfl
       have el : (cur.take i ++ behindE e (cur.drop i)).length = i + (behindE e (cur.drop i)).length := by simp only [List.length_append, List.length_take]; omega
       refine W.skip ?_
       refine thn_n ?_
       refine W.region ?_
       refine L.val (x_mv (v := .slice _ _ _) rfl) rfl ?_
       refine L.val (x_mv (v := .slice _ _ _) rfl) rfl ?_
       refine L.appendN (m := _) Try.underlying22 ksesy_el34 rfl rfl rfl hO (eds_flat _) (eds_holdsN hE8) (eds_one _) (by omega) (by omega) (fun v79 w79 hO79 hg hob79 => ?_)
       have hB := hB.step hg (fun i hi e => by have := hq63 i e; omega)
       have hU := hU.carryR hg (fun i e => by have := hq63 i e; omega)
       have hO2 : Own w79 w.heap.size 34 3 v79 (comes h (l.take (k + 1))).length ((comes h (l.take (k + 1))).map edV).flatten := by
         rw [et, el]
         simpa only [List.map_append, List.flatten_append, List.append_assoc] using hO79
       obtain ⟨a11, c11, e11, -⟩ := own_shape hO79
       subst e11
       refine L.val (x_as (v := .slice _ _ _) rfl) rfl ?_
       refine L.nil ?_
       refine blk_n ?_
       refine thn_n ?_
       refine W.region ?_
       refine L.val (x_mv (v := .int _ _) rfl) rfl ?_
       refine L.val (x_add rfl rfl (wr64 (by omega))) rfl ?_
       refine L.val (x_as (v := .int _ _) rfl) rfl ?_
       refine L.nil ?_
       refine thn_n ⟨rfl, ?_⟩
       refine ⟨_, ?_, k + 1, _, rfl, by first | rfl | exact vi (by omega), by first | rfl | exact vi (by omega), by first | rfl | exact vi (by omega), (by first | assumption | omega | rfl), (by first | assumption | omega | rfl), (by first | assumption | omega | rfl), (by exact hO2)⟩
       omega
   ·have h15 := dlt_f g15
    obtain ⟨a5, c5, e5s, hc5⟩ := own_shape hO
    subst e5s
    have hk2 : k = l.length := by omega
    subst hk2
    refine W.exit (thn_x (thn_x (blk_hit ?_)))
    refine thn_n ?_
    refine W.seq ?_
    refine W.region ?_
    refine L.val (x_mv (v := .slice _ _ _) rfl) rfl ?_
    refine L.val (x_as (v := .slice _ _ _) rfl) rfl ?_
    refine L.nil ?_
    refine thn_n ?_
    refine W.ret (fin_mk (.inr rfl) ?_)
    simp only [List.take_length] at hO ⊢
    exact ⟨⟨(own_eds hO (fun e he => (comes_sub he).elim (hokh e) (hoku e)) (Nat.le_trans comes_len0 hl)), rfl⟩, hB⟩
end Go.Gx
