/- Sessions: the law Serial. Conditions: none. -/
import Derived.Test.YtnhbjfkeeegdgaaCdSesU
namespace Go.Gx
open Go.Proofs
theorem ksesv_ag36 : aggT Try.prog 36 5 = true := by kernel_rfl
theorem ksesv_ag41 : aggT Try.prog 41 8 = true := by kernel_rfl
theorem ksesv_el22 : elT Try.prog 22 1 = true := by kernel_rfl
theorem ksesv_el34 : elT Try.prog 34 3 = true := by kernel_rfl
theorem ksesv_en12 : Go.Proofs.Enters Try.prog 12 := Go.Proofs.enters_of Try.func12 (by kernel_rfl) rfl
theorem ksesv_en13 : Go.Proofs.Enters Try.prog 13 := Go.Proofs.enters_of Try.func13 (by kernel_rfl) rfl
theorem ksesv_en14 : Go.Proofs.Enters Try.prog 14 := Go.Proofs.enters_of Try.func14 (by kernel_rfl) rfl
theorem ksesv_en15 : Go.Proofs.Enters Try.prog 15 := Go.Proofs.enters_of Try.func15 (by kernel_rfl) rfl
theorem ksesv_en16 : Go.Proofs.Enters Try.prog 16 := Go.Proofs.enters_of Try.func16 (by kernel_rfl) rfl
theorem ksesv_en17 : Go.Proofs.Enters Try.prog 17 := Go.Proofs.enters_of Try.func17 (by kernel_rfl) rfl
theorem ksesv_en46 : Go.Proofs.Enters Try.prog 46 := Go.Proofs.enters_of Try.func46 (by kernel_rfl) rfl
theorem ksesv_en47 : Go.Proofs.Enters Try.prog 47 := Go.Proofs.enters_of Try.func47 (by kernel_rfl) rfl
theorem ksesv_en48 : Go.Proofs.Enters Try.prog 48 := Go.Proofs.enters_of Try.func48 (by kernel_rfl) rfl
theorem ksesv_fo41_4 : fieldOff Try.prog 41 4 = some 4 := by kernel_rfl
theorem ksesv_fo41_5 : fieldOff Try.prog 41 5 = some 5 := by kernel_rfl
theorem ksesv_fo41_6 : fieldOff Try.prog 41 6 = some 6 := by kernel_rfl
theorem ksesv_mixed : Try.prog.follows .mixedOrders = true := by kernel_rfl
theorem ksesv_oc22 : oneCellT Try.prog 22 = true := by kernel_rfl
theorem ksesv_oc3 : oneCellT Try.prog 3 = true := by kernel_rfl
theorem ksesv_oc4 : oneCellT Try.prog 4 = true := by kernel_rfl
theorem ksesv_sz22 : (Try.prog.info? 22).map (·.size) = some 1 := by kernel_rfl
theorem ksesv_sz36 : (Try.prog.info? 36).map (·.size) = some 5 := by kernel_rfl
theorem ksesv_sz41 : (Try.prog.info? 41).map (·.size) = some 8 := by kernel_rfl
theorem first_step (s : Bs) (ds : List Dd) (a : Ac) : (stepS s ds a).1.first = s.first := by
  unfold stepS
  split
  · rfl
  · split
    · rfl
    · dsimp only
      split
      · split
        · dsimp only; unfold Bs.getS; split
          · rfl
          · rfl
        · rfl
      · split
        · split
          · rfl
          · rfl
        · split
          · split
            · rfl
            · rfl
          · split
            · split
              · dsimp only; unfold Bs.commitS; split
                · rfl
                · rfl
              · rfl
            · dsimp only; split
              · rfl
              · rfl
theorem hist_len {s : Bs} {N n : Nat} (h : Bnd N s) (hN : N ≤ 900) : (s.hist n).length ≤ 900000 := by
  unfold Bs.hist
  rw [List.flatten_cons, List.length_append]
  have h1 := flat_le (l := s.log.take n) (N := N) fun x hx => h.ll x (List.mem_of_mem_take hx)
  have h2 : (s.log.take n).length * N ≤ 900 * 900 := Nat.mul_le_mul (by rw [List.length_take]; have := h.lg; omega) hN
  have := h.fi
  omega
theorem come1_len {h : List Ed} {e : Ed} : (come1 h e).length ≤ h.length + 1 := by
  induction h with
  | nil => rw [come1]; split <;> simp
  | cons a h ih =>
    rw [come1]
    repeat' split
    all_goals simp
    all_goals omega
theorem comes_len0 {g h : List Ed} : (comes g h).length ≤ g.length + h.length := by
  induction h generalizing g with
  | nil => exact Nat.le_refl _
  | cons a h ih =>
    have h1 := ih (g := come1 g a)
    have h2 := come1_len (h := g) (e := a)
    have e : comes g (a :: h) = comes (come1 g a) h := rfl
    rw [e, List.length_cons]; omega
theorem comes_len {h : List Ed} : (comes [] h).length ≤ h.length := by
  have := comes_len0 (g := []) (h := h)
  simpa using this
theorem hist_succ {s : Bs} {n : Nat} (hn : n < s.log.length) : s.hist (n + 1) = s.hist n ++ s.log.getD n [] := by
  unfold Bs.hist
  rw [List.flatten_cons, List.flatten_cons, take_snoc (d := []) hn]
  simp
theorem comes_comes {h l : List Ed} : comes [] (comes [] h ++ l) = comes [] (h ++ l) := by
  have e : comes [] (comes [] h) = comes [] h := rises_ext (comes_rises rises_nil) (comes_rises rises_nil) fun x => by rw [comes_mem, comes_mem, comes_val rises_nil, List.nil_append]
  rw [comes_append, comes_append, e]
def statesS (s : Bs) (j : Nat) : List (List Ed) := (List.range (j + 1)).map fun i => comes [] (s.hist i)
theorem statesS_len {s : Bs} {j : Nat} : (statesS s j).length = j + 1 := by simp [statesS]
theorem statesS_get {s : Bs} {j i : Nat} (h : i ≤ j) : (statesS s j).getD i default = comes [] (s.hist i) := by
  unfold statesS
  rw [List.getD_eq_getElem?_getD, List.getElem?_map, List.getElem?_range (by omega)]; rfl
theorem statesS_succ {s : Bs} {j : Nat} : statesS s (j + 1) = statesS s j ++ [comes [] (s.hist (j + 1))] := by
  unfold statesS
  rw [List.range_succ, List.map_append]; rfl
theorem own_of_boxB {w : World} {b sz k : Nat} {e : TypeId} {xs : List Value} (h : Box w b e xs) (hl : xs.length = k * sz) (hk : k ≤ 9223372036854775807) : Own w b e sz (.slice (some ⟨b, 0, none⟩) k k) k xs :=
  ⟨hl, .inr ⟨b, k, xs.toArray, rfl, Nat.le_refl _, h, Nat.le_refl _, hk, by simpa using hl, by simp [← hl]⟩⟩
theorem states_recs {w : World} {base n : Nat} {p : Option Addr} {c : Nat} {rows : List (List Value)} {l : List (List Ed)} {A : Nat → Prop} (hO : Own w base 22 1 (.slice p n c) n rows.flatten) (hr : RowsC EsC A w rows l) (hn : l.length = n) (hn2 : n ≤ 1000000) : RecsAt EsC 1 (fun _ => False) w (.slice p n c) l :=
  hr.doneB (e := 22) (by rw [hn]; exact hO) (by omega) (fun _ f => f.elim) (fun _ _ f => f)
theorem rows_len {α : Type} [Inhabited α] {C : Thing α} {A : Nat → Prop} {w : World} {k : Nat} [Car C k] {r : List (List Value)} {l : List α} (h : RowsC C A w r l) : r.flatten.length = l.length * k := by rw [flat_len h.lens, h.1]
theorem Dids.rd {ow : Labels} {t : Nat} {w : World} {pa : Option Addr} {n ca : Nat} {ds : List Dd} (h : DidsAt ow t w (.slice pa n ca) ds) (hl : ∀ d ∈ ds, d.acts.length ≤ 1000000) {i : Nat} (hi : i < ds.length) :
    ∃ ba va vv vt vk, pa = some ⟨ba, 0, none⟩ ∧ DidRd w (didV va vv vt vk (ds.getD i default)) (ds.getD i default) ∧ ∀ j, j < 8 → w.cell? ⟨ba, 0 + i * 8 + j, none⟩ = (didV va vv vt vk (ds.getD i default))[j]? := by
  obtain ⟨rows, hO, hrl, hrow⟩ := h
  have h8 := dids_lens hrl hrow
  obtain ⟨va, vv, vt, vk, kr, hr, hrest⟩ := id (hrow i hi)
  have hrd := (hrow i hi).rd (hl _ (getD_mem hi))
  rcases Own.open hO.1 with ⟨e, e2, -⟩ | ⟨b', c', tl, e, -, -, -, hbx⟩
  · omega
  · simp only [Value.slice.injEq] at e
    refine ⟨b', va, vv, vt, vk, e.1, hr ▸ hrd, fun j hj => ?_⟩
    have hx : (didV va vv vt vk (ds.getD i default))[j]? = some ((didV va vv vt vk (ds.getD i default))[j]'(by simp [didV]; omega)) := List.getElem?_eq_getElem _
    rw [hx, Nat.zero_add]
    exact hbx.cell (row_cell h8 (by omega) hj (by rw [hr]; exact hx))
theorem DidRel.behind {s : Bs} {x : Sx} {d : Dd} (h : DidRel s x d) {n : Nat} (hn : (d.end_ = (n : Nat) ∧ d.writes = true) ∨ n = d.at_) :
    n ≤ s.log.length ∧ (d.values = (plays (comes [] (s.hist n)) d.acts).map (·.1) ∧ d.there = (plays (comes [] (s.hist n)) d.acts).map (·.2.1) ∧ d.keys = (plays (comes [] (s.hist n)) d.acts).map (·.2.2)) := by
  rw [plays_comes]
  rcases hn with ⟨h1, h2⟩ | rfl
  · rcases h.fin with e | ⟨-, m, e, h3, h4, h5⟩
    · omega
    · have hm : m = n := by omega
      subst hm
      refine ⟨h3, ?_⟩
      rw [h.replay h3 h4 (h5 (h.wr.1 h2))]
      exact h.ans
  · rw [h.at_]; exact ⟨h.le, h.ans⟩
theorem serial_law (A B : Nat → Prop) (first : List Ed) (acts : List Ac) (v0 v1 : Value) (w : World) (h0 : EdsAt A w v0 first) (h1 : RecsAt AcC 5 B w v1 acts) :
    Ret Try.prog 10 #[v0, v1] w fun r w' => r = .bool true ∧ Bel w w' := by
  have hok0 := eds_ok h0
  have h0r := h0
  obtain ⟨p0, c0, row0, rfl, -⟩ := id h0
  obtain ⟨p1, c1, row1, rfl, a1, a2, a3, hR⟩ := h1
  have h1r : RecsAt AcC 5 B w (.slice p1 acts.length c1) acts := ⟨p1, c1, row1, rfl, a1, a2, a3, hR⟩
  refine ret_of_W Try.func10 rfl (Nat.le_of_ble_eq_true rfl) (res1 rfl) ?_
  have hB := Gr.refl (fun _ => False) w
  refine W.seq ?_
  refine W.region ?_
  refine L.val (x_as (v := .bool _) rfl) rfl ?_
  refine L.nil ?_
  refine thn_n ?_
  refine W.seq ?_
  refine W.seq ?_
  refine W.region ?_
  refine L.val (x_mv (v := .slice _ _ _) rfl) rfl ?_
  refine L.ret (x_call ksesv_en12 rfl) rfl (fews_ok B _ acts _ h1r) ?_
  rintro v14 w14 ⟨rfl, hw⟩
  have hB := hB.carry hw
  refine L.val (x_not rfl) rfl ?_
  refine L.val (x_mv (v := .bool _) rfl) rfl ?_
  refine' L.group 3 17 19 19 16 false rfl ?_ ?_ ?_
  rotate_left 1
  ·intro g16 hg16
   have h16 := (not_f g16)
   refine L.gyes' (dj := 16) (b := _) rfl rfl g16 ?_
   refine L.val (x_mv (v := .slice _ _ _) rfl) rfl ?_
   refine L.gyes' (dj := 16) (b := _) rfl rfl g16 ?_
   refine L.ret (x_call ksesv_en13 rfl) rfl (few_ok A _ first 40 _ (h0r.carry hB)) ?_
   rintro v18 w18 ⟨rfl, hq⟩
   rw [hq]
   refine L.gyes' (dj := 16) (b := _) rfl rfl g16 ?_
   refine L.val (x_not rfl) rfl ?_
   refine L.nil ?_
   refine thn_n ⟨rfl, ?_, ?_, fun _ => rfl⟩
   ·exact hg16
   ·repeat (first | exact jeq.refl _ _ _ | refine jeq.upd rfl ?_ | refine jeq.jk rfl rfl ?_)
  ·intro g16
   refine L.gno (dj := 16) (b := _) rfl rfl g16 rfl ?_
   refine L.gno (dj := 16) (b := _) rfl rfl g16 rfl ?_
   refine L.gno (dj := 16) (b := _) rfl rfl g16 rfl ?_
   refine L.nil (thn_n ⟨rfl, Gr.refl _ _, ?_⟩)
   refine ⟨?_, fun h => h.elim⟩
   repeat (first | exact jeq.refl _ _ _ | refine jeq.upd rfl ?_ | refine jeq.jk rfl rfl ?_)
  intro J16 w16 hw j16
  have hB := hB.carry hw
  refine L.val (x_or rfl j16) rfl ?_
  refine L.nil ?_
  refine thn_n ?_
  refine W.cond (b := _) rfl (fun g20 => ?_) (fun g20 => ?_)
  ·have h20 := g20
   refine W.seq ?_
   refine W.region ?_
   refine L.ret (x_call ksesv_en14 rfl) rfl (awake40 _) ?_
   rintro v21 w21 ⟨rfl, hw⟩
   have hB := hB.carry hw
   refine L.val (x_as (v := .bool _) rfl) rfl ?_
   refine L.nil ?_
   refine thn_n ?_
   refine W.ret (thn_r (fin_mk (.inr rfl) ?_))
   exact ⟨rfl, hB⟩
  ·have h20 := g20
   simp only [Bool.or_eq_false_iff, Bool.not_eq_false'] at g20
   have hfew : FewB acts = true := by simpa using g20.1
   have hfirst : fewB first 40 = true := by simpa using g20.2
   have hal : acts.length ≤ 150 := by unfold FewB at hfew; simp only [Bool.and_eq_true, decide_eq_true_eq] at hfew; exact hfew.1
   have hfl : first.length ≤ 40 := by unfold fewB at hfirst; simp only [Bool.and_eq_true, decide_eq_true_eq] at hfirst; exact hfirst.1
   refine W.skip ?_
   refine thn_n ?_
   refine W.seq ?_
   refine W.region ?_
   refine L.val (x_mv (v := .slice _ _ _) rfl) rfl ?_
   refine L.ret (x_call ksesv_en15 rfl) rfl (new_ok (fun _ => none) 0 _ first _ ((h0r.carry hB).mono (fun b hb h => absurd h (by omega))) (fun _ _ => rfl) (fun _ _ h => by cases h) hok0) ?_
   rintro v23 w23 ⟨b, bh, bo, lh0, ow0, rfl, hG0, hN0⟩
   have hgs := hB.size
   have hB := hB.step hG0.gr (fun i hi m => by obtain ⟨p, m⟩ := m; cases m)
   have hlow0 : ∀ j, j < w.heap.size → ow0 j = none := fun j hj => (hG0.old j (by omega)).elim (fun e => e) (fun e => e.2)
   refine L.val (x_as (v := .pointer _) rfl) rfl ?_
   refine L.nil ?_
   refine thn_n ?_
   refine W.seq ?_
   refine W.seq ?_
   refine W.region ?_
   refine L.val (x_mv (v := .pointer _) rfl) rfl ?_
   refine L.val (x_eqp0 Try.underlying27 rfl rfl) rfl ?_
   refine L.nil ?_
   refine thn_n ?_
   refine W.cond (b := _) rfl (fun g25 => ?_) (fun g25 => ?_)
   ·have h25 := g25
    cases g25
   ·have h25 := g25
    refine W.skip ?_
    refine thn_n ?_
    refine W.seq ?_
    refine W.region ?_
    refine L.val (x_as (v := .slice _ _ _) rfl) rfl ?_
    refine L.nil ?_
    refine thn_n ?_
    refine W.seq ?_
    refine W.seq ?_
    refine W.region ?_
    refine L.val (x_as (v := .int _ _) rfl) rfl ?_
    refine L.nil ?_
    refine thn_n ?_
    refine W.block ?_
    refine W.loop (fun m' E w' => ∃ (k : Nat) (s : Bs) (ds : List Dd) (ow : Labels) (v6 vl : Value) (lh : List (Str × Value)) (lo : List (Int × Value)) (rows : List (List Value)), m' = acts.length - k ∧ E 0 = .slice p0 first.length c0 ∧ E 1 = .slice p1 acts.length c1 ∧ E 5 = .pointer (some ⟨b, 0, none⟩) ∧ E 6 = v6 ∧ E 7 = .int .i64 (k : Nat) ∧ (k ≤ acts.length) ∧ (Bel w w') ∧ (∀ j, j < w.heap.size → ow j = none) ∧ (BaseAt ow 0 w' b s bh bo vl lh lo rows) ∧ (DidsAt ow 1 w' v6 ds) ∧ (Bnd k s) ∧ (DBnd k ds) ∧ (Rel3 s ds) ∧ (s.first = first)) (acts.length) ?_ ?_
    ·exact ⟨0, ⟨first, [], []⟩, [], ow0, .slice none 0 0, .slice none 0 0, lh0, [], [], by omega, by first | rfl | exact vi (by omega), by first | rfl | exact vi (by omega), by first | rfl | exact vi (by omega), by first | rfl | exact vi (by omega), by first | rfl | exact vi (by omega), (by first | assumption | omega | rfl), (by first | assumption | omega | rfl), (by first | assumption | omega | rfl), (by first | assumption | omega | rfl), (by exact ⟨[], ⟨own_nil, fun j hj => by simp [Value.ownBlock] at hj⟩, rfl, fun i hi => by simp at hi⟩), (by exact ⟨by simp, by simp, hfl, by simp, by simp⟩), (by exact ⟨by simp, by simp⟩), (by exact ⟨rfl, fun i hi => by simp at hi⟩), (by rfl)⟩
    ·rintro _ E wL26 ⟨k, s, ds, ow, v6, vl, lh, lo, rows, em, e0, e1, e5, e6, e7, hk, hB, hlow, hBN, hDs, hbd, hdb, hrel, hfi⟩
     rw [upd_self e0, upd_self e1, upd_self e5, upd_self e6, upd_self e7]
     refine W.seq ?_
     refine W.seq ?_
     refine W.region ?_
     refine L.val (x_mv (v := .int _ _) rfl) rfl ?_
     refine L.val (x_mv (v := .slice _ _ _) rfl) rfl ?_
     refine L.val (x_len_slice Try.underlying23 rfl) rfl ?_
     refine L.val (x_lss rfl rfl) rfl ?_
     refine L.nil ?_
     refine thn_n ?_
     refine W.cond (b := _) rfl (fun g29 => ?_) (fun g29 => ?_)
     ·have h29 := of_decide_eq_true g29
      have hlt : k < acts.length := by omega
      obtain ⟨ba, oa, rfl, -, hca⟩ := (hR.carry hB).elem hlt
      have hra := (hR.each k hlt).1
      have hae := (hR.each k hlt).2
      rw [hra] at hca
      obtain ⟨p6, c6, hv6, -⟩ := Dids.row hDs
      subst hv6
      have hsk := hB.size
      refine W.skip ?_
      refine thn_n ?_
      refine W.seq ?_
      refine W.block ?_
      refine W.region ?_
      refine L.val (x_mv (v := .pointer _) rfl) rfl ?_
      refine L.val (x_mv (v := .slice _ _ _) rfl) rfl ?_
      refine L.val (x_mv (v := .slice _ _ _) rfl) rfl ?_
      refine L.val (x_mv (v := .int _ _) rfl) rfl ?_
      refine L.val (x_ia (j := k) Try.underlying23 ksesv_sz36 rfl rfl (by omega) (by omega)) rfl ?_
      refine L.val (x_ldn (vs := acV (acts.getD k default)) ksesv_ag36 rfl rfl hca) rfl ?_
      have hs30 := hB.size
      refine L.ret (x_call ksesv_en17 rfl) rfl (step_ok ow 0 1 b bh bo k s ds (acts.getD k default) _ _ lh lo rows _ hBN hDs (by decide) hbd hdb (by omega) hae) ?_
      rintro v38 w38 ⟨ow2, vl2, lh2, lo2, rows2, hBN2, hDs2, hG2⟩
      obtain ⟨hlow2, hnm⟩ := low_goes hlow (by omega) hG2
      have hB := hB.step hG2.gr (fun i hi m => hnm i hi m)
      obtain ⟨pd, cd, hvd, hrd⟩ := Dids.row hDs2
      subst hvd
      refine L.val (x_as (v := .slice _ _ _) rfl) rfl ?_
      refine L.nil ?_
      refine blk_n ?_
      refine thn_n ?_
      refine W.region ?_
      refine L.val (x_mv (v := .int _ _) rfl) rfl ?_
      refine L.val (x_add rfl rfl (wr64 (by omega))) rfl ?_
      refine L.val (x_as (v := .int _ _) rfl) rfl ?_
      refine L.nil ?_
      refine thn_n ⟨rfl, ?_⟩
      refine ⟨_, ?_, k + 1, (stepS s ds (acts.getD k default)).1, (stepS s ds (acts.getD k default)).2, ow2, _, vl2, lh2, lo2, rows2, rfl, by first | rfl | exact vi (by omega), by first | rfl | exact vi (by omega), by first | rfl | exact vi (by omega), by first | rfl | exact vi (by omega), by first | rfl | exact vi (by omega), (by first | assumption | omega | rfl), (by first | assumption | omega | rfl), (by exact hlow2), (by exact hBN2), (by exact hDs2), (by exact hbd.step ds _), (by exact hdb.step s _), (by exact rel3_step hrel _), (by exact (first_step s ds _).trans hfi)⟩
      omega
     ·have h29 := dlt_f g29
      have hbd9 := hbd.mono (M := 150) (by omega)
      have hdb9 : DBnd 150 ds := hdb.mono (by omega)
      obtain ⟨p6, c6, hv6, hrd⟩ := Dids.row hDs
      subst hv6
      have hC := Gr.refl (fun _ => False) wL26
      have hBS := hB
      refine W.exit (thn_x (thn_x (blk_hit ?_)))
      refine thn_n ?_
      refine W.seq ?_
      refine W.region ?_
      refine L.val (x_mv (v := .pointer _) rfl) rfl ?_
      refine L.ret (x_call ksesv_en16 rfl) rfl (log_ok ow 0 b bh bo s _ lh lo rows _ (hBN.bel hC) (by have := hbd9.lg; omega) (fun l hl => by have := hbd9.ll l hl; omega)) ?_
      rintro v40 w40 ⟨hL, hw⟩
      have hC := hC.carry hw
      obtain ⟨p8, c8, row8, rfl, b1, b2, b3, hLR⟩ := id hL
      refine L.val (x_as (v := .slice _ _ _) rfl) rfl ?_
      refine L.nil ?_
      refine thn_n ?_
      refine W.seq ?_
      refine W.region ?_
      refine L.val (x_mv (v := .slice _ _ _) rfl) rfl ?_
      refine L.ret (x_call ksesv_en15 rfl) rfl (new_ok (fun _ => none) 0 _ first _ ((h0r.carry (hBS.trans hC)).mono (fun b hb h => absurd h (by omega))) (fun _ _ => rfl) (fun _ _ h => by cases h) hok0) ?_
      rintro v42 w42 ⟨bS, bhS, boS, lhS, owS, rfl, hGS, hNS⟩
      have hC := hC.step hGS.gr (fun i hi m => by obtain ⟨p, m⟩ := m; cases m)
      have hL := hL.carry (hGS.gr.mono (fun i _ m => by obtain ⟨p, m⟩ := m; cases m))
      refine L.ret (x_call ksesv_en47 rfl) rfl (state_ok owS 0 bS bhS boS ⟨first, [], []⟩ _ lhS [] [] _ hNS (by simp) (by simp; omega)) ?_
      rintro v43 w43 ⟨hS0, hw⟩
      have hC := hC.carry hw; have hL := hL.carry hw
      obtain ⟨pS, cS, rowS, rfl, -⟩ := id hS0
      have hC43 := hC
      have hB4043 : Bel w40 w43 := (hGS.gr.mono (fun i _ m => by obtain ⟨p, m⟩ := m; cases m)).trans hw
      have hP := Gr.refl (fun _ => False) w43
      have hSx : EdsAt (fun i => i = w43.heap.size) w43 (.slice pS (Bs.state ⟨first, [], []⟩).length cS) (Bs.state ⟨first, [], []⟩) := hS0.mono (fun b hb e => by omega)
      have eS0 : Bs.state ⟨first, [], []⟩ = comes [] (s.hist 0) := by unfold Bs.state Bs.hist; rw [hfi]; simp
      rw [eS0] at hSx ⊢
      refine L.bs (sz := 1) (cells := [.slice pS (comes [] (s.hist 0)).length cS]) Try.underlying30 ksesv_el22 rfl rfl rfl rfl (fun w44 bx44 hw hz44 => ?_)
      have hP := hP.carry hw
      have hO44 := own_of_boxB (sz := 1) (k := 1) bx44 rfl (by omega)
      have hR44 : RowsC EsC (fun i => some i = (Value.slice (some ⟨w43.heap.size, 0, none⟩) 1 1).ownBlock) w44 [[.slice pS (comes [] (s.hist 0)).length cS]] (statesS s 0) := RowsC.one ⟨_, rfl, RecsAt.mono (RecsAt.carry hSx hw) (fun i _ e => Option.some.inj e)⟩
      refine L.val (x_as (v := .slice _ _ _) rfl) rfl ?_
      refine L.nil ?_
      refine thn_n ?_
      refine W.seq ?_
      refine W.seq ?_
      refine W.region ?_
      refine L.val (x_as (v := .int _ _) rfl) rfl ?_
      refine L.nil ?_
      refine thn_n ?_
      refine W.block ?_
      refine W.loop (fun m' E w' => ∃ (j : Nat) (p9 : Option Addr) (c9 : Nat) (rws : List (List Value)), m' = s.log.length - j ∧ E 0 = .slice p0 first.length c0 ∧ E 5 = .pointer (some ⟨b, 0, none⟩) ∧ E 6 = .slice p6 ds.length c6 ∧ E 8 = .slice p8 s.log.length c8 ∧ E 9 = .slice p9 (j + 1) c9 ∧ E 10 = .int .i64 (j : Nat) ∧ (j ≤ s.log.length) ∧ (Bel w43 w') ∧ (Own w' w43.heap.size 22 1 (.slice p9 (j + 1) c9) (j + 1) rws.flatten) ∧ (RowsC EsC (fun i => some i = (Value.slice p9 (j + 1) c9).ownBlock) w' rws (statesS s j))) (s.log.length) ?_ ?_
      ·exact ⟨0, _, _, [[.slice pS (comes [] (s.hist 0)).length cS]], by omega, by first | rfl | exact vi (by omega), by first | rfl | exact vi (by omega), by first | rfl | exact vi (by omega), by first | rfl | exact vi (by omega), by first | rfl | exact vi (by omega), by first | rfl | exact vi (by omega), (by first | assumption | omega | rfl), (by first | assumption | omega | rfl), (by exact hO44), (by exact hR44)⟩
      ·rintro _ E wL45 ⟨j, p9, c9, rws, em, e0, e5, e6, e8, e9, e10, hj, hP, hO, hRw⟩
       rw [upd_self e0, upd_self e5, upd_self e6, upd_self e8, upd_self e9, upd_self e10]
       refine W.seq ?_
       refine W.seq ?_
       refine W.region ?_
       refine L.val (x_mv (v := .int _ _) rfl) rfl ?_
       refine L.val (x_mv (v := .slice _ _ _) rfl) rfl ?_
       refine L.val (x_len_slice Try.underlying30 rfl) rfl ?_
       refine L.val (x_lss rfl rfl) rfl ?_
       refine L.nil ?_
       refine thn_n ?_
       refine W.cond (b := _) rfl (fun g48 => ?_) (fun g48 => ?_)
       ·have h48 := of_decide_eq_true g48
        have hlt : j < s.log.length := by omega
        have hLj := hbd9.lg
        have hq : ∀ i, some i = (Value.slice p9 (j + 1) c9).ownBlock → w43.heap.size ≤ i ∧ i < wL45.heap.size := fun i hi => hO.lt hi
        obtain ⟨pq, cq, rowq, eq, -, -, -, hRq⟩ := states_recs hO hRw statesS_len (by omega)
        have eq2 := (Value.slice.inj eq).1
        subst eq2
        obtain ⟨vj, hvj, hEj⟩ := hRq.each j (by rw [statesS_len]; omega)
        obtain ⟨b9, o9, e9, hcj⟩ := hRq.elem1 (by rw [statesS_len]; omega) hvj
        rw [statesS_get (Nat.le_refl _)] at hEj
        have hEj0 := hEj
        obtain ⟨pj, cj, rowj, rfl, j1, j2, j3, hRj⟩ := hEj
        have hRu := hLR.carry (hB4043.trans hP)
        obtain ⟨b8, o8, rfl, -, hc8⟩ := hLR.elem hlt
        obtain ⟨vu, hvu, hEu⟩ := hRu.each j hlt
        have hcu := hRu.elemAt1 hlt hvu
        have hb8 : b8 < w43.heap.size := by
          have h8 := hc8 0 (by omega)
          rw [hvu] at h8
          exact Nat.lt_of_lt_of_le (World.block_lt_of_cell? w40 _ h8) hB4043.size
        obtain ⟨pg, cg, rowg, rfl, g1, g2, g3, hRg⟩ := hEu
        have hlj : (comes [] (s.hist j)).length ≤ 900000 := Nat.le_trans comes_len (hist_len hbd9 (by omega))
        have hlg : (s.log.getD j []).length ≤ 150 := hbd9.ll _ (getD_mem hlt)
        subst e9
        refine W.skip ?_
        refine thn_n ?_
        refine W.seq ?_
        refine W.block ?_
        refine W.drawD (fun i => some i = (Value.slice (some ⟨b9, o9, none⟩) (j + 1) c9).ownBlock) (fun _ => False) 15 ksesv_mixed (fun wD51 hw => ?_)
        have hP := hP.carry hw; have hO := hO.carry hw
        have hB0 := Gr.refl (fun _ => False) wD51; have hR0 := Gr.refl (fun i => some i = (Value.slice (some ⟨b9, o9, none⟩) (j + 1) c9).ownBlock) wD51
        have hRjD := hRj.carry hw
        have hRgD := hRg.carry hw
        have hRwD := hRw.carry hw
        have hcj := hw.keep hcj
        have hcu := hw.keep hcu
        have hOD := hO
        have hsD := hw.size
        have hs43 := hP.size
        refine LAD.take0 (i := 0) rfl (by kernel_rfl) (by kernel_rfl) (by kernel_rfl) (by kernel_rfl) (fun w hw => x_mv (v := .slice _ _ _) rfl) rfl ?_
        refine LAD.take0 (i := 2) rfl (by kernel_rfl) (by kernel_rfl) (by kernel_rfl) (by kernel_rfl) (fun w hw => x_mv (v := .slice _ _ _) rfl) rfl ?_
        refine LAD.take0 (i := 3) rfl (by kernel_rfl) (by kernel_rfl) (by kernel_rfl) (by kernel_rfl) (fun w hw => x_mv (v := .int _ _) rfl) rfl ?_
        refine LAD.take0 (i := 4) rfl (by kernel_rfl) (by kernel_rfl) (by kernel_rfl) (by kernel_rfl) (fun w hw => x_ia1 (j := j) Try.underlying30 ksesv_sz22 rfl rfl (by omega) (by omega)) rfl ?_
        refine LAD.take0 (i := 7) rfl (by kernel_rfl) (by kernel_rfl) (by kernel_rfl) (by kernel_rfl) (fun w hw => x_mv (v := .slice _ _ _) rfl) rfl ?_
        refine LAD.take0 (i := 8) rfl (by kernel_rfl) (by kernel_rfl) (by kernel_rfl) (by kernel_rfl) (fun w hw => x_mv (v := .int _ _) rfl) rfl ?_
        refine LAD.take0 (i := 9) rfl (by kernel_rfl) (by kernel_rfl) (by kernel_rfl) (by kernel_rfl) (fun w hw => x_ia1 (j := j) Try.underlying30 ksesv_sz22 rfl rfl (by omega) (by omega)) rfl ?_
        refine LAD.take0 (i := 10) rfl (by kernel_rfl) (by kernel_rfl) (by kernel_rfl) (by kernel_rfl) (fun w hw => x_ld (v := .slice _ _ _) ksesv_oc22 rfl (hw.keepR (fun e => by have := (hq _ e).1; (try dsimp only at this); omega) hcu)) rfl ?_
        refine LAD.step (rs := [1, 5]) hR0 (fun _ => hB0) (by kernel_rfl) (by simp) ⟨⟨_, rfl, ?_⟩, ⟨_, rfl, ?_⟩, trivial⟩
        ·refine L.bs0 Try.underlying22 ksesv_el34 rfl (fun w52 hO52 hw hz52 => ?_)
         have hB0 := hB0.carry hw
         have hR0 := hR0.carry hw
         have hq52 := fun i (e : some i = (Value.slice (some ⟨wD51.heap.size, 0, none⟩) 0 0).ownBlock) => hO52.lt e
         refine L.nil ?_
         refine thn_n ?_
         refine LAD.step (rs := [5]) hR0 (fun _ => hB0) (by kernel_rfl) (by simp) ⟨⟨_, rfl, ?_⟩, trivial⟩
         refine L.val (x_ld (v := .slice _ _ _) ksesv_oc22 rfl (hB0.keep hcj)) rfl ?_
         refine L.nil ?_
         refine thn_n ?_
         refine LAD.step (rs := [6]) hR0 (fun _ => hB0) (by kernel_rfl) (by simp) ⟨⟨_, rfl, ?_⟩, trivial⟩
         refine L.appendN (m := (comes [] (s.hist j)).length) Try.underlying22 ksesv_el34 rfl rfl rfl hO52 (rows_len (hRjD.rowsC)) ((hRjD.carry hB0).holds (cap := cj)) (RowsC.ones hRjD.rowsC) (by omega) (by omega) (fun v57 w57 hO57 hg hob57 => ?_)
         obtain ⟨a57, c57, e57, -⟩ := own_shape hO57
         subst e57
         have hB0 := hB0.step hg (fun i hi e => by have := (hq52 _ e).1; omega)
         have hR0 := hB0.mono (R' := fun i => some i = (Value.slice (some ⟨b9, o9, none⟩) (j + 1) c9).ownBlock) (fun _ _ f => f.elim)
         refine L.nil ?_
         refine thn_n ?_
         refine LAD.step (rs := [11]) hR0 (fun _ => hB0) (by kernel_rfl) (by simp) ⟨⟨_, rfl, ?_⟩, trivial⟩
         refine L.appendN (m := (s.log.getD j []).length) Try.underlying22 ksesv_el34 rfl rfl rfl hO57 (rows_len (hRgD.rowsC)) ((hRgD.carry hB0).holds (cap := cg)) (RowsC.ones hRgD.rowsC) (by omega) (by have := hB0.size; omega) (fun v62 w62 hO62 hg hob62 => ?_)
         obtain ⟨a62, c62, e62, -⟩ := own_shape hO62
         subst e62
         have hs57 := hB0.size
         have hq57 := fun i (e : some i = (Value.slice a57 (0 + (comes [] (s.hist j)).length) c57).ownBlock) => hO57.lt e
         have hB0 := hB0.step hg (fun i hi e => by have := (hq57 _ e).1; omega)
         have hR0 := hB0.mono (R' := fun i => some i = (Value.slice (some ⟨b9, o9, none⟩) (j + 1) c9).ownBlock) (fun _ _ f => f.elim)
         have hlen : (comes [] (s.hist j) ++ s.log.getD j []).length = 0 + (comes [] (s.hist j)).length + (s.log.getD j []).length := by simp
         have hr62 := RowsC.append ((hRjD.rowsC).carry hB0) ((hRgD.rowsC).carry hB0)
         have hE62 : EdsAt (fun k => w62.heap.size ≤ k) w62 (.slice a62 (0 + (comes [] (s.hist j)).length + (s.log.getD j []).length) c62) (comes [] (s.hist j) ++ s.log.getD j []) :=
           RowsC.doneB (A := fun _ => True) (e := 34) ⟨hr62.1, fun i hi => hr62.2 i hi⟩ (by rw [hlen, List.flatten_append]; exact hO62) (by rw [hlen]; omega) (fun _ _ => trivial) (fun i hi h => by have := (hO62.lt hi).2; omega)
         have hok62 := eds_ok hE62
         refine L.nil ?_
         refine thn_n ?_
         refine LAD.step (rs := [12]) hR0 (fun _ => hB0) (by kernel_rfl) (by simp) ⟨⟨_, rfl, ?_⟩, trivial⟩
         refine L.ret (x_call ksesv_en15 rfl) rfl (new_ok (fun _ => none) 0 _ (comes [] (s.hist j) ++ s.log.getD j []) _ hE62 (fun _ _ => rfl) (fun _ _ h => by cases h) hok62) ?_
         rintro v63 w63 ⟨bT, bhT, boT, lhT, owT, rfl, hGT, hNT⟩
         have hB0 := hB0.step hGT.gr (fun i hi m => by obtain ⟨p, m⟩ := m; cases m)
         have hR0 := hB0.mono (R' := fun i => some i = (Value.slice (some ⟨b9, o9, none⟩) (j + 1) c9).ownBlock) (fun _ _ f => f.elim)
         have hs63 := hB0.size
         refine L.nil ?_
         refine thn_n ?_
         refine LAD.step (rs := [13]) hR0 (fun _ => hB0) (by kernel_rfl) (by simp) ⟨⟨_, rfl, ?_⟩, trivial⟩
         refine L.ret (x_call ksesv_en47 rfl) rfl (state_ok owT 0 bT bhT boT ⟨comes [] (s.hist j) ++ s.log.getD j [], [], []⟩ _ lhT [] [] _ hNT (by simp) (by show (List.flatten [comes [] (s.hist j) ++ s.log.getD j []]).length ≤ _; rw [List.flatten_cons, List.flatten_nil, List.append_nil, List.length_append]; omega)) ?_
         rintro v64 w64 ⟨hS64, hw⟩
         have hB0 := hB0.carry hw; have hR0 := hR0.carry hw
         have e64 : Bs.state ⟨comes [] (s.hist j) ++ s.log.getD j [], [], []⟩ = comes [] (s.hist (j + 1)) := by
           unfold Bs.state
           rw [hist_succ hlt, ← comes_comes]
           unfold Bs.hist; simp
         rw [e64] at hS64
         obtain ⟨p64, c64, row64, rfl, -⟩ := id hS64
         refine L.nil ?_
         refine thn_n ?_
         refine LAD.step (rs := [14]) hR0 (fun _ => hB0) (by kernel_rfl) (by simp) ⟨⟨_, rfl, ?_⟩, trivial⟩
         refine L.bs (sz := 1) (cells := [.slice p64 (comes [] (s.hist (j + 1))).length c64]) Try.underlying30 ksesv_el22 rfl rfl rfl rfl (fun w65 bx65 hw hz65 => ?_)
         have hB0 := hB0.carry hw; have hR0 := hR0.carry hw; have hS64 := hS64.carry hw
         refine L.nil ?_
         refine thn_n ?_
         refine LAD.step (rs := [15]) hR0 (fun _ => hB0) (by kernel_rfl) (by simp) ⟨⟨_, rfl, ?_⟩, trivial⟩
         have hO66 := hOD.carry hB0
         have hs66 := hB0.size
         have hR65 := hRwD.carry hB0
         refine L.appendN (m := 1) Try.underlying30 ksesv_el22 rfl rfl rfl hO66 rfl (holdsN_box bx65) (by intro u hu; rw [List.mem_singleton.1 hu]; rfl) (by omega) (by omega) (fun v66 w66 hO66 hg hob66 => ?_)
         obtain ⟨a66, c66, e66, -⟩ := own_shape hO66
         subst e66
         have hR0 := hR0.intoR hg (fun k e => e)
         obtain ⟨rows9, hr9⟩ : ∃ r, r = rws ++ [[.slice p64 (comes [] (s.hist (j + 1))).length c64]] := ⟨_, rfl⟩
         have hO9 : Own w66 w43.heap.size 22 1 (.slice a66 (j + 1 + 1) c66) (j + 1 + 1) rows9.flatten := by rw [hr9, List.flatten_append]; exact hO66
         have hR9 : RowsC EsC (fun i => some i = (Value.slice a66 (j + 1 + 1) c66).ownBlock) w66 rows9 (statesS s (j + 1)) := by
           rw [hr9, statesS_succ]
           have hb : ∀ i, i < w65.heap.size → some i = (Value.slice a66 (j + 1 + 1) c66).ownBlock → some i = (Value.slice (some ⟨b9, o9, none⟩) (j + 1) c9).ownBlock := fun i hi e => by
             rcases hob66 with e2 | e2
             · exact e.trans e2
             · have := Option.some.inj (e.trans e2); omega
           refine RowsC.append ?_ (RowsC.one ⟨_, rfl, ?_⟩)
           · exact ((hR65.mono (A' := fun i => some i = (Value.slice (some ⟨b9, o9, none⟩) (j + 1) c9).ownBlock ∨ some i = (Value.slice a66 (j + 1 + 1) c66).ownBlock) (fun i hi h => h.elim id (hb i hi))).carryR hg (fun i e => .inl e)).mono (fun i _ e => .inr e)
           · exact RecsAt.mono (RecsAt.carryR (RecsAt.mono hS64 (A' := fun i => some i = (Value.slice (some ⟨b9, o9, none⟩) (j + 1) c9).ownBlock ∨ some i = (Value.slice a66 (j + 1 + 1) c66).ownBlock) (fun i hi h => by have := (hq i (h.elim id (hb i hi))).2; omega)) hg (fun i e => .inl e)) (fun i _ e => .inr e)
         refine L.nil ?_
         refine thn_n ?_
         refine LAD.take0 (i := 16) rfl (by kernel_rfl) (by kernel_rfl) (by kernel_rfl) (by kernel_rfl) (fun w hw => x_as (v := .slice _ _ _) rfl) rfl ?_
         refine LAD.done (by kernel_rfl) (by kernel_rfl) hR0 ?_
         have hP := hP.step hR0 (fun i hi e => by have := (hq _ e).1; omega)
         refine blk_n ?_
         refine thn_n ?_
         refine W.region ?_
         refine L.val (x_mv (v := .int _ _) rfl) rfl ?_
         refine L.val (x_add rfl rfl (wr64 (by omega))) rfl ?_
         refine L.val (x_as (v := .int _ _) rfl) rfl ?_
         refine L.nil ?_
         refine thn_n ⟨rfl, ?_⟩
         refine ⟨_, ?_, j + 1, _, _, _, rfl, by first | rfl | exact vi (by omega), by first | rfl | exact vi (by omega), by first | rfl | exact vi (by omega), by first | rfl | exact vi (by omega), by first | rfl | exact vi (by omega), by first | rfl | exact vi (by omega), (by first | assumption | omega | rfl), (by first | assumption | omega | rfl), (by exact hO9), (by exact hR9)⟩
         omega
        ·refine L.val (x_ld (v := .slice _ _ _) ksesv_oc22 rfl (hB0.keep hcj)) rfl ?_
         refine L.nil ?_
         refine thn_n ?_
         refine LAD.step (rs := [1]) hR0 (fun _ => hB0) (by kernel_rfl) (by simp) ⟨⟨_, rfl, ?_⟩, trivial⟩
         refine L.bs0 Try.underlying22 ksesv_el34 rfl (fun w52 hO52 hw hz52 => ?_)
         have hB0 := hB0.carry hw
         have hR0 := hR0.carry hw
         have hq52 := fun i (e : some i = (Value.slice (some ⟨wD51.heap.size, 0, none⟩) 0 0).ownBlock) => hO52.lt e
         refine L.nil ?_
         refine thn_n ?_
         refine LAD.step (rs := [6]) hR0 (fun _ => hB0) (by kernel_rfl) (by simp) ⟨⟨_, rfl, ?_⟩, trivial⟩
         refine L.appendN (m := (comes [] (s.hist j)).length) Try.underlying22 ksesv_el34 rfl rfl rfl hO52 (rows_len (hRjD.rowsC)) ((hRjD.carry hB0).holds (cap := cj)) (RowsC.ones hRjD.rowsC) (by omega) (by omega) (fun v57 w57 hO57 hg hob57 => ?_)
         obtain ⟨a57, c57, e57, -⟩ := own_shape hO57
         subst e57
         have hB0 := hB0.step hg (fun i hi e => by have := (hq52 _ e).1; omega)
         have hR0 := hB0.mono (R' := fun i => some i = (Value.slice (some ⟨b9, o9, none⟩) (j + 1) c9).ownBlock) (fun _ _ f => f.elim)
         refine L.nil ?_
         refine thn_n ?_
         refine LAD.step (rs := [11]) hR0 (fun _ => hB0) (by kernel_rfl) (by simp) ⟨⟨_, rfl, ?_⟩, trivial⟩
         refine L.appendN (m := (s.log.getD j []).length) Try.underlying22 ksesv_el34 rfl rfl rfl hO57 (rows_len (hRgD.rowsC)) ((hRgD.carry hB0).holds (cap := cg)) (RowsC.ones hRgD.rowsC) (by omega) (by have := hB0.size; omega) (fun v62 w62 hO62 hg hob62 => ?_)
         obtain ⟨a62, c62, e62, -⟩ := own_shape hO62
         subst e62
         have hs57 := hB0.size
         have hq57 := fun i (e : some i = (Value.slice a57 (0 + (comes [] (s.hist j)).length) c57).ownBlock) => hO57.lt e
         have hB0 := hB0.step hg (fun i hi e => by have := (hq57 _ e).1; omega)
         have hR0 := hB0.mono (R' := fun i => some i = (Value.slice (some ⟨b9, o9, none⟩) (j + 1) c9).ownBlock) (fun _ _ f => f.elim)
         have hlen : (comes [] (s.hist j) ++ s.log.getD j []).length = 0 + (comes [] (s.hist j)).length + (s.log.getD j []).length := by simp
         have hr62 := RowsC.append ((hRjD.rowsC).carry hB0) ((hRgD.rowsC).carry hB0)
         have hE62 : EdsAt (fun k => w62.heap.size ≤ k) w62 (.slice a62 (0 + (comes [] (s.hist j)).length + (s.log.getD j []).length) c62) (comes [] (s.hist j) ++ s.log.getD j []) :=
           RowsC.doneB (A := fun _ => True) (e := 34) ⟨hr62.1, fun i hi => hr62.2 i hi⟩ (by rw [hlen, List.flatten_append]; exact hO62) (by rw [hlen]; omega) (fun _ _ => trivial) (fun i hi h => by have := (hO62.lt hi).2; omega)
         have hok62 := eds_ok hE62
         refine L.nil ?_
         refine thn_n ?_
         refine LAD.step (rs := [12]) hR0 (fun _ => hB0) (by kernel_rfl) (by simp) ⟨⟨_, rfl, ?_⟩, trivial⟩
         refine L.ret (x_call ksesv_en15 rfl) rfl (new_ok (fun _ => none) 0 _ (comes [] (s.hist j) ++ s.log.getD j []) _ hE62 (fun _ _ => rfl) (fun _ _ h => by cases h) hok62) ?_
         rintro v63 w63 ⟨bT, bhT, boT, lhT, owT, rfl, hGT, hNT⟩
         have hB0 := hB0.step hGT.gr (fun i hi m => by obtain ⟨p, m⟩ := m; cases m)
         have hR0 := hB0.mono (R' := fun i => some i = (Value.slice (some ⟨b9, o9, none⟩) (j + 1) c9).ownBlock) (fun _ _ f => f.elim)
         have hs63 := hB0.size
         refine L.nil ?_
         refine thn_n ?_
         refine LAD.step (rs := [13]) hR0 (fun _ => hB0) (by kernel_rfl) (by simp) ⟨⟨_, rfl, ?_⟩, trivial⟩
         refine L.ret (x_call ksesv_en47 rfl) rfl (state_ok owT 0 bT bhT boT ⟨comes [] (s.hist j) ++ s.log.getD j [], [], []⟩ _ lhT [] [] _ hNT (by simp) (by show (List.flatten [comes [] (s.hist j) ++ s.log.getD j []]).length ≤ _; rw [List.flatten_cons, List.flatten_nil, List.append_nil, List.length_append]; omega)) ?_
         rintro v64 w64 ⟨hS64, hw⟩
         have hB0 := hB0.carry hw; have hR0 := hR0.carry hw
         have e64 : Bs.state ⟨comes [] (s.hist j) ++ s.log.getD j [], [], []⟩ = comes [] (s.hist (j + 1)) := by
           unfold Bs.state
           rw [hist_succ hlt, ← comes_comes]
           unfold Bs.hist; simp
         rw [e64] at hS64
         obtain ⟨p64, c64, row64, rfl, -⟩ := id hS64
         refine L.nil ?_
         refine thn_n ?_
         refine LAD.step (rs := [14]) hR0 (fun _ => hB0) (by kernel_rfl) (by simp) ⟨⟨_, rfl, ?_⟩, trivial⟩
         refine L.bs (sz := 1) (cells := [.slice p64 (comes [] (s.hist (j + 1))).length c64]) Try.underlying30 ksesv_el22 rfl rfl rfl rfl (fun w65 bx65 hw hz65 => ?_)
         have hB0 := hB0.carry hw; have hR0 := hR0.carry hw; have hS64 := hS64.carry hw
         refine L.nil ?_
         refine thn_n ?_
         refine LAD.step (rs := [15]) hR0 (fun _ => hB0) (by kernel_rfl) (by simp) ⟨⟨_, rfl, ?_⟩, trivial⟩
         have hO66 := hOD.carry hB0
         have hs66 := hB0.size
         have hR65 := hRwD.carry hB0
         refine L.appendN (m := 1) Try.underlying30 ksesv_el22 rfl rfl rfl hO66 rfl (holdsN_box bx65) (by intro u hu; rw [List.mem_singleton.1 hu]; rfl) (by omega) (by omega) (fun v66 w66 hO66 hg hob66 => ?_)
         obtain ⟨a66, c66, e66, -⟩ := own_shape hO66
         subst e66
         have hR0 := hR0.intoR hg (fun k e => e)
         obtain ⟨rows9, hr9⟩ : ∃ r, r = rws ++ [[.slice p64 (comes [] (s.hist (j + 1))).length c64]] := ⟨_, rfl⟩
         have hO9 : Own w66 w43.heap.size 22 1 (.slice a66 (j + 1 + 1) c66) (j + 1 + 1) rows9.flatten := by rw [hr9, List.flatten_append]; exact hO66
         have hR9 : RowsC EsC (fun i => some i = (Value.slice a66 (j + 1 + 1) c66).ownBlock) w66 rows9 (statesS s (j + 1)) := by
           rw [hr9, statesS_succ]
           have hb : ∀ i, i < w65.heap.size → some i = (Value.slice a66 (j + 1 + 1) c66).ownBlock → some i = (Value.slice (some ⟨b9, o9, none⟩) (j + 1) c9).ownBlock := fun i hi e => by
             rcases hob66 with e2 | e2
             · exact e.trans e2
             · have := Option.some.inj (e.trans e2); omega
           refine RowsC.append ?_ (RowsC.one ⟨_, rfl, ?_⟩)
           · exact ((hR65.mono (A' := fun i => some i = (Value.slice (some ⟨b9, o9, none⟩) (j + 1) c9).ownBlock ∨ some i = (Value.slice a66 (j + 1 + 1) c66).ownBlock) (fun i hi h => h.elim id (hb i hi))).carryR hg (fun i e => .inl e)).mono (fun i _ e => .inr e)
           · exact RecsAt.mono (RecsAt.carryR (RecsAt.mono hS64 (A' := fun i => some i = (Value.slice (some ⟨b9, o9, none⟩) (j + 1) c9).ownBlock ∨ some i = (Value.slice a66 (j + 1 + 1) c66).ownBlock) (fun i hi h => by have := (hq i (h.elim id (hb i hi))).2; omega)) hg (fun i e => .inl e)) (fun i _ e => .inr e)
         refine L.nil ?_
         refine thn_n ?_
         refine LAD.take0 (i := 16) rfl (by kernel_rfl) (by kernel_rfl) (by kernel_rfl) (by kernel_rfl) (fun w hw => x_as (v := .slice _ _ _) rfl) rfl ?_
         refine LAD.done (by kernel_rfl) (by kernel_rfl) hR0 ?_
         have hP := hP.step hR0 (fun i hi e => by have := (hq _ e).1; omega)
         refine blk_n ?_
         refine thn_n ?_
         refine W.region ?_
         refine L.val (x_mv (v := .int _ _) rfl) rfl ?_
         refine L.val (x_add rfl rfl (wr64 (by omega))) rfl ?_
         refine L.val (x_as (v := .int _ _) rfl) rfl ?_
         refine L.nil ?_
         refine thn_n ⟨rfl, ?_⟩
         refine ⟨_, ?_, j + 1, _, _, _, rfl, by first | rfl | exact vi (by omega), by first | rfl | exact vi (by omega), by first | rfl | exact vi (by omega), by first | rfl | exact vi (by omega), by first | rfl | exact vi (by omega), by first | rfl | exact vi (by omega), (by first | assumption | omega | rfl), (by first | assumption | omega | rfl), (by exact hO9), (by exact hR9)⟩
         omega
       ·have h48 := dlt_f g48
        have hjn : j = s.log.length := by omega
        subst hjn
        have hRec := states_recs hO hRw statesS_len (by have := hbd9.lg; omega)
        have hCN := hC43.trans hP
        have hZ := Gr.refl (fun _ => False) wL45
        have hBZ := hBS.trans hCN
        obtain ⟨pq, cq, rowq, eq, -, -, -, hRq⟩ := hRec
        have eq2 := (Value.slice.inj eq).1
        subst eq2
        obtain ⟨vn, hvn, hEn⟩ := hRq.each s.log.length (by rw [statesS_len]; omega)
        obtain ⟨b9, o9, rfl, hcn⟩ := hRq.elem1 (i := s.log.length) (by rw [statesS_len]; omega) hvn
        rw [statesS_get (Nat.le_refl _)] at hEn
        obtain ⟨pn, cn, rown, rfl, -⟩ := id hEn
        refine W.exit (thn_x (thn_x (blk_hit ?_)))
        refine thn_n ?_
        refine W.seq ?_
        refine W.seq ?_
        refine W.drawF 9 ksesv_mixed (fun wF67 hB0 => ?_)
        refine LAC.takeN (i := 0) rfl (by kernel_rfl) (by kernel_rfl) (by kernel_rfl) (by kernel_rfl) (fun w hw => x_mv (v := .slice _ _ _) rfl) rfl ?_
        refine LAC.takeN (i := 1) rfl (by kernel_rfl) (by kernel_rfl) (by kernel_rfl) (by kernel_rfl) (fun w hw => x_mv (v := .slice _ _ _) rfl) rfl ?_
        refine LAC.takeN (i := 2) rfl (by kernel_rfl) (by kernel_rfl) (by kernel_rfl) (by kernel_rfl) (fun w hw => x_len_slice Try.underlying30 rfl) rfl ?_
        refine LAC.takeN (i := 3) rfl (by kernel_rfl) (by kernel_rfl) (by kernel_rfl) (by kernel_rfl) (fun w hw => x_ia1 (j := s.log.length) Try.underlying30 ksesv_sz22 rfl rfl (by omega) (by omega)) rfl ?_
        refine LAC.takeN (i := 4) rfl (by kernel_rfl) (by kernel_rfl) (by kernel_rfl) (by kernel_rfl) (fun w hw => x_ld (v := .slice _ _ _) ksesv_oc22 rfl (hw.keep hcn)) rfl ?_
        refine LAC.takeN (i := 5) rfl (by kernel_rfl) (by kernel_rfl) (by kernel_rfl) (by kernel_rfl) (fun w hw => x_mv (v := .pointer _) rfl) rfl ?_
        refine LAC.step (rs := [6]) (fun _ => hB0) (by kernel_rfl) (by simp) ⟨⟨_, rfl, ?_⟩, trivial⟩
        refine L.ret (x_call ksesv_en47 rfl) rfl (state_ok ow 0 b bh bo s _ _ _ _ _ (hBN.bel (hCN.trans hB0)) (by have := hbd9.lg; omega) (hbd9.flat (by omega))) ?_
        rintro v73 w73 ⟨hS73, hw⟩
        have hB0 := hB0.carry hw
        refine L.nil ?_
        refine thn_n ?_
        refine LAC.step (rs := [7]) (fun _ => hB0) (by kernel_rfl) (by simp) ⟨⟨_, rfl, ?_⟩, trivial⟩
        refine L.ret (x_call ksesv_en46 rfl) rfl (same_eds _ _ _ _ (comes [] (s.hist s.log.length)) s.state _ (RecsAt.carry hEn hB0) hS73) ?_
        rintro v74 w74 ⟨rfl, hw⟩
        have hB0 := hB0.carry hw
        refine L.nil ?_
        refine thn_n ?_
        refine LAC.takeN (i := 8) rfl (by kernel_rfl) (by kernel_rfl) (by kernel_rfl) (by kernel_rfl) (fun w hw => x_not rfl) rfl ?_
        refine LAC.doneF (by kernel_rfl) hB0 ?_
        have hZ := hZ.carry hB0
        refine thn_n ?_
        refine W.cond (b := _) rfl (fun g75 => ?_) (fun g75 => ?_)
        ·have h75 := (not_t g75)
         simp [Bs.state] at g75
        ·have h75 := (not_f g75)
         refine W.skip ?_
         refine thn_n ?_
         refine W.seq ?_
         refine W.seq ?_
         refine W.region ?_
         refine L.val (x_as (v := .int _ _) rfl) rfl ?_
         refine L.nil ?_
         refine thn_n ?_
         refine W.block ?_
         refine W.loop (fun m' E w' => ∃ (i : Nat), m' = ds.length - i ∧ E 6 = .slice p6 ds.length c6 ∧ E 8 = .slice p8 s.log.length c8 ∧ E 9 = .slice (some ⟨b9, o9, none⟩) (s.log.length + 1) c9 ∧ E 11 = .int .i64 (i : Nat) ∧ (i ≤ ds.length) ∧ (Bel wL45 w')) (ds.length) ?_ ?_
         ·exact ⟨0, by omega, by first | rfl | exact vi (by omega), by first | rfl | exact vi (by omega), by first | rfl | exact vi (by omega), by first | rfl | exact vi (by omega), (by first | assumption | omega | rfl), (by first | assumption | omega | rfl)⟩
         ·rintro _ E wL76 ⟨i, em, e6, e8, e9, e11, hi, hZ⟩
          rw [upd_self e6, upd_self e8, upd_self e9, upd_self e11]
          refine W.seq ?_
          refine W.seq ?_
          refine W.region ?_
          refine L.val (x_mv (v := .int _ _) rfl) rfl ?_
          refine L.val (x_mv (v := .slice _ _ _) rfl) rfl ?_
          refine L.val (x_len_slice Try.underlying29 rfl) rfl ?_
          refine L.val (x_lss rfl rfl) rfl ?_
          refine L.nil ?_
          refine thn_n ?_
          refine W.cond (b := _) rfl (fun g79 => ?_) (fun g79 => ?_)
          ·have h79 := of_decide_eq_true g79
           have hlt : i < ds.length := by omega
           have hdn := hdb9.1
           have hdl : ∀ d ∈ ds, d.acts.length ≤ 1000000 := fun d hd => by have := hdb9.2 d hd; omega
           obtain ⟨ba, va, vv, vt, vk, rfl, hRd, hcd⟩ := Dids.rd (hDs.bel (hCN.trans hZ) hBN.free) hdl hlt
           have hdr := hrel.2 i hlt
           have hda := hdb9.2 _ (getD_mem (d := default) hlt)
           have hki := hdr.kinds
           generalize ds.getD i default = d at *
           refine W.skip ?_
           refine thn_n ?_
           refine W.seq ?_
           refine W.block ?_
           refine W.seq ?_
           refine W.region ?_
           refine L.val (x_mv (v := .slice _ _ _) rfl) rfl ?_
           refine L.val (x_mv (v := .int _ _) rfl) rfl ?_
           refine L.val (x_ia (j := i) Try.underlying29 ksesv_sz41 rfl rfl (by omega) (by omega)) rfl ?_
           refine L.val (x_fa ksesv_fo41_4 rfl) rfl ?_
           refine L.val (x_ld (v := .int _ _) ksesv_oc3 rfl (hcd 4 (by omega))) rfl ?_
           refine L.val (x_as (v := .int _ _) rfl) rfl ?_
           refine L.nil ?_
           refine thn_n ?_
           refine W.seq ?_
           refine W.seq ?_
           refine W.region ?_
           refine L.val (x_mv (v := .slice _ _ _) rfl) rfl ?_
           refine L.val (x_mv (v := .int _ _) rfl) rfl ?_
           refine L.val (x_ia (j := i) Try.underlying29 ksesv_sz41 rfl rfl (by omega) (by omega)) rfl ?_
           refine L.val (x_fa ksesv_fo41_5 rfl) rfl ?_
           refine L.val (x_ld (v := .int _ _) ksesv_oc3 rfl (hcd 5 (by omega))) rfl ?_
           refine L.val (x_geq rfl rfl) rfl ?_
           refine L.val (x_mv (v := .bool _) rfl) rfl ?_
           refine' L.group0 5 94 98 98 93 true rfl ?_ ?_ ?_
           rotate_left 1
           ·intro g93
            have h93 := of_decide_eq_true g93
            refine L.gyes' (dj := 93) (b := _) rfl rfl g93 ?_
            refine L.val (x_mv (v := .slice _ _ _) rfl) rfl ?_
            refine L.gyes' (dj := 93) (b := _) rfl rfl g93 ?_
            refine L.val (x_mv (v := .int _ _) rfl) rfl ?_
            refine L.gyes' (dj := 93) (b := _) rfl rfl g93 ?_
            refine L.val (x_ia (j := i) Try.underlying29 ksesv_sz41 rfl rfl (by omega) (by omega)) rfl ?_
            refine L.gyes' (dj := 93) (b := _) rfl rfl g93 ?_
            refine L.val (x_fa ksesv_fo41_6 rfl) rfl ?_
            refine L.gyes' (dj := 93) (b := _) rfl rfl g93 ?_
            refine L.val (x_ld (v := .bool _) ksesv_oc4 rfl (hcd 6 (by omega))) rfl ?_
            refine L.nil ?_
            refine thn_n ⟨rfl, rfl, ?_, rfl⟩
            repeat (first | exact jeq.refl _ _ _ | refine jeq.upd rfl ?_ | refine jeq.jk rfl rfl ?_)
           ·intro g93
            refine L.gno (dj := 93) (b := _) rfl rfl g93 rfl ?_
            refine L.gno (dj := 93) (b := _) rfl rfl g93 rfl ?_
            refine L.gno (dj := 93) (b := _) rfl rfl g93 rfl ?_
            refine L.gno (dj := 93) (b := _) rfl rfl g93 rfl ?_
            refine L.gno (dj := 93) (b := _) rfl rfl g93 rfl ?_
            refine L.nil (thn_n ⟨rfl, rfl, ?_⟩)
            repeat (first | exact jeq.refl _ _ _ | refine jeq.upd rfl ?_ | refine jeq.jk rfl rfl ?_)
           intro J93 j93
           refine L.val (x_and rfl j93) rfl ?_
           refine L.nil ?_
           refine thn_n ?_
           refine W.cond (b := _) rfl (fun g99 => ?_) (fun g99 => ?_)
           ·have h99 := g99
            simp only [Bool.and_eq_true, decide_eq_true_eq] at g99
            obtain ⟨n, hn⟩ : ∃ n : Nat, d.end_ = (n : Nat) := ⟨d.end_.toNat, by omega⟩
            have hc5 : wL76.cell? ⟨ba, 0 + i * 8 + 5, none⟩ = some (.int .i64 (n : Nat)) := by
              have := hcd 5 (by omega)
              rw [this, ← hn]; rfl
            obtain ⟨hnl, hans⟩ := hdr.behind (.inl ⟨hn, g99.2⟩)
            obtain ⟨vx, hvx, hEx⟩ := hRq.each n (by rw [statesS_len]; omega)
            have hcx := (hRq.carry hZ).elemAt1 (i := n) (by rw [statesS_len]; omega) hvx
            rw [statesS_get hnl] at hEx
            have hEd := RecsAt.carry hEx hZ
            obtain ⟨px, cx, rowx, rfl, -⟩ := id hEd
            have hh : (comes [] (s.hist n)).length ≤ 900000 := Nat.le_trans comes_len (hist_len hbd9 (by omega))
            refine W.region ?_
            refine L.val (x_mv (v := .slice _ _ _) rfl) rfl ?_
            refine L.val (x_mv (v := .int _ _) rfl) rfl ?_
            refine L.val (x_ia (j := i) Try.underlying29 ksesv_sz41 rfl rfl (by omega) (by omega)) rfl ?_
            refine L.val (x_fa ksesv_fo41_5 rfl) rfl ?_
            refine L.val (x_ld (v := .int _ _) ksesv_oc3 rfl hc5) rfl ?_
            refine L.val (x_as (v := .int _ _) rfl) rfl ?_
            refine L.nil ?_
            refine thn_n ?_
            refine W.seq ?_
            refine W.drawF 16 ksesv_mixed (fun wF105 hB0 => ?_)
            refine LAC.takeN (i := 0) rfl (by kernel_rfl) (by kernel_rfl) (by kernel_rfl) (by kernel_rfl) (fun w hw => x_mv (v := .int _ _) rfl) rfl ?_
            refine LAC.takeN (i := 1) rfl (by kernel_rfl) (by kernel_rfl) (by kernel_rfl) (by kernel_rfl) (fun w hw => x_mv (v := .slice _ _ _) rfl) rfl ?_
            refine LAC.takeN (i := 2) rfl (by kernel_rfl) (by kernel_rfl) (by kernel_rfl) (by kernel_rfl) (fun w hw => x_len_slice Try.underlying30 rfl) rfl ?_
            refine LAC.takeN (i := 3) rfl (by kernel_rfl) (by kernel_rfl) (by kernel_rfl) (by kernel_rfl) (fun w hw => x_gtr rfl rfl) rfl ?_
            refine LAC.takeN (i := 4) rfl (by kernel_rfl) (by kernel_rfl) (by kernel_rfl) (by kernel_rfl) (fun w hw => x_mv (v := .bool _) rfl) rfl ?_
            refine LAC.split (dj := 109) (b := _) rfl (fun g109 => ?_) (fun g109 => ?_)
            ·have h109 := of_decide_eq_true g109
             simp at g109; omega
            ·have h109 := dlt_f g109
             refine LAC.takeG (i := 5) rfl (by kernel_rfl) (by kernel_rfl) (by kernel_rfl) (by kernel_rfl) (dj := 109) (b := _) rfl rfl g109 (fun w hw => x_mv (v := .slice _ _ _) rfl) rfl ?_
             refine LAC.takeG (i := 6) rfl (by kernel_rfl) (by kernel_rfl) (by kernel_rfl) (by kernel_rfl) (dj := 109) (b := _) rfl rfl g109 (fun w hw => x_mv (v := .int _ _) rfl) rfl ?_
             refine LAC.takeG (i := 7) rfl (by kernel_rfl) (by kernel_rfl) (by kernel_rfl) (by kernel_rfl) (dj := 109) (b := _) rfl rfl g109 (fun w hw => x_ia1 (j := n) Try.underlying30 ksesv_sz22 rfl rfl (by omega) (by omega)) rfl ?_
             refine LAC.takeG (i := 8) rfl (by kernel_rfl) (by kernel_rfl) (by kernel_rfl) (by kernel_rfl) (dj := 109) (b := _) rfl rfl g109 (fun w hw => x_ld (v := .slice _ _ _) ksesv_oc22 rfl (hw.keep hcx)) rfl ?_
             refine LAC.takeG (i := 9) rfl (by kernel_rfl) (by kernel_rfl) (by kernel_rfl) (by kernel_rfl) (dj := 109) (b := _) rfl rfl g109 (fun w hw => x_mv (v := .slice _ _ _) rfl) rfl ?_
             refine LAC.takeG (i := 10) rfl (by kernel_rfl) (by kernel_rfl) (by kernel_rfl) (by kernel_rfl) (dj := 109) (b := _) rfl rfl g109 (fun w hw => x_mv (v := .int _ _) rfl) rfl ?_
             refine LAC.takeG (i := 11) rfl (by kernel_rfl) (by kernel_rfl) (by kernel_rfl) (by kernel_rfl) (dj := 109) (b := _) rfl rfl g109 (fun w hw => x_ia (j := i) Try.underlying29 ksesv_sz41 rfl rfl (by omega) (by omega)) rfl ?_
             refine LAC.takeG (i := 12) rfl (by kernel_rfl) (by kernel_rfl) (by kernel_rfl) (by kernel_rfl) (dj := 109) (b := _) rfl rfl g109 (fun w hw => x_ldn (vs := didV va vv vt vk d) ksesv_ag41 rfl rfl (hw.keepRow rfl hcd)) rfl ?_
             refine LAC.step (rs := [13]) (fun _ => hB0) (by kernel_rfl) (by simp) ⟨⟨_, rfl, ?_⟩, trivial⟩
             refine L.gyes' (dj := 109) (b := _) rfl rfl g109 ?_
             refine L.ret (x_call ksesv_en48 rfl) rfl (again_ok _ (comes [] (s.hist n)) d _ _ _ (RecsAt.carry hEd hB0) (hRd.carry hB0) hh (by omega) hans hki) ?_
             rintro v118 w118 ⟨rfl, hw⟩
             have hB0 := hB0.carry hw
             refine L.nil ?_
             refine thn_n ?_
             refine LAC.takeG (i := 14) rfl (by kernel_rfl) (by kernel_rfl) (by kernel_rfl) (by kernel_rfl) (dj := 109) (b := _) rfl rfl g109 (fun w hw => x_not rfl) rfl ?_
             refine LAC.takeN (i := 15) rfl (by kernel_rfl) (by kernel_rfl) (by kernel_rfl) (by kernel_rfl) (fun w hw => x_pick_f (v := .bool _) (congrArg Value.bool g109) rfl) rfl ?_
             refine LAC.doneF (by kernel_rfl) hB0 ?_
             have hZ := hZ.carry hB0
             refine thn_n ?_
             refine W.cond (b := _) rfl (fun g119 => ?_) (fun g119 => ?_)
             ·have h119 := (not_t g119)
              simp at g119
             ·have h119 := (not_f g119)
              refine W.skip ?_
              refine blk_n ?_
              refine thn_n ?_
              refine W.region ?_
              refine L.val (x_mv (v := .int _ _) rfl) rfl ?_
              refine L.val (x_add rfl rfl (wr64 (by omega))) rfl ?_
              refine L.val (x_as (v := .int _ _) rfl) rfl ?_
              refine L.nil ?_
              refine thn_n ⟨rfl, ?_⟩
              refine ⟨_, ?_, i + 1, rfl, by first | rfl | exact vi (by omega), by first | rfl | exact vi (by omega), by first | rfl | exact vi (by omega), by first | rfl | exact vi (by omega), (by first | assumption | omega | rfl), (by first | assumption | omega | rfl)⟩
              omega
           ·have h99 := g99
            obtain ⟨n, hn⟩ : ∃ n : Nat, n = d.at_ := ⟨_, rfl⟩
            rw [← hn]
            obtain ⟨hnl, hans⟩ := hdr.behind (.inr hn)
            obtain ⟨vx, hvx, hEx⟩ := hRq.each n (by rw [statesS_len]; omega)
            have hcx := (hRq.carry hZ).elemAt1 (i := n) (by rw [statesS_len]; omega) hvx
            rw [statesS_get hnl] at hEx
            have hEd := RecsAt.carry hEx hZ
            obtain ⟨px, cx, rowx, rfl, -⟩ := id hEd
            have hh : (comes [] (s.hist n)).length ≤ 900000 := Nat.le_trans comes_len (hist_len hbd9 (by omega))
            refine W.skip ?_
            refine thn_n ?_
            refine W.seq ?_
            refine W.drawF 16 ksesv_mixed (fun wF105 hB0 => ?_)
            refine LAC.takeN (i := 0) rfl (by kernel_rfl) (by kernel_rfl) (by kernel_rfl) (by kernel_rfl) (fun w hw => x_mv (v := .int _ _) rfl) rfl ?_
            refine LAC.takeN (i := 1) rfl (by kernel_rfl) (by kernel_rfl) (by kernel_rfl) (by kernel_rfl) (fun w hw => x_mv (v := .slice _ _ _) rfl) rfl ?_
            refine LAC.takeN (i := 2) rfl (by kernel_rfl) (by kernel_rfl) (by kernel_rfl) (by kernel_rfl) (fun w hw => x_len_slice Try.underlying30 rfl) rfl ?_
            refine LAC.takeN (i := 3) rfl (by kernel_rfl) (by kernel_rfl) (by kernel_rfl) (by kernel_rfl) (fun w hw => x_gtr rfl rfl) rfl ?_
            refine LAC.takeN (i := 4) rfl (by kernel_rfl) (by kernel_rfl) (by kernel_rfl) (by kernel_rfl) (fun w hw => x_mv (v := .bool _) rfl) rfl ?_
            refine LAC.split (dj := 109) (b := _) rfl (fun g109 => ?_) (fun g109 => ?_)
            ·have h109 := of_decide_eq_true g109
             simp at g109; omega
            ·have h109 := dlt_f g109
             refine LAC.takeG (i := 5) rfl (by kernel_rfl) (by kernel_rfl) (by kernel_rfl) (by kernel_rfl) (dj := 109) (b := _) rfl rfl g109 (fun w hw => x_mv (v := .slice _ _ _) rfl) rfl ?_
             refine LAC.takeG (i := 6) rfl (by kernel_rfl) (by kernel_rfl) (by kernel_rfl) (by kernel_rfl) (dj := 109) (b := _) rfl rfl g109 (fun w hw => x_mv (v := .int _ _) rfl) rfl ?_
             refine LAC.takeG (i := 7) rfl (by kernel_rfl) (by kernel_rfl) (by kernel_rfl) (by kernel_rfl) (dj := 109) (b := _) rfl rfl g109 (fun w hw => x_ia1 (j := n) Try.underlying30 ksesv_sz22 rfl rfl (by omega) (by omega)) rfl ?_
             refine LAC.takeG (i := 8) rfl (by kernel_rfl) (by kernel_rfl) (by kernel_rfl) (by kernel_rfl) (dj := 109) (b := _) rfl rfl g109 (fun w hw => x_ld (v := .slice _ _ _) ksesv_oc22 rfl (hw.keep hcx)) rfl ?_
             refine LAC.takeG (i := 9) rfl (by kernel_rfl) (by kernel_rfl) (by kernel_rfl) (by kernel_rfl) (dj := 109) (b := _) rfl rfl g109 (fun w hw => x_mv (v := .slice _ _ _) rfl) rfl ?_
             refine LAC.takeG (i := 10) rfl (by kernel_rfl) (by kernel_rfl) (by kernel_rfl) (by kernel_rfl) (dj := 109) (b := _) rfl rfl g109 (fun w hw => x_mv (v := .int _ _) rfl) rfl ?_
             refine LAC.takeG (i := 11) rfl (by kernel_rfl) (by kernel_rfl) (by kernel_rfl) (by kernel_rfl) (dj := 109) (b := _) rfl rfl g109 (fun w hw => x_ia (j := i) Try.underlying29 ksesv_sz41 rfl rfl (by omega) (by omega)) rfl ?_
             refine LAC.takeG (i := 12) rfl (by kernel_rfl) (by kernel_rfl) (by kernel_rfl) (by kernel_rfl) (dj := 109) (b := _) rfl rfl g109 (fun w hw => x_ldn (vs := didV va vv vt vk d) ksesv_ag41 rfl rfl (hw.keepRow rfl hcd)) rfl ?_
             refine LAC.step (rs := [13]) (fun _ => hB0) (by kernel_rfl) (by simp) ⟨⟨_, rfl, ?_⟩, trivial⟩
             refine L.gyes' (dj := 109) (b := _) rfl rfl g109 ?_
             refine L.ret (x_call ksesv_en48 rfl) rfl (again_ok _ (comes [] (s.hist n)) d _ _ _ (RecsAt.carry hEd hB0) (hRd.carry hB0) hh (by omega) hans hki) ?_
             rintro v118 w118 ⟨rfl, hw⟩
             have hB0 := hB0.carry hw
             refine L.nil ?_
             refine thn_n ?_
             refine LAC.takeG (i := 14) rfl (by kernel_rfl) (by kernel_rfl) (by kernel_rfl) (by kernel_rfl) (dj := 109) (b := _) rfl rfl g109 (fun w hw => x_not rfl) rfl ?_
             refine LAC.takeN (i := 15) rfl (by kernel_rfl) (by kernel_rfl) (by kernel_rfl) (by kernel_rfl) (fun w hw => x_pick_f (v := .bool _) (congrArg Value.bool g109) rfl) rfl ?_
             refine LAC.doneF (by kernel_rfl) hB0 ?_
             have hZ := hZ.carry hB0
             refine thn_n ?_
             refine W.cond (b := _) rfl (fun g119 => ?_) (fun g119 => ?_)
             ·have h119 := (not_t g119)
              simp at g119
             ·have h119 := (not_f g119)
              refine W.skip ?_
              refine blk_n ?_
              refine thn_n ?_
              refine W.region ?_
              refine L.val (x_mv (v := .int _ _) rfl) rfl ?_
              refine L.val (x_add rfl rfl (wr64 (by omega))) rfl ?_
              refine L.val (x_as (v := .int _ _) rfl) rfl ?_
              refine L.nil ?_
              refine thn_n ⟨rfl, ?_⟩
              refine ⟨_, ?_, i + 1, rfl, by first | rfl | exact vi (by omega), by first | rfl | exact vi (by omega), by first | rfl | exact vi (by omega), by first | rfl | exact vi (by omega), (by first | assumption | omega | rfl), (by first | assumption | omega | rfl)⟩
              omega
          ·have h79 := dlt_f g79
           refine W.exit (thn_x (thn_x (blk_hit ?_)))
           refine thn_n ?_
           refine W.seq ?_
           refine W.region ?_
           refine L.ret (x_call ksesv_en14 rfl) rfl (awake40 _) ?_
           rintro v121 w121 ⟨rfl, hw⟩
           have hZ := hZ.carry hw
           refine L.val (x_as (v := .bool _) rfl) rfl ?_
           refine L.nil ?_
           refine thn_n ?_
           refine W.ret (fin_mk (.inr rfl) ?_)
           exact ⟨rfl, hBZ.trans hZ⟩
end Go.Gx
