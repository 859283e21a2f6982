/- Sessions: the law Alone. Conditions: none. -/
import Derived.Test.YtnhbjfkeeegdgaaCbSesT
namespace Go.Gx
open Go.Proofs
theorem ksesl_ag36 : aggT Try.prog 36 5 = true := by kernel_rfl
theorem ksesl_ag41 : aggT Try.prog 41 8 = true := by kernel_rfl
theorem ksesl_en12 : Go.Proofs.Enters Try.prog 12 := Go.Proofs.enters_of Try.func12 (by kernel_rfl) rfl
theorem ksesl_en13 : Go.Proofs.Enters Try.prog 13 := Go.Proofs.enters_of Try.func13 (by kernel_rfl) rfl
theorem ksesl_en14 : Go.Proofs.Enters Try.prog 14 := Go.Proofs.enters_of Try.func14 (by kernel_rfl) rfl
theorem ksesl_en15 : Go.Proofs.Enters Try.prog 15 := Go.Proofs.enters_of Try.func15 (by kernel_rfl) rfl
theorem ksesl_en16 : Go.Proofs.Enters Try.prog 16 := Go.Proofs.enters_of Try.func16 (by kernel_rfl) rfl
theorem ksesl_en17 : Go.Proofs.Enters Try.prog 17 := Go.Proofs.enters_of Try.func17 (by kernel_rfl) rfl
theorem ksesl_fo36_0 : fieldOff Try.prog 36 0 = some 0 := by kernel_rfl
theorem ksesl_fo36_1 : fieldOff Try.prog 36 1 = some 1 := by kernel_rfl
theorem ksesl_fo41_4 : fieldOff Try.prog 41 4 = some 4 := by kernel_rfl
theorem ksesl_fo41_6 : fieldOff Try.prog 41 6 = some 6 := by kernel_rfl
theorem ksesl_fo41_7 : fieldOff Try.prog 41 7 = some 7 := by kernel_rfl
theorem ksesl_oc3 : oneCellT Try.prog 3 = true := by kernel_rfl
theorem ksesl_oc4 : oneCellT Try.prog 4 = true := by kernel_rfl
theorem ksesl_sz36 : (Try.prog.info? 36).map (·.size) = some 5 := by kernel_rfl
theorem ksesl_sz41 : (Try.prog.info? 41).map (·.size) = some 8 := by kernel_rfl
theorem ksesl_zr41 : (Try.prog.info? 41).bind (·.zero) = some (Value.agg [Value.slice none 0 0, Value.slice none 0 0, Value.slice none 0 0, Value.slice none 0 0, Value.int .i64 0, Value.int .i64 0, Value.bool false, Value.bool false].toArray) := by kernel_rfl
def Rel (s : Bs) (ds : List Dd) : Prop := ds.length = s.all.length ∧ ∀ i, i < ds.length → (ds.getD i default).at_ = (s.all.getD i default).at_ ∧ ((ds.getD i default).writes = true ↔ (s.all.getD i default).eds ≠ [])
def ClOk (n : Nat) (ds : List Dd) : Prop := ∀ d ∈ ds, d.clashed = true → d.writes = true ∧ d.at_ < n
theorem upd_at {s : Bs} {id : Int} {x : Sx} {j : Nat} (h1 : 1 ≤ id) (h2 : id ≤ s.all.length) : (s.upd id x).all.getD j default = if j = id.toNat - 1 then x else s.all.getD j default := getD_set (by omega)
theorem upd_len {s : Bs} {id : Int} {x : Sx} : (s.upd id x).all.length = s.all.length := by simp [Bs.upd]
theorem Rel.upd {s : Bs} {ds : List Dd} {id : Int} {x : Sx} {d' : Dd} (h : Rel s ds) (h1 : 1 ≤ id) (h2 : id ≤ s.all.length) (ha : d'.at_ = x.at_) (hw : d'.writes = true ↔ x.eds ≠ []) : Rel (s.upd id x) (ds.set (id.toNat - 1) d') := by
  have hl := h.1
  refine ⟨by rw [List.length_set, upd_len]; exact hl, fun i hi => ?_⟩
  rw [List.length_set] at hi
  rw [upd_at h1 h2, getD_set (by omega)]
  by_cases hi2 : i = id.toNat - 1
  · rw [if_pos hi2, if_pos hi2]; exact ⟨ha, hw⟩
  · rw [if_neg hi2, if_neg hi2]; exact h.2 i hi
theorem set_self {α : Type} {l : List α} {i : Nat} {d : α} (hi : i < l.length) : l.set i (l.getD i d) = l := by
  apply List.ext_getElem?
  intro j
  rw [List.getElem?_set]
  by_cases h : i = j
  · subst h; rw [if_pos rfl, if_pos hi, List.getD_eq_getElem?_getD, List.getElem?_eq_getElem hi]; rfl
  · rw [if_neg h]
theorem Rel.shut {s : Bs} {ds : List Dd} {id : Int} (h : Rel s ds) (h1 : 1 ≤ id) (h2 : id ≤ s.all.length) {d' : Dd} (hd : d'.at_ = (ds.getD (id.toNat - 1) default).at_ ∧ d'.writes = (ds.getD (id.toNat - 1) default).writes) : Rel (s.shut id) (ds.set (id.toNat - 1) d') := by
  have hl := h.1
  obtain ⟨r1, r2⟩ := h.2 (id.toNat - 1) (by omega)
  exact h.upd h1 h2 (hd.1.trans r1) (by rw [hd.2]; exact r2)
theorem rel_step {s : Bs} {ds : List Dd} (h : Rel s ds) (a : Ac) : Rel (stepS s ds a).1 (stepS s ds a).2 := by
  have hl := h.1
  unfold stepS
  split
  · refine ⟨by simp [Bs.begin_, hl], fun i hi => ?_⟩
    have e : (s.begin_).all = s.all ++ [⟨true, s.log.length, [], [], []⟩] := rfl
    rw [e, getD_append_one, getD_append_one, hl]
    by_cases hi2 : i = s.all.length
    · rw [if_pos hi2, if_pos hi2]; exact ⟨rfl, by simp⟩
    · rw [if_neg hi2, if_neg hi2]; exact h.2 i (by simp at hi; omega)
  · split
    · exact h
    · next hid =>
      have h1 : 1 ≤ a.id := by omega
      have h2 : a.id ≤ s.all.length := by omega
      obtain ⟨r1, r2⟩ := h.2 (a.id.toNat - 1) (by omega)
      dsimp only
      split
      · split
        · dsimp only
          unfold Bs.getS
          split
          · exact h.upd h1 h2 r1 r2
          · have := h.upd (x := s.ses a.id) (d' := (ds.getD (a.id.toNat - 1) default).add a (s.getA a.id a.ed.key).1 (s.getA a.id a.ed.key).2 []) h1 h2 r1 r2
            have e : s.upd a.id (s.ses a.id) = s := by
              unfold Bs.upd Bs.ses
              rw [set_self (by omega)]
            rwa [e] at this
        · exact h
      · split
        · split
          · exact h.upd h1 h2 r1 r2
          · exact h
        · split
          · split
            · exact h.upd h1 h2 r1 (by simp)
            · exact h
          · split
            · split
              · have hs : ∀ d' : Dd, d'.at_ = (ds.getD (a.id.toNat - 1) default).at_ ∧ d'.writes = (ds.getD (a.id.toNat - 1) default).writes → Rel (s.commitS a.id) (ds.set (a.id.toNat - 1) d') := fun d' hd => by
                  have := h.shut h1 h2 hd
                  unfold Bs.commitS
                  split
                  · exact this
                  · exact ⟨this.1, this.2⟩
                dsimp only
                split
                · exact hs _ ⟨rfl, rfl⟩
                · exact hs _ ⟨rfl, rfl⟩
              · exact h
            · dsimp only
              split
              · have := h.shut (d' := ds.getD (a.id.toNat - 1) default) h1 h2 ⟨rfl, rfl⟩
                rwa [set_self (by omega)] at this
              · exact h
theorem commit_clash {s : Bs} {id : Int} (h : s.commitA id ≠ 0) : (s.ses id).eds ≠ [] ∧ (s.ses id).at_ < s.log.length := by
  unfold Bs.commitA at h
  split at h
  · next hc =>
    refine ⟨hc.1, Decidable.byContradiction fun hlt => ?_⟩
    have h2 := hc.2
    unfold Bs.changed at h2
    rw [List.drop_of_length_le (by omega)] at h2
    simp at h2
  · exact absurd rfl h
theorem cl_step {s : Bs} {ds : List Dd} (h : Rel s ds) (hc : ClOk s.log.length ds) (a : Ac) : ClOk s.log.length (stepS s ds a).2 := by
  have hl := h.1
  have hset : ∀ (d' : Dd), (d'.clashed = true → d'.writes = true ∧ d'.at_ < s.log.length) → ClOk s.log.length (ds.set (a.id.toNat - 1) d') := fun d' hd d hm => by
    rcases List.mem_or_eq_of_mem_set hm with hm | rfl
    · exact hc d hm
    · exact hd
  unfold stepS
  split
  · intro d hm
    rcases List.mem_append.1 hm with hm | hm
    · exact hc d hm
    · rw [List.mem_singleton.1 hm]; simp
  · split
    · exact hc
    · next hid =>
      have hin : a.id.toNat - 1 < ds.length := by omega
      obtain ⟨r1, r2⟩ := h.2 (a.id.toNat - 1) hin
      have hd0 := hc (ds.getD (a.id.toNat - 1) default) (by rw [List.getD_eq_getElem?_getD, List.getElem?_eq_getElem hin]; exact List.getElem_mem hin)
      dsimp only
      split
      · split
        · exact hset _ hd0
        · exact hc
      · split
        · split
          · exact hset _ hd0
          · exact hc
        · split
          · split
            · exact hset _ fun hcl => ⟨rfl, (hd0 hcl).2⟩
            · exact hc
          · split
            · split
              · dsimp only
                split
                · exact hset _ hd0
                · next hca =>
                  have hcc := commit_clash hca
                  exact hset _ fun _ => ⟨r2.2 hcc.1, by show (ds.getD (a.id.toNat - 1) default).at_ < _; rw [r1]; exact hcc.2⟩
              · exact hc
            · exact hc
theorem log_step (s : Bs) (ds : List Dd) (a : Ac) : s.log.length ≤ (stepS s ds a).1.log.length := by
  have hu : ∀ x, (s.upd a.id x).log = s.log := fun _ => rfl
  unfold stepS
  split
  · exact Nat.le_refl _
  · split
    · exact Nat.le_refl _
    · dsimp only
      split
      · split
        · dsimp only; unfold Bs.getS; split
          · rw [hu]; exact Nat.le_refl _
          · exact Nat.le_refl _
        · exact Nat.le_refl _
      · split
        · split
          · exact Nat.le_refl _
          · exact Nat.le_refl _
        · split
          · split
            · exact Nat.le_refl _
            · exact Nat.le_refl _
          · split
            · split
              · dsimp only; unfold Bs.commitS; split
                · exact Nat.le_refl _
                · simp
              · exact Nat.le_refl _
            · dsimp only; split
              · exact Nat.le_refl _
              · exact Nat.le_refl _
theorem eds_ok {A : Nat → Prop} {w : World} {v : Value} {l : List Ed} (h : EdsAt A w v l) : ∀ e ∈ l, EdOk e := fun e he => by
  obtain ⟨p, c, row, -, -, -, -, hR⟩ := h
  obtain ⟨i, hi, rfl⟩ := List.getElem_of_mem he
  have := (hR.each i hi).2
  rwa [List.getD_eq_getElem?_getD, List.getElem?_eq_getElem hi] at this
theorem low_goes {ow ow' : Labels} {w0 w w' : World} (hl : ∀ j, j < w0.heap.size → ow j = none) (hs : w0.heap.size ≤ w.heap.size) (g : Goes2 0 1 w w' ow ow') : (∀ j, j < w0.heap.size → ow' j = none) ∧ ∀ j, j < w0.heap.size → ¬ (Mine ow 0 j ∨ Mine ow 1 j) :=
  ⟨fun j hj => (g.old j (by omega)).elim (fun e => e.trans (hl j hj)) (fun e => e.2), fun j hj m => by rcases m with ⟨p, m⟩ | ⟨p, m⟩ <;> (rw [hl j hj] at m; cases m)⟩
theorem Dids.row {ow : Labels} {t : Nat} {w : World} {v : Value} {ds : List Dd} (h : DidsAt ow t w v ds) : ∃ pa ca, v = .slice pa ds.length ca ∧ ∀ i, i < ds.length → ∃ ba, pa = some ⟨ba, 0, none⟩ ∧ ba < w.heap.size ∧ ∃ va vv vt vk, (va.oneCell' = true ∧ vv.oneCell' = true ∧ vt.oneCell' = true ∧ vk.oneCell' = true) ∧ ∀ j, j < 8 → w.cell? ⟨ba, 0 + i * 8 + j, none⟩ = (didV va vv vt vk (ds.getD i default))[j]? := by
  obtain ⟨rows, hO, hrl, hrow⟩ := h
  obtain ⟨pa, ca, rfl, -⟩ := own_shape hO.1
  refine ⟨pa, ca, rfl, fun i hi => ?_⟩
  obtain ⟨ba, rfl⟩ := own_pos hO.1 (by omega)
  have h8 := dids_lens hrl hrow
  obtain ⟨va, vv, vt, vk, kr, hr, d2, d3, d4, d5, -⟩ := hrow i hi
  rcases Own.open hO.1 with ⟨e, -⟩ | ⟨b', c', tl, e, -, -, -, hbx⟩
  · cases e
  · simp only [Value.slice.injEq, Option.some.injEq, Addr.mk.injEq, and_true, true_and] at e
    obtain ⟨e, -⟩ := e
    subst e
    refine ⟨ba, rfl, hbx.lt, va, vv, vt, vk, ⟨own_one d2.1, own_one d3.1, own_one d4.1, own_one d5.1⟩, fun j hj => ?_⟩
    have hx : (didV va vv vt vk (ds.getD i default))[j]? = some ((didV va vv vt vk (ds.getD i default))[j]'(by simp [didV]; omega)) := List.getElem?_eq_getElem _
    rw [hx]
    rw [Nat.zero_add]
    exact hbx.cell (row_cell h8 (by omega) hj (by rw [hr]; exact hx))
theorem getD_mem {α : Type} {l : List α} {i : Nat} {d : α} (h : i < l.length) : l.getD i d ∈ l := by rw [List.getD_eq_getElem?_getD, List.getElem?_eq_getElem h]; exact List.getElem_mem h
theorem alone_law (A B : Nat → Prop) (first : List Ed) (acts : List Ac) (v0 v1 : Value) (w : World) (h0 : EdsAt A w v0 first) (h1 : RecsAt AcC 5 B w v1 acts) :
    Ret Try.prog 3 #[v0, v1] w fun r w' => r = .bool true ∧ Bel w w' := by
  have hok0 := eds_ok h0
  have h0r := h0
  have h1r := h1
  obtain ⟨p0, c0, row0, rfl, -⟩ := id h0
  obtain ⟨p1, c1, row1, rfl, a1, a2, a3, hR⟩ := h1
  have h1r : RecsAt AcC 5 B w (.slice p1 acts.length c1) acts := ⟨p1, c1, row1, rfl, a1, a2, a3, hR⟩
  refine ret_of_W Try.func3 rfl (Nat.le_of_ble_eq_true rfl) (res1 rfl) ?_
  have hB := Gr.refl (fun _ => False) w
  refine W.seq ?_
  refine W.region ?_
  refine L.val (x_as (v := .bool _) rfl) rfl ?_
  refine L.nil ?_
  refine thn_n ?_
  refine W.seq ?_
  refine W.seq ?_
  refine W.region ?_
  refine L.val (x_mv (v := .slice _ _ _) rfl) rfl ?_
  refine L.ret (x_call ksesl_en12 rfl) rfl (fews_ok B _ acts _ h1r) ?_
  rintro v11 w11 ⟨rfl, hw⟩
  have hB := hB.carry hw
  refine L.val (x_not rfl) rfl ?_
  refine L.val (x_mv (v := .bool _) rfl) rfl ?_
  refine' L.group 3 14 16 16 13 false rfl ?_ ?_ ?_
  rotate_left 1
  ·intro g13 hg13
   have h13 := (not_f g13)
   refine L.gyes' (dj := 13) (b := _) rfl rfl g13 ?_
   refine L.val (x_mv (v := .slice _ _ _) rfl) rfl ?_
   refine L.gyes' (dj := 13) (b := _) rfl rfl g13 ?_
   refine L.ret (x_call ksesl_en13 rfl) rfl (few_ok A _ first 40 _ (h0r.carry hB)) ?_
   rintro v15 w15 ⟨rfl, hq⟩
   rw [hq]
   refine L.gyes' (dj := 13) (b := _) rfl rfl g13 ?_
   refine L.val (x_not rfl) rfl ?_
   refine L.nil ?_
   refine thn_n ⟨rfl, ?_, ?_, fun _ => rfl⟩
   ·exact hg13
   ·repeat (first | exact jeq.refl _ _ _ | refine jeq.upd rfl ?_ | refine jeq.jk rfl rfl ?_)
  ·intro g13
   refine L.gno (dj := 13) (b := _) rfl rfl g13 rfl ?_
   refine L.gno (dj := 13) (b := _) rfl rfl g13 rfl ?_
   refine L.gno (dj := 13) (b := _) rfl rfl g13 rfl ?_
   refine L.nil (thn_n ⟨rfl, Gr.refl _ _, ?_⟩)
   refine ⟨?_, fun h => h.elim⟩
   repeat (first | exact jeq.refl _ _ _ | refine jeq.upd rfl ?_ | refine jeq.jk rfl rfl ?_)
  intro J13 w13 hw j13
  have hB := hB.carry hw
  refine L.val (x_or rfl j13) rfl ?_
  refine L.nil ?_
  refine thn_n ?_
  refine W.cond (b := _) rfl (fun g17 => ?_) (fun g17 => ?_)
  ·have h17 := g17
   refine W.seq ?_
   refine W.region ?_
   refine L.ret (x_call ksesl_en14 rfl) rfl (awake40 _) ?_
   rintro v18 w18 ⟨rfl, hw⟩
   have hB := hB.carry hw
   refine L.val (x_as (v := .bool _) rfl) rfl ?_
   refine L.nil ?_
   refine thn_n ?_
   refine W.ret (thn_r (fin_mk (.inr rfl) ?_))
   exact ⟨rfl, hB⟩
  ·have h17 := g17
   simp only [Bool.or_eq_false_iff, Bool.not_eq_false'] at g17
   have hfew : FewB acts = true := by simpa using g17.1
   have hfirst : fewB first 40 = true := by simpa using g17.2
   have hal : acts.length ≤ 150 := by unfold FewB at hfew; simp only [Bool.and_eq_true, decide_eq_true_eq] at hfew; exact hfew.1
   have hfl : first.length ≤ 40 := by unfold fewB at hfirst; simp only [Bool.and_eq_true, decide_eq_true_eq] at hfirst; exact hfirst.1
   have hB11 := hB
   refine W.skip ?_
   refine thn_n ?_
   refine W.seq ?_
   refine W.region ?_
   refine L.val (x_mv (v := .slice _ _ _) rfl) rfl ?_
   refine L.ret (x_call ksesl_en15 rfl) rfl (new_ok (fun _ => none) 0 _ first _ ((h0r.carry hB).mono (fun b hb h => absurd h (by omega))) (fun _ _ => rfl) (fun _ _ h => by cases h) hok0) ?_
   rintro v20 w20 ⟨b, bh, bo, lh0, ow0, rfl, hG0, hN0⟩
   have hgs := hB.size
   have hB := hB.step hG0.gr (fun i hi m => by obtain ⟨p, m⟩ := m; cases m)
   have hlow0 : ∀ j, j < w.heap.size → ow0 j = none := fun j hj => (hG0.old j (by omega)).elim (fun e => e) (fun e => e.2)
   refine L.val (x_as (v := .pointer _) rfl) rfl ?_
   refine L.nil ?_
   refine thn_n ?_
   refine W.seq ?_
   refine W.seq ?_
   refine W.region ?_
   refine L.val (x_mv (v := .pointer _) rfl) rfl ?_
   refine L.val (x_eqp0 Try.underlying27 rfl rfl) rfl ?_
   refine L.nil ?_
   refine thn_n ?_
   refine W.cond (b := _) rfl (fun g22 => ?_) (fun g22 => ?_)
   ·have h22 := g22
    cases g22
   ·have h22 := g22
    refine W.skip ?_
    refine thn_n ?_
    refine W.seq ?_
    refine W.region ?_
    refine L.val (x_as (v := .slice _ _ _) rfl) rfl ?_
    refine L.nil ?_
    refine thn_n ?_
    refine W.seq ?_
    refine W.seq ?_
    refine W.region ?_
    refine L.val (x_as (v := .int _ _) rfl) rfl ?_
    refine L.nil ?_
    refine thn_n ?_
    refine W.block ?_
    refine W.loop (fun m' E w' => ∃ (k : Nat) (s : Bs) (ds : List Dd) (ow : Labels) (v6 vl : Value) (lh : List (Str × Value)) (lo : List (Int × Value)) (rows : List (List Value)), m' = acts.length - k ∧ E 1 = .slice p1 acts.length c1 ∧ E 5 = .pointer (some ⟨b, 0, none⟩) ∧ E 6 = v6 ∧ E 7 = .int .i64 (k : Nat) ∧ (k ≤ acts.length) ∧ (Bel w w') ∧ (∀ j, j < w.heap.size → ow j = none) ∧ (BaseAt ow 0 w' b s bh bo vl lh lo rows) ∧ (DidsAt ow 1 w' v6 ds) ∧ (Bnd k s) ∧ (DBnd k ds) ∧ (Rel s ds) ∧ (ClOk s.log.length ds)) (acts.length) ?_ ?_
    ·exact ⟨0, ⟨first, [], []⟩, [], ow0, .slice none 0 0, .slice none 0 0, lh0, [], [], by omega, by first | rfl | exact vi (by omega), by first | rfl | exact vi (by omega), by first | rfl | exact vi (by omega), by first | rfl | exact vi (by omega), (by first | assumption | omega | rfl), (by first | assumption | omega | rfl), (by first | assumption | omega | rfl), (by first | assumption | omega | rfl), (by exact ⟨[], ⟨own_nil, fun j hj => by simp [Value.ownBlock] at hj⟩, rfl, fun i hi => by simp at hi⟩), (by exact ⟨by simp, by simp, hfl, by simp, by simp⟩), (by exact ⟨by simp, by simp⟩), (by exact ⟨rfl, fun i hi => by simp at hi⟩), (by exact fun d hd => by cases hd)⟩
    ·rintro _ E wL23 ⟨k, s, ds, ow, v6, vl, lh, lo, rows, em, e1, e5, e6, e7, hk, hB, hlow, hBN, hDs, hbd, hdb, hrel, hcl⟩
     rw [upd_self e1, upd_self e5, upd_self e6, upd_self e7]
     refine W.seq ?_
     refine W.seq ?_
     refine W.region ?_
     refine L.val (x_mv (v := .int _ _) rfl) rfl ?_
     refine L.val (x_mv (v := .slice _ _ _) rfl) rfl ?_
     refine L.val (x_len_slice Try.underlying23 rfl) rfl ?_
     refine L.val (x_lss rfl rfl) rfl ?_
     refine L.nil ?_
     refine thn_n ?_
     refine W.cond (b := _) rfl (fun g26 => ?_) (fun g26 => ?_)
     ·have h26 := of_decide_eq_true g26
      have hlt : k < acts.length := by omega
      obtain ⟨ba, oa, rfl, -, hca⟩ := (hR.carry hB).elem hlt
      have hra := (hR.each k hlt).1
      have hae := (hR.each k hlt).2
      rw [hra] at hca
      obtain ⟨p6, c6, hv6, -⟩ := Dids.row hDs
      subst hv6
      have hsk := hB.size
      refine W.skip ?_
      refine thn_n ?_
      refine W.seq ?_
      refine W.block ?_
      refine W.seq ?_
      refine W.region ?_
      refine L.val (x_mv (v := .pointer _) rfl) rfl ?_
      refine L.ret (x_call ksesl_en16 rfl) rfl (log_ok ow 0 b bh bo s _ lh lo rows _ hBN (by have := hbd.lg; omega) (fun l hl => by have := hbd.ll l hl; omega)) ?_
      rintro v30 w30 ⟨hL, hw⟩
      have hB := hB.carry hw
      obtain ⟨p30, c30, row30, rfl, -⟩ := hL
      have hDs := hDs.bel hw hBN.free
      have hBN := hBN.bel hw
      have hca : ∀ j, j < 5 → w30.cell? ⟨ba, oa + k * 5 + j, none⟩ = (acV (acts.getD k default))[j]? := by
        have := (hR.carry hB).elemAt hlt; rw [hra] at this; exact this
      refine L.val (x_len_slice Try.underlying30 rfl) rfl ?_
      refine L.val (x_as (v := .int _ _) rfl) rfl ?_
      refine L.nil ?_
      refine thn_n ?_
      refine W.seq ?_
      refine W.region ?_
      refine L.val (x_mv (v := .pointer _) rfl) rfl ?_
      refine L.val (x_mv (v := .slice _ _ _) rfl) rfl ?_
      refine L.val (x_mv (v := .slice _ _ _) rfl) rfl ?_
      refine L.val (x_mv (v := .int _ _) rfl) rfl ?_
      refine L.val (x_ia (j := k) Try.underlying23 ksesl_sz36 rfl rfl (by omega) (by omega)) rfl ?_
      refine L.val (x_ldn (vs := acV (acts.getD k default)) ksesl_ag36 rfl rfl hca) rfl ?_
      have hs30 := hB.size
      refine L.ret (x_call ksesl_en17 rfl) rfl (step_ok ow 0 1 b bh bo k s ds (acts.getD k default) _ _ lh lo rows _ hBN hDs (by decide) hbd hdb (by omega) hae) ?_
      rintro v38 w38 ⟨ow2, vl2, lh2, lo2, rows2, hBN2, hDs2, hG2⟩
      obtain ⟨hlow2, hnm⟩ := low_goes hlow (by omega) hG2
      have hB := hB.step hG2.gr (fun i hi m => hnm i hi m)
      have hV := Gr.refl (fun _ => False) w38
      have hca : ∀ j, j < 5 → w38.cell? ⟨ba, oa + k * 5 + j, none⟩ = (acV (acts.getD k default))[j]? := by
        have := (hR.carry hB).elemAt hlt; rw [hra] at this; exact this
      obtain ⟨pd, cd, hvd, hrd⟩ := Dids.row hDs2
      subst hvd
      have hs38 := hB.size
      refine L.val (x_as (v := .slice _ _ _) rfl) rfl ?_
      refine L.nil ?_
      refine thn_n ?_
      refine W.seq ?_
      refine W.seq ?_
      refine W.region ?_
      refine L.val (x_mv (v := .slice _ _ _) rfl) rfl ?_
      refine L.val (x_mv (v := .int _ _) rfl) rfl ?_
      refine L.val (x_ia (j := k) Try.underlying23 ksesl_sz36 rfl rfl (by omega) (by omega)) rfl ?_
      refine L.val (x_fa ksesl_fo36_0 rfl) rfl ?_
      refine L.val (x_ld (v := .int _ _) ksesl_oc3 rfl (hca 0 (by omega))) rfl ?_
      refine L.val (x_neq rfl rfl) rfl ?_
      refine L.val (x_mv (v := .bool _) rfl) rfl ?_
      refine' L.group0 6 46 51 51 45 false rfl ?_ ?_ ?_
      rotate_left 1
      ·intro g45
       have h45 := dne_f g45
       refine L.gyes' (dj := 45) (b := _) rfl rfl g45 ?_
       refine L.val (x_mv (v := .slice _ _ _) rfl) rfl ?_
       refine L.gyes' (dj := 45) (b := _) rfl rfl g45 ?_
       refine L.val (x_mv (v := .int _ _) rfl) rfl ?_
       refine L.gyes' (dj := 45) (b := _) rfl rfl g45 ?_
       refine L.val (x_ia (j := k) Try.underlying23 ksesl_sz36 rfl rfl (by omega) (by omega)) rfl ?_
       refine L.gyes' (dj := 45) (b := _) rfl rfl g45 ?_
       refine L.val (x_fa ksesl_fo36_1 rfl) rfl ?_
       refine L.gyes' (dj := 45) (b := _) rfl rfl g45 ?_
       refine L.val (x_ld (v := .int _ _) ksesl_oc3 rfl (hca 1 (by omega))) rfl ?_
       refine L.gyes' (dj := 45) (b := _) rfl rfl g45 ?_
       refine L.val (x_lss rfl rfl) rfl ?_
       refine L.nil ?_
       refine thn_n ⟨rfl, rfl, ?_, rfl⟩
       repeat (first | exact jeq.refl _ _ _ | refine jeq.upd rfl ?_ | refine jeq.jk rfl rfl ?_)
      ·intro g45
       refine L.gno (dj := 45) (b := _) rfl rfl g45 rfl ?_
       refine L.gno (dj := 45) (b := _) rfl rfl g45 rfl ?_
       refine L.gno (dj := 45) (b := _) rfl rfl g45 rfl ?_
       refine L.gno (dj := 45) (b := _) rfl rfl g45 rfl ?_
       refine L.gno (dj := 45) (b := _) rfl rfl g45 rfl ?_
       refine L.gno (dj := 45) (b := _) rfl rfl g45 rfl ?_
       refine L.nil (thn_n ⟨rfl, rfl, ?_⟩)
       repeat (first | exact jeq.refl _ _ _ | refine jeq.upd rfl ?_ | refine jeq.jk rfl rfl ?_)
      intro J45 j45
      refine L.val (x_or rfl j45) rfl ?_
      refine L.val (x_mv (v := .bool _) rfl) rfl ?_
      refine' L.group0 8 54 61 61 53 false rfl ?_ ?_ ?_
      rotate_left 1
      ·intro g53
       have h53 := g53
       refine L.gyes' (dj := 53) (b := _) rfl rfl g53 ?_
       refine L.val (x_mv (v := .slice _ _ _) rfl) rfl ?_
       refine L.gyes' (dj := 53) (b := _) rfl rfl g53 ?_
       refine L.val (x_mv (v := .int _ _) rfl) rfl ?_
       refine L.gyes' (dj := 53) (b := _) rfl rfl g53 ?_
       refine L.val (x_ia (j := k) Try.underlying23 ksesl_sz36 rfl rfl (by omega) (by omega)) rfl ?_
       refine L.gyes' (dj := 53) (b := _) rfl rfl g53 ?_
       refine L.val (x_fa ksesl_fo36_1 rfl) rfl ?_
       refine L.gyes' (dj := 53) (b := _) rfl rfl g53 ?_
       refine L.val (x_ld (v := .int _ _) ksesl_oc3 rfl (hca 1 (by omega))) rfl ?_
       refine L.gyes' (dj := 53) (b := _) rfl rfl g53 ?_
       refine L.val (x_mv (v := .slice _ _ _) rfl) rfl ?_
       refine L.gyes' (dj := 53) (b := _) rfl rfl g53 ?_
       refine L.val (x_len_slice Try.underlying29 rfl) rfl ?_
       refine L.gyes' (dj := 53) (b := _) rfl rfl g53 ?_
       refine L.val (x_gtr rfl rfl) rfl ?_
       refine L.nil ?_
       refine thn_n ⟨rfl, rfl, ?_, rfl⟩
       repeat (first | exact jeq.refl _ _ _ | refine jeq.upd rfl ?_ | refine jeq.jk rfl rfl ?_)
      ·intro g53
       refine L.gno (dj := 53) (b := _) rfl rfl g53 rfl ?_
       refine L.gno (dj := 53) (b := _) rfl rfl g53 rfl ?_
       refine L.gno (dj := 53) (b := _) rfl rfl g53 rfl ?_
       refine L.gno (dj := 53) (b := _) rfl rfl g53 rfl ?_
       refine L.gno (dj := 53) (b := _) rfl rfl g53 rfl ?_
       refine L.gno (dj := 53) (b := _) rfl rfl g53 rfl ?_
       refine L.gno (dj := 53) (b := _) rfl rfl g53 rfl ?_
       refine L.gno (dj := 53) (b := _) rfl rfl g53 rfl ?_
       refine L.nil (thn_n ⟨rfl, rfl, ?_⟩)
       repeat (first | exact jeq.refl _ _ _ | refine jeq.upd rfl ?_ | refine jeq.jk rfl rfl ?_)
      intro J53 j53
      refine L.val (x_or rfl j53) rfl ?_
      refine L.nil ?_
      refine thn_n ?_
      refine W.cond (b := _) rfl (fun g62 => ?_) (fun g62 => ?_)
      ·have h62 := g62
       refine W.exit (thn_x (blk_hit ?_))
       refine thn_n ?_
       refine W.region ?_
       refine L.val (x_mv (v := .int _ _) rfl) rfl ?_
       refine L.val (x_add rfl rfl (wr64 (by omega))) rfl ?_
       refine L.val (x_as (v := .int _ _) rfl) rfl ?_
       refine L.nil ?_
       refine thn_n ⟨rfl, ?_⟩
       refine ⟨_, ?_, k + 1, (stepS s ds (acts.getD k default)).1, (stepS s ds (acts.getD k default)).2, ow2, _, vl2, lh2, lo2, rows2, rfl, by first | rfl | exact vi (by omega), by first | rfl | exact vi (by omega), by first | rfl | exact vi (by omega), by first | rfl | exact vi (by omega), (by first | assumption | omega | rfl), (by first | assumption | omega | rfl), (by exact hlow2), (by exact hBN2.bel hV), (by exact hDs2.bel hV hBN2.free), (by exact hbd.step ds _), (by exact hdb.step s _), (by exact rel_step hrel _), (by exact fun d hd hc => ⟨(cl_step hrel hcl _ d hd hc).1, Nat.lt_of_lt_of_le (cl_step hrel hcl _ d hd hc).2 (log_step s ds _)⟩)⟩
       omega
      ·have h62 := g62
       simp only [Bool.or_eq_false_iff, decide_eq_false_iff_not] at g62
       have hd2 := (hdb.step s (acts.getD k default)).1
       have hin : (acts.getD k default).id.toNat - 1 < (stepS s ds (acts.getD k default)).2.length := by omega
       obtain ⟨bd, rfl, hbdl, va, vv, vt, vk, hones, hcd⟩ := hrd _ hin
       refine W.skip ?_
       refine thn_n ?_
       refine W.seq ?_
       refine W.region ?_
       refine L.val (x_mv (v := .slice _ _ _) rfl) rfl ?_
       refine L.val (x_mv (v := .slice _ _ _) rfl) rfl ?_
       refine L.val (x_mv (v := .int _ _) rfl) rfl ?_
       refine L.val (x_ia (j := k) Try.underlying23 ksesl_sz36 rfl rfl (by omega) (by omega)) rfl ?_
       refine L.val (x_fa ksesl_fo36_1 rfl) rfl ?_
       refine L.val (x_ld (v := .int _ _) ksesl_oc3 rfl (hca 1 (by omega))) rfl ?_
       refine L.val (x_sub rfl rfl (wr64 (by omega))) rfl ?_
       refine L.val (x_ia (j := (acts.getD k default).id.toNat - 1) Try.underlying29 ksesl_sz41 rfl rfl (by omega) (by omega)) rfl ?_
       refine L.val (x_ldn (vs := didV va vv vt vk ((stepS s ds (acts.getD k default)).2.getD ((acts.getD k default).id.toNat - 1) default)) ksesl_ag41 rfl rfl hcd) rfl ?_
       refine L.alloc (cs := [Value.slice none 0 0, Value.slice none 0 0, Value.slice none 0 0, Value.slice none 0 0, Value.int .i64 0, Value.int .i64 0, Value.bool false, Value.bool false]) ksesl_zr41 rfl rfl (fun w9 bx9 hw hz9 => ?_)
       have hB := hB.carry hw; have hV := hV.carry hw
       refine L.setRow ksesl_ag41 rfl rfl bx9 rfl rfl (didV_one hones _) (fun wl70 bx9 hw hzl70 => ?_)
       have hsz := hB.size
       have hB := hB.set hw (by omega); have hV := hV.set hw (by omega)
       refine L.nil ?_
       refine thn_n ?_
       refine W.seq ?_
       refine W.region ?_
       refine L.val (x_fa ksesl_fo41_7 rfl) rfl ?_
       refine L.val (x_ld (v := .bool _) ksesl_oc4 rfl (bx9.cell0 rfl)) rfl ?_
       refine L.val (x_mv (v := .bool _) rfl) rfl ?_
       refine' L.group0 9 75 83 83 74 true rfl ?_ ?_ ?_
       rotate_left 1
       ·intro g74
        have h74 := g74
        refine L.gyes' (dj := 74) (b := _) rfl rfl g74 ?_
        refine L.val (x_fa ksesl_fo41_4 rfl) rfl ?_
        refine L.gyes' (dj := 74) (b := _) rfl rfl g74 ?_
        refine L.val (x_ld (v := .int _ _) ksesl_oc3 rfl (bx9.cell0 rfl)) rfl ?_
        refine L.gyes' (dj := 74) (b := _) rfl rfl g74 ?_
        refine L.val (x_mv (v := .int _ _) rfl) rfl ?_
        refine L.gyes' (dj := 74) (b := _) rfl rfl g74 ?_
        refine L.val (x_eql rfl rfl) rfl ?_
        refine L.gyes' (dj := 74) (b := _) rfl rfl g74 ?_
        refine L.val (x_mv (v := .bool _) rfl) rfl ?_
        refine' L.group0 3 80 82 82 79 false rfl ?_ ?_ ?_
        rotate_left 1
        ·intro g79
         have h79 := of_decide_eq_false g79
         refine L.gyes' (dj := 79) (b := _) rfl rfl g79 ?_
         refine L.val (x_fa ksesl_fo41_6 rfl) rfl ?_
         refine L.gyes' (dj := 79) (b := _) rfl rfl g79 ?_
         refine L.val (x_ld (v := .bool _) ksesl_oc4 rfl (bx9.cell0 rfl)) rfl ?_
         refine L.gyes' (dj := 79) (b := _) rfl rfl g79 ?_
         refine L.val (x_not rfl) rfl ?_
         refine L.nil ?_
         refine thn_n ⟨rfl, rfl, ?_, rfl⟩
         repeat (first | exact jeq.refl _ _ _ | refine jeq.upd rfl ?_ | refine jeq.jk rfl rfl ?_)
        ·intro g79
         refine L.gno (dj := 79) (b := _) rfl rfl g79 rfl ?_
         refine L.gno (dj := 79) (b := _) rfl rfl g79 rfl ?_
         refine L.gno (dj := 79) (b := _) rfl rfl g79 rfl ?_
         refine L.nil (thn_n ⟨rfl, rfl, ?_⟩)
         repeat (first | exact jeq.refl _ _ _ | refine jeq.upd rfl ?_ | refine jeq.jk rfl rfl ?_)
        intro J79 j79
        refine L.gyes' (dj := 74) (b := _) rfl rfl g74 ?_
        refine L.val (x_or rfl j79) rfl ?_
        refine L.nil ?_
        refine thn_n ⟨rfl, rfl, ?_, rfl⟩
        repeat (first | exact jeq.refl _ _ _ | refine jeq.upd rfl ?_ | refine jeq.jk rfl rfl ?_)
       ·intro g74
        refine L.gno (dj := 74) (b := _) rfl rfl g74 rfl ?_
        refine L.gno (dj := 74) (b := _) rfl rfl g74 rfl ?_
        refine L.gno (dj := 74) (b := _) rfl rfl g74 rfl ?_
        refine L.gno (dj := 74) (b := _) rfl rfl g74 rfl ?_
        refine L.gno (dj := 74) (b := _) rfl rfl g74 rfl ?_
        refine L.gun (dj := 79) rfl rfl rfl ?_
        refine L.gun (dj := 79) rfl rfl rfl ?_
        refine L.gun (dj := 79) rfl rfl rfl ?_
        refine L.gno (dj := 74) (b := _) rfl rfl g74 rfl ?_
        refine L.nil (thn_n ⟨rfl, rfl, ?_⟩)
        repeat (first | exact jeq.refl _ _ _ | refine jeq.upd rfl ?_ | refine jeq.jk rfl rfl ?_)
       intro J74 j74
       refine L.val (x_and rfl j74) rfl ?_
       refine L.nil ?_
       refine thn_n ?_
       refine W.cond (b := _) rfl (fun g84 => ?_) (fun g84 => ?_)
       ·have h84 := g84
        exfalso
        simp only [Bool.and_eq_true, Bool.or_eq_true, decide_eq_true_eq, Bool.not_eq_true'] at g84
        have hmem : (stepS s ds (acts.getD k default)).2.getD ((acts.getD k default).id.toNat - 1) default ∈ (stepS s ds (acts.getD k default)).2 := getD_mem hin
        obtain ⟨c1, c2⟩ := cl_step hrel hcl _ _ hmem g84.1
        rcases g84.2 with e | e
        · omega
        · rw [c1] at e; cases e
       ·have h84 := g84
        refine W.skip ?_
        refine blk_n ?_
        refine thn_n ?_
        refine W.region ?_
        refine L.val (x_mv (v := .int _ _) rfl) rfl ?_
        refine L.val (x_add rfl rfl (wr64 (by omega))) rfl ?_
        refine L.val (x_as (v := .int _ _) rfl) rfl ?_
        refine L.nil ?_
        refine thn_n ⟨rfl, ?_⟩
        refine ⟨_, ?_, k + 1, (stepS s ds (acts.getD k default)).1, (stepS s ds (acts.getD k default)).2, ow2, _, vl2, lh2, lo2, rows2, rfl, by first | rfl | exact vi (by omega), by first | rfl | exact vi (by omega), by first | rfl | exact vi (by omega), by first | rfl | exact vi (by omega), (by first | assumption | omega | rfl), (by first | assumption | omega | rfl), (by exact hlow2), (by exact hBN2.bel hV), (by exact hDs2.bel hV hBN2.free), (by exact hbd.step ds _), (by exact hdb.step s _), (by exact rel_step hrel _), (by exact fun d hd hc => ⟨(cl_step hrel hcl _ d hd hc).1, Nat.lt_of_lt_of_le (cl_step hrel hcl _ d hd hc).2 (log_step s ds _)⟩)⟩
        omega
     ·have h26 := dlt_f g26
      refine W.exit (thn_x (thn_x (blk_hit ?_)))
      refine thn_n ?_
      refine W.seq ?_
      refine W.region ?_
      refine L.ret (x_call ksesl_en14 rfl) rfl (awake40 _) ?_
      rintro v85 w85 ⟨rfl, hw⟩
      have hB := hB.carry hw
      refine L.val (x_as (v := .bool _) rfl) rfl ?_
      refine L.nil ?_
      refine thn_n ?_
      refine W.ret (fin_mk (.inr rfl) ?_)
      exact ⟨rfl, hB⟩
end Go.Gx
