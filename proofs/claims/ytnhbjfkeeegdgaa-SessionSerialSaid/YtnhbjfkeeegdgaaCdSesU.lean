/- Sessions: what a session did, done again. Conditions: none. -/
import Derived.Test.YtnhbjfkeeegdgaaCdSesL
namespace Go.Gx
open Go.Proofs
theorem ksesu_ag34 : aggT Try.prog 34 3 = true := by kernel_rfl
theorem ksesu_ag36 : aggT Try.prog 36 5 = true := by kernel_rfl
theorem ksesu_en15 : Go.Proofs.Enters Try.prog 15 := Go.Proofs.enters_of Try.func15 (by kernel_rfl) rfl
theorem ksesu_en18 : Go.Proofs.Enters Try.prog 18 := Go.Proofs.enters_of Try.func18 (by kernel_rfl) rfl
theorem ksesu_en19 : Go.Proofs.Enters Try.prog 19 := Go.Proofs.enters_of Try.func19 (by kernel_rfl) rfl
theorem ksesu_en20 : Go.Proofs.Enters Try.prog 20 := Go.Proofs.enters_of Try.func20 (by kernel_rfl) rfl
theorem ksesu_en21 : Go.Proofs.Enters Try.prog 21 := Go.Proofs.enters_of Try.func21 (by kernel_rfl) rfl
theorem ksesu_en40 : Go.Proofs.Enters Try.prog 40 := Go.Proofs.enters_of Try.func40 (by kernel_rfl) rfl
theorem ksesu_en42 : Go.Proofs.Enters Try.prog 42 := Go.Proofs.enters_of Try.func42 (by kernel_rfl) rfl
theorem ksesu_fo34_0 : fieldOff Try.prog 34 0 = some 0 := by kernel_rfl
theorem ksesu_fo36_0 : fieldOff Try.prog 36 0 = some 0 := by kernel_rfl
theorem ksesu_fo36_2 : fieldOff Try.prog 36 2 = some 2 := by kernel_rfl
theorem ksesu_fo41_0 : fieldOff Try.prog 41 0 = some 0 := by kernel_rfl
theorem ksesu_fo41_1 : fieldOff Try.prog 41 1 = some 1 := by kernel_rfl
theorem ksesu_fo41_2 : fieldOff Try.prog 41 2 = some 2 := by kernel_rfl
theorem ksesu_fo41_3 : fieldOff Try.prog 41 3 = some 3 := by kernel_rfl
theorem ksesu_oc23 : oneCellT Try.prog 23 = true := by kernel_rfl
theorem ksesu_oc3 : oneCellT Try.prog 3 = true := by kernel_rfl
theorem ksesu_oc37 : oneCellT Try.prog 37 = true := by kernel_rfl
theorem ksesu_oc38 : oneCellT Try.prog 38 = true := by kernel_rfl
theorem ksesu_oc39 : oneCellT Try.prog 39 = true := by kernel_rfl
theorem ksesu_oc4 : oneCellT Try.prog 4 = true := by kernel_rfl
theorem ksesu_oc9 : oneCellT Try.prog 9 = true := by kernel_rfl
theorem ksesu_sz36 : (Try.prog.info? 36).map (·.size) = some 5 := by kernel_rfl
theorem ksesu_sz37 : (Try.prog.info? 37).map (·.size) = some 1 := by kernel_rfl
theorem ksesu_sz4 : (Try.prog.info? 4).map (·.size) = some 1 := by kernel_rfl
theorem ksesu_sz9 : (Try.prog.info? 9).map (·.size) = some 1 := by kernel_rfl
theorem ksesu_zr36 : (Try.prog.info? 36).bind (·.zero) = some (Value.agg [Value.int .i64 0, Value.int .i64 0, S [], S [], Value.bool false].toArray) := by kernel_rfl
def ValC (_ : Nat → Prop) (_ : World) (cs : List Value) (x : Str) : Prop := cs = [S x]
def BolC (_ : Nat → Prop) (_ : World) (cs : List Value) (x : Bool) : Prop := cs = [.bool x]
instance car_valc : Car ValC 1 where
  pos := by omega
  len := fun h => by rw [h]; rfl
  one := fun h => by
    rw [h]; intro u hu
    rw [List.mem_singleton.1 hu]; rfl
  move := fun _ h => h
instance car_bolc : Car BolC 1 where
  pos := by omega
  len := fun h => by rw [h]; rfl
  one := fun h => by
    rw [h]; intro u hu
    rw [List.mem_singleton.1 hu]; rfl
  move := fun _ h => h
theorem RecRow.elem1 {α : Type} [Inhabited α] {C : Thing α} {A : Nat → Prop} {w : World} {p : Option Addr} {row : Nat → List Value} {l : List α} (h : RecRow C 1 A w p row l) {i : Nat} (hi : i < l.length) {u : Value} (hu : row i = [u]) : ∃ b o, p = some ⟨b, o, none⟩ ∧ w.cell? ⟨b, o + i, none⟩ = some u := by
  obtain ⟨b, o, hp, -, hc⟩ := h.elem hi
  have := hc 0 (by omega)
  rw [Nat.mul_one, Nat.add_zero, hu] at this
  exact ⟨b, o, hp, this⟩
theorem RecRow.elemAt1 {α : Type} [Inhabited α] {C : Thing α} {A : Nat → Prop} {w : World} {b o : Nat} {row : Nat → List Value} {l : List α} (h : RecRow C 1 A w (some ⟨b, o, none⟩) row l) {i : Nat} (hi : i < l.length) {u : Value} (hu : row i = [u]) : w.cell? ⟨b, o + i, none⟩ = some u := by
  obtain ⟨b', o', e, h1⟩ := h.elem1 hi hu
  simp only [Option.some.injEq, Addr.mk.injEq, and_true] at e
  rw [e.1, e.2]; exact h1
def DidRd (w : World) (cs : List Value) (d : Dd) : Prop :=
  ∃ va vv vt vk, cs = didV va vv vt vk d ∧ RecsAt AcC 5 (fun _ => False) w va d.acts ∧ RecsAt ValC 1 (fun _ => False) w vv d.values ∧ RecsAt BolC 1 (fun _ => False) w vt d.there ∧ RecsAt StC 1 (fun _ => False) w vk d.keys ∧ d.values.length = d.acts.length ∧ d.there.length = d.acts.length ∧ d.keys.length = d.acts.length
theorem DidRd.carry {w w' : World} {cs : List Value} {d : Dd} (h : DidRd w cs d) (g : Bel w w') : DidRd w' cs d := by
  obtain ⟨va, vv, vt, vk, h1, h2, h3, h4, h5, h6⟩ := h
  exact ⟨va, vv, vt, vk, h1, h2.carry g, h3.carry g, h4.carry g, h5.carry g, h6⟩
theorem flat_one {α : Type} (f : α → Value) (l : List α) : (l.map fun x => [f x]).flatten = l.map f := by
  induction l with
  | nil => rfl
  | cons a l ih => simp [ih]
theorem DidAt.rd {ow : Labels} {t i : Nat} {w : World} {cs : List Value} {d : Dd} (h : DidAt ow t w i cs d) (hl : d.acts.length ≤ 1000000) : DidRd w cs d := by
  obtain ⟨va, vv, vt, vk, kr, h1, h2, h3, h4, h5, h6, h7, h8, h9, h10⟩ := h
  refine ⟨va, vv, vt, vk, h1, ?_, ?_, ?_, ?_, h8, h9, h10⟩
  · have hr : RowsC AcC (fun _ => False) w (d.acts.map acV) d.acts := rows_pure _ fun x hx => ⟨rfl, h7 x hx⟩
    exact hr.doneB (e := 36) h2.1 (by omega) (fun _ f => f) (fun _ _ f => f)
  · have hr : RowsC ValC (fun _ => False) w (d.values.map fun x => [S x]) d.values := rows_pure _ fun x hx => rfl
    exact hr.doneB (e := 9) (by rw [flat_one]; exact h3.1) (by omega) (fun _ f => f) (fun _ _ f => f)
  · have hr : RowsC BolC (fun _ => False) w (d.there.map fun x => [.bool x]) d.there := rows_pure _ fun x hx => rfl
    exact hr.doneB (e := 4) (by rw [flat_one]; exact h4.1) (by omega) (fun _ f => f) (fun _ _ f => f)
  · exact (h6.mono (A' := fun _ => False) (fun _ _ f => f.elim)).doneB (e := 37) h5.1 (by omega) (fun _ f => f) (fun _ _ f => f)
structure Ag (h e : List Ed) (n : Nat) (s : Bs) : Prop where
  fi : s.first = h
  lg : s.log = []
  all : ∃ g q, s.all = [⟨true, 0, e, g, q⟩] ∧ g.length ≤ n ∧ q.length ≤ n
section
variable {h e : List Ed} {n : Nat} {s : Bs}
theorem ag_begin : Ag h [] 0 (Bs.begin_ ⟨h, [], []⟩) := ⟨rfl, rfl, [], [], rfl, by simp, by simp⟩
theorem Ag.ses (a : Ag h e n s) : ∃ g q, s.ses 1 = ⟨true, 0, e, g, q⟩ ∧ s.all = [s.ses 1] ∧ g.length ≤ n ∧ q.length ≤ n := by
  obtain ⟨g, q, h1, h2, h3⟩ := a.all
  have e1 : s.ses 1 = ⟨true, 0, e, g, q⟩ := by unfold Bs.ses; rw [h1]; rfl
  exact ⟨g, q, e1, by rw [e1]; exact h1, h2, h3⟩
theorem Ag.upd (a : Ag h e n s) (x : Sx) : (s.upd 1 x).all = [x] := by
  obtain ⟨g, q, -, h1, -⟩ := a.ses
  unfold Bs.upd; rw [h1]; rfl
theorem Ag.open (a : Ag h e n s) : s.isOpen 1 := by
  obtain ⟨g, q, h1, h2, -⟩ := a.ses
  refine ⟨by decide, by rw [h2]; simp, ?_⟩
  have : s.all.getD ((1 : Int).toNat - 1) default = s.ses 1 := rfl
  rw [this, h1]
theorem Ag.sees (a : Ag h e n s) : s.seesE (s.ses 1) = h ++ e := by
  obtain ⟨g, q, h1, -⟩ := a.ses
  unfold Bs.seesE Bs.hist
  rw [h1, a.fi]; simp
theorem Ag.getA (a : Ag h e n s) (k : Str) : s.getA 1 k = stA (h ++ e) k := by unfold Bs.getA; rw [a.sees]; rfl
theorem Ag.keysA (a : Ag h e n s) (k : Str) : s.keysA 1 k = ((comes [] (h ++ e)).map (·.key)).filter fun x => k.isPrefixOf x := by unfold Bs.keysA; rw [a.sees]
theorem Ag.mono (a : Ag h e n s) : Ag h e (n + 1) s := by
  obtain ⟨g, q, h1, h2, h3⟩ := a.all
  exact ⟨a.fi, a.lg, g, q, h1, by omega, by omega⟩
theorem Ag.getS (a : Ag h e n s) (k : Str) : Ag h e (n + 1) (s.getS 1 k) := by
  unfold Bs.getS
  split
  · obtain ⟨g, q, h1, -, h2, h3⟩ := a.ses
    exact ⟨a.fi, a.lg, g ++ [k], q, by rw [a.upd, h1], by simp; omega, by omega⟩
  · exact a.mono
theorem Ag.keysS (a : Ag h e n s) (k : Str) : Ag h e (n + 1) (s.keysS 1 k) := by
  obtain ⟨g, q, h1, -, h2, h3⟩ := a.ses
  exact ⟨a.fi, a.lg, g, q ++ [k], by unfold Bs.keysS; rw [a.upd, h1], by omega, by simp; omega⟩
theorem Ag.putS (a : Ag h e n s) (x : Ed) : Ag h (e ++ [x]) (n + 1) (s.putS 1 x) := by
  obtain ⟨g, q, h1, -, h2, h3⟩ := a.ses
  exact ⟨a.fi, a.lg, g, q, by unfold Bs.putS; rw [a.upd, h1], by omega, by omega⟩
theorem Ag.commit (a : Ag h e n s) : s.commitA 1 = 0 := by
  unfold Bs.commitA Bs.changed
  rw [a.lg]; simp
theorem Ag.bnd (a : Ag h e n s) : ∀ x ∈ s.all, x.gets.length ≤ n ∧ x.heads.length ≤ n ∧ x.eds.length = e.length ∧ x.at_ = 0 := fun x hx => by
  obtain ⟨g, q, h1, h2, h3⟩ := a.all
  rw [h1, List.mem_singleton] at hx
  rw [hx]; exact ⟨h2, h3, rfl, rfl⟩
end
theorem wrote_snoc {l : List Ac} {k : Nat} (hk : k < l.length) : wrote (l.take (k + 1)) = wrote (l.take k) ++ eff (l.getD k default) := by rw [take_snoc (d := default) hk, wrote_append]; simp [wrote]
theorem wrote_len {l : List Ac} : (wrote l).length ≤ l.length := by
  induction l with
  | nil => simp [wrote]
  | cons a l ih =>
    have e : wrote (a :: l) = eff a ++ wrote l := by simp [wrote]
    have h1 : (eff a).length ≤ 1 := by unfold eff; split <;> simp
    rw [e, List.length_append, List.length_cons]; omega
theorem plays_get {h : List Ed} {l : List Ac} {k : Nat} (hk : k < l.length) : (plays h l)[k]? = some (ansOf (h ++ wrote (l.take k)) (l.getD k default)) := by
  induction l generalizing h k with
  | nil => simp at hk
  | cons a l ih =>
    cases k with
    | zero => simp [plays, wrote]
    | succ k =>
      rw [plays, List.getElem?_cons_succ, ih (by simpa using hk)]
      have e : h ++ eff a ++ wrote (l.take k) = h ++ wrote ((a :: l).take (k + 1)) := by simp [wrote]
      rw [e]; rfl
theorem got_map {α β : Type} {f : α → β} {l : List α} {k : Nat} {x : α} {d : β} (h : l[k]? = some x) : (l.map f).getD k d = f x := by rw [List.getD_eq_getElem?_getD, List.getElem?_map, h]; rfl
theorem again_ok (A : Nat → Prop) (h : List Ed) (d : Dd) (v0 : Value) (cs : List Value) (w : World) (h0 : EdsAt A w v0 h) (hd : DidRd w cs d) (hh : h.length ≤ 900000) (hal : d.acts.length ≤ 900)
    (hans : d.values = (plays h d.acts).map (·.1) ∧ d.there = (plays h d.acts).map (·.2.1) ∧ d.keys = (plays h d.acts).map (·.2.2)) (hkinds : ∀ a ∈ d.acts, 1 ≤ a.kind ∧ a.kind ≤ 3 ∧ (a.kind = 3 → okEd a.ed = true)) :
    Ret Try.prog 48 #[v0, .agg cs.toArray] w fun r w' => r = .bool true ∧ Bel w w' := by
  have hok0 := eds_ok h0
  obtain ⟨p0, c0, row0, rfl, -⟩ := id h0
  obtain ⟨va, vv, vt, vk, rfl, ha, hv, ht, hk, l1, l2, l3⟩ := hd
  obtain ⟨pa, ca, rowa, rfl, a1, a2, a3, hRa⟩ := ha
  obtain ⟨pv, cv, rowv, rfl, b1, b2, b3, hRv⟩ := hv
  obtain ⟨pt, ct, rowt, rfl, c1, c2, c3, hRt⟩ := ht
  obtain ⟨pk, ck, rowk, rfl, d1, d2, d3, hRk⟩ := hk
  refine ret_of_W Try.func48 rfl (Nat.le_of_ble_eq_true rfl) (res1 rfl) ?_
  have hB := Gr.refl (fun _ => False) w
  refine W.seq ?_
  refine W.region ?_
  refine L.box (cs := didV (.slice pa d.acts.length ca) (.slice pv d.values.length cv) (.slice pt d.there.length ct) (.slice pk d.keys.length ck) d) rfl rfl (fun w3 bx3 hw hz3 => ?_)
  have hB := hB.carry hw
  refine L.val (x_as (v := .bool _) rfl) rfl ?_
  refine L.nil ?_
  refine thn_n ?_
  refine W.seq ?_
  refine W.region ?_
  have hB3 := hB
  have hC := Gr.refl (fun _ => False) w3
  refine L.val (x_mv (v := .slice _ _ _) rfl) rfl ?_
  refine L.ret (x_call ksesu_en15 rfl) rfl (new_ok (fun _ => none) 0 _ h _ ((h0.carry hB3).mono (fun b hb h => absurd h (by omega))) (fun _ _ => rfl) (fun _ _ h => by cases h) hok0) ?_
  rintro v15 w15 ⟨b, bh, bo, lh0, ow0, rfl, hG0, hN0⟩
  have hC := hC.step hG0.gr (fun i hi m => by obtain ⟨p, m⟩ := m; cases m)
  have hlow0 : ∀ j, j < w3.heap.size → ow0 j = none := fun j hj => (hG0.old j hj).elim (fun e => e) (fun e => e.2)
  have hs0 := hC.size
  refine L.val (x_as (v := .pointer _) rfl) rfl ?_
  refine L.nil ?_
  refine thn_n ?_
  refine W.seq ?_
  refine W.region ?_
  refine L.val (x_mv (v := .pointer _) rfl) rfl ?_
  refine L.ret (x_call ksesu_en18 rfl) rfl (begin_ok ow0 0 b bh bo ⟨h, [], []⟩ _ lh0 _ _ _ hN0 (by simp)) ?_
  rintro v17 w17 ⟨rfl, ow1, lo1, hG1, hN1⟩
  have hag1 : Ag h (wrote (d.acts.take 0)) 0 (Bs.begin_ ⟨h, [], []⟩) := ag_begin
  obtain ⟨hlow1, hnm1⟩ := low_goes hlow0 (by omega) (hG1.two (td := 1))
  have hC := hC.step (hG1.two (td := 1)).gr (fun i hi m => hnm1 i hi m)
  generalize Bs.begin_ ⟨h, [], []⟩ = s1 at hN1 hag1
  refine L.val (x_as (v := .int _ _) rfl) rfl ?_
  refine L.nil ?_
  refine thn_n ?_
  refine W.seq ?_
  refine W.seq ?_
  refine W.region ?_
  refine L.val (x_as (v := .int _ _) rfl) rfl ?_
  refine L.nil ?_
  refine thn_n ?_
  refine W.block ?_
  refine W.loop (fun m' E w' => ∃ (k : Nat) (s : Bs) (ow : Labels), m' = d.acts.length - k ∧ E 3 = .pointer (some ⟨w.heap.size, 0, none⟩) ∧ E 5 = .pointer (some ⟨b, 0, none⟩) ∧ E 6 = .int .i64 1 ∧ E 7 = .int .i64 (k : Nat) ∧ (k ≤ d.acts.length) ∧ (Bel w3 w') ∧ (∀ j, j < w3.heap.size → ow j = none) ∧ (BaseAt ow 0 w' b s bh bo (.slice none 0 0) lh0 lo1 []) ∧ (Ag h (wrote (d.acts.take k)) k s)) (d.acts.length) ?_ ?_
  ·exact ⟨0, s1, ow1, by omega, by first | rfl | exact vi (by omega), by first | rfl | exact vi (by omega), by first | rfl | exact vi (by omega), by first | rfl | exact vi (by omega), (by first | assumption | omega | rfl), (by first | assumption | omega | rfl), (by exact hlow1), (by exact hN1), (by exact hag1)⟩
  ·rintro _ E wL18 ⟨k, s, ow, em, e3, e5, e6, e7, hk, hC, hlow, hBN, hag⟩
   rw [upd_self e3, upd_self e5, upd_self e6, upd_self e7]
   refine W.seq ?_
   refine W.seq ?_
   refine W.region ?_
   refine L.val (x_mv (v := .int _ _) rfl) rfl ?_
   refine L.val (x_fa ksesu_fo41_0 rfl) rfl ?_
   refine L.val (x_ld (v := .slice _ _ _) ksesu_oc23 rfl ((bx3.carry hC).cell (i := 0 + 0) rfl)) rfl ?_
   refine L.val (x_len_slice Try.underlying23 rfl) rfl ?_
   refine L.val (x_lss rfl rfl) rfl ?_
   refine L.nil ?_
   refine thn_n ?_
   refine W.cond (b := _) rfl (fun g22 => ?_) (fun g22 => ?_)
   ·have h22 := of_decide_eq_true g22
    have hlt : k < d.acts.length := by omega
    have hBB := hB3.trans hC
    obtain ⟨ba, oa, rfl, -, hca⟩ := (hRa.carry hBB).elem hlt
    have hra := (hRa.each k hlt).1
    have hae := (hRa.each k hlt).2
    rw [hra] at hca
    obtain ⟨bv, ov, rfl, hcv⟩ := (hRv.carry hBB).elem1 (i := k) (by omega) (hRv.each k (by omega))
    obtain ⟨bt, ot, rfl, hct⟩ := (hRt.carry hBB).elem1 (i := k) (by omega) (hRt.each k (by omega))
    obtain ⟨u, hu, hus⟩ := (hRk.carry hBB).each k (by omega)
    obtain ⟨bk, ok, rfl, hck⟩ := (hRk.carry hBB).elem1 (i := k) (by omega) hu
    obtain ⟨pu, cu, rfl, -⟩ := id hus
    have hpl := plays_get (h := h) hlt
    have e1 := got_map (f := (·.1)) (d := default) hpl
    have e2 := got_map (f := (·.2.1)) (d := default) hpl
    have e3 := got_map (f := (·.2.2)) (d := default) hpl
    rw [← hans.1] at e1
    rw [← hans.2.1] at e2
    rw [← hans.2.2] at e3
    have hwl := wrote_len (l := d.acts.take k)
    rw [List.length_take] at hwl
    have hbn := hag.bnd
    have hki := hkinds _ (getD_mem (d := default) hlt)
    have hsn := wrote_snoc hlt
    have hV := Gr.refl (fun _ => False) wL18
    have hsB := hC.size
    generalize hae0 : d.acts.getD k default = a at *
    refine W.skip ?_
    refine thn_n ?_
    refine W.seq ?_
    refine W.block ?_
    refine W.seq ?_
    refine W.region ?_
    refine L.val (x_fa ksesu_fo41_0 rfl) rfl ?_
    refine L.val (x_ld (v := .slice _ _ _) ksesu_oc23 rfl ((bx3.carry hC).cell (i := 0 + 0) rfl)) rfl ?_
    refine L.val (x_mv (v := .int _ _) rfl) rfl ?_
    refine L.val (x_ia (j := k) Try.underlying23 ksesu_sz36 rfl rfl (by omega) (by omega)) rfl ?_
    refine L.val (x_ldn (vs := acV a) ksesu_ag36 rfl rfl hca) rfl ?_
    refine L.alloc (cs := [Value.int .i64 0, Value.int .i64 0, S [], S [], Value.bool false]) ksesu_zr36 rfl rfl (fun w8 bx8 hw hz8 => ?_)
    have hC := hC.carry hw; have hV := hV.carry hw
    refine L.setRow ksesu_ag36 rfl rfl bx8 rfl rfl (acV_one _) (fun wl21 bx8 hw hzl21 => ?_)
    have hC := hC.set hw (by omega); have hV := hV.set hw (by omega)
    refine L.nil ?_
    refine thn_n ?_
    refine W.seq ?_
    refine W.region ?_
    refine L.val (x_fa ksesu_fo36_0 rfl) rfl ?_
    refine L.val (x_ld (v := .int _ _) ksesu_oc3 rfl (bx8.cell0 rfl)) rfl ?_
    refine L.nil ?_
    refine thn_n ?_
    refine W.block ?_
    refine W.seq ?_
    refine W.region ?_
    refine L.val (x_eql rfl rfl) rfl ?_
    refine L.val (x_as (v := .bool _) rfl) rfl ?_
    refine L.nil ?_
    refine thn_n ?_
    refine W.cond (b := _) rfl (fun g33 => ?_) (fun g33 => ?_)
    ·have h33 := of_decide_eq_true g33
     have hk1 : a.kind = 1 := by simpa using g33
     have hBN := hBN.bel hV
     have eA : ansOf (h ++ wrote (d.acts.take k)) a = ((stA (h ++ wrote (d.acts.take k)) a.ed.key).1, (stA (h ++ wrote (d.acts.take k)) a.ed.key).2, []) := by unfold ansOf; rw [if_pos hk1]
     rw [eA] at e1 e2
     have ef : eff a = [] := by unfold eff; rw [if_neg (by omega)]
     rw [ef, List.append_nil] at hsn
     refine W.seq ?_
     refine W.region ?_
     refine L.val (x_mv (v := .pointer _) rfl) rfl ?_
     refine L.val (x_mv (v := .int _ _) rfl) rfl ?_
     refine L.val (x_fa ksesu_fo36_2 rfl) rfl ?_
     refine L.val (x_fa ksesu_fo34_0 rfl) rfl ?_
     refine L.val (x_ld (v := S _) ksesu_oc9 rfl (bx8.cell (i := 0 + 2 + 0) rfl)) rfl ?_
     have hsC := hC.size
     refine L.ret (x_call ksesu_en19 rfl) rfl (get_ok ow 0 b bh bo s _ lh0 lo1 _ 1 a.ed.key _ hBN (fun x hx => by have := (hbn x hx).1; omega) (by rw [hag.lg]; simp)) ?_
     rintro v40 w40 ⟨rfl, hG5, hBN5⟩
     rw [if_pos hag.open] at hBN5 ⊢
     rw [hag.getA]
     have hag5 := hag.getS a.ed.key
     obtain ⟨-, hnm5⟩ := low_goes hlow (by omega) (hG5.two (td := 1))
     have hC := hC.step (hG5.two (td := 1)).gr (fun i hi m => hnm5 i hi m)
     generalize s.getS 1 a.ed.key = s5 at hBN5 hag5
     refine L.val (x_mv (v := _) rfl) rfl ?_
     refine L.val (x_ext (v := S _) rfl rfl) rfl ?_
     refine L.val (x_ext (v := .bool _) rfl rfl) rfl ?_
     refine L.val (x_ext (v := .int _ _) rfl rfl) rfl ?_
     refine L.val (x_as (v := S _) rfl) rfl ?_
     refine L.val (x_as (v := .bool _) rfl) rfl ?_
     refine L.val (x_as (v := .int _ _) rfl) rfl ?_
     refine L.nil ?_
     refine thn_n ?_
     refine W.seq ?_
     refine W.region ?_
     refine L.val (x_mv (v := S _) rfl) rfl ?_
     refine L.val (x_fa ksesu_fo41_1 rfl) rfl ?_
     refine L.val (x_ld (v := .slice _ _ _) ksesu_oc37 rfl ((bx3.carry hC).cell (i := 0 + 1) rfl)) rfl ?_
     refine L.val (x_mv (v := .int _ _) rfl) rfl ?_
     refine L.val (x_ia1 (j := k) Try.underlying37 ksesu_sz9 rfl rfl (by omega) (by omega)) rfl ?_
     refine L.val (x_ld (v := S _) ksesu_oc9 rfl ((hRv.carry (hB3.trans hC)).elemAt1 (i := k) (by omega) (hRv.each k (by omega)))) rfl ?_
     refine L.val (x_nes rfl rfl) rfl ?_
     refine L.val (x_mv (v := .bool _) rfl) rfl ?_
     refine L.splitat (dj := 51) (b := _) rfl (fun g51 => ?_) (fun g51 => ?_)
     ·have h51 := sne_t g51
      exact absurd e1.symm h51
     ·have h51 := sne_f g51
      refine L.gyes' (dj := 51) (b := _) rfl rfl g51 ?_
      refine L.val (x_mv (v := .bool _) rfl) rfl ?_
      refine L.gyes' (dj := 51) (b := _) rfl rfl g51 ?_
      refine L.val (x_fa ksesu_fo41_2 rfl) rfl ?_
      refine L.gyes' (dj := 51) (b := _) rfl rfl g51 ?_
      refine L.val (x_ld (v := .slice _ _ _) ksesu_oc38 rfl ((bx3.carry hC).cell (i := 0 + 2) rfl)) rfl ?_
      refine L.gyes' (dj := 51) (b := _) rfl rfl g51 ?_
      refine L.val (x_mv (v := .int _ _) rfl) rfl ?_
      refine L.gyes' (dj := 51) (b := _) rfl rfl g51 ?_
      refine L.val (x_ia1 (j := k) Try.underlying38 ksesu_sz4 rfl rfl (by omega) (by omega)) rfl ?_
      refine L.gyes' (dj := 51) (b := _) rfl rfl g51 ?_
      refine L.val (x_ld (v := .bool _) ksesu_oc4 rfl ((hRt.carry (hB3.trans hC)).elemAt1 (i := k) (by omega) (hRt.each k (by omega)))) rfl ?_
      refine L.gyes' (dj := 51) (b := _) rfl rfl g51 ?_
      refine L.val (x_neb Try.underlying4 rfl rfl) rfl ?_
      refine L.val (x_pick_f (v := .bool _) (congrArg Value.bool g51) rfl) rfl ?_
      refine L.val (x_mv (v := .bool _) rfl) rfl ?_
      refine L.splitat (dj := 60) (b := _) rfl (fun g60 => ?_) (fun g60 => ?_)
      ·have h60 := g60
       rw [e2] at g60; simp at g60
      ·have h60 := g60
       refine L.gyes' (dj := 60) (b := _) rfl rfl g60 ?_
       refine L.val (x_mv (v := .int _ _) rfl) rfl ?_
       refine L.gyes' (dj := 60) (b := _) rfl rfl g60 ?_
       refine L.val (x_neq rfl rfl) rfl ?_
       refine L.val (x_pick_f (v := .bool _) (congrArg Value.bool g60) rfl) rfl ?_
       refine L.nil ?_
       refine thn_n ?_
       refine W.cond (b := _) rfl (fun g62 => ?_) (fun g62 => ?_)
       ·have h62 := dne_t g62
        exact absurd rfl h62
       ·have h62 := dne_f g62
        have hlow9 := hlow
        have hBN9 := hBN5
        have hag9 : Ag h (wrote (d.acts.take (k + 1))) (k + 1) s5 := by rw [hsn]; exact hag5
        refine W.skip ?_
        refine blk_n ?_
        refine blk_n ?_
        refine thn_n ?_
        refine W.region ?_
        refine L.val (x_mv (v := .int _ _) rfl) rfl ?_
        refine L.val (x_add rfl rfl (wr64 (by omega))) rfl ?_
        refine L.val (x_as (v := .int _ _) rfl) rfl ?_
        refine L.nil ?_
        refine thn_n ⟨rfl, ?_⟩
        refine ⟨_, ?_, k + 1, _, _, rfl, by first | rfl | exact vi (by omega), by first | rfl | exact vi (by omega), by first | rfl | exact vi (by omega), by first | rfl | exact vi (by omega), (by first | assumption | omega | rfl), (by first | assumption | omega | rfl), (by exact hlow9), (by exact hBN9), (by exact hag9)⟩
        omega
    ·have h33 := of_decide_eq_false g33
     refine W.seq ?_
     refine W.region ?_
     refine L.val (x_eql rfl rfl) rfl ?_
     refine L.val (x_as (v := .bool _) rfl) rfl ?_
     refine L.nil ?_
     refine thn_n ?_
     refine W.cond (b := _) rfl (fun g65 => ?_) (fun g65 => ?_)
     ·have h65 := of_decide_eq_true g65
      have hk2 : a.kind = 2 := by simpa using g65
      have hBN := hBN.bel hV
      have eA : ansOf (h ++ wrote (d.acts.take k)) a = ([], false, ((comes [] (h ++ wrote (d.acts.take k))).map (·.key)).filter fun x => a.ed.key.isPrefixOf x) := by unfold ansOf; rw [if_neg (by omega), if_pos hk2]
      rw [eA] at e3
      dsimp only at e3
      have ef : eff a = [] := by unfold eff; rw [if_neg (by omega)]
      rw [ef, List.append_nil] at hsn
      refine W.seq ?_
      refine W.region ?_
      refine L.val (x_mv (v := .pointer _) rfl) rfl ?_
      refine L.val (x_mv (v := .int _ _) rfl) rfl ?_
      refine L.val (x_fa ksesu_fo36_2 rfl) rfl ?_
      refine L.val (x_fa ksesu_fo34_0 rfl) rfl ?_
      refine L.val (x_ld (v := S _) ksesu_oc9 rfl (bx8.cell (i := 0 + 2 + 0) rfl)) rfl ?_
      have hsC := hC.size
      refine L.ret (x_call ksesu_en20 rfl) rfl (keysOk ow 0 b bh bo s _ lh0 lo1 _ 1 a.ed.key _ hBN (fun x hx => by have := hbn x hx; omega) (by rw [hag.lg]; simp) (by rw [hag.lg, hag.fi]; simp; omega)) ?_
      rintro v72 w72 ⟨⟨u72, rfl, hu7⟩, hG6, hBN6⟩
      rw [if_pos hag.open] at hBN6 hu7 ⊢
      rw [hag.keysA, ← e3] at hu7
      obtain ⟨pm, cm, rfl, -⟩ := id hu7
      have hag6 := hag.keysS a.ed.key
      obtain ⟨-, hnm6⟩ := low_goes hlow (by omega) (hG6.two (td := 1))
      have hC := hC.step (hG6.two (td := 1)).gr (fun i hi m => hnm6 i hi m)
      generalize s.keysS 1 a.ed.key = s6 at hBN6 hag6
      have hV := Gr.refl (fun _ => False) w72
      have hus : StrsAt (fun _ => False) w72 (.slice pu (d.keys.getD k default).length cu) (d.keys.getD k default) := by
        obtain ⟨u', hu', h9⟩ := (hRk.carry (hB3.trans hC)).each k (by omega)
        rw [hu] at hu'
        cases hu'
        exact h9
      refine L.val (x_mv (v := _) rfl) rfl ?_
      refine L.val (x_ext (v := .slice _ _ _) rfl rfl) rfl ?_
      refine L.val (x_ext (v := .int _ _) rfl rfl) rfl ?_
      refine L.val (x_as (v := .slice _ _ _) rfl) rfl ?_
      refine L.val (x_as (v := .int _ _) rfl) rfl ?_
      refine L.nil ?_
      refine thn_n ?_
      refine W.seq ?_
      refine W.region ?_
      refine L.val (x_mv (v := .slice _ _ _) rfl) rfl ?_
      refine L.val (x_fa ksesu_fo41_3 rfl) rfl ?_
      refine L.val (x_ld (v := .slice _ _ _) ksesu_oc39 rfl ((bx3.carry hC).cell (i := 0 + 3) rfl)) rfl ?_
      refine L.val (x_mv (v := .int _ _) rfl) rfl ?_
      refine L.val (x_ia1 (j := k) Try.underlying39 ksesu_sz37 rfl rfl (by omega) (by omega)) rfl ?_
      refine L.val (x_ld (v := .slice _ _ _) ksesu_oc37 rfl ((hRk.carry (hB3.trans hC)).elemAt1 (i := k) (by omega) hu)) rfl ?_
      refine L.ret (x_call ksesu_en21 rfl) rfl (same_ok _ _ _ _ (d.keys.getD k default) (d.keys.getD k default) _ hu7 hus) ?_
      rintro v81 w81 ⟨rfl, hw⟩
      have hC := hC.carry hw; have hV := hV.carry hw
      refine L.val (x_not rfl) rfl ?_
      refine L.val (x_mv (v := .bool _) rfl) rfl ?_
      refine L.splitat (dj := 83) (b := _) rfl (fun g83 => ?_) (fun g83 => ?_)
      ·have h83 := (not_t g83)
       simp at g83
      ·have h83 := (not_f g83)
       refine L.gyes' (dj := 83) (b := _) rfl rfl g83 ?_
       refine L.val (x_mv (v := .int _ _) rfl) rfl ?_
       refine L.gyes' (dj := 83) (b := _) rfl rfl g83 ?_
       refine L.val (x_neq rfl rfl) rfl ?_
       refine L.val (x_pick_f (v := .bool _) (congrArg Value.bool g83) rfl) rfl ?_
       refine L.nil ?_
       refine thn_n ?_
       refine W.cond (b := _) rfl (fun g85 => ?_) (fun g85 => ?_)
       ·have h85 := dne_t g85
        exact absurd rfl h85
       ·have h85 := dne_f g85
        have hlow9 := hlow
        have hBN9 := hBN6.bel hV
        have hag9 : Ag h (wrote (d.acts.take (k + 1))) (k + 1) s6 := by rw [hsn]; exact hag6
        refine W.skip ?_
        refine blk_n ?_
        refine blk_n ?_
        refine thn_n ?_
        refine W.region ?_
        refine L.val (x_mv (v := .int _ _) rfl) rfl ?_
        refine L.val (x_add rfl rfl (wr64 (by omega))) rfl ?_
        refine L.val (x_as (v := .int _ _) rfl) rfl ?_
        refine L.nil ?_
        refine thn_n ⟨rfl, ?_⟩
        refine ⟨_, ?_, k + 1, _, _, rfl, by first | rfl | exact vi (by omega), by first | rfl | exact vi (by omega), by first | rfl | exact vi (by omega), by first | rfl | exact vi (by omega), (by first | assumption | omega | rfl), (by first | assumption | omega | rfl), (by exact hlow9), (by exact hBN9), (by exact hag9)⟩
        omega
     ·have h65 := of_decide_eq_false g65
      refine W.seq ?_
      refine W.region ?_
      refine L.val (x_eql rfl rfl) rfl ?_
      refine L.val (x_as (v := .bool _) rfl) rfl ?_
      refine L.nil ?_
      refine thn_n ?_
      refine W.cond (b := _) rfl (fun g88 => ?_) (fun g88 => ?_)
      ·have h88 := of_decide_eq_true g88
       have hk3 : a.kind = 3 := by simpa using g88
       have hBN := hBN.bel hV
       have ef : eff a = [a.ed] := by unfold eff; rw [if_pos hk3]
       rw [ef] at hsn
       refine W.seq ?_
       refine W.region ?_
       refine L.val (x_mv (v := .pointer _) rfl) rfl ?_
       refine L.val (x_mv (v := .int _ _) rfl) rfl ?_
       refine L.val (x_fa ksesu_fo36_2 rfl) rfl ?_
       refine L.val (x_ldn (vs := edV a.ed) ksesu_ag34 rfl rfl (bx8.rowD 2 rfl)) rfl ?_
       have hsC := hC.size
       refine L.ret (x_call ksesu_en40 rfl) rfl (put_ok ow 0 b bh bo s _ lh0 lo1 _ 1 a.ed _ hBN (fun x hx => by have := hbn x hx; omega) hae) ?_
       rintro v93 w93 ⟨rfl, ow7, hG7, hBN7⟩
       rw [if_pos ⟨hag.open, hki.2.2 hk3⟩] at hBN7
       rw [if_pos hag.open, if_pos (hki.2.2 hk3)]
       have hag7 := hag.putS a.ed
       obtain ⟨hlow7, hnm7⟩ := low_goes hlow (by omega) (hG7.two (td := 1))
       have hC := hC.step (hG7.two (td := 1)).gr (fun i hi m => hnm7 i hi m)
       generalize s.putS 1 a.ed = s7 at hBN7 hag7
       refine L.val (x_neq rfl rfl) rfl ?_
       refine L.nil ?_
       refine thn_n ?_
       refine W.cond (b := _) rfl (fun g94 => ?_) (fun g94 => ?_)
       ·have h94 := dne_t g94
        simp at g94
       ·have h94 := dne_f g94
        have hlow9 := hlow7
        have hBN9 := hBN7
        have hag9 : Ag h (wrote (d.acts.take (k + 1))) (k + 1) s7 := by rw [hsn]; exact hag7
        refine W.skip ?_
        refine blk_n ?_
        refine blk_n ?_
        refine thn_n ?_
        refine W.region ?_
        refine L.val (x_mv (v := .int _ _) rfl) rfl ?_
        refine L.val (x_add rfl rfl (wr64 (by omega))) rfl ?_
        refine L.val (x_as (v := .int _ _) rfl) rfl ?_
        refine L.nil ?_
        refine thn_n ⟨rfl, ?_⟩
        refine ⟨_, ?_, k + 1, _, _, rfl, by first | rfl | exact vi (by omega), by first | rfl | exact vi (by omega), by first | rfl | exact vi (by omega), by first | rfl | exact vi (by omega), (by first | assumption | omega | rfl), (by first | assumption | omega | rfl), (by exact hlow9), (by exact hBN9), (by exact hag9)⟩
        omega
      ·have h88 := of_decide_eq_false g88
       exact absurd g88 (by simp only [decide_eq_false_iff_not]; omega)
   ·have h22 := dlt_f g22
    refine W.exit (thn_x (thn_x (blk_hit ?_)))
    refine thn_n ?_
    refine W.seq ?_
    refine W.region ?_
    refine L.val (x_mv (v := .pointer _) rfl) rfl ?_
    refine L.val (x_mv (v := .int _ _) rfl) rfl ?_
    have hsC := hC.size
    refine L.ret (x_call ksesu_en42 rfl) rfl (commit_ok ow 0 b bh bo s _ lh0 lo1 _ 1 _ hBN (fun x hx => by obtain ⟨-, -, q1, q2⟩ := hag.bnd x hx; have := wrote_len (l := d.acts.take k); rw [List.length_take] at this; omega) (by rw [hag.lg]; simp)) ?_
    rintro v97 w97 ⟨rfl, ow8, vl8, lh8, lo8, rows8, hG8, -⟩
    rw [if_pos hag.open, hag.commit]
    obtain ⟨-, hnm8⟩ := low_goes hlow (by omega) (hG8.two (td := 1))
    have hC := hC.step (hG8.two (td := 1)).gr (fun i hi m => hnm8 i hi m)
    refine L.val (x_eql rfl rfl) rfl ?_
    refine L.val (x_as (v := .bool _) rfl) rfl ?_
    refine L.nil ?_
    refine thn_n ?_
    refine W.ret (fin_mk (.inr rfl) ?_)
    exact ⟨rfl, hB3.trans hC⟩
end Go.Gx
