/- Sessions: one act of a law, walked. Conditions: none. -/
import Derived.Test.YtnhbjfkeeegdgaaCdSesT0
namespace Go.Gx
open Go.Proofs
theorem ksest_ag34 : aggT Try.prog 34 3 = true := by kernel_rfl
theorem ksest_ag36 : aggT Try.prog 36 5 = true := by kernel_rfl
theorem ksest_el36 : elT Try.prog 36 5 = true := by kernel_rfl
theorem ksest_el37 : elT Try.prog 37 1 = true := by kernel_rfl
theorem ksest_el4 : elT Try.prog 4 1 = true := by kernel_rfl
theorem ksest_el41 : elT Try.prog 41 8 = true := by kernel_rfl
theorem ksest_el9 : elT Try.prog 9 1 = true := by kernel_rfl
theorem ksest_en16 : Go.Proofs.Enters Try.prog 16 := Go.Proofs.enters_of Try.func16 (by kernel_rfl) rfl
theorem ksest_en18 : Go.Proofs.Enters Try.prog 18 := Go.Proofs.enters_of Try.func18 (by kernel_rfl) rfl
theorem ksest_en19 : Go.Proofs.Enters Try.prog 19 := Go.Proofs.enters_of Try.func19 (by kernel_rfl) rfl
theorem ksest_en20 : Go.Proofs.Enters Try.prog 20 := Go.Proofs.enters_of Try.func20 (by kernel_rfl) rfl
theorem ksest_en22 : Go.Proofs.Enters Try.prog 22 := Go.Proofs.enters_of Try.func22 (by kernel_rfl) rfl
theorem ksest_en40 : Go.Proofs.Enters Try.prog 40 := Go.Proofs.enters_of Try.func40 (by kernel_rfl) rfl
theorem ksest_en42 : Go.Proofs.Enters Try.prog 42 := Go.Proofs.enters_of Try.func42 (by kernel_rfl) rfl
theorem ksest_fo34_0 : fieldOff Try.prog 34 0 = some 0 := by kernel_rfl
theorem ksest_fo36_0 : fieldOff Try.prog 36 0 = some 0 := by kernel_rfl
theorem ksest_fo36_1 : fieldOff Try.prog 36 1 = some 1 := by kernel_rfl
theorem ksest_fo36_2 : fieldOff Try.prog 36 2 = some 2 := by kernel_rfl
theorem ksest_fo41_0 : fieldOff Try.prog 41 0 = some 0 := by kernel_rfl
theorem ksest_fo41_1 : fieldOff Try.prog 41 1 = some 1 := by kernel_rfl
theorem ksest_fo41_2 : fieldOff Try.prog 41 2 = some 2 := by kernel_rfl
theorem ksest_fo41_3 : fieldOff Try.prog 41 3 = some 3 := by kernel_rfl
theorem ksest_fo41_5 : fieldOff Try.prog 41 5 = some 5 := by kernel_rfl
theorem ksest_fo41_6 : fieldOff Try.prog 41 6 = some 6 := by kernel_rfl
theorem ksest_fo41_7 : fieldOff Try.prog 41 7 = some 7 := by kernel_rfl
theorem ksest_mixed : Try.prog.follows .mixedOrders = true := by kernel_rfl
theorem ksest_oc23 : oneCellT Try.prog 23 = true := by kernel_rfl
theorem ksest_oc3 : oneCellT Try.prog 3 = true := by kernel_rfl
theorem ksest_oc37 : oneCellT Try.prog 37 = true := by kernel_rfl
theorem ksest_oc38 : oneCellT Try.prog 38 = true := by kernel_rfl
theorem ksest_oc39 : oneCellT Try.prog 39 = true := by kernel_rfl
theorem ksest_oc9 : oneCellT Try.prog 9 = true := by kernel_rfl
theorem ksest_si41 : structInfo Try.prog 41 = some ([(0, 1), (1, 1), (2, 1), (3, 1), (4, 1), (5, 1), (6, 1), (7, 1)], [Value.slice none 0 0, Value.slice none 0 0, Value.slice none 0 0, Value.slice none 0 0, Value.int .i64 0, Value.int .i64 0, Value.bool false, Value.bool false]) := by kernel_rfl
theorem ksest_sz23 : (Try.prog.info? 23).map (·.size) = some 1 := by kernel_rfl
theorem ksest_sz3 : (Try.prog.info? 3).map (·.size) = some 1 := by kernel_rfl
theorem ksest_sz37 : (Try.prog.info? 37).map (·.size) = some 1 := by kernel_rfl
theorem ksest_sz38 : (Try.prog.info? 38).map (·.size) = some 1 := by kernel_rfl
theorem ksest_sz39 : (Try.prog.info? 39).map (·.size) = some 1 := by kernel_rfl
theorem ksest_sz4 : (Try.prog.info? 4).map (·.size) = some 1 := by kernel_rfl
theorem ksest_sz41 : (Try.prog.info? 41).map (·.size) = some 8 := by kernel_rfl
def cnA : CN := ⟨fun k => [9, 16, 23, 29].getD k 0, fun k => [10, 17, 24, 30].getD k 0, fun k => [73, 80, 87, 93].getD k 0, fun k => [74, 81, 88, 94].getD k 0, fun k => [36, 9, 4, 37].getD k 0, fun k => [5, 1, 1, 1].getD k 0, fun k => 0⟩
def cnB : CN := ⟨fun k => [9, 15, 21, 28].getD k 0, fun k => [10, 16, 22, 29].getD k 0, fun k => [126, 132, 138, 145].getD k 0, fun k => [127, 133, 139, 146].getD k 0, fun k => [36, 9, 4, 37].getD k 0, fun k => [5, 1, 1, 1].getD k 0, fun k => 0⟩
def cnC : CN := ⟨fun k => [9, 15, 21, 27].getD k 0, fun k => [10, 16, 22, 28].getD k 0, fun k => [173, 179, 185, 191].getD k 0, fun k => [174, 180, 186, 192].getD k 0, fun k => [36, 9, 4, 37].getD k 0, fun k => [5, 1, 1, 1].getD k 0, fun k => 0⟩
theorem step_begin (ow : Labels) (tb td b bh bo N : Nat) (s : Bs) (ds : List Dd) (a : Ac) (v vl : Value) (lh : List (Str × Value)) (lo : List (Int × Value)) (rows : List (List Value)) (w : World) (h : BaseAt ow tb w b s bh bo vl lh lo rows) (hD : DidsAt ow td w v ds) (htd : tb ≠ td)
    (hN : Bnd N s) (hDN : DBnd N ds) (hN9 : N ≤ 900) (hae : EdOk a.ed) (hkk : a.kind < 1 ∨ 5 < a.kind) :
    Ret Try.prog 17 #[.pointer (some ⟨b, 0, none⟩), v, .agg (acV a).toArray] w fun v' w' => ∃ ow' vl' lh' lo' rows', BaseAt ow' tb w' b (stepS s ds a).1 bh bo vl' lh' lo' rows' ∧ DidsAt ow' td w' v' (stepS s ds a).2 ∧ Goes2 tb td w w' ow ow' := by
  have hfl := hN.flat hN9
  have hgets : ∀ x ∈ s.all, x.gets.length ≤ 1000000 := fun x hx => by have := (hN.se x hx).2.2.1; omega
  have heds : ∀ x ∈ s.all, x.eds.length ≤ 1000000 := fun x hx => by have := (hN.se x hx).2.1; omega
  have hheads : ∀ x ∈ s.all, x.heads.length ≤ 1000000 ∧ x.eds.length ≤ 1000000 := fun x hx => by have := (hN.se x hx).2; omega
  have hats : ∀ x ∈ s.all, x.at_ ≤ s.log.length ∧ x.eds.length ≤ 1000000 := fun x hx => by have := (hN.se x hx); exact ⟨this.1, by omega⟩
  have hlg := hN.lg
  have hal0 := hN.al
  have hll := hN.ll
  have hdl := hDN.1
  have hf0 := h.free
  have hkv1 : (Value.slice none 0 0).oneCell' = true := rfl
  obtain ⟨pa, ca0, hvs⟩ : ∃ pa ca, v = .slice pa ds.length ca := by
    obtain ⟨rows, hO, -⟩ := hD
    obtain ⟨pa, ca, e, -⟩ := own_shape hO.1
    exact ⟨pa, ca, e⟩
  subst hvs
  refine ret_of_W Try.func17 rfl (Nat.le_of_ble_eq_true rfl) (res1 rfl) ?_
  refine W.seq ?_
  refine W.region ?_
  refine L.box (cs := acV a) rfl rfl (fun w5 bx5 hw hz5 => ?_)
  have hB := hw
  have hG5 : Goes tb w w5 ow ow := Goes.bel h.free hw
  have hBN := h.bel hw
  have hDc := hD.bel hw h.free
  have hGc : Goes2 tb td w w5 ow ow := hG5.two
  have hn5 : ow w.heap.size = none := hf0 _ (Nat.le_refl _)
  refine L.val (x_as (v := .slice _ _ _) rfl) rfl ?_
  refine L.nil ?_
  refine thn_n ?_
  refine W.seq ?_
  refine W.seq ?_
  refine W.region ?_
  refine L.val (x_fa ksest_fo36_0 rfl) rfl ?_
  refine L.val (x_ld (v := .int _ _) ksest_oc3 rfl (bx5.cell0 rfl)) rfl ?_
  refine L.val (x_lss rfl rfl) rfl ?_
  refine L.val (x_mv (v := .bool _) rfl) rfl ?_
  refine' L.group0 3 18 20 20 17 false rfl ?_ ?_ ?_
  rotate_left 1
  ·intro g17
   have h17 := dlt_f g17
   refine L.gyes' (dj := 17) (b := _) rfl rfl g17 ?_
   refine L.val (x_fa ksest_fo36_0 rfl) rfl ?_
   refine L.gyes' (dj := 17) (b := _) rfl rfl g17 ?_
   refine L.val (x_ld (v := .int _ _) ksest_oc3 rfl (bx5.cell0 rfl)) rfl ?_
   refine L.gyes' (dj := 17) (b := _) rfl rfl g17 ?_
   refine L.val (x_gtr rfl rfl) rfl ?_
   refine L.nil ?_
   refine thn_n ⟨rfl, rfl, ?_, rfl⟩
   repeat (first | exact jeq.refl _ _ _ | refine jeq.upd rfl ?_ | refine jeq.jk rfl rfl ?_)
  ·intro g17
   refine L.gno (dj := 17) (b := _) rfl rfl g17 rfl ?_
   refine L.gno (dj := 17) (b := _) rfl rfl g17 rfl ?_
   refine L.gno (dj := 17) (b := _) rfl rfl g17 rfl ?_
   refine L.nil (thn_n ⟨rfl, rfl, ?_⟩)
   repeat (first | exact jeq.refl _ _ _ | refine jeq.upd rfl ?_ | refine jeq.jk rfl rfl ?_)
  intro J17 j17
  refine L.val (x_or rfl j17) rfl ?_
  refine L.nil ?_
  refine thn_n ?_
  refine W.cond (b := _) rfl (fun g21 => ?_) (fun g21 => ?_)
  ·have h21 := g21
   have hk : a.kind < 1 ∨ 5 < a.kind := by simp only [Bool.or_eq_true, decide_eq_true_eq] at g21; omega
   have hst : stepS s ds a = (s.begin_, ds ++ [⟨[], [], [], [], s.log.length, -1, false, false⟩]) := if_pos hk
   refine W.seq ?_
   refine W.region ?_
   refine L.val (x_mv (v := .pointer _) rfl) rfl ?_
   refine L.ret (x_call ksest_en18 rfl) rfl (begin_ok ow tb b bh bo s _ lh lo rows _ hBN (by omega)) ?_
   rintro v23 w23 ⟨rfl, ow1, lo1, hG1, hBN⟩
   have hDc := hDc.goes hG1 htd.symm
   have hGc := hGc.trans hG1.two
   refine L.nil ?_
   refine thn_n ?_
   refine W.seq ?_
   refine W.region ?_
   refine L.val (x_mv (v := .slice _ _ _) rfl) rfl ?_
   refine L.val (x_mv (v := .pointer _) rfl) rfl ?_
   refine L.ret (x_call ksest_en16 rfl) rfl (log_ok ow1 tb b bh bo s.begin_ _ lh lo1 rows _ hBN (by show s.log.length ≤ _; omega) (fun l hl => by have := hll l hl; omega)) ?_
   rintro v26 w26 ⟨hL, hw⟩
   have hDc := hDc.bel hw hBN.free
   have hGc := hGc.trans (Goes.bel hBN.free hw).two
   have hBN := hBN.bel hw
   obtain ⟨p26, c26, row26, rfl, -⟩ := hL
   have hf26 := hBN.free
   obtain ⟨rowsq, hOq, hrlq, hrowq⟩ := hDc
   have hOc := hOq.1
   refine L.val (x_len_slice Try.underlying30 rfl) rfl ?_
   refine L.val (x_build (cells := [.slice _ _ _, .slice _ _ _, .slice _ _ _, .slice _ _ _, .int _ _, .int _ _, .bool _, .bool _]) ksest_si41 rfl rfl) rfl ?_
   refine L.bs (sz := 8) (cells := didV (.slice none 0 0) (.slice none 0 0) (.slice none 0 0) (.slice none 0 0) ⟨[], [], [], [], s.log.length, -1, false, false⟩) Try.underlying29 ksest_el41 rfl rfl rfl rfl (fun w29 bx29 hw hz29 => ?_)
   have hOc := hOc.carry hw
   have hB29 := hw
   have hz29 := hw.size
   refine L.appendN (m := 1) Try.underlying29 ksest_el41 rfl rfl rfl hOc rfl (holdsN_box bx29) (didV_one ⟨rfl, rfl, rfl, rfl⟩ _) (by omega) (by omega) (fun v30 w30 hO30 hg hob30 => ?_)
   obtain ⟨a30, c30, e30, -⟩ := own_shape hO30
   subst e30
   obtain ⟨owd, hKd, hDd⟩ := did_new hf26 hOq hrlq hrowq hB29 hO30 hg hob30 rfl ⟨rfl, rfl, rfl, rfl⟩
   have hBN := hBN.goes hKd.goes htd
   have hGc := hGc.trans hKd.goes.two'
   refine L.val (x_as (v := .slice _ _ _) rfl) rfl ?_
   refine L.nil ?_
   refine thn_n ?_
   refine W.ret (thn_r (fin_mk (.inr rfl) ?_))
   rw [hst]
   exact ⟨_, _, _, _, _, hBN, hDd, hGc⟩
  ·have h21 := g21
   exfalso; simp only [Bool.or_eq_false_iff, decide_eq_false_iff_not] at g21; omega
theorem step_get (ow : Labels) (tb td b bh bo N : Nat) (s : Bs) (ds : List Dd) (a : Ac) (v vl : Value) (lh : List (Str × Value)) (lo : List (Int × Value)) (rows : List (List Value)) (w : World) (h : BaseAt ow tb w b s bh bo vl lh lo rows) (hD : DidsAt ow td w v ds) (htd : tb ≠ td)
    (hN : Bnd N s) (hDN : DBnd N ds) (hN9 : N ≤ 900) (hae : EdOk a.ed) (hkk : a.kind = 1) (ho : s.isOpen a.id) :
    Ret Try.prog 17 #[.pointer (some ⟨b, 0, none⟩), v, .agg (acV a).toArray] w fun v' w' => ∃ ow' vl' lh' lo' rows', BaseAt ow' tb w' b (stepS s ds a).1 bh bo vl' lh' lo' rows' ∧ DidsAt ow' td w' v' (stepS s ds a).2 ∧ Goes2 tb td w w' ow ow' := by
  have hfl := hN.flat hN9
  have hgets : ∀ x ∈ s.all, x.gets.length ≤ 1000000 := fun x hx => by have := (hN.se x hx).2.2.1; omega
  have heds : ∀ x ∈ s.all, x.eds.length ≤ 1000000 := fun x hx => by have := (hN.se x hx).2.1; omega
  have hheads : ∀ x ∈ s.all, x.heads.length ≤ 1000000 ∧ x.eds.length ≤ 1000000 := fun x hx => by have := (hN.se x hx).2; omega
  have hats : ∀ x ∈ s.all, x.at_ ≤ s.log.length ∧ x.eds.length ≤ 1000000 := fun x hx => by have := (hN.se x hx); exact ⟨this.1, by omega⟩
  have hlg := hN.lg
  have hal0 := hN.al
  have hll := hN.ll
  have hdl := hDN.1
  have hf0 := h.free
  have hkv1 : (Value.slice none 0 0).oneCell' = true := rfl
  obtain ⟨pa, ca0, hvs⟩ : ∃ pa ca, v = .slice pa ds.length ca := by
    obtain ⟨rows, hO, -⟩ := hD
    obtain ⟨pa, ca, e, -⟩ := own_shape hO.1
    exact ⟨pa, ca, e⟩
  subst hvs
  refine ret_of_W Try.func17 rfl (Nat.le_of_ble_eq_true rfl) (res1 rfl) ?_
  refine W.seq ?_
  refine W.region ?_
  refine L.box (cs := acV a) rfl rfl (fun w5 bx5 hw hz5 => ?_)
  have hB := hw
  have hG5 : Goes tb w w5 ow ow := Goes.bel h.free hw
  have hBN := h.bel hw
  have hDc := hD.bel hw h.free
  have hGc : Goes2 tb td w w5 ow ow := hG5.two
  have hn5 : ow w.heap.size = none := hf0 _ (Nat.le_refl _)
  refine L.val (x_as (v := .slice _ _ _) rfl) rfl ?_
  refine L.nil ?_
  refine thn_n ?_
  refine W.seq ?_
  refine W.seq ?_
  refine W.region ?_
  refine L.val (x_fa ksest_fo36_0 rfl) rfl ?_
  refine L.val (x_ld (v := .int _ _) ksest_oc3 rfl (bx5.cell0 rfl)) rfl ?_
  refine L.val (x_lss rfl rfl) rfl ?_
  refine L.val (x_mv (v := .bool _) rfl) rfl ?_
  refine' L.group0 3 18 20 20 17 false rfl ?_ ?_ ?_
  rotate_left 1
  ·intro g17
   have h17 := dlt_f g17
   refine L.gyes' (dj := 17) (b := _) rfl rfl g17 ?_
   refine L.val (x_fa ksest_fo36_0 rfl) rfl ?_
   refine L.gyes' (dj := 17) (b := _) rfl rfl g17 ?_
   refine L.val (x_ld (v := .int _ _) ksest_oc3 rfl (bx5.cell0 rfl)) rfl ?_
   refine L.gyes' (dj := 17) (b := _) rfl rfl g17 ?_
   refine L.val (x_gtr rfl rfl) rfl ?_
   refine L.nil ?_
   refine thn_n ⟨rfl, rfl, ?_, rfl⟩
   repeat (first | exact jeq.refl _ _ _ | refine jeq.upd rfl ?_ | refine jeq.jk rfl rfl ?_)
  ·intro g17
   refine L.gno (dj := 17) (b := _) rfl rfl g17 rfl ?_
   refine L.gno (dj := 17) (b := _) rfl rfl g17 rfl ?_
   refine L.gno (dj := 17) (b := _) rfl rfl g17 rfl ?_
   refine L.nil (thn_n ⟨rfl, rfl, ?_⟩)
   repeat (first | exact jeq.refl _ _ _ | refine jeq.upd rfl ?_ | refine jeq.jk rfl rfl ?_)
  intro J17 j17
  refine L.val (x_or rfl j17) rfl ?_
  refine L.nil ?_
  refine thn_n ?_
  refine W.cond (b := _) rfl (fun g21 => ?_) (fun g21 => ?_)
  ·have h21 := g21
   exfalso; simp only [Bool.or_eq_true, decide_eq_true_eq] at g21; omega
  ·have h21 := g21
   have hk : ¬ (a.kind < 1 ∨ 5 < a.kind) := by simp only [Bool.or_eq_false_iff, decide_eq_false_iff_not] at g21; omega
   refine W.skip ?_
   refine thn_n ?_
   refine W.seq ?_
   refine W.seq ?_
   refine W.region ?_
   refine L.val (x_fa ksest_fo36_1 rfl) rfl ?_
   refine L.val (x_ld (v := .int _ _) ksest_oc3 rfl (bx5.cell0 rfl)) rfl ?_
   refine L.val (x_lss rfl rfl) rfl ?_
   refine L.val (x_mv (v := .bool _) rfl) rfl ?_
   refine' L.group0 5 35 39 39 34 false rfl ?_ ?_ ?_
   rotate_left 1
   ·intro g34
    have h34 := dlt_f g34
    refine L.gyes' (dj := 34) (b := _) rfl rfl g34 ?_
    refine L.val (x_fa ksest_fo36_1 rfl) rfl ?_
    refine L.gyes' (dj := 34) (b := _) rfl rfl g34 ?_
    refine L.val (x_ld (v := .int _ _) ksest_oc3 rfl (bx5.cell0 rfl)) rfl ?_
    refine L.gyes' (dj := 34) (b := _) rfl rfl g34 ?_
    refine L.val (x_mv (v := .slice _ _ _) rfl) rfl ?_
    refine L.gyes' (dj := 34) (b := _) rfl rfl g34 ?_
    refine L.val (x_len_slice Try.underlying29 rfl) rfl ?_
    refine L.gyes' (dj := 34) (b := _) rfl rfl g34 ?_
    refine L.val (x_gtr rfl rfl) rfl ?_
    refine L.nil ?_
    refine thn_n ⟨rfl, rfl, ?_, rfl⟩
    repeat (first | exact jeq.refl _ _ _ | refine jeq.upd rfl ?_ | refine jeq.jk rfl rfl ?_)
   ·intro g34
    refine L.gno (dj := 34) (b := _) rfl rfl g34 rfl ?_
    refine L.gno (dj := 34) (b := _) rfl rfl g34 rfl ?_
    refine L.gno (dj := 34) (b := _) rfl rfl g34 rfl ?_
    refine L.gno (dj := 34) (b := _) rfl rfl g34 rfl ?_
    refine L.gno (dj := 34) (b := _) rfl rfl g34 rfl ?_
    refine L.nil (thn_n ⟨rfl, rfl, ?_⟩)
    repeat (first | exact jeq.refl _ _ _ | refine jeq.upd rfl ?_ | refine jeq.jk rfl rfl ?_)
   intro J34 j34
   refine L.val (x_or rfl j34) rfl ?_
   refine L.nil ?_
   refine thn_n ?_
   refine W.cond (b := _) rfl (fun g40 => ?_) (fun g40 => ?_)
   ·have h40 := g40
    have hi : a.id < 1 ∨ (ds.length : Int) < a.id := by simp only [Bool.or_eq_true, decide_eq_true_eq] at g40; omega
    have hst : stepS s ds a = (s, ds) := by unfold stepS; rw [if_neg hk, if_pos hi]
    refine W.seq ?_
    refine W.region ?_
    refine L.val (x_mv (v := .slice _ _ _) rfl) rfl ?_
    refine L.val (x_as (v := .slice _ _ _) rfl) rfl ?_
    refine L.nil ?_
    refine thn_n ?_
    refine W.ret (thn_r (fin_mk (.inr rfl) ?_))
    rw [hst]
    exact ⟨_, _, _, _, _, hBN, hDc, hGc⟩
   ·have h40 := g40
    have hid : ¬ (a.id < 1 ∨ (ds.length : Int) < a.id) := by simp only [Bool.or_eq_false_iff, decide_eq_false_iff_not] at g40; omega
    obtain ⟨i, hai⟩ : ∃ i : Nat, i = a.id.toNat - 1 := ⟨_, rfl⟩
    have hil : i < ds.length := by omega
    obtain ⟨ba, hpa⟩ : ∃ ba, pa = some ⟨ba, 0, none⟩ := by
      obtain ⟨rowsq, hO, -⟩ := hDc
      exact own_pos hO.1 (by omega)
    subst hpa
    refine W.skip ?_
    refine thn_n ?_
    refine W.seq ?_
    refine W.region ?_
    refine L.val (x_mv (v := .slice _ _ _) rfl) rfl ?_
    refine L.val (x_fa ksest_fo36_1 rfl) rfl ?_
    refine L.val (x_ld (v := .int _ _) ksest_oc3 rfl (bx5.cell0 rfl)) rfl ?_
    refine L.val (x_sub rfl rfl (wr64 (by omega))) rfl ?_
    refine L.val (x_ia (j := i) Try.underlying29 ksest_sz41 rfl rfl (by omega) (by omega)) rfl ?_
    refine L.val (x_as (v := .pointer _) rfl) rfl ?_
    refine L.nil ?_
    refine thn_n ?_
    refine W.seq ?_
    refine W.seq ?_
    refine W.region ?_
    refine L.val (x_fa ksest_fo36_0 rfl) rfl ?_
    refine L.val (x_ld (v := .int _ _) ksest_oc3 rfl (bx5.cell0 rfl)) rfl ?_
    refine L.nil ?_
    refine thn_n ?_
    refine W.block ?_
    refine W.seq ?_
    refine W.region ?_
    refine L.val (x_eql rfl rfl) rfl ?_
    refine L.val (x_as (v := .bool _) rfl) rfl ?_
    refine L.nil ?_
    refine thn_n ?_
    refine W.cond (b := _) rfl (fun g50 => ?_) (fun g50 => ?_)
    ·have h50 := of_decide_eq_true g50
     have hk1 : a.kind = 1 := h50
     refine W.seq ?_
     refine W.region ?_
     refine L.val (x_mv (v := .pointer _) rfl) rfl ?_
     refine L.val (x_fa ksest_fo36_1 rfl) rfl ?_
     refine L.val (x_ld (v := .int _ _) ksest_oc3 rfl (bx5.cell0 rfl)) rfl ?_
     refine L.val (x_fa ksest_fo36_2 rfl) rfl ?_
     refine L.val (x_fa ksest_fo34_0 rfl) rfl ?_
     refine L.val (x_ld (v := S _) ksest_oc9 rfl (bx5.cell (i := 0 + 2 + 0) rfl)) rfl ?_
     refine L.ret (x_call ksest_en19 rfl) rfl (get_ok ow tb b bh bo s _ lh lo rows a.id a.ed.key _ hBN hgets (by simp only [List.length_cons]; omega)) ?_
     rintro v58 wc ⟨rfl, hG, hBN⟩
     rw [if_pos ho] at hBN ⊢
     have hDc := hDc.goes hG htd.symm
     have hGc := hGc.trans hG.two
     have bx5 := bx5.carryR hG.gr (fun ⟨p, e⟩ => by rw [hn5] at e; cases e)
     have hst : stepS s ds a = (s.getS a.id a.ed.key, ds.set i ((ds.getD i default).add a (s.getA a.id a.ed.key).1 (s.getA a.id a.ed.key).2 [])) := by unfold stepS; rw [if_neg hk, if_neg hid]; dsimp only; rw [if_pos hk1, if_pos ho, hai]
     have hks : StrsAt (fun k => ow k ≠ none) wc (.slice none 0 0) [] := StrsAt.nil _ _ _ _ (by simp)
     refine L.val (x_mv (v := _) rfl) rfl ?_
     refine L.val (x_ext (v := S _) rfl rfl) rfl ?_
     refine L.val (x_ext (v := .bool _) rfl rfl) rfl ?_
     refine L.val (x_ext (v := .int _ _) rfl rfl) rfl ?_
     refine L.val (x_as (v := S _) rfl) rfl ?_
     refine L.val (x_as (v := .bool _) rfl) rfl ?_
     refine L.val (x_as (v := .int _ _) rfl) rfl ?_
     refine L.nil ?_
     refine thn_n ?_
     refine W.seq ?_
     refine W.region ?_
     refine L.val (x_mv (v := .int _ _) rfl) rfl ?_
     refine L.val (x_eql rfl rfl) rfl ?_
     refine L.nil ?_
     refine thn_n ?_
     refine W.cond (b := _) rfl (fun g63 => ?_) (fun g63 => ?_)
     ·have h63 := of_decide_eq_true g63
      have hi : i < ds.length := hil
      obtain ⟨rowsD, hOl, hrl, hrow⟩ := id hDc
      obtain ⟨va, vv, vt, vk, kr, hr, d2, d3, d4, d5, d6, d7⟩ := hrow i hi
      obtain ⟨aa, ca, rfl, -⟩ := own_shape d2.1
      obtain ⟨av, cv, rfl, -⟩ := own_shape d3.1
      obtain ⟨at_, ct, rfl, -⟩ := own_shape d4.1
      obtain ⟨ak, ck, rfl, -⟩ := own_shape d5.1
      have h8 := dids_lens hrl hrow
      obtain ⟨tl, hallc⟩ : ∃ tl, Box wc ba 41 (rowsD.flatten ++ tl) := by
        rcases Own.open hOl.1 with ⟨e, -⟩ | ⟨b', c', tl, e, -, -, -, hbx⟩
        · cases e
        · simp only [Value.slice.injEq, Option.some.injEq, Addr.mk.injEq, and_true, true_and] at e
          exact ⟨tl, by rw [e.1]; exact hbx⟩
      have hall := hallc
      have hc0 : (rowsD.flatten ++ tl)[0 + i * 8 + 0]? = some (.slice aa (ds.getD i default).acts.length ca) := by rw [Nat.zero_add]; exact row_cell h8 (by omega) (by omega) (by rw [hr]; rfl)
      have hc1 : (rowsD.flatten ++ tl)[0 + i * 8 + 1]? = some (.slice av (ds.getD i default).values.length cv) := by rw [Nat.zero_add]; exact row_cell h8 (by omega) (by omega) (by rw [hr]; rfl)
      have hc2 : (rowsD.flatten ++ tl)[0 + i * 8 + 2]? = some (.slice at_ (ds.getD i default).there.length ct) := by rw [Nat.zero_add]; exact row_cell h8 (by omega) (by omega) (by rw [hr]; rfl)
      have hc3 : (rowsD.flatten ++ tl)[0 + i * 8 + 3]? = some (.slice ak (ds.getD i default).keys.length ck) := by rw [Nat.zero_add]; exact row_cell h8 (by omega) (by omega) (by rw [hr]; rfl)
      have hlen0 : i * 8 + 8 ≤ (rowsD.flatten ++ tl).length := by rw [List.length_append, flat_len h8, hrl]; omega
      have hal := hDN.2 (ds.getD i default) (by rw [List.getD_eq_getElem?_getD, List.getElem?_eq_getElem hi]; exact List.getElem_mem hi)
      obtain ⟨-, dl1, dl2, dl3⟩ := id d7
      have hba : ow ba = some (td, .log) := hOl.2 ba rfl
      have hba5 : w.heap.size ≠ ba := fun e => by rw [← e, hn5] at hba; cases hba
      have hqq : ∀ {v : Value} {p : Part}, (∀ j, some j = v.ownBlock → ow j = some (td, p)) → p ≠ .log → ∀ j, some j = v.ownBlock → j ≠ w.heap.size ∧ j ≠ ba := fun {v p} hl hp j hj => ⟨fun e => (by have := hl j hj; rw [e, hn5] at this; cases this), fun e => (by have := hl j hj; rw [e, hba] at this; simp at this; exact hp this.symm)⟩
      have hq2 := hqq d2.2 (by simp)
      have hq3 := hqq d3.2 (by simp)
      have hq4 := hqq d4.2 (by simp)
      have hq5 := hqq d5.2 (by simp)
      refine W.drawD (fun k => (some k = (Value.slice aa (ds.getD i default).acts.length ca).ownBlock ∨ some k = (Value.slice av (ds.getD i default).values.length cv).ownBlock ∨ some k = (Value.slice at_ (ds.getD i default).there.length ct).ownBlock ∨ some k = (Value.slice ak (ds.getD i default).keys.length ck).ownBlock) ∨ k = ba) (fun k => some k = (Value.slice aa (ds.getD i default).acts.length ca).ownBlock ∨ some k = (Value.slice av (ds.getD i default).values.length cv).ownBlock ∨ some k = (Value.slice at_ (ds.getD i default).there.length ct).ownBlock ∨ some k = (Value.slice ak (ds.getD i default).keys.length ck).ownBlock) 33 ksest_mixed (fun wD64 hw => ?_)
      have bx5 := bx5.carry hw; have hall := hall.carry hw
      have hB0 := Gr.refl (fun k => some k = (Value.slice aa (ds.getD i default).acts.length ca).ownBlock ∨ some k = (Value.slice av (ds.getD i default).values.length cv).ownBlock ∨ some k = (Value.slice at_ (ds.getD i default).there.length ct).ownBlock ∨ some k = (Value.slice ak (ds.getD i default).keys.length ck).ownBlock) wD64; have hR0 := Gr.refl (fun k => (some k = (Value.slice aa (ds.getD i default).acts.length ca).ownBlock ∨ some k = (Value.slice av (ds.getD i default).values.length cv).ownBlock ∨ some k = (Value.slice at_ (ds.getD i default).there.length ct).ownBlock ∨ some k = (Value.slice ak (ds.getD i default).keys.length ck).ownBlock) ∨ k = ba) wD64
      have hDD := hw
      refine LAD.take0 (i := 0) rfl (by kernel_rfl) (by kernel_rfl) (by kernel_rfl) (by kernel_rfl) (fun w hw => x_mv (v := .pointer _) rfl) rfl ?_
      refine LAD.take0 (i := 1) rfl (by kernel_rfl) (by kernel_rfl) (by kernel_rfl) (by kernel_rfl) (fun w hw => x_mv (v := .pointer _) rfl) rfl ?_
      refine LAD.take0 (i := 2) rfl (by kernel_rfl) (by kernel_rfl) (by kernel_rfl) (by kernel_rfl) (fun w hw => x_mv (v := .pointer _) rfl) rfl ?_
      refine LAD.take0 (i := 3) rfl (by kernel_rfl) (by kernel_rfl) (by kernel_rfl) (by kernel_rfl) (fun w hw => x_mv (v := .pointer _) rfl) rfl ?_
      refine LAD.take0 (i := 4) rfl (by kernel_rfl) (by kernel_rfl) (by kernel_rfl) (by kernel_rfl) (fun w hw => x_mv (v := .pointer _) rfl) rfl ?_
      refine LAD.take0 (i := 5) rfl (by kernel_rfl) (by kernel_rfl) (by kernel_rfl) (by kernel_rfl) (fun w hw => x_nil rfl) rfl ?_
      refine LAD.take0 (i := 6) rfl (by kernel_rfl) (by kernel_rfl) (by kernel_rfl) (by kernel_rfl) (fun w hw => x_fa ksest_fo41_0 rfl) rfl ?_
      refine LAD.take1 (i := 7) rfl (by kernel_rfl) (by kernel_rfl) (by kernel_rfl) (by kernel_rfl) (by kernel_rfl) (by kernel_rfl) (fun w hw => x_ld (v := .slice _ _ _) ksest_oc23 rfl (hw.keepR (fun e => by rcases e with e | e | e | e; exact (hq2 _ e).2 rfl; exact (hq3 _ e).2 rfl; exact (hq4 _ e).2 rfl; exact (hq5 _ e).2 rfl) (hall.cell hc0))) rfl ?_
      refine LAD.take0 (i := 8) rfl (by kernel_rfl) (by kernel_rfl) (by kernel_rfl) (by kernel_rfl) (fun w hw => x_ldn (vs := _) ksest_ag36 rfl rfl (hw.keepRowR (fun e => by rcases e with (e | e | e | e) | e; exact (hq2 _ e).1 rfl; exact (hq3 _ e).1 rfl; exact (hq4 _ e).1 rfl; exact (hq5 _ e).1 rfl; exact hba5 (by have e : (_ : Nat) = _ := e; exact e)) rfl (bx5.row rfl))) rfl ?_
      refine LAD.take0 (i := 11) rfl (by kernel_rfl) (by kernel_rfl) (by kernel_rfl) (by kernel_rfl) (fun w hw => x_mv (v := .pointer _) rfl) rfl ?_
      refine LAD.take0 (i := 12) rfl (by kernel_rfl) (by kernel_rfl) (by kernel_rfl) (by kernel_rfl) (fun w hw => x_nil rfl) rfl ?_
      refine LAD.take0 (i := 13) rfl (by kernel_rfl) (by kernel_rfl) (by kernel_rfl) (by kernel_rfl) (fun w hw => x_fa ksest_fo41_1 rfl) rfl ?_
      refine LAD.take1 (i := 14) rfl (by kernel_rfl) (by kernel_rfl) (by kernel_rfl) (by kernel_rfl) (by kernel_rfl) (by kernel_rfl) (fun w hw => x_ld (v := .slice _ _ _) ksest_oc37 rfl (hw.keepR (fun e => by rcases e with e | e | e | e; exact (hq2 _ e).2 rfl; exact (hq3 _ e).2 rfl; exact (hq4 _ e).2 rfl; exact (hq5 _ e).2 rfl) (hall.cell hc1))) rfl ?_
      refine LAD.take0 (i := 15) rfl (by kernel_rfl) (by kernel_rfl) (by kernel_rfl) (by kernel_rfl) (fun w hw => x_mv (v := S _) rfl) rfl ?_
      refine LAD.take0 (i := 18) rfl (by kernel_rfl) (by kernel_rfl) (by kernel_rfl) (by kernel_rfl) (fun w hw => x_mv (v := .pointer _) rfl) rfl ?_
      refine LAD.take0 (i := 19) rfl (by kernel_rfl) (by kernel_rfl) (by kernel_rfl) (by kernel_rfl) (fun w hw => x_nil rfl) rfl ?_
      refine LAD.take0 (i := 20) rfl (by kernel_rfl) (by kernel_rfl) (by kernel_rfl) (by kernel_rfl) (fun w hw => x_fa ksest_fo41_2 rfl) rfl ?_
      refine LAD.take1 (i := 21) rfl (by kernel_rfl) (by kernel_rfl) (by kernel_rfl) (by kernel_rfl) (by kernel_rfl) (by kernel_rfl) (fun w hw => x_ld (v := .slice _ _ _) ksest_oc38 rfl (hw.keepR (fun e => by rcases e with e | e | e | e; exact (hq2 _ e).2 rfl; exact (hq3 _ e).2 rfl; exact (hq4 _ e).2 rfl; exact (hq5 _ e).2 rfl) (hall.cell hc2))) rfl ?_
      refine LAD.take0 (i := 22) rfl (by kernel_rfl) (by kernel_rfl) (by kernel_rfl) (by kernel_rfl) (fun w hw => x_mv (v := .bool _) rfl) rfl ?_
      refine LAD.take0 (i := 25) rfl (by kernel_rfl) (by kernel_rfl) (by kernel_rfl) (by kernel_rfl) (fun w hw => x_mv (v := .pointer _) rfl) rfl ?_
      refine LAD.take0 (i := 26) rfl (by kernel_rfl) (by kernel_rfl) (by kernel_rfl) (by kernel_rfl) (fun w hw => x_nil rfl) rfl ?_
      refine LAD.take0 (i := 27) rfl (by kernel_rfl) (by kernel_rfl) (by kernel_rfl) (by kernel_rfl) (fun w hw => x_fa ksest_fo41_3 rfl) rfl ?_
      refine LAD.take1 (i := 28) rfl (by kernel_rfl) (by kernel_rfl) (by kernel_rfl) (by kernel_rfl) (by kernel_rfl) (by kernel_rfl) (fun w hw => x_ld (v := .slice _ _ _) ksest_oc39 rfl (hw.keepR (fun e => by rcases e with e | e | e | e; exact (hq2 _ e).2 rfl; exact (hq3 _ e).2 rfl; exact (hq4 _ e).2 rfl; exact (hq5 _ e).2 rfl) (hall.cell hc3))) rfl ?_
      refine LAD.chainB (wD := wD64) cnA (fun k => ([⟨(Value.slice aa (ds.getD i default).acts.length ca), (ds.getD i default).acts.length, ((ds.getD i default).acts.map acV).flatten, acV a⟩, ⟨(Value.slice av (ds.getD i default).values.length cv), (ds.getD i default).values.length, (ds.getD i default).values.map S, [S (s.getA a.id a.ed.key).1]⟩, ⟨(Value.slice at_ (ds.getD i default).there.length ct), (ds.getD i default).there.length, (ds.getD i default).there.map Value.bool, [.bool (s.getA a.id a.ed.key).2]⟩, ⟨(Value.slice ak (ds.getD i default).keys.length ck), (ds.getD i default).keys.length, kr.flatten, [(Value.slice none 0 0)]⟩] : List Ch).getD k ⟨.slice none 0 0, 0, [], []⟩) (fun k => some k = (Value.slice aa (ds.getD i default).acts.length ca).ownBlock ∨ some k = (Value.slice av (ds.getD i default).values.length cv).ownBlock ∨ some k = (Value.slice at_ (ds.getD i default).there.length ct).ownBlock ∨ some k = (Value.slice ak (ds.getD i default).keys.length ck).ownBlock) 12 (by as_aux_lemma => kernel_rfl) (by as_aux_lemma => kernel_rfl) (by as_aux_lemma => kernel_rfl) ⟨?_, ?_, ?_, ?_⟩ ⟨?_, ?_, ?_, ?_⟩ (fun w h => ⟨h.mono (fun _ _ e => .inl e), h⟩) ?_ ?_ ?_
      · exact ⟨_, rfl, fun E w Q hE k => L.bs (sz := 5) (vs := [(0, .agg (acV a).toArray)]) (cells := acV a) Try.underlying23 ksest_el36 (congrArg (fun v => [((0 : Nat), v)]) (hE 72 (by decide))) rfl rfl rfl (fun w1 bx hB hsz => L.nil (k w1 bx hB hsz))⟩
      · exact ⟨_, rfl, fun E w Q hE k => L.bs (sz := 1) (vs := [(0, S (s.getA a.id a.ed.key).1)]) (cells := [S (s.getA a.id a.ed.key).1]) Try.underlying37 ksest_el9 (congrArg (fun v => [((0 : Nat), v)]) (hE 79 (by decide))) rfl rfl rfl (fun w1 bx hB hsz => L.nil (k w1 bx hB hsz))⟩
      · exact ⟨_, rfl, fun E w Q hE k => L.bs (sz := 1) (vs := [(0, .bool (s.getA a.id a.ed.key).2)]) (cells := [.bool (s.getA a.id a.ed.key).2]) Try.underlying38 ksest_el4 (congrArg (fun v => [((0 : Nat), v)]) (hE 86 (by decide))) rfl rfl rfl (fun w1 bx hB hsz => L.nil (k w1 bx hB hsz))⟩
      · exact ⟨_, rfl, fun E w Q hE k => L.bs (sz := 1) (vs := [(0, (Value.slice none 0 0))]) (cells := [(Value.slice none 0 0)]) Try.underlying39 ksest_el37 rfl rfl rfl rfl (fun w1 bx hB hsz => L.nil (k w1 bx hB hsz))⟩
      · exact ⟨_, rfl, fun E w Q blk hE hsl hbx hO k => L.appendN (m := 1) (sz := 5) (v := (Value.slice aa (ds.getD i default).acts.length ca)) (k := (ds.getD i default).acts.length) (xs := ((ds.getD i default).acts.map acV).flatten) (news := acV a) Try.underlying23 ksest_el36 (hE 71 (by decide)) hsl rfl hO rfl (holdsN_box hbx) (acV_one a) (by omega) (Nat.zero_le _) (fun v' w1 hO' g hob => L.nil (k v' w1 hO' g hob))⟩
      · exact ⟨_, rfl, fun E w Q blk hE hsl hbx hO k => L.appendN (m := 1) (sz := 1) (v := (Value.slice av (ds.getD i default).values.length cv)) (k := (ds.getD i default).values.length) (xs := (ds.getD i default).values.map S) (news := [S (s.getA a.id a.ed.key).1]) Try.underlying37 ksest_el9 (hE 78 (by decide)) hsl rfl hO rfl (holdsN_box hbx) (by intro u hu; rw [List.mem_singleton.1 hu]; rfl) (by omega) (Nat.zero_le _) (fun v' w1 hO' g hob => L.nil (k v' w1 hO' g hob))⟩
      · exact ⟨_, rfl, fun E w Q blk hE hsl hbx hO k => L.appendN (m := 1) (sz := 1) (v := (Value.slice at_ (ds.getD i default).there.length ct)) (k := (ds.getD i default).there.length) (xs := (ds.getD i default).there.map Value.bool) (news := [.bool (s.getA a.id a.ed.key).2]) Try.underlying38 ksest_el4 (hE 85 (by decide)) hsl rfl hO rfl (holdsN_box hbx) (by intro u hu; rw [List.mem_singleton.1 hu]; rfl) (by omega) (Nat.zero_le _) (fun v' w1 hO' g hob => L.nil (k v' w1 hO' g hob))⟩
      · exact ⟨_, rfl, fun E w Q blk hE hsl hbx hO k => L.appendN (m := 1) (sz := 1) (v := (Value.slice ak (ds.getD i default).keys.length ck)) (k := (ds.getD i default).keys.length) (xs := kr.flatten) (news := [(Value.slice none 0 0)]) Try.underlying39 ksest_el37 (hE 92 (by decide)) hsl rfl hO rfl (holdsN_box hbx) (by intro u hu; rw [List.mem_singleton.1 hu]; exact hkv1) (by omega) (Nat.zero_le _) (fun v' w1 hO' g hob => L.nil (k v' w1 hO' g hob))⟩
      · intro k hk j hj; match k, hk with | 0, _ => exact .inl hj | 1, _ => exact .inr (.inl hj) | 2, _ => exact .inr (.inr (.inl hj)) | 3, _ => exact .inr (.inr (.inr hj))
      · intro k hk; match k, hk with | 0, _ => exact d2.1.carry hDD | 1, _ => exact d3.1.carry hDD | 2, _ => exact d4.1.carry hDD | 3, _ => exact d5.1.carry hDD
      intro E wC64 hCI
      have hE := hCI.env
      have p0 := hCI.c0; unfold ChAt at p0; rw [if_pos (by rfl)] at p0
      obtain ⟨an0, cn0, e74, -⟩ := own_shape p0.1
      have q0 : Own wC64 0 36 5 (.slice an0 ((ds.getD i default).acts.length + 1) cn0) ((ds.getD i default).acts.length + 1) (((ds.getD i default).acts.map acV).flatten ++ acV a) := e74 ▸ p0.1
      have o0 : (Value.slice an0 ((ds.getD i default).acts.length + 1) cn0).ownBlock = (Value.slice aa (ds.getD i default).acts.length ca).ownBlock ∨ ∃ j, (Value.slice an0 ((ds.getD i default).acts.length + 1) cn0).ownBlock = some j ∧ wD64.heap.size ≤ j := e74 ▸ p0.2
      have p1 := hCI.c1; unfold ChAt at p1; rw [if_pos (by rfl)] at p1
      obtain ⟨an1, cn1, e81, -⟩ := own_shape p1.1
      have q1 : Own wC64 0 9 1 (.slice an1 ((ds.getD i default).values.length + 1) cn1) ((ds.getD i default).values.length + 1) ((ds.getD i default).values.map S ++ [S (s.getA a.id a.ed.key).1]) := e81 ▸ p1.1
      have o1 : (Value.slice an1 ((ds.getD i default).values.length + 1) cn1).ownBlock = (Value.slice av (ds.getD i default).values.length cv).ownBlock ∨ ∃ j, (Value.slice an1 ((ds.getD i default).values.length + 1) cn1).ownBlock = some j ∧ wD64.heap.size ≤ j := e81 ▸ p1.2
      have p2 := hCI.c2; unfold ChAt at p2; rw [if_pos (by rfl)] at p2
      obtain ⟨an2, cn2, e88, -⟩ := own_shape p2.1
      have q2 : Own wC64 0 4 1 (.slice an2 ((ds.getD i default).there.length + 1) cn2) ((ds.getD i default).there.length + 1) ((ds.getD i default).there.map Value.bool ++ [.bool (s.getA a.id a.ed.key).2]) := e88 ▸ p2.1
      have o2 : (Value.slice an2 ((ds.getD i default).there.length + 1) cn2).ownBlock = (Value.slice at_ (ds.getD i default).there.length ct).ownBlock ∨ ∃ j, (Value.slice an2 ((ds.getD i default).there.length + 1) cn2).ownBlock = some j ∧ wD64.heap.size ≤ j := e88 ▸ p2.2
      have p3 := hCI.c3; unfold ChAt at p3; rw [if_pos (by rfl)] at p3
      obtain ⟨an3, cn3, e94, -⟩ := own_shape p3.1
      have q3 : Own wC64 0 37 1 (.slice an3 ((ds.getD i default).keys.length + 1) cn3) ((ds.getD i default).keys.length + 1) (kr.flatten ++ [(Value.slice none 0 0)]) := e94 ▸ p3.1
      have o3 : (Value.slice an3 ((ds.getD i default).keys.length + 1) cn3).ownBlock = (Value.slice ak (ds.getD i default).keys.length ck).ownBlock ∨ ∃ j, (Value.slice an3 ((ds.getD i default).keys.length + 1) cn3).ownBlock = some j ∧ wD64.heap.size ≤ j := e94 ▸ p3.2
      rw [upd_self (show E 64 = .pointer (some ⟨ba, 0 + i * 8, none⟩) from hE 64 (by decide)), upd_self (show E 65 = .pointer (some ⟨ba, 0 + i * 8, none⟩) from hE 65 (by decide)), upd_self (show E 66 = .pointer (some ⟨ba, 0 + i * 8, none⟩) from hE 66 (by decide)), upd_self (show E 67 = .pointer (some ⟨ba, 0 + i * 8, none⟩) from hE 67 (by decide)), upd_self (show E 74 = .slice an0 ((ds.getD i default).acts.length + 1) cn0 from e74), upd_self (show E 81 = .slice an1 ((ds.getD i default).values.length + 1) cn1 from e81), upd_self (show E 88 = .slice an2 ((ds.getD i default).there.length + 1) cn2 from e88), upd_self (show E 94 = .slice an3 ((ds.getD i default).keys.length + 1) cn3 from e94), upd_self (show E 1 = .slice (some ⟨ba, 0, none⟩) ds.length ca0 from hE 1 (by decide)), upd_self (show E 7 = .pointer (some ⟨ba, 0 + i * 8, none⟩) from hE 7 (by decide))]
      have hB0 := hCI.gr
      have hR0 := hCI.gr.mono (R' := fun k => (some k = (Value.slice aa (ds.getD i default).acts.length ca).ownBlock ∨ some k = (Value.slice av (ds.getD i default).values.length cv).ownBlock ∨ some k = (Value.slice at_ (ds.getD i default).there.length ct).ownBlock ∨ some k = (Value.slice ak (ds.getD i default).keys.length ck).ownBlock) ∨ k = ba) (fun _ _ e => .inl e)
      have hall := hall.carryR hCI.gr (fun e => by rcases e with e | e | e | e; exact (hq2 _ e).2 rfl; exact (hq3 _ e).2 rfl; exact (hq4 _ e).2 rfl; exact (hq5 _ e).2 rfl)
      have hallC := hall
      have hS := Gr.refl (fun k => k = ba) wC64
      refine LAD.take0 (i := 31) rfl (by kernel_rfl) (by kernel_rfl) (by kernel_rfl) (by kernel_rfl) (fun w hw => x_nil rfl) rfl ?_
      refine LAD.take0 (i := 32) rfl (by kernel_rfl) (by kernel_rfl) (by kernel_rfl) (by kernel_rfl) (fun w hw => x_fa ksest_fo41_0 rfl) rfl ?_
      refine LAD.step (rs := [33]) hR0 (fun _ => hB0) (by kernel_rfl) (by simp) ⟨⟨_, rfl, ?_⟩, trivial⟩
      refine L.set (v := .slice _ _ _) ksest_sz23 rfl rfl rfl hall (by rw [Nat.blt_eq]; (try simp only [List.length_set]); omega) (fun wl92 hall hw hzl92 => ?_)
      have hR0 := hR0.into hw (.inr rfl)
      have hS := hS.trans hw
      refine L.nil ?_
      refine thn_n ?_
      refine LAD.take0 (i := 34) rfl (by kernel_rfl) (by kernel_rfl) (by kernel_rfl) (by kernel_rfl) (fun w hw => x_nil rfl) rfl ?_
      refine LAD.take0 (i := 35) rfl (by kernel_rfl) (by kernel_rfl) (by kernel_rfl) (by kernel_rfl) (fun w hw => x_fa ksest_fo41_1 rfl) rfl ?_
      refine LAD.step' (rs := [36]) hR0 (by kernel_rfl) (by kernel_rfl) (by simp) ⟨⟨_, rfl, ?_⟩, trivial⟩
      refine L.set (v := .slice _ _ _) ksest_sz37 rfl rfl rfl hall (by rw [Nat.blt_eq]; (try simp only [List.length_set]); omega) (fun wl95 hall hw hzl95 => ?_)
      have hR0 := hR0.into hw (.inr rfl)
      have hS := hS.trans hw
      refine L.nil ?_
      refine thn_n ?_
      refine LAD.take0 (i := 37) rfl (by kernel_rfl) (by kernel_rfl) (by kernel_rfl) (by kernel_rfl) (fun w hw => x_nil rfl) rfl ?_
      refine LAD.take0 (i := 38) rfl (by kernel_rfl) (by kernel_rfl) (by kernel_rfl) (by kernel_rfl) (fun w hw => x_fa ksest_fo41_2 rfl) rfl ?_
      refine LAD.step' (rs := [39]) hR0 (by kernel_rfl) (by kernel_rfl) (by simp) ⟨⟨_, rfl, ?_⟩, trivial⟩
      refine L.set (v := .slice _ _ _) ksest_sz38 rfl rfl rfl hall (by rw [Nat.blt_eq]; (try simp only [List.length_set]); omega) (fun wl98 hall hw hzl98 => ?_)
      have hR0 := hR0.into hw (.inr rfl)
      have hS := hS.trans hw
      refine L.nil ?_
      refine thn_n ?_
      refine LAD.take0 (i := 40) rfl (by kernel_rfl) (by kernel_rfl) (by kernel_rfl) (by kernel_rfl) (fun w hw => x_nil rfl) rfl ?_
      refine LAD.take0 (i := 41) rfl (by kernel_rfl) (by kernel_rfl) (by kernel_rfl) (by kernel_rfl) (fun w hw => x_fa ksest_fo41_3 rfl) rfl ?_
      refine LAD.step' (rs := [42]) hR0 (by kernel_rfl) (by kernel_rfl) (by simp) ⟨⟨_, rfl, ?_⟩, trivial⟩
      refine L.set (v := .slice _ _ _) ksest_sz39 rfl rfl rfl hall (by rw [Nat.blt_eq]; (try simp only [List.length_set]); omega) (fun wl101 hall hw hzl101 => ?_)
      have hR0 := hR0.into hw (.inr rfl)
      have hS := hS.trans hw
      refine L.nil ?_
      refine thn_n ?_
      refine LAD.done (by kernel_rfl) (by kernel_rfl) hR0 ?_
      have bx5 := bx5.carryR hR0 (fun e => by rcases e with (e | e | e | e) | e; exact (hq2 _ e).1 rfl; exact (hq3 _ e).1 rfl; exact (hq4 _ e).1 rfl; exact (hq5 _ e).1 rfl; exact hba5 e)
      have hgg : Gr (fun k => (some k = (Value.slice aa (ds.getD i default).acts.length ca).ownBlock ∨ some k = (Value.slice av (ds.getD i default).values.length cv).ownBlock ∨ some k = (Value.slice at_ (ds.getD i default).there.length ct).ownBlock ∨ some k = (Value.slice ak (ds.getD i default).keys.length ck).ownBlock) ∨ k = ba) wc wl101 := ((Gr.refl _ _).carry hDD).trans hR0
      have q0 := Own.carryR q0 hS (fun j hj e => own_box_ne q0 hallC (by decide) (by have e : j = ba := e; rw [← e]; exact hj))
      have q1 := Own.carryR q1 hS (fun j hj e => own_box_ne q1 hallC (by decide) (by have e : j = ba := e; rw [← e]; exact hj))
      have q2 := Own.carryR q2 hS (fun j hj e => own_box_ne q2 hallC (by decide) (by have e : j = ba := e; rw [← e]; exact hj))
      have q3 := Own.carryR q3 hS (fun j hj e => own_box_ne q3 hallC (by decide) (by have e : j = ba := e; rw [← e]; exact hj))
      have osz := hDD.size
      simp only [Nat.zero_add] at hall
      obtain ⟨owd, hKd, hDd⟩ := did_done (sv := (s.getA a.id a.ed.key).1) (bt := (s.getA a.id a.ed.key).2) (ks := []) (kv := (Value.slice none 0 0)) hBN.free hOl hrl hrow hi hr d2 d3 d4 d5 d6 d7 hae hks q0 (o0.imp id (fun ⟨j, e, hj⟩ => ⟨j, e, by omega⟩)) q1 (o1.imp id (fun ⟨j, e, hj⟩ => ⟨j, e, by omega⟩)) q2 (o2.imp id (fun ⟨j, e, hj⟩ => ⟨j, e, by omega⟩)) q3 (o3.imp id (fun ⟨j, e, hj⟩ => ⟨j, e, by omega⟩)) hallc hall hgg
      have hBN := hBN.goes hKd.goes htd
      have hGc := hGc.trans hKd.goes.two'
      refine blk_n ?_
      refine thn_n ?_
      refine W.seq ?_
      refine W.region ?_
      refine L.val (x_mv (v := .slice _ _ _) rfl) rfl ?_
      refine L.val (x_as (v := .slice _ _ _) rfl) rfl ?_
      refine L.nil ?_
      refine thn_n ?_
      refine W.ret (fin_mk (.inr rfl) ?_)
      rw [hst]
      exact ⟨_, _, _, _, _, hBN, hDd, hGc⟩
     ·have h63 := of_decide_eq_false g63
      exact absurd rfl h63
    ·have h50 := of_decide_eq_false g50
     exfalso; omega
theorem step_keys (ow : Labels) (tb td b bh bo N : Nat) (s : Bs) (ds : List Dd) (a : Ac) (v vl : Value) (lh : List (Str × Value)) (lo : List (Int × Value)) (rows : List (List Value)) (w : World) (h : BaseAt ow tb w b s bh bo vl lh lo rows) (hD : DidsAt ow td w v ds) (htd : tb ≠ td)
    (hN : Bnd N s) (hDN : DBnd N ds) (hN9 : N ≤ 900) (hae : EdOk a.ed) (hkk : a.kind = 2) (ho : s.isOpen a.id) :
    Ret Try.prog 17 #[.pointer (some ⟨b, 0, none⟩), v, .agg (acV a).toArray] w fun v' w' => ∃ ow' vl' lh' lo' rows', BaseAt ow' tb w' b (stepS s ds a).1 bh bo vl' lh' lo' rows' ∧ DidsAt ow' td w' v' (stepS s ds a).2 ∧ Goes2 tb td w w' ow ow' := by
  have hfl := hN.flat hN9
  have hgets : ∀ x ∈ s.all, x.gets.length ≤ 1000000 := fun x hx => by have := (hN.se x hx).2.2.1; omega
  have heds : ∀ x ∈ s.all, x.eds.length ≤ 1000000 := fun x hx => by have := (hN.se x hx).2.1; omega
  have hheads : ∀ x ∈ s.all, x.heads.length ≤ 1000000 ∧ x.eds.length ≤ 1000000 := fun x hx => by have := (hN.se x hx).2; omega
  have hats : ∀ x ∈ s.all, x.at_ ≤ s.log.length ∧ x.eds.length ≤ 1000000 := fun x hx => by have := (hN.se x hx); exact ⟨this.1, by omega⟩
  have hlg := hN.lg
  have hal0 := hN.al
  have hll := hN.ll
  have hdl := hDN.1
  have hf0 := h.free
  have hkv1 : (Value.slice none 0 0).oneCell' = true := rfl
  obtain ⟨pa, ca0, hvs⟩ : ∃ pa ca, v = .slice pa ds.length ca := by
    obtain ⟨rows, hO, -⟩ := hD
    obtain ⟨pa, ca, e, -⟩ := own_shape hO.1
    exact ⟨pa, ca, e⟩
  subst hvs
  refine ret_of_W Try.func17 rfl (Nat.le_of_ble_eq_true rfl) (res1 rfl) ?_
  refine W.seq ?_
  refine W.region ?_
  refine L.box (cs := acV a) rfl rfl (fun w5 bx5 hw hz5 => ?_)
  have hB := hw
  have hG5 : Goes tb w w5 ow ow := Goes.bel h.free hw
  have hBN := h.bel hw
  have hDc := hD.bel hw h.free
  have hGc : Goes2 tb td w w5 ow ow := hG5.two
  have hn5 : ow w.heap.size = none := hf0 _ (Nat.le_refl _)
  refine L.val (x_as (v := .slice _ _ _) rfl) rfl ?_
  refine L.nil ?_
  refine thn_n ?_
  refine W.seq ?_
  refine W.seq ?_
  refine W.region ?_
  refine L.val (x_fa ksest_fo36_0 rfl) rfl ?_
  refine L.val (x_ld (v := .int _ _) ksest_oc3 rfl (bx5.cell0 rfl)) rfl ?_
  refine L.val (x_lss rfl rfl) rfl ?_
  refine L.val (x_mv (v := .bool _) rfl) rfl ?_
  refine' L.group0 3 18 20 20 17 false rfl ?_ ?_ ?_
  rotate_left 1
  ·intro g17
   have h17 := dlt_f g17
   refine L.gyes' (dj := 17) (b := _) rfl rfl g17 ?_
   refine L.val (x_fa ksest_fo36_0 rfl) rfl ?_
   refine L.gyes' (dj := 17) (b := _) rfl rfl g17 ?_
   refine L.val (x_ld (v := .int _ _) ksest_oc3 rfl (bx5.cell0 rfl)) rfl ?_
   refine L.gyes' (dj := 17) (b := _) rfl rfl g17 ?_
   refine L.val (x_gtr rfl rfl) rfl ?_
   refine L.nil ?_
   refine thn_n ⟨rfl, rfl, ?_, rfl⟩
   repeat (first | exact jeq.refl _ _ _ | refine jeq.upd rfl ?_ | refine jeq.jk rfl rfl ?_)
  ·intro g17
   refine L.gno (dj := 17) (b := _) rfl rfl g17 rfl ?_
   refine L.gno (dj := 17) (b := _) rfl rfl g17 rfl ?_
   refine L.gno (dj := 17) (b := _) rfl rfl g17 rfl ?_
   refine L.nil (thn_n ⟨rfl, rfl, ?_⟩)
   repeat (first | exact jeq.refl _ _ _ | refine jeq.upd rfl ?_ | refine jeq.jk rfl rfl ?_)
  intro J17 j17
  refine L.val (x_or rfl j17) rfl ?_
  refine L.nil ?_
  refine thn_n ?_
  refine W.cond (b := _) rfl (fun g21 => ?_) (fun g21 => ?_)
  ·have h21 := g21
   exfalso; simp only [Bool.or_eq_true, decide_eq_true_eq] at g21; omega
  ·have h21 := g21
   have hk : ¬ (a.kind < 1 ∨ 5 < a.kind) := by simp only [Bool.or_eq_false_iff, decide_eq_false_iff_not] at g21; omega
   refine W.skip ?_
   refine thn_n ?_
   refine W.seq ?_
   refine W.seq ?_
   refine W.region ?_
   refine L.val (x_fa ksest_fo36_1 rfl) rfl ?_
   refine L.val (x_ld (v := .int _ _) ksest_oc3 rfl (bx5.cell0 rfl)) rfl ?_
   refine L.val (x_lss rfl rfl) rfl ?_
   refine L.val (x_mv (v := .bool _) rfl) rfl ?_
   refine' L.group0 5 35 39 39 34 false rfl ?_ ?_ ?_
   rotate_left 1
   ·intro g34
    have h34 := dlt_f g34
    refine L.gyes' (dj := 34) (b := _) rfl rfl g34 ?_
    refine L.val (x_fa ksest_fo36_1 rfl) rfl ?_
    refine L.gyes' (dj := 34) (b := _) rfl rfl g34 ?_
    refine L.val (x_ld (v := .int _ _) ksest_oc3 rfl (bx5.cell0 rfl)) rfl ?_
    refine L.gyes' (dj := 34) (b := _) rfl rfl g34 ?_
    refine L.val (x_mv (v := .slice _ _ _) rfl) rfl ?_
    refine L.gyes' (dj := 34) (b := _) rfl rfl g34 ?_
    refine L.val (x_len_slice Try.underlying29 rfl) rfl ?_
    refine L.gyes' (dj := 34) (b := _) rfl rfl g34 ?_
    refine L.val (x_gtr rfl rfl) rfl ?_
    refine L.nil ?_
    refine thn_n ⟨rfl, rfl, ?_, rfl⟩
    repeat (first | exact jeq.refl _ _ _ | refine jeq.upd rfl ?_ | refine jeq.jk rfl rfl ?_)
   ·intro g34
    refine L.gno (dj := 34) (b := _) rfl rfl g34 rfl ?_
    refine L.gno (dj := 34) (b := _) rfl rfl g34 rfl ?_
    refine L.gno (dj := 34) (b := _) rfl rfl g34 rfl ?_
    refine L.gno (dj := 34) (b := _) rfl rfl g34 rfl ?_
    refine L.gno (dj := 34) (b := _) rfl rfl g34 rfl ?_
    refine L.nil (thn_n ⟨rfl, rfl, ?_⟩)
    repeat (first | exact jeq.refl _ _ _ | refine jeq.upd rfl ?_ | refine jeq.jk rfl rfl ?_)
   intro J34 j34
   refine L.val (x_or rfl j34) rfl ?_
   refine L.nil ?_
   refine thn_n ?_
   refine W.cond (b := _) rfl (fun g40 => ?_) (fun g40 => ?_)
   ·have h40 := g40
    have hi : a.id < 1 ∨ (ds.length : Int) < a.id := by simp only [Bool.or_eq_true, decide_eq_true_eq] at g40; omega
    have hst : stepS s ds a = (s, ds) := by unfold stepS; rw [if_neg hk, if_pos hi]
    refine W.seq ?_
    refine W.region ?_
    refine L.val (x_mv (v := .slice _ _ _) rfl) rfl ?_
    refine L.val (x_as (v := .slice _ _ _) rfl) rfl ?_
    refine L.nil ?_
    refine thn_n ?_
    refine W.ret (thn_r (fin_mk (.inr rfl) ?_))
    rw [hst]
    exact ⟨_, _, _, _, _, hBN, hDc, hGc⟩
   ·have h40 := g40
    have hid : ¬ (a.id < 1 ∨ (ds.length : Int) < a.id) := by simp only [Bool.or_eq_false_iff, decide_eq_false_iff_not] at g40; omega
    obtain ⟨i, hai⟩ : ∃ i : Nat, i = a.id.toNat - 1 := ⟨_, rfl⟩
    have hil : i < ds.length := by omega
    obtain ⟨ba, hpa⟩ : ∃ ba, pa = some ⟨ba, 0, none⟩ := by
      obtain ⟨rowsq, hO, -⟩ := hDc
      exact own_pos hO.1 (by omega)
    subst hpa
    refine W.skip ?_
    refine thn_n ?_
    refine W.seq ?_
    refine W.region ?_
    refine L.val (x_mv (v := .slice _ _ _) rfl) rfl ?_
    refine L.val (x_fa ksest_fo36_1 rfl) rfl ?_
    refine L.val (x_ld (v := .int _ _) ksest_oc3 rfl (bx5.cell0 rfl)) rfl ?_
    refine L.val (x_sub rfl rfl (wr64 (by omega))) rfl ?_
    refine L.val (x_ia (j := i) Try.underlying29 ksest_sz41 rfl rfl (by omega) (by omega)) rfl ?_
    refine L.val (x_as (v := .pointer _) rfl) rfl ?_
    refine L.nil ?_
    refine thn_n ?_
    refine W.seq ?_
    refine W.seq ?_
    refine W.region ?_
    refine L.val (x_fa ksest_fo36_0 rfl) rfl ?_
    refine L.val (x_ld (v := .int _ _) ksest_oc3 rfl (bx5.cell0 rfl)) rfl ?_
    refine L.nil ?_
    refine thn_n ?_
    refine W.block ?_
    refine W.seq ?_
    refine W.region ?_
    refine L.val (x_eql rfl rfl) rfl ?_
    refine L.val (x_as (v := .bool _) rfl) rfl ?_
    refine L.nil ?_
    refine thn_n ?_
    refine W.cond (b := _) rfl (fun g50 => ?_) (fun g50 => ?_)
    ·have h50 := of_decide_eq_true g50
     exfalso; omega
    ·have h50 := of_decide_eq_false g50
     have hk1 : ¬ a.kind = 1 := h50
     refine W.seq ?_
     refine W.region ?_
     refine L.val (x_eql rfl rfl) rfl ?_
     refine L.val (x_as (v := .bool _) rfl) rfl ?_
     refine L.nil ?_
     refine thn_n ?_
     refine W.cond (b := _) rfl (fun g104 => ?_) (fun g104 => ?_)
     ·have h104 := of_decide_eq_true g104
      have hk2 : a.kind = 2 := h104
      refine W.seq ?_
      refine W.region ?_
      refine L.val (x_mv (v := .pointer _) rfl) rfl ?_
      refine L.val (x_fa ksest_fo36_1 rfl) rfl ?_
      refine L.val (x_ld (v := .int _ _) ksest_oc3 rfl (bx5.cell0 rfl)) rfl ?_
      refine L.val (x_fa ksest_fo36_2 rfl) rfl ?_
      refine L.val (x_fa ksest_fo34_0 rfl) rfl ?_
      refine L.val (x_ld (v := S _) ksest_oc9 rfl (bx5.cell (i := 0 + 2 + 0) rfl)) rfl ?_
      refine L.ret (x_call ksest_en20 rfl) rfl (keysOk ow tb b bh bo s _ lh lo rows a.id a.ed.key _ hBN hheads (by simp only [List.length_cons]; omega) hfl) ?_
      rintro v112 wc ⟨⟨u112, rfl, hu⟩, hG, hBN'⟩
      have hf5 := hBN.free
      have hBN := hBN'
      rw [if_pos ho] at hBN hu ⊢
      have hks := hu.mono (A' := fun k => ow k ≠ none) (fun k hk hn => Decidable.byContradiction fun hlt => hn (hf5 k (by omega)))
      obtain ⟨pk, ckk, rfl, -⟩ := id hks
      have hkv1 : (Value.slice pk (s.keysA a.id a.ed.key).length ckk).oneCell' = true := rfl
      have hDc := hDc.goes hG htd.symm
      have hGc := hGc.trans hG.two
      have bx5 := bx5.carryR hG.gr (fun ⟨p, e⟩ => by rw [hn5] at e; cases e)
      have hst : stepS s ds a = (s.keysS a.id a.ed.key, ds.set i ((ds.getD i default).add a [] false (s.keysA a.id a.ed.key))) := by unfold stepS; rw [if_neg hk, if_neg hid]; dsimp only; rw [if_neg hk1, if_pos hk2, if_pos ho, hai]
      refine L.val (x_mv (v := _) rfl) rfl ?_
      refine L.val (x_ext (v := .slice _ _ _) rfl rfl) rfl ?_
      refine L.val (x_ext (v := .int _ _) rfl rfl) rfl ?_
      refine L.val (x_as (v := .slice _ _ _) rfl) rfl ?_
      refine L.val (x_as (v := .int _ _) rfl) rfl ?_
      refine L.nil ?_
      refine thn_n ?_
      refine W.seq ?_
      refine W.region ?_
      refine L.val (x_mv (v := .int _ _) rfl) rfl ?_
      refine L.val (x_eql rfl rfl) rfl ?_
      refine L.nil ?_
      refine thn_n ?_
      refine W.cond (b := _) rfl (fun g116 => ?_) (fun g116 => ?_)
      ·have h116 := of_decide_eq_true g116
       have hi : i < ds.length := hil
       obtain ⟨rowsD, hOl, hrl, hrow⟩ := id hDc
       obtain ⟨va, vv, vt, vk, kr, hr, d2, d3, d4, d5, d6, d7⟩ := hrow i hi
       obtain ⟨aa, ca, rfl, -⟩ := own_shape d2.1
       obtain ⟨av, cv, rfl, -⟩ := own_shape d3.1
       obtain ⟨at_, ct, rfl, -⟩ := own_shape d4.1
       obtain ⟨ak, ck, rfl, -⟩ := own_shape d5.1
       have h8 := dids_lens hrl hrow
       obtain ⟨tl, hallc⟩ : ∃ tl, Box wc ba 41 (rowsD.flatten ++ tl) := by
         rcases Own.open hOl.1 with ⟨e, -⟩ | ⟨b', c', tl, e, -, -, -, hbx⟩
         · cases e
         · simp only [Value.slice.injEq, Option.some.injEq, Addr.mk.injEq, and_true, true_and] at e
           exact ⟨tl, by rw [e.1]; exact hbx⟩
       have hall := hallc
       have hc0 : (rowsD.flatten ++ tl)[0 + i * 8 + 0]? = some (.slice aa (ds.getD i default).acts.length ca) := by rw [Nat.zero_add]; exact row_cell h8 (by omega) (by omega) (by rw [hr]; rfl)
       have hc1 : (rowsD.flatten ++ tl)[0 + i * 8 + 1]? = some (.slice av (ds.getD i default).values.length cv) := by rw [Nat.zero_add]; exact row_cell h8 (by omega) (by omega) (by rw [hr]; rfl)
       have hc2 : (rowsD.flatten ++ tl)[0 + i * 8 + 2]? = some (.slice at_ (ds.getD i default).there.length ct) := by rw [Nat.zero_add]; exact row_cell h8 (by omega) (by omega) (by rw [hr]; rfl)
       have hc3 : (rowsD.flatten ++ tl)[0 + i * 8 + 3]? = some (.slice ak (ds.getD i default).keys.length ck) := by rw [Nat.zero_add]; exact row_cell h8 (by omega) (by omega) (by rw [hr]; rfl)
       have hlen0 : i * 8 + 8 ≤ (rowsD.flatten ++ tl).length := by rw [List.length_append, flat_len h8, hrl]; omega
       have hal := hDN.2 (ds.getD i default) (by rw [List.getD_eq_getElem?_getD, List.getElem?_eq_getElem hi]; exact List.getElem_mem hi)
       obtain ⟨-, dl1, dl2, dl3⟩ := id d7
       have hba : ow ba = some (td, .log) := hOl.2 ba rfl
       have hba5 : w.heap.size ≠ ba := fun e => by rw [← e, hn5] at hba; cases hba
       have hqq : ∀ {v : Value} {p : Part}, (∀ j, some j = v.ownBlock → ow j = some (td, p)) → p ≠ .log → ∀ j, some j = v.ownBlock → j ≠ w.heap.size ∧ j ≠ ba := fun {v p} hl hp j hj => ⟨fun e => (by have := hl j hj; rw [e, hn5] at this; cases this), fun e => (by have := hl j hj; rw [e, hba] at this; simp at this; exact hp this.symm)⟩
       have hq2 := hqq d2.2 (by simp)
       have hq3 := hqq d3.2 (by simp)
       have hq4 := hqq d4.2 (by simp)
       have hq5 := hqq d5.2 (by simp)
       refine W.drawD (fun k => (some k = (Value.slice aa (ds.getD i default).acts.length ca).ownBlock ∨ some k = (Value.slice av (ds.getD i default).values.length cv).ownBlock ∨ some k = (Value.slice at_ (ds.getD i default).there.length ct).ownBlock ∨ some k = (Value.slice ak (ds.getD i default).keys.length ck).ownBlock) ∨ k = ba) (fun k => some k = (Value.slice aa (ds.getD i default).acts.length ca).ownBlock ∨ some k = (Value.slice av (ds.getD i default).values.length cv).ownBlock ∨ some k = (Value.slice at_ (ds.getD i default).there.length ct).ownBlock ∨ some k = (Value.slice ak (ds.getD i default).keys.length ck).ownBlock) 32 ksest_mixed (fun wD117 hw => ?_)
       have bx5 := bx5.carry hw; have hall := hall.carry hw
       have hB0 := Gr.refl (fun k => some k = (Value.slice aa (ds.getD i default).acts.length ca).ownBlock ∨ some k = (Value.slice av (ds.getD i default).values.length cv).ownBlock ∨ some k = (Value.slice at_ (ds.getD i default).there.length ct).ownBlock ∨ some k = (Value.slice ak (ds.getD i default).keys.length ck).ownBlock) wD117; have hR0 := Gr.refl (fun k => (some k = (Value.slice aa (ds.getD i default).acts.length ca).ownBlock ∨ some k = (Value.slice av (ds.getD i default).values.length cv).ownBlock ∨ some k = (Value.slice at_ (ds.getD i default).there.length ct).ownBlock ∨ some k = (Value.slice ak (ds.getD i default).keys.length ck).ownBlock) ∨ k = ba) wD117
       have hDD := hw
       refine LAD.take0 (i := 0) rfl (by kernel_rfl) (by kernel_rfl) (by kernel_rfl) (by kernel_rfl) (fun w hw => x_mv (v := .pointer _) rfl) rfl ?_
       refine LAD.take0 (i := 1) rfl (by kernel_rfl) (by kernel_rfl) (by kernel_rfl) (by kernel_rfl) (fun w hw => x_mv (v := .pointer _) rfl) rfl ?_
       refine LAD.take0 (i := 2) rfl (by kernel_rfl) (by kernel_rfl) (by kernel_rfl) (by kernel_rfl) (fun w hw => x_mv (v := .pointer _) rfl) rfl ?_
       refine LAD.take0 (i := 3) rfl (by kernel_rfl) (by kernel_rfl) (by kernel_rfl) (by kernel_rfl) (fun w hw => x_mv (v := .pointer _) rfl) rfl ?_
       refine LAD.take0 (i := 4) rfl (by kernel_rfl) (by kernel_rfl) (by kernel_rfl) (by kernel_rfl) (fun w hw => x_mv (v := .pointer _) rfl) rfl ?_
       refine LAD.take0 (i := 5) rfl (by kernel_rfl) (by kernel_rfl) (by kernel_rfl) (by kernel_rfl) (fun w hw => x_nil rfl) rfl ?_
       refine LAD.take0 (i := 6) rfl (by kernel_rfl) (by kernel_rfl) (by kernel_rfl) (by kernel_rfl) (fun w hw => x_fa ksest_fo41_0 rfl) rfl ?_
       refine LAD.take1 (i := 7) rfl (by kernel_rfl) (by kernel_rfl) (by kernel_rfl) (by kernel_rfl) (by kernel_rfl) (by kernel_rfl) (fun w hw => x_ld (v := .slice _ _ _) ksest_oc23 rfl (hw.keepR (fun e => by rcases e with e | e | e | e; exact (hq2 _ e).2 rfl; exact (hq3 _ e).2 rfl; exact (hq4 _ e).2 rfl; exact (hq5 _ e).2 rfl) (hall.cell hc0))) rfl ?_
       refine LAD.take0 (i := 8) rfl (by kernel_rfl) (by kernel_rfl) (by kernel_rfl) (by kernel_rfl) (fun w hw => x_ldn (vs := _) ksest_ag36 rfl rfl (hw.keepRowR (fun e => by rcases e with (e | e | e | e) | e; exact (hq2 _ e).1 rfl; exact (hq3 _ e).1 rfl; exact (hq4 _ e).1 rfl; exact (hq5 _ e).1 rfl; exact hba5 (by have e : (_ : Nat) = _ := e; exact e)) rfl (bx5.row rfl))) rfl ?_
       refine LAD.take0 (i := 11) rfl (by kernel_rfl) (by kernel_rfl) (by kernel_rfl) (by kernel_rfl) (fun w hw => x_mv (v := .pointer _) rfl) rfl ?_
       refine LAD.take0 (i := 12) rfl (by kernel_rfl) (by kernel_rfl) (by kernel_rfl) (by kernel_rfl) (fun w hw => x_nil rfl) rfl ?_
       refine LAD.take0 (i := 13) rfl (by kernel_rfl) (by kernel_rfl) (by kernel_rfl) (by kernel_rfl) (fun w hw => x_fa ksest_fo41_1 rfl) rfl ?_
       refine LAD.take1 (i := 14) rfl (by kernel_rfl) (by kernel_rfl) (by kernel_rfl) (by kernel_rfl) (by kernel_rfl) (by kernel_rfl) (fun w hw => x_ld (v := .slice _ _ _) ksest_oc37 rfl (hw.keepR (fun e => by rcases e with e | e | e | e; exact (hq2 _ e).2 rfl; exact (hq3 _ e).2 rfl; exact (hq4 _ e).2 rfl; exact (hq5 _ e).2 rfl) (hall.cell hc1))) rfl ?_
       refine LAD.take0 (i := 17) rfl (by kernel_rfl) (by kernel_rfl) (by kernel_rfl) (by kernel_rfl) (fun w hw => x_mv (v := .pointer _) rfl) rfl ?_
       refine LAD.take0 (i := 18) rfl (by kernel_rfl) (by kernel_rfl) (by kernel_rfl) (by kernel_rfl) (fun w hw => x_nil rfl) rfl ?_
       refine LAD.take0 (i := 19) rfl (by kernel_rfl) (by kernel_rfl) (by kernel_rfl) (by kernel_rfl) (fun w hw => x_fa ksest_fo41_2 rfl) rfl ?_
       refine LAD.take1 (i := 20) rfl (by kernel_rfl) (by kernel_rfl) (by kernel_rfl) (by kernel_rfl) (by kernel_rfl) (by kernel_rfl) (fun w hw => x_ld (v := .slice _ _ _) ksest_oc38 rfl (hw.keepR (fun e => by rcases e with e | e | e | e; exact (hq2 _ e).2 rfl; exact (hq3 _ e).2 rfl; exact (hq4 _ e).2 rfl; exact (hq5 _ e).2 rfl) (hall.cell hc2))) rfl ?_
       refine LAD.take0 (i := 23) rfl (by kernel_rfl) (by kernel_rfl) (by kernel_rfl) (by kernel_rfl) (fun w hw => x_mv (v := .pointer _) rfl) rfl ?_
       refine LAD.take0 (i := 24) rfl (by kernel_rfl) (by kernel_rfl) (by kernel_rfl) (by kernel_rfl) (fun w hw => x_nil rfl) rfl ?_
       refine LAD.take0 (i := 25) rfl (by kernel_rfl) (by kernel_rfl) (by kernel_rfl) (by kernel_rfl) (fun w hw => x_fa ksest_fo41_3 rfl) rfl ?_
       refine LAD.take1 (i := 26) rfl (by kernel_rfl) (by kernel_rfl) (by kernel_rfl) (by kernel_rfl) (by kernel_rfl) (by kernel_rfl) (fun w hw => x_ld (v := .slice _ _ _) ksest_oc39 rfl (hw.keepR (fun e => by rcases e with e | e | e | e; exact (hq2 _ e).2 rfl; exact (hq3 _ e).2 rfl; exact (hq4 _ e).2 rfl; exact (hq5 _ e).2 rfl) (hall.cell hc3))) rfl ?_
       refine LAD.take0 (i := 27) rfl (by kernel_rfl) (by kernel_rfl) (by kernel_rfl) (by kernel_rfl) (fun w hw => x_mv (v := .slice _ _ _) rfl) rfl ?_
       refine LAD.chainB (wD := wD117) cnB (fun k => ([⟨(Value.slice aa (ds.getD i default).acts.length ca), (ds.getD i default).acts.length, ((ds.getD i default).acts.map acV).flatten, acV a⟩, ⟨(Value.slice av (ds.getD i default).values.length cv), (ds.getD i default).values.length, (ds.getD i default).values.map S, [S ([] : Str)]⟩, ⟨(Value.slice at_ (ds.getD i default).there.length ct), (ds.getD i default).there.length, (ds.getD i default).there.map Value.bool, [.bool false]⟩, ⟨(Value.slice ak (ds.getD i default).keys.length ck), (ds.getD i default).keys.length, kr.flatten, [(Value.slice pk (s.keysA a.id a.ed.key).length ckk)]⟩] : List Ch).getD k ⟨.slice none 0 0, 0, [], []⟩) (fun k => some k = (Value.slice aa (ds.getD i default).acts.length ca).ownBlock ∨ some k = (Value.slice av (ds.getD i default).values.length cv).ownBlock ∨ some k = (Value.slice at_ (ds.getD i default).there.length ct).ownBlock ∨ some k = (Value.slice ak (ds.getD i default).keys.length ck).ownBlock) 12 (by as_aux_lemma => kernel_rfl) (by as_aux_lemma => kernel_rfl) (by as_aux_lemma => kernel_rfl) ⟨?_, ?_, ?_, ?_⟩ ⟨?_, ?_, ?_, ?_⟩ (fun w h => ⟨h.mono (fun _ _ e => .inl e), h⟩) ?_ ?_ ?_
       · exact ⟨_, rfl, fun E w Q hE k => L.bs (sz := 5) (vs := [(0, .agg (acV a).toArray)]) (cells := acV a) Try.underlying23 ksest_el36 (congrArg (fun v => [((0 : Nat), v)]) (hE 125 (by decide))) rfl rfl rfl (fun w1 bx hB hsz => L.nil (k w1 bx hB hsz))⟩
       · exact ⟨_, rfl, fun E w Q hE k => L.bs (sz := 1) (vs := [(0, S ([] : Str))]) (cells := [S ([] : Str)]) Try.underlying37 ksest_el9 rfl rfl rfl rfl (fun w1 bx hB hsz => L.nil (k w1 bx hB hsz))⟩
       · exact ⟨_, rfl, fun E w Q hE k => L.bs (sz := 1) (vs := [(0, .bool false)]) (cells := [.bool false]) Try.underlying38 ksest_el4 rfl rfl rfl rfl (fun w1 bx hB hsz => L.nil (k w1 bx hB hsz))⟩
       · exact ⟨_, rfl, fun E w Q hE k => L.bs (sz := 1) (vs := [(0, (Value.slice pk (s.keysA a.id a.ed.key).length ckk))]) (cells := [(Value.slice pk (s.keysA a.id a.ed.key).length ckk)]) Try.underlying39 ksest_el37 (congrArg (fun v => [((0 : Nat), v)]) (hE 144 (by decide))) rfl rfl rfl (fun w1 bx hB hsz => L.nil (k w1 bx hB hsz))⟩
       · exact ⟨_, rfl, fun E w Q blk hE hsl hbx hO k => L.appendN (m := 1) (sz := 5) (v := (Value.slice aa (ds.getD i default).acts.length ca)) (k := (ds.getD i default).acts.length) (xs := ((ds.getD i default).acts.map acV).flatten) (news := acV a) Try.underlying23 ksest_el36 (hE 124 (by decide)) hsl rfl hO rfl (holdsN_box hbx) (acV_one a) (by omega) (Nat.zero_le _) (fun v' w1 hO' g hob => L.nil (k v' w1 hO' g hob))⟩
       · exact ⟨_, rfl, fun E w Q blk hE hsl hbx hO k => L.appendN (m := 1) (sz := 1) (v := (Value.slice av (ds.getD i default).values.length cv)) (k := (ds.getD i default).values.length) (xs := (ds.getD i default).values.map S) (news := [S ([] : Str)]) Try.underlying37 ksest_el9 (hE 131 (by decide)) hsl rfl hO rfl (holdsN_box hbx) (by intro u hu; rw [List.mem_singleton.1 hu]; rfl) (by omega) (Nat.zero_le _) (fun v' w1 hO' g hob => L.nil (k v' w1 hO' g hob))⟩
       · exact ⟨_, rfl, fun E w Q blk hE hsl hbx hO k => L.appendN (m := 1) (sz := 1) (v := (Value.slice at_ (ds.getD i default).there.length ct)) (k := (ds.getD i default).there.length) (xs := (ds.getD i default).there.map Value.bool) (news := [.bool false]) Try.underlying38 ksest_el4 (hE 137 (by decide)) hsl rfl hO rfl (holdsN_box hbx) (by intro u hu; rw [List.mem_singleton.1 hu]; rfl) (by omega) (Nat.zero_le _) (fun v' w1 hO' g hob => L.nil (k v' w1 hO' g hob))⟩
       · exact ⟨_, rfl, fun E w Q blk hE hsl hbx hO k => L.appendN (m := 1) (sz := 1) (v := (Value.slice ak (ds.getD i default).keys.length ck)) (k := (ds.getD i default).keys.length) (xs := kr.flatten) (news := [(Value.slice pk (s.keysA a.id a.ed.key).length ckk)]) Try.underlying39 ksest_el37 (hE 143 (by decide)) hsl rfl hO rfl (holdsN_box hbx) (by intro u hu; rw [List.mem_singleton.1 hu]; exact hkv1) (by omega) (Nat.zero_le _) (fun v' w1 hO' g hob => L.nil (k v' w1 hO' g hob))⟩
       · intro k hk j hj; match k, hk with | 0, _ => exact .inl hj | 1, _ => exact .inr (.inl hj) | 2, _ => exact .inr (.inr (.inl hj)) | 3, _ => exact .inr (.inr (.inr hj))
       · intro k hk; match k, hk with | 0, _ => exact d2.1.carry hDD | 1, _ => exact d3.1.carry hDD | 2, _ => exact d4.1.carry hDD | 3, _ => exact d5.1.carry hDD
       intro E wC117 hCI
       have hE := hCI.env
       have p0 := hCI.c0; unfold ChAt at p0; rw [if_pos (by rfl)] at p0
       obtain ⟨an0, cn0, e127, -⟩ := own_shape p0.1
       have q0 : Own wC117 0 36 5 (.slice an0 ((ds.getD i default).acts.length + 1) cn0) ((ds.getD i default).acts.length + 1) (((ds.getD i default).acts.map acV).flatten ++ acV a) := e127 ▸ p0.1
       have o0 : (Value.slice an0 ((ds.getD i default).acts.length + 1) cn0).ownBlock = (Value.slice aa (ds.getD i default).acts.length ca).ownBlock ∨ ∃ j, (Value.slice an0 ((ds.getD i default).acts.length + 1) cn0).ownBlock = some j ∧ wD117.heap.size ≤ j := e127 ▸ p0.2
       have p1 := hCI.c1; unfold ChAt at p1; rw [if_pos (by rfl)] at p1
       obtain ⟨an1, cn1, e133, -⟩ := own_shape p1.1
       have q1 : Own wC117 0 9 1 (.slice an1 ((ds.getD i default).values.length + 1) cn1) ((ds.getD i default).values.length + 1) ((ds.getD i default).values.map S ++ [S ([] : Str)]) := e133 ▸ p1.1
       have o1 : (Value.slice an1 ((ds.getD i default).values.length + 1) cn1).ownBlock = (Value.slice av (ds.getD i default).values.length cv).ownBlock ∨ ∃ j, (Value.slice an1 ((ds.getD i default).values.length + 1) cn1).ownBlock = some j ∧ wD117.heap.size ≤ j := e133 ▸ p1.2
       have p2 := hCI.c2; unfold ChAt at p2; rw [if_pos (by rfl)] at p2
       obtain ⟨an2, cn2, e139, -⟩ := own_shape p2.1
       have q2 : Own wC117 0 4 1 (.slice an2 ((ds.getD i default).there.length + 1) cn2) ((ds.getD i default).there.length + 1) ((ds.getD i default).there.map Value.bool ++ [.bool false]) := e139 ▸ p2.1
       have o2 : (Value.slice an2 ((ds.getD i default).there.length + 1) cn2).ownBlock = (Value.slice at_ (ds.getD i default).there.length ct).ownBlock ∨ ∃ j, (Value.slice an2 ((ds.getD i default).there.length + 1) cn2).ownBlock = some j ∧ wD117.heap.size ≤ j := e139 ▸ p2.2
       have p3 := hCI.c3; unfold ChAt at p3; rw [if_pos (by rfl)] at p3
       obtain ⟨an3, cn3, e146, -⟩ := own_shape p3.1
       have q3 : Own wC117 0 37 1 (.slice an3 ((ds.getD i default).keys.length + 1) cn3) ((ds.getD i default).keys.length + 1) (kr.flatten ++ [(Value.slice pk (s.keysA a.id a.ed.key).length ckk)]) := e146 ▸ p3.1
       have o3 : (Value.slice an3 ((ds.getD i default).keys.length + 1) cn3).ownBlock = (Value.slice ak (ds.getD i default).keys.length ck).ownBlock ∨ ∃ j, (Value.slice an3 ((ds.getD i default).keys.length + 1) cn3).ownBlock = some j ∧ wD117.heap.size ≤ j := e146 ▸ p3.2
       rw [upd_self (show E 117 = .pointer (some ⟨ba, 0 + i * 8, none⟩) from hE 117 (by decide)), upd_self (show E 118 = .pointer (some ⟨ba, 0 + i * 8, none⟩) from hE 118 (by decide)), upd_self (show E 119 = .pointer (some ⟨ba, 0 + i * 8, none⟩) from hE 119 (by decide)), upd_self (show E 120 = .pointer (some ⟨ba, 0 + i * 8, none⟩) from hE 120 (by decide)), upd_self (show E 127 = .slice an0 ((ds.getD i default).acts.length + 1) cn0 from e127), upd_self (show E 133 = .slice an1 ((ds.getD i default).values.length + 1) cn1 from e133), upd_self (show E 139 = .slice an2 ((ds.getD i default).there.length + 1) cn2 from e139), upd_self (show E 146 = .slice an3 ((ds.getD i default).keys.length + 1) cn3 from e146), upd_self (show E 1 = .slice (some ⟨ba, 0, none⟩) ds.length ca0 from hE 1 (by decide)), upd_self (show E 7 = .pointer (some ⟨ba, 0 + i * 8, none⟩) from hE 7 (by decide))]
       have hB0 := hCI.gr
       have hR0 := hCI.gr.mono (R' := fun k => (some k = (Value.slice aa (ds.getD i default).acts.length ca).ownBlock ∨ some k = (Value.slice av (ds.getD i default).values.length cv).ownBlock ∨ some k = (Value.slice at_ (ds.getD i default).there.length ct).ownBlock ∨ some k = (Value.slice ak (ds.getD i default).keys.length ck).ownBlock) ∨ k = ba) (fun _ _ e => .inl e)
       have hall := hall.carryR hCI.gr (fun e => by rcases e with e | e | e | e; exact (hq2 _ e).2 rfl; exact (hq3 _ e).2 rfl; exact (hq4 _ e).2 rfl; exact (hq5 _ e).2 rfl)
       have hallC := hall
       have hS := Gr.refl (fun k => k = ba) wC117
       refine LAD.take0 (i := 30) rfl (by kernel_rfl) (by kernel_rfl) (by kernel_rfl) (by kernel_rfl) (fun w hw => x_nil rfl) rfl ?_
       refine LAD.take0 (i := 31) rfl (by kernel_rfl) (by kernel_rfl) (by kernel_rfl) (by kernel_rfl) (fun w hw => x_fa ksest_fo41_0 rfl) rfl ?_
       refine LAD.step (rs := [32]) hR0 (fun _ => hB0) (by kernel_rfl) (by simp) ⟨⟨_, rfl, ?_⟩, trivial⟩
       refine L.set (v := .slice _ _ _) ksest_sz23 rfl rfl rfl hall (by rw [Nat.blt_eq]; (try simp only [List.length_set]); omega) (fun wl150 hall hw hzl150 => ?_)
       have hR0 := hR0.into hw (.inr rfl)
       have hS := hS.trans hw
       refine L.nil ?_
       refine thn_n ?_
       refine LAD.take0 (i := 33) rfl (by kernel_rfl) (by kernel_rfl) (by kernel_rfl) (by kernel_rfl) (fun w hw => x_nil rfl) rfl ?_
       refine LAD.take0 (i := 34) rfl (by kernel_rfl) (by kernel_rfl) (by kernel_rfl) (by kernel_rfl) (fun w hw => x_fa ksest_fo41_1 rfl) rfl ?_
       refine LAD.step' (rs := [35]) hR0 (by kernel_rfl) (by kernel_rfl) (by simp) ⟨⟨_, rfl, ?_⟩, trivial⟩
       refine L.set (v := .slice _ _ _) ksest_sz37 rfl rfl rfl hall (by rw [Nat.blt_eq]; (try simp only [List.length_set]); omega) (fun wl153 hall hw hzl153 => ?_)
       have hR0 := hR0.into hw (.inr rfl)
       have hS := hS.trans hw
       refine L.nil ?_
       refine thn_n ?_
       refine LAD.take0 (i := 36) rfl (by kernel_rfl) (by kernel_rfl) (by kernel_rfl) (by kernel_rfl) (fun w hw => x_nil rfl) rfl ?_
       refine LAD.take0 (i := 37) rfl (by kernel_rfl) (by kernel_rfl) (by kernel_rfl) (by kernel_rfl) (fun w hw => x_fa ksest_fo41_2 rfl) rfl ?_
       refine LAD.step' (rs := [38]) hR0 (by kernel_rfl) (by kernel_rfl) (by simp) ⟨⟨_, rfl, ?_⟩, trivial⟩
       refine L.set (v := .slice _ _ _) ksest_sz38 rfl rfl rfl hall (by rw [Nat.blt_eq]; (try simp only [List.length_set]); omega) (fun wl156 hall hw hzl156 => ?_)
       have hR0 := hR0.into hw (.inr rfl)
       have hS := hS.trans hw
       refine L.nil ?_
       refine thn_n ?_
       refine LAD.take0 (i := 39) rfl (by kernel_rfl) (by kernel_rfl) (by kernel_rfl) (by kernel_rfl) (fun w hw => x_nil rfl) rfl ?_
       refine LAD.take0 (i := 40) rfl (by kernel_rfl) (by kernel_rfl) (by kernel_rfl) (by kernel_rfl) (fun w hw => x_fa ksest_fo41_3 rfl) rfl ?_
       refine LAD.step' (rs := [41]) hR0 (by kernel_rfl) (by kernel_rfl) (by simp) ⟨⟨_, rfl, ?_⟩, trivial⟩
       refine L.set (v := .slice _ _ _) ksest_sz39 rfl rfl rfl hall (by rw [Nat.blt_eq]; (try simp only [List.length_set]); omega) (fun wl159 hall hw hzl159 => ?_)
       have hR0 := hR0.into hw (.inr rfl)
       have hS := hS.trans hw
       refine L.nil ?_
       refine thn_n ?_
       refine LAD.done (by kernel_rfl) (by kernel_rfl) hR0 ?_
       have bx5 := bx5.carryR hR0 (fun e => by rcases e with (e | e | e | e) | e; exact (hq2 _ e).1 rfl; exact (hq3 _ e).1 rfl; exact (hq4 _ e).1 rfl; exact (hq5 _ e).1 rfl; exact hba5 e)
       have hgg : Gr (fun k => (some k = (Value.slice aa (ds.getD i default).acts.length ca).ownBlock ∨ some k = (Value.slice av (ds.getD i default).values.length cv).ownBlock ∨ some k = (Value.slice at_ (ds.getD i default).there.length ct).ownBlock ∨ some k = (Value.slice ak (ds.getD i default).keys.length ck).ownBlock) ∨ k = ba) wc wl159 := ((Gr.refl _ _).carry hDD).trans hR0
       have q0 := Own.carryR q0 hS (fun j hj e => own_box_ne q0 hallC (by decide) (by have e : j = ba := e; rw [← e]; exact hj))
       have q1 := Own.carryR q1 hS (fun j hj e => own_box_ne q1 hallC (by decide) (by have e : j = ba := e; rw [← e]; exact hj))
       have q2 := Own.carryR q2 hS (fun j hj e => own_box_ne q2 hallC (by decide) (by have e : j = ba := e; rw [← e]; exact hj))
       have q3 := Own.carryR q3 hS (fun j hj e => own_box_ne q3 hallC (by decide) (by have e : j = ba := e; rw [← e]; exact hj))
       have osz := hDD.size
       simp only [Nat.zero_add] at hall
       obtain ⟨owd, hKd, hDd⟩ := did_done (sv := ([] : Str)) (bt := false) (ks := (s.keysA a.id a.ed.key)) (kv := (Value.slice pk (s.keysA a.id a.ed.key).length ckk)) hBN.free hOl hrl hrow hi hr d2 d3 d4 d5 d6 d7 hae hks q0 (o0.imp id (fun ⟨j, e, hj⟩ => ⟨j, e, by omega⟩)) q1 (o1.imp id (fun ⟨j, e, hj⟩ => ⟨j, e, by omega⟩)) q2 (o2.imp id (fun ⟨j, e, hj⟩ => ⟨j, e, by omega⟩)) q3 (o3.imp id (fun ⟨j, e, hj⟩ => ⟨j, e, by omega⟩)) hallc hall hgg
       have hBN := hBN.goes hKd.goes htd
       have hGc := hGc.trans hKd.goes.two'
       refine blk_n ?_
       refine thn_n ?_
       refine W.seq ?_
       refine W.region ?_
       refine L.val (x_mv (v := .slice _ _ _) rfl) rfl ?_
       refine L.val (x_as (v := .slice _ _ _) rfl) rfl ?_
       refine L.nil ?_
       refine thn_n ?_
       refine W.ret (fin_mk (.inr rfl) ?_)
       rw [hst]
       exact ⟨_, _, _, _, _, hBN, hDd, hGc⟩
      ·have h116 := of_decide_eq_false g116
       exact absurd rfl h116
     ·have h104 := of_decide_eq_false g104
      exfalso; omega
theorem step_put (ow : Labels) (tb td b bh bo N : Nat) (s : Bs) (ds : List Dd) (a : Ac) (v vl : Value) (lh : List (Str × Value)) (lo : List (Int × Value)) (rows : List (List Value)) (w : World) (h : BaseAt ow tb w b s bh bo vl lh lo rows) (hD : DidsAt ow td w v ds) (htd : tb ≠ td)
    (hN : Bnd N s) (hDN : DBnd N ds) (hN9 : N ≤ 900) (hae : EdOk a.ed) (hkk : a.kind = 3) (ho : s.isOpen a.id) :
    Ret Try.prog 17 #[.pointer (some ⟨b, 0, none⟩), v, .agg (acV a).toArray] w fun v' w' => ∃ ow' vl' lh' lo' rows', BaseAt ow' tb w' b (stepS s ds a).1 bh bo vl' lh' lo' rows' ∧ DidsAt ow' td w' v' (stepS s ds a).2 ∧ Goes2 tb td w w' ow ow' := by
  have hfl := hN.flat hN9
  have hgets : ∀ x ∈ s.all, x.gets.length ≤ 1000000 := fun x hx => by have := (hN.se x hx).2.2.1; omega
  have heds : ∀ x ∈ s.all, x.eds.length ≤ 1000000 := fun x hx => by have := (hN.se x hx).2.1; omega
  have hheads : ∀ x ∈ s.all, x.heads.length ≤ 1000000 ∧ x.eds.length ≤ 1000000 := fun x hx => by have := (hN.se x hx).2; omega
  have hats : ∀ x ∈ s.all, x.at_ ≤ s.log.length ∧ x.eds.length ≤ 1000000 := fun x hx => by have := (hN.se x hx); exact ⟨this.1, by omega⟩
  have hlg := hN.lg
  have hal0 := hN.al
  have hll := hN.ll
  have hdl := hDN.1
  have hf0 := h.free
  have hkv1 : (Value.slice none 0 0).oneCell' = true := rfl
  obtain ⟨pa, ca0, hvs⟩ : ∃ pa ca, v = .slice pa ds.length ca := by
    obtain ⟨rows, hO, -⟩ := hD
    obtain ⟨pa, ca, e, -⟩ := own_shape hO.1
    exact ⟨pa, ca, e⟩
  subst hvs
  refine ret_of_W Try.func17 rfl (Nat.le_of_ble_eq_true rfl) (res1 rfl) ?_
  refine W.seq ?_
  refine W.region ?_
  refine L.box (cs := acV a) rfl rfl (fun w5 bx5 hw hz5 => ?_)
  have hB := hw
  have hG5 : Goes tb w w5 ow ow := Goes.bel h.free hw
  have hBN := h.bel hw
  have hDc := hD.bel hw h.free
  have hGc : Goes2 tb td w w5 ow ow := hG5.two
  have hn5 : ow w.heap.size = none := hf0 _ (Nat.le_refl _)
  refine L.val (x_as (v := .slice _ _ _) rfl) rfl ?_
  refine L.nil ?_
  refine thn_n ?_
  refine W.seq ?_
  refine W.seq ?_
  refine W.region ?_
  refine L.val (x_fa ksest_fo36_0 rfl) rfl ?_
  refine L.val (x_ld (v := .int _ _) ksest_oc3 rfl (bx5.cell0 rfl)) rfl ?_
  refine L.val (x_lss rfl rfl) rfl ?_
  refine L.val (x_mv (v := .bool _) rfl) rfl ?_
  refine' L.group0 3 18 20 20 17 false rfl ?_ ?_ ?_
  rotate_left 1
  ·intro g17
   have h17 := dlt_f g17
   refine L.gyes' (dj := 17) (b := _) rfl rfl g17 ?_
   refine L.val (x_fa ksest_fo36_0 rfl) rfl ?_
   refine L.gyes' (dj := 17) (b := _) rfl rfl g17 ?_
   refine L.val (x_ld (v := .int _ _) ksest_oc3 rfl (bx5.cell0 rfl)) rfl ?_
   refine L.gyes' (dj := 17) (b := _) rfl rfl g17 ?_
   refine L.val (x_gtr rfl rfl) rfl ?_
   refine L.nil ?_
   refine thn_n ⟨rfl, rfl, ?_, rfl⟩
   repeat (first | exact jeq.refl _ _ _ | refine jeq.upd rfl ?_ | refine jeq.jk rfl rfl ?_)
  ·intro g17
   refine L.gno (dj := 17) (b := _) rfl rfl g17 rfl ?_
   refine L.gno (dj := 17) (b := _) rfl rfl g17 rfl ?_
   refine L.gno (dj := 17) (b := _) rfl rfl g17 rfl ?_
   refine L.nil (thn_n ⟨rfl, rfl, ?_⟩)
   repeat (first | exact jeq.refl _ _ _ | refine jeq.upd rfl ?_ | refine jeq.jk rfl rfl ?_)
  intro J17 j17
  refine L.val (x_or rfl j17) rfl ?_
  refine L.nil ?_
  refine thn_n ?_
  refine W.cond (b := _) rfl (fun g21 => ?_) (fun g21 => ?_)
  ·have h21 := g21
   exfalso; simp only [Bool.or_eq_true, decide_eq_true_eq] at g21; omega
  ·have h21 := g21
   have hk : ¬ (a.kind < 1 ∨ 5 < a.kind) := by simp only [Bool.or_eq_false_iff, decide_eq_false_iff_not] at g21; omega
   refine W.skip ?_
   refine thn_n ?_
   refine W.seq ?_
   refine W.seq ?_
   refine W.region ?_
   refine L.val (x_fa ksest_fo36_1 rfl) rfl ?_
   refine L.val (x_ld (v := .int _ _) ksest_oc3 rfl (bx5.cell0 rfl)) rfl ?_
   refine L.val (x_lss rfl rfl) rfl ?_
   refine L.val (x_mv (v := .bool _) rfl) rfl ?_
   refine' L.group0 5 35 39 39 34 false rfl ?_ ?_ ?_
   rotate_left 1
   ·intro g34
    have h34 := dlt_f g34
    refine L.gyes' (dj := 34) (b := _) rfl rfl g34 ?_
    refine L.val (x_fa ksest_fo36_1 rfl) rfl ?_
    refine L.gyes' (dj := 34) (b := _) rfl rfl g34 ?_
    refine L.val (x_ld (v := .int _ _) ksest_oc3 rfl (bx5.cell0 rfl)) rfl ?_
    refine L.gyes' (dj := 34) (b := _) rfl rfl g34 ?_
    refine L.val (x_mv (v := .slice _ _ _) rfl) rfl ?_
    refine L.gyes' (dj := 34) (b := _) rfl rfl g34 ?_
    refine L.val (x_len_slice Try.underlying29 rfl) rfl ?_
    refine L.gyes' (dj := 34) (b := _) rfl rfl g34 ?_
    refine L.val (x_gtr rfl rfl) rfl ?_
    refine L.nil ?_
    refine thn_n ⟨rfl, rfl, ?_, rfl⟩
    repeat (first | exact jeq.refl _ _ _ | refine jeq.upd rfl ?_ | refine jeq.jk rfl rfl ?_)
   ·intro g34
    refine L.gno (dj := 34) (b := _) rfl rfl g34 rfl ?_
    refine L.gno (dj := 34) (b := _) rfl rfl g34 rfl ?_
    refine L.gno (dj := 34) (b := _) rfl rfl g34 rfl ?_
    refine L.gno (dj := 34) (b := _) rfl rfl g34 rfl ?_
    refine L.gno (dj := 34) (b := _) rfl rfl g34 rfl ?_
    refine L.nil (thn_n ⟨rfl, rfl, ?_⟩)
    repeat (first | exact jeq.refl _ _ _ | refine jeq.upd rfl ?_ | refine jeq.jk rfl rfl ?_)
   intro J34 j34
   refine L.val (x_or rfl j34) rfl ?_
   refine L.nil ?_
   refine thn_n ?_
   refine W.cond (b := _) rfl (fun g40 => ?_) (fun g40 => ?_)
   ·have h40 := g40
    have hi : a.id < 1 ∨ (ds.length : Int) < a.id := by simp only [Bool.or_eq_true, decide_eq_true_eq] at g40; omega
    have hst : stepS s ds a = (s, ds) := by unfold stepS; rw [if_neg hk, if_pos hi]
    refine W.seq ?_
    refine W.region ?_
    refine L.val (x_mv (v := .slice _ _ _) rfl) rfl ?_
    refine L.val (x_as (v := .slice _ _ _) rfl) rfl ?_
    refine L.nil ?_
    refine thn_n ?_
    refine W.ret (thn_r (fin_mk (.inr rfl) ?_))
    rw [hst]
    exact ⟨_, _, _, _, _, hBN, hDc, hGc⟩
   ·have h40 := g40
    have hid : ¬ (a.id < 1 ∨ (ds.length : Int) < a.id) := by simp only [Bool.or_eq_false_iff, decide_eq_false_iff_not] at g40; omega
    obtain ⟨i, hai⟩ : ∃ i : Nat, i = a.id.toNat - 1 := ⟨_, rfl⟩
    have hil : i < ds.length := by omega
    obtain ⟨ba, hpa⟩ : ∃ ba, pa = some ⟨ba, 0, none⟩ := by
      obtain ⟨rowsq, hO, -⟩ := hDc
      exact own_pos hO.1 (by omega)
    subst hpa
    refine W.skip ?_
    refine thn_n ?_
    refine W.seq ?_
    refine W.region ?_
    refine L.val (x_mv (v := .slice _ _ _) rfl) rfl ?_
    refine L.val (x_fa ksest_fo36_1 rfl) rfl ?_
    refine L.val (x_ld (v := .int _ _) ksest_oc3 rfl (bx5.cell0 rfl)) rfl ?_
    refine L.val (x_sub rfl rfl (wr64 (by omega))) rfl ?_
    refine L.val (x_ia (j := i) Try.underlying29 ksest_sz41 rfl rfl (by omega) (by omega)) rfl ?_
    refine L.val (x_as (v := .pointer _) rfl) rfl ?_
    refine L.nil ?_
    refine thn_n ?_
    refine W.seq ?_
    refine W.seq ?_
    refine W.region ?_
    refine L.val (x_fa ksest_fo36_0 rfl) rfl ?_
    refine L.val (x_ld (v := .int _ _) ksest_oc3 rfl (bx5.cell0 rfl)) rfl ?_
    refine L.nil ?_
    refine thn_n ?_
    refine W.block ?_
    refine W.seq ?_
    refine W.region ?_
    refine L.val (x_eql rfl rfl) rfl ?_
    refine L.val (x_as (v := .bool _) rfl) rfl ?_
    refine L.nil ?_
    refine thn_n ?_
    refine W.cond (b := _) rfl (fun g50 => ?_) (fun g50 => ?_)
    ·have h50 := of_decide_eq_true g50
     exfalso; omega
    ·have h50 := of_decide_eq_false g50
     have hk1 : ¬ a.kind = 1 := h50
     refine W.seq ?_
     refine W.region ?_
     refine L.val (x_eql rfl rfl) rfl ?_
     refine L.val (x_as (v := .bool _) rfl) rfl ?_
     refine L.nil ?_
     refine thn_n ?_
     refine W.cond (b := _) rfl (fun g104 => ?_) (fun g104 => ?_)
     ·have h104 := of_decide_eq_true g104
      exfalso; omega
     ·have h104 := of_decide_eq_false g104
      have hk2 : ¬ a.kind = 2 := h104
      refine W.seq ?_
      refine W.region ?_
      refine L.val (x_eql rfl rfl) rfl ?_
      refine L.val (x_as (v := .bool _) rfl) rfl ?_
      refine L.nil ?_
      refine thn_n ?_
      refine W.cond (b := _) rfl (fun g156 => ?_) (fun g156 => ?_)
      ·have h156 := of_decide_eq_true g156
       have hk3 : a.kind = 3 := h156
       refine W.seq ?_
       refine W.region ?_
       refine L.val (x_mv (v := .pointer _) rfl) rfl ?_
       refine L.val (x_fa ksest_fo36_1 rfl) rfl ?_
       refine L.val (x_ld (v := .int _ _) ksest_oc3 rfl (bx5.cell0 rfl)) rfl ?_
       refine L.val (x_fa ksest_fo36_2 rfl) rfl ?_
       refine L.val (x_ldn (vs := edV a.ed) ksest_ag34 rfl rfl (bx5.rowD 2 rfl)) rfl ?_
       refine L.ret (x_call ksest_en40 rfl) rfl (put_ok ow tb b bh bo s _ lh lo rows a.id a.ed _ hBN heds hae) ?_
       rintro v162 wc ⟨rfl, owc, hG, hBN⟩
       have hn5' : owc w.heap.size = none := (hG.old _ bx5.lt).elim (fun e => e.trans hn5) (fun e => e.2)
       rw [if_pos ho]
       have hDc := hDc.goes hG htd.symm
       have hGc := hGc.trans hG.two
       have bx5 := bx5.carryR hG.gr (fun ⟨p, e⟩ => by rw [hn5] at e; cases e)
       have hn5 := hn5'
       refine L.val (x_eql rfl rfl) rfl ?_
       refine L.nil ?_
       refine thn_n ?_
       refine W.cond (b := _) rfl (fun g163 => ?_) (fun g163 => ?_)
       ·have h163 := of_decide_eq_true g163
        have hke : okEd a.ed = true := by
          cases hq : okEd a.ed with
          | true => rfl
          | false => rw [hq] at h163; cases h163
        rw [if_pos ⟨ho, hke⟩] at hBN
        have hst : stepS s ds a = (s.putS a.id a.ed, ds.set i { (ds.getD i default).add a [] false [] with writes := true }) := by unfold stepS; rw [if_neg hk, if_neg hid]; dsimp only; rw [if_neg hk1, if_neg hk2, if_pos hk3, if_pos ⟨ho, hke⟩, hai]
        have hks : StrsAt (fun k => owc k ≠ none) wc (.slice none 0 0) [] := StrsAt.nil _ _ _ _ (by simp)
        have hi : i < ds.length := hil
        obtain ⟨rowsD, hOl, hrl, hrow⟩ := id hDc
        obtain ⟨va, vv, vt, vk, kr, hr, d2, d3, d4, d5, d6, d7⟩ := hrow i hi
        obtain ⟨aa, ca, rfl, -⟩ := own_shape d2.1
        obtain ⟨av, cv, rfl, -⟩ := own_shape d3.1
        obtain ⟨at_, ct, rfl, -⟩ := own_shape d4.1
        obtain ⟨ak, ck, rfl, -⟩ := own_shape d5.1
        have h8 := dids_lens hrl hrow
        obtain ⟨tl, hallc⟩ : ∃ tl, Box wc ba 41 (rowsD.flatten ++ tl) := by
          rcases Own.open hOl.1 with ⟨e, -⟩ | ⟨b', c', tl, e, -, -, -, hbx⟩
          · cases e
          · simp only [Value.slice.injEq, Option.some.injEq, Addr.mk.injEq, and_true, true_and] at e
            exact ⟨tl, by rw [e.1]; exact hbx⟩
        have hall := hallc
        have hc0 : (rowsD.flatten ++ tl)[0 + i * 8 + 0]? = some (.slice aa (ds.getD i default).acts.length ca) := by rw [Nat.zero_add]; exact row_cell h8 (by omega) (by omega) (by rw [hr]; rfl)
        have hc1 : (rowsD.flatten ++ tl)[0 + i * 8 + 1]? = some (.slice av (ds.getD i default).values.length cv) := by rw [Nat.zero_add]; exact row_cell h8 (by omega) (by omega) (by rw [hr]; rfl)
        have hc2 : (rowsD.flatten ++ tl)[0 + i * 8 + 2]? = some (.slice at_ (ds.getD i default).there.length ct) := by rw [Nat.zero_add]; exact row_cell h8 (by omega) (by omega) (by rw [hr]; rfl)
        have hc3 : (rowsD.flatten ++ tl)[0 + i * 8 + 3]? = some (.slice ak (ds.getD i default).keys.length ck) := by rw [Nat.zero_add]; exact row_cell h8 (by omega) (by omega) (by rw [hr]; rfl)
        have hlen0 : i * 8 + 8 ≤ (rowsD.flatten ++ tl).length := by rw [List.length_append, flat_len h8, hrl]; omega
        have hal := hDN.2 (ds.getD i default) (by rw [List.getD_eq_getElem?_getD, List.getElem?_eq_getElem hi]; exact List.getElem_mem hi)
        obtain ⟨-, dl1, dl2, dl3⟩ := id d7
        have hba : owc ba = some (td, .log) := hOl.2 ba rfl
        have hba5 : w.heap.size ≠ ba := fun e => by rw [← e, hn5] at hba; cases hba
        have hqq : ∀ {v : Value} {p : Part}, (∀ j, some j = v.ownBlock → owc j = some (td, p)) → p ≠ .log → ∀ j, some j = v.ownBlock → j ≠ w.heap.size ∧ j ≠ ba := fun {v p} hl hp j hj => ⟨fun e => (by have := hl j hj; rw [e, hn5] at this; cases this), fun e => (by have := hl j hj; rw [e, hba] at this; simp at this; exact hp this.symm)⟩
        have hq2 := hqq d2.2 (by simp)
        have hq3 := hqq d3.2 (by simp)
        have hq4 := hqq d4.2 (by simp)
        have hq5 := hqq d5.2 (by simp)
        refine W.seq ?_
        refine W.drawD (fun k => (some k = (Value.slice aa (ds.getD i default).acts.length ca).ownBlock ∨ some k = (Value.slice av (ds.getD i default).values.length cv).ownBlock ∨ some k = (Value.slice at_ (ds.getD i default).there.length ct).ownBlock ∨ some k = (Value.slice ak (ds.getD i default).keys.length ck).ownBlock) ∨ k = ba) (fun k => some k = (Value.slice aa (ds.getD i default).acts.length ca).ownBlock ∨ some k = (Value.slice av (ds.getD i default).values.length cv).ownBlock ∨ some k = (Value.slice at_ (ds.getD i default).there.length ct).ownBlock ∨ some k = (Value.slice ak (ds.getD i default).keys.length ck).ownBlock) 31 ksest_mixed (fun wD164 hw => ?_)
        have bx5 := bx5.carry hw; have hall := hall.carry hw
        have hB0 := Gr.refl (fun k => some k = (Value.slice aa (ds.getD i default).acts.length ca).ownBlock ∨ some k = (Value.slice av (ds.getD i default).values.length cv).ownBlock ∨ some k = (Value.slice at_ (ds.getD i default).there.length ct).ownBlock ∨ some k = (Value.slice ak (ds.getD i default).keys.length ck).ownBlock) wD164; have hR0 := Gr.refl (fun k => (some k = (Value.slice aa (ds.getD i default).acts.length ca).ownBlock ∨ some k = (Value.slice av (ds.getD i default).values.length cv).ownBlock ∨ some k = (Value.slice at_ (ds.getD i default).there.length ct).ownBlock ∨ some k = (Value.slice ak (ds.getD i default).keys.length ck).ownBlock) ∨ k = ba) wD164
        have hDD := hw
        refine LAD.take0 (i := 0) rfl (by kernel_rfl) (by kernel_rfl) (by kernel_rfl) (by kernel_rfl) (fun w hw => x_mv (v := .pointer _) rfl) rfl ?_
        refine LAD.take0 (i := 1) rfl (by kernel_rfl) (by kernel_rfl) (by kernel_rfl) (by kernel_rfl) (fun w hw => x_mv (v := .pointer _) rfl) rfl ?_
        refine LAD.take0 (i := 2) rfl (by kernel_rfl) (by kernel_rfl) (by kernel_rfl) (by kernel_rfl) (fun w hw => x_mv (v := .pointer _) rfl) rfl ?_
        refine LAD.take0 (i := 3) rfl (by kernel_rfl) (by kernel_rfl) (by kernel_rfl) (by kernel_rfl) (fun w hw => x_mv (v := .pointer _) rfl) rfl ?_
        refine LAD.take0 (i := 4) rfl (by kernel_rfl) (by kernel_rfl) (by kernel_rfl) (by kernel_rfl) (fun w hw => x_mv (v := .pointer _) rfl) rfl ?_
        refine LAD.take0 (i := 5) rfl (by kernel_rfl) (by kernel_rfl) (by kernel_rfl) (by kernel_rfl) (fun w hw => x_nil rfl) rfl ?_
        refine LAD.take0 (i := 6) rfl (by kernel_rfl) (by kernel_rfl) (by kernel_rfl) (by kernel_rfl) (fun w hw => x_fa ksest_fo41_0 rfl) rfl ?_
        refine LAD.take1 (i := 7) rfl (by kernel_rfl) (by kernel_rfl) (by kernel_rfl) (by kernel_rfl) (by kernel_rfl) (by kernel_rfl) (fun w hw => x_ld (v := .slice _ _ _) ksest_oc23 rfl (hw.keepR (fun e => by rcases e with e | e | e | e; exact (hq2 _ e).2 rfl; exact (hq3 _ e).2 rfl; exact (hq4 _ e).2 rfl; exact (hq5 _ e).2 rfl) (hall.cell hc0))) rfl ?_
        refine LAD.take0 (i := 8) rfl (by kernel_rfl) (by kernel_rfl) (by kernel_rfl) (by kernel_rfl) (fun w hw => x_ldn (vs := _) ksest_ag36 rfl rfl (hw.keepRowR (fun e => by rcases e with (e | e | e | e) | e; exact (hq2 _ e).1 rfl; exact (hq3 _ e).1 rfl; exact (hq4 _ e).1 rfl; exact (hq5 _ e).1 rfl; exact hba5 (by have e : (_ : Nat) = _ := e; exact e)) rfl (bx5.row rfl))) rfl ?_
        refine LAD.take0 (i := 11) rfl (by kernel_rfl) (by kernel_rfl) (by kernel_rfl) (by kernel_rfl) (fun w hw => x_mv (v := .pointer _) rfl) rfl ?_
        refine LAD.take0 (i := 12) rfl (by kernel_rfl) (by kernel_rfl) (by kernel_rfl) (by kernel_rfl) (fun w hw => x_nil rfl) rfl ?_
        refine LAD.take0 (i := 13) rfl (by kernel_rfl) (by kernel_rfl) (by kernel_rfl) (by kernel_rfl) (fun w hw => x_fa ksest_fo41_1 rfl) rfl ?_
        refine LAD.take1 (i := 14) rfl (by kernel_rfl) (by kernel_rfl) (by kernel_rfl) (by kernel_rfl) (by kernel_rfl) (by kernel_rfl) (fun w hw => x_ld (v := .slice _ _ _) ksest_oc37 rfl (hw.keepR (fun e => by rcases e with e | e | e | e; exact (hq2 _ e).2 rfl; exact (hq3 _ e).2 rfl; exact (hq4 _ e).2 rfl; exact (hq5 _ e).2 rfl) (hall.cell hc1))) rfl ?_
        refine LAD.take0 (i := 17) rfl (by kernel_rfl) (by kernel_rfl) (by kernel_rfl) (by kernel_rfl) (fun w hw => x_mv (v := .pointer _) rfl) rfl ?_
        refine LAD.take0 (i := 18) rfl (by kernel_rfl) (by kernel_rfl) (by kernel_rfl) (by kernel_rfl) (fun w hw => x_nil rfl) rfl ?_
        refine LAD.take0 (i := 19) rfl (by kernel_rfl) (by kernel_rfl) (by kernel_rfl) (by kernel_rfl) (fun w hw => x_fa ksest_fo41_2 rfl) rfl ?_
        refine LAD.take1 (i := 20) rfl (by kernel_rfl) (by kernel_rfl) (by kernel_rfl) (by kernel_rfl) (by kernel_rfl) (by kernel_rfl) (fun w hw => x_ld (v := .slice _ _ _) ksest_oc38 rfl (hw.keepR (fun e => by rcases e with e | e | e | e; exact (hq2 _ e).2 rfl; exact (hq3 _ e).2 rfl; exact (hq4 _ e).2 rfl; exact (hq5 _ e).2 rfl) (hall.cell hc2))) rfl ?_
        refine LAD.take0 (i := 23) rfl (by kernel_rfl) (by kernel_rfl) (by kernel_rfl) (by kernel_rfl) (fun w hw => x_mv (v := .pointer _) rfl) rfl ?_
        refine LAD.take0 (i := 24) rfl (by kernel_rfl) (by kernel_rfl) (by kernel_rfl) (by kernel_rfl) (fun w hw => x_nil rfl) rfl ?_
        refine LAD.take0 (i := 25) rfl (by kernel_rfl) (by kernel_rfl) (by kernel_rfl) (by kernel_rfl) (fun w hw => x_fa ksest_fo41_3 rfl) rfl ?_
        refine LAD.take1 (i := 26) rfl (by kernel_rfl) (by kernel_rfl) (by kernel_rfl) (by kernel_rfl) (by kernel_rfl) (by kernel_rfl) (fun w hw => x_ld (v := .slice _ _ _) ksest_oc39 rfl (hw.keepR (fun e => by rcases e with e | e | e | e; exact (hq2 _ e).2 rfl; exact (hq3 _ e).2 rfl; exact (hq4 _ e).2 rfl; exact (hq5 _ e).2 rfl) (hall.cell hc3))) rfl ?_
        refine LAD.chainB (wD := wD164) cnC (fun k => ([⟨(Value.slice aa (ds.getD i default).acts.length ca), (ds.getD i default).acts.length, ((ds.getD i default).acts.map acV).flatten, acV a⟩, ⟨(Value.slice av (ds.getD i default).values.length cv), (ds.getD i default).values.length, (ds.getD i default).values.map S, [S ([] : Str)]⟩, ⟨(Value.slice at_ (ds.getD i default).there.length ct), (ds.getD i default).there.length, (ds.getD i default).there.map Value.bool, [.bool false]⟩, ⟨(Value.slice ak (ds.getD i default).keys.length ck), (ds.getD i default).keys.length, kr.flatten, [(Value.slice none 0 0)]⟩] : List Ch).getD k ⟨.slice none 0 0, 0, [], []⟩) (fun k => some k = (Value.slice aa (ds.getD i default).acts.length ca).ownBlock ∨ some k = (Value.slice av (ds.getD i default).values.length cv).ownBlock ∨ some k = (Value.slice at_ (ds.getD i default).there.length ct).ownBlock ∨ some k = (Value.slice ak (ds.getD i default).keys.length ck).ownBlock) 12 (by as_aux_lemma => kernel_rfl) (by as_aux_lemma => kernel_rfl) (by as_aux_lemma => kernel_rfl) ⟨?_, ?_, ?_, ?_⟩ ⟨?_, ?_, ?_, ?_⟩ (fun w h => ⟨h.mono (fun _ _ e => .inl e), h⟩) ?_ ?_ ?_
        · exact ⟨_, rfl, fun E w Q hE k => L.bs (sz := 5) (vs := [(0, .agg (acV a).toArray)]) (cells := acV a) Try.underlying23 ksest_el36 (congrArg (fun v => [((0 : Nat), v)]) (hE 172 (by decide))) rfl rfl rfl (fun w1 bx hB hsz => L.nil (k w1 bx hB hsz))⟩
        · exact ⟨_, rfl, fun E w Q hE k => L.bs (sz := 1) (vs := [(0, S ([] : Str))]) (cells := [S ([] : Str)]) Try.underlying37 ksest_el9 rfl rfl rfl rfl (fun w1 bx hB hsz => L.nil (k w1 bx hB hsz))⟩
        · exact ⟨_, rfl, fun E w Q hE k => L.bs (sz := 1) (vs := [(0, .bool false)]) (cells := [.bool false]) Try.underlying38 ksest_el4 rfl rfl rfl rfl (fun w1 bx hB hsz => L.nil (k w1 bx hB hsz))⟩
        · exact ⟨_, rfl, fun E w Q hE k => L.bs (sz := 1) (vs := [(0, (Value.slice none 0 0))]) (cells := [(Value.slice none 0 0)]) Try.underlying39 ksest_el37 rfl rfl rfl rfl (fun w1 bx hB hsz => L.nil (k w1 bx hB hsz))⟩
        · exact ⟨_, rfl, fun E w Q blk hE hsl hbx hO k => L.appendN (m := 1) (sz := 5) (v := (Value.slice aa (ds.getD i default).acts.length ca)) (k := (ds.getD i default).acts.length) (xs := ((ds.getD i default).acts.map acV).flatten) (news := acV a) Try.underlying23 ksest_el36 (hE 171 (by decide)) hsl rfl hO rfl (holdsN_box hbx) (acV_one a) (by omega) (Nat.zero_le _) (fun v' w1 hO' g hob => L.nil (k v' w1 hO' g hob))⟩
        · exact ⟨_, rfl, fun E w Q blk hE hsl hbx hO k => L.appendN (m := 1) (sz := 1) (v := (Value.slice av (ds.getD i default).values.length cv)) (k := (ds.getD i default).values.length) (xs := (ds.getD i default).values.map S) (news := [S ([] : Str)]) Try.underlying37 ksest_el9 (hE 178 (by decide)) hsl rfl hO rfl (holdsN_box hbx) (by intro u hu; rw [List.mem_singleton.1 hu]; rfl) (by omega) (Nat.zero_le _) (fun v' w1 hO' g hob => L.nil (k v' w1 hO' g hob))⟩
        · exact ⟨_, rfl, fun E w Q blk hE hsl hbx hO k => L.appendN (m := 1) (sz := 1) (v := (Value.slice at_ (ds.getD i default).there.length ct)) (k := (ds.getD i default).there.length) (xs := (ds.getD i default).there.map Value.bool) (news := [.bool false]) Try.underlying38 ksest_el4 (hE 184 (by decide)) hsl rfl hO rfl (holdsN_box hbx) (by intro u hu; rw [List.mem_singleton.1 hu]; rfl) (by omega) (Nat.zero_le _) (fun v' w1 hO' g hob => L.nil (k v' w1 hO' g hob))⟩
        · exact ⟨_, rfl, fun E w Q blk hE hsl hbx hO k => L.appendN (m := 1) (sz := 1) (v := (Value.slice ak (ds.getD i default).keys.length ck)) (k := (ds.getD i default).keys.length) (xs := kr.flatten) (news := [(Value.slice none 0 0)]) Try.underlying39 ksest_el37 (hE 190 (by decide)) hsl rfl hO rfl (holdsN_box hbx) (by intro u hu; rw [List.mem_singleton.1 hu]; exact hkv1) (by omega) (Nat.zero_le _) (fun v' w1 hO' g hob => L.nil (k v' w1 hO' g hob))⟩
        · intro k hk j hj; match k, hk with | 0, _ => exact .inl hj | 1, _ => exact .inr (.inl hj) | 2, _ => exact .inr (.inr (.inl hj)) | 3, _ => exact .inr (.inr (.inr hj))
        · intro k hk; match k, hk with | 0, _ => exact d2.1.carry hDD | 1, _ => exact d3.1.carry hDD | 2, _ => exact d4.1.carry hDD | 3, _ => exact d5.1.carry hDD
        intro E wC164 hCI
        have hE := hCI.env
        have p0 := hCI.c0; unfold ChAt at p0; rw [if_pos (by rfl)] at p0
        obtain ⟨an0, cn0, e174, -⟩ := own_shape p0.1
        have q0 : Own wC164 0 36 5 (.slice an0 ((ds.getD i default).acts.length + 1) cn0) ((ds.getD i default).acts.length + 1) (((ds.getD i default).acts.map acV).flatten ++ acV a) := e174 ▸ p0.1
        have o0 : (Value.slice an0 ((ds.getD i default).acts.length + 1) cn0).ownBlock = (Value.slice aa (ds.getD i default).acts.length ca).ownBlock ∨ ∃ j, (Value.slice an0 ((ds.getD i default).acts.length + 1) cn0).ownBlock = some j ∧ wD164.heap.size ≤ j := e174 ▸ p0.2
        have p1 := hCI.c1; unfold ChAt at p1; rw [if_pos (by rfl)] at p1
        obtain ⟨an1, cn1, e180, -⟩ := own_shape p1.1
        have q1 : Own wC164 0 9 1 (.slice an1 ((ds.getD i default).values.length + 1) cn1) ((ds.getD i default).values.length + 1) ((ds.getD i default).values.map S ++ [S ([] : Str)]) := e180 ▸ p1.1
        have o1 : (Value.slice an1 ((ds.getD i default).values.length + 1) cn1).ownBlock = (Value.slice av (ds.getD i default).values.length cv).ownBlock ∨ ∃ j, (Value.slice an1 ((ds.getD i default).values.length + 1) cn1).ownBlock = some j ∧ wD164.heap.size ≤ j := e180 ▸ p1.2
        have p2 := hCI.c2; unfold ChAt at p2; rw [if_pos (by rfl)] at p2
        obtain ⟨an2, cn2, e186, -⟩ := own_shape p2.1
        have q2 : Own wC164 0 4 1 (.slice an2 ((ds.getD i default).there.length + 1) cn2) ((ds.getD i default).there.length + 1) ((ds.getD i default).there.map Value.bool ++ [.bool false]) := e186 ▸ p2.1
        have o2 : (Value.slice an2 ((ds.getD i default).there.length + 1) cn2).ownBlock = (Value.slice at_ (ds.getD i default).there.length ct).ownBlock ∨ ∃ j, (Value.slice an2 ((ds.getD i default).there.length + 1) cn2).ownBlock = some j ∧ wD164.heap.size ≤ j := e186 ▸ p2.2
        have p3 := hCI.c3; unfold ChAt at p3; rw [if_pos (by rfl)] at p3
        obtain ⟨an3, cn3, e192, -⟩ := own_shape p3.1
        have q3 : Own wC164 0 37 1 (.slice an3 ((ds.getD i default).keys.length + 1) cn3) ((ds.getD i default).keys.length + 1) (kr.flatten ++ [(Value.slice none 0 0)]) := e192 ▸ p3.1
        have o3 : (Value.slice an3 ((ds.getD i default).keys.length + 1) cn3).ownBlock = (Value.slice ak (ds.getD i default).keys.length ck).ownBlock ∨ ∃ j, (Value.slice an3 ((ds.getD i default).keys.length + 1) cn3).ownBlock = some j ∧ wD164.heap.size ≤ j := e192 ▸ p3.2
        rw [upd_self (show E 164 = .pointer (some ⟨ba, 0 + i * 8, none⟩) from hE 164 (by decide)), upd_self (show E 165 = .pointer (some ⟨ba, 0 + i * 8, none⟩) from hE 165 (by decide)), upd_self (show E 166 = .pointer (some ⟨ba, 0 + i * 8, none⟩) from hE 166 (by decide)), upd_self (show E 167 = .pointer (some ⟨ba, 0 + i * 8, none⟩) from hE 167 (by decide)), upd_self (show E 174 = .slice an0 ((ds.getD i default).acts.length + 1) cn0 from e174), upd_self (show E 180 = .slice an1 ((ds.getD i default).values.length + 1) cn1 from e180), upd_self (show E 186 = .slice an2 ((ds.getD i default).there.length + 1) cn2 from e186), upd_self (show E 192 = .slice an3 ((ds.getD i default).keys.length + 1) cn3 from e192), upd_self (show E 1 = .slice (some ⟨ba, 0, none⟩) ds.length ca0 from hE 1 (by decide)), upd_self (show E 7 = .pointer (some ⟨ba, 0 + i * 8, none⟩) from hE 7 (by decide))]
        have hB0 := hCI.gr
        have hR0 := hCI.gr.mono (R' := fun k => (some k = (Value.slice aa (ds.getD i default).acts.length ca).ownBlock ∨ some k = (Value.slice av (ds.getD i default).values.length cv).ownBlock ∨ some k = (Value.slice at_ (ds.getD i default).there.length ct).ownBlock ∨ some k = (Value.slice ak (ds.getD i default).keys.length ck).ownBlock) ∨ k = ba) (fun _ _ e => .inl e)
        have hall := hall.carryR hCI.gr (fun e => by rcases e with e | e | e | e; exact (hq2 _ e).2 rfl; exact (hq3 _ e).2 rfl; exact (hq4 _ e).2 rfl; exact (hq5 _ e).2 rfl)
        have hallC := hall
        have hS := Gr.refl (fun k => k = ba) wC164
        refine LAD.take0 (i := 29) rfl (by kernel_rfl) (by kernel_rfl) (by kernel_rfl) (by kernel_rfl) (fun w hw => x_nil rfl) rfl ?_
        refine LAD.take0 (i := 30) rfl (by kernel_rfl) (by kernel_rfl) (by kernel_rfl) (by kernel_rfl) (fun w hw => x_fa ksest_fo41_0 rfl) rfl ?_
        refine LAD.step (rs := [31]) hR0 (fun _ => hB0) (by kernel_rfl) (by simp) ⟨⟨_, rfl, ?_⟩, trivial⟩
        refine L.set (v := .slice _ _ _) ksest_sz23 rfl rfl rfl hall (by rw [Nat.blt_eq]; (try simp only [List.length_set]); omega) (fun wl200 hall hw hzl200 => ?_)
        have hR0 := hR0.into hw (.inr rfl)
        have hS := hS.trans hw
        refine L.nil ?_
        refine thn_n ?_
        refine LAD.take0 (i := 32) rfl (by kernel_rfl) (by kernel_rfl) (by kernel_rfl) (by kernel_rfl) (fun w hw => x_nil rfl) rfl ?_
        refine LAD.take0 (i := 33) rfl (by kernel_rfl) (by kernel_rfl) (by kernel_rfl) (by kernel_rfl) (fun w hw => x_fa ksest_fo41_1 rfl) rfl ?_
        refine LAD.step' (rs := [34]) hR0 (by kernel_rfl) (by kernel_rfl) (by simp) ⟨⟨_, rfl, ?_⟩, trivial⟩
        refine L.set (v := .slice _ _ _) ksest_sz37 rfl rfl rfl hall (by rw [Nat.blt_eq]; (try simp only [List.length_set]); omega) (fun wl203 hall hw hzl203 => ?_)
        have hR0 := hR0.into hw (.inr rfl)
        have hS := hS.trans hw
        refine L.nil ?_
        refine thn_n ?_
        refine LAD.take0 (i := 35) rfl (by kernel_rfl) (by kernel_rfl) (by kernel_rfl) (by kernel_rfl) (fun w hw => x_nil rfl) rfl ?_
        refine LAD.take0 (i := 36) rfl (by kernel_rfl) (by kernel_rfl) (by kernel_rfl) (by kernel_rfl) (fun w hw => x_fa ksest_fo41_2 rfl) rfl ?_
        refine LAD.step' (rs := [37]) hR0 (by kernel_rfl) (by kernel_rfl) (by simp) ⟨⟨_, rfl, ?_⟩, trivial⟩
        refine L.set (v := .slice _ _ _) ksest_sz38 rfl rfl rfl hall (by rw [Nat.blt_eq]; (try simp only [List.length_set]); omega) (fun wl206 hall hw hzl206 => ?_)
        have hR0 := hR0.into hw (.inr rfl)
        have hS := hS.trans hw
        refine L.nil ?_
        refine thn_n ?_
        refine LAD.take0 (i := 38) rfl (by kernel_rfl) (by kernel_rfl) (by kernel_rfl) (by kernel_rfl) (fun w hw => x_nil rfl) rfl ?_
        refine LAD.take0 (i := 39) rfl (by kernel_rfl) (by kernel_rfl) (by kernel_rfl) (by kernel_rfl) (fun w hw => x_fa ksest_fo41_3 rfl) rfl ?_
        refine LAD.step' (rs := [40]) hR0 (by kernel_rfl) (by kernel_rfl) (by simp) ⟨⟨_, rfl, ?_⟩, trivial⟩
        refine L.set (v := .slice _ _ _) ksest_sz39 rfl rfl rfl hall (by rw [Nat.blt_eq]; (try simp only [List.length_set]); omega) (fun wl209 hall hw hzl209 => ?_)
        have hR0 := hR0.into hw (.inr rfl)
        have hS := hS.trans hw
        refine L.nil ?_
        refine thn_n ?_
        refine LAD.done (by kernel_rfl) (by kernel_rfl) hR0 ?_
        have bx5 := bx5.carryR hR0 (fun e => by rcases e with (e | e | e | e) | e; exact (hq2 _ e).1 rfl; exact (hq3 _ e).1 rfl; exact (hq4 _ e).1 rfl; exact (hq5 _ e).1 rfl; exact hba5 e)
        have hgg : Gr (fun k => (some k = (Value.slice aa (ds.getD i default).acts.length ca).ownBlock ∨ some k = (Value.slice av (ds.getD i default).values.length cv).ownBlock ∨ some k = (Value.slice at_ (ds.getD i default).there.length ct).ownBlock ∨ some k = (Value.slice ak (ds.getD i default).keys.length ck).ownBlock) ∨ k = ba) wc wl209 := ((Gr.refl _ _).carry hDD).trans hR0
        have q0 := Own.carryR q0 hS (fun j hj e => own_box_ne q0 hallC (by decide) (by have e : j = ba := e; rw [← e]; exact hj))
        have q1 := Own.carryR q1 hS (fun j hj e => own_box_ne q1 hallC (by decide) (by have e : j = ba := e; rw [← e]; exact hj))
        have q2 := Own.carryR q2 hS (fun j hj e => own_box_ne q2 hallC (by decide) (by have e : j = ba := e; rw [← e]; exact hj))
        have q3 := Own.carryR q3 hS (fun j hj e => own_box_ne q3 hallC (by decide) (by have e : j = ba := e; rw [← e]; exact hj))
        have osz := hDD.size
        simp only [Nat.zero_add] at hall
        obtain ⟨owd, hKd, hDd⟩ := did_done (sv := ([] : Str)) (bt := false) (ks := []) (kv := (Value.slice none 0 0)) hBN.free hOl hrl hrow hi hr d2 d3 d4 d5 d6 d7 hae hks q0 (o0.imp id (fun ⟨j, e, hj⟩ => ⟨j, e, by omega⟩)) q1 (o1.imp id (fun ⟨j, e, hj⟩ => ⟨j, e, by omega⟩)) q2 (o2.imp id (fun ⟨j, e, hj⟩ => ⟨j, e, by omega⟩)) q3 (o3.imp id (fun ⟨j, e, hj⟩ => ⟨j, e, by omega⟩)) hallc hall hgg
        have hBN := hBN.goes hKd.goes htd
        have hGc := hGc.trans hKd.goes.two'
        refine thn_n ?_
        refine W.region ?_
        obtain ⟨rowsE, hOE, hrlE, hrowE⟩ := hDd
        have hOE : OwnP owd td .log wl209 41 8 (.slice (some ⟨ba, 0, none⟩) (ds.set i ((ds.getD i default).add a [] false [])).length ca0) (ds.set i ((ds.getD i default).add a [] false [])).length rowsE.flatten := by
          rw [List.length_set] at hOE ⊢; exact hOE
        obtain ⟨tlE, hallE⟩ : ∃ tl, Box wl209 ba 41 (rowsE.flatten ++ tl) := by
          rcases Own.open hOE.1 with ⟨e, -⟩ | ⟨b', c', tl, e, -, -, -, hbx⟩
          · cases e
          · simp only [Value.slice.injEq, Option.some.injEq, Addr.mk.injEq, and_true, true_and] at e
            exact ⟨tl, by rw [e.1]; exact hbx⟩
        have hlenE : i * 8 + 8 ≤ (rowsE.flatten ++ tlE).length := by rw [List.length_append, flat_len (dids_lens hrlE hrowE), hrlE, List.length_set]; omega
        refine L.val (x_mv (v := .pointer _) rfl) rfl ?_
        refine L.val (x_nil rfl) rfl ?_
        refine L.val (x_fa ksest_fo41_6 rfl) rfl ?_
        refine L.set (v := .bool _) ksest_sz4 rfl rfl rfl hallE (by rw [Nat.blt_eq]; omega) (fun wl213 hallN hw hz213 => ?_)
        simp only [Nat.zero_add] at hallN
        obtain ⟨hKe, hDe⟩ := did_set (d' := { (ds.getD i default).add a [] false [] with writes := true }) hBN.free hOE hrlE hrowE (i := i) (j := 6) (by rw [List.length_set]; exact hi) (by decide) hallE hallN hw (by rw [getD_set hi, if_pos rfl]; exact fun _ _ _ _ => rfl) (by rw [getD_set hi, if_pos rfl]; exact ⟨rfl, rfl, rfl, rfl⟩)
        have hBN := hBN.goes hKe.goes htd
        have hGc := hGc.trans hKe.goes.two'
        rw [List.set_set, List.length_set] at hDe
        have hDd := hDe
        refine L.nil ?_
        refine blk_n ?_
        refine thn_n ?_
        refine W.seq ?_
        refine W.region ?_
        refine L.val (x_mv (v := .slice _ _ _) rfl) rfl ?_
        refine L.val (x_as (v := .slice _ _ _) rfl) rfl ?_
        refine L.nil ?_
        refine thn_n ?_
        refine W.ret (fin_mk (.inr rfl) ?_)
        rw [hst]
        exact ⟨_, _, _, _, _, hBN, hDd, hGc⟩
       ·have h163 := of_decide_eq_false g163
        have hke : okEd a.ed = false := by
          cases hq : okEd a.ed with
          | false => rfl
          | true => rw [hq] at h163; exact absurd rfl h163
        have hno : ¬ (s.isOpen a.id ∧ okEd a.ed = true) := fun hh => by rw [hke] at hh; cases hh.2
        rw [if_neg hno] at hBN
        have hst : stepS s ds a = (s, ds) := by unfold stepS; rw [if_neg hk, if_neg hid]; dsimp only; rw [if_neg hk1, if_neg hk2, if_pos hk3, if_neg hno]
        have hDd := hDc
        refine W.skip ?_
        refine blk_n ?_
        refine thn_n ?_
        refine W.seq ?_
        refine W.region ?_
        refine L.val (x_mv (v := .slice _ _ _) rfl) rfl ?_
        refine L.val (x_as (v := .slice _ _ _) rfl) rfl ?_
        refine L.nil ?_
        refine thn_n ?_
        refine W.ret (fin_mk (.inr rfl) ?_)
        rw [hst]
        exact ⟨_, _, _, _, _, hBN, hDd, hGc⟩
      ·have h156 := of_decide_eq_false g156
       exfalso; omega
theorem step_commit (ow : Labels) (tb td b bh bo N : Nat) (s : Bs) (ds : List Dd) (a : Ac) (v vl : Value) (lh : List (Str × Value)) (lo : List (Int × Value)) (rows : List (List Value)) (w : World) (h : BaseAt ow tb w b s bh bo vl lh lo rows) (hD : DidsAt ow td w v ds) (htd : tb ≠ td)
    (hN : Bnd N s) (hDN : DBnd N ds) (hN9 : N ≤ 900) (hae : EdOk a.ed) (hkk : a.kind = 4) (ho : s.isOpen a.id) :
    Ret Try.prog 17 #[.pointer (some ⟨b, 0, none⟩), v, .agg (acV a).toArray] w fun v' w' => ∃ ow' vl' lh' lo' rows', BaseAt ow' tb w' b (stepS s ds a).1 bh bo vl' lh' lo' rows' ∧ DidsAt ow' td w' v' (stepS s ds a).2 ∧ Goes2 tb td w w' ow ow' := by
  have hfl := hN.flat hN9
  have hgets : ∀ x ∈ s.all, x.gets.length ≤ 1000000 := fun x hx => by have := (hN.se x hx).2.2.1; omega
  have heds : ∀ x ∈ s.all, x.eds.length ≤ 1000000 := fun x hx => by have := (hN.se x hx).2.1; omega
  have hheads : ∀ x ∈ s.all, x.heads.length ≤ 1000000 ∧ x.eds.length ≤ 1000000 := fun x hx => by have := (hN.se x hx).2; omega
  have hats : ∀ x ∈ s.all, x.at_ ≤ s.log.length ∧ x.eds.length ≤ 1000000 := fun x hx => by have := (hN.se x hx); exact ⟨this.1, by omega⟩
  have hlg := hN.lg
  have hal0 := hN.al
  have hll := hN.ll
  have hdl := hDN.1
  have hf0 := h.free
  have hkv1 : (Value.slice none 0 0).oneCell' = true := rfl
  obtain ⟨pa, ca0, hvs⟩ : ∃ pa ca, v = .slice pa ds.length ca := by
    obtain ⟨rows, hO, -⟩ := hD
    obtain ⟨pa, ca, e, -⟩ := own_shape hO.1
    exact ⟨pa, ca, e⟩
  subst hvs
  refine ret_of_W Try.func17 rfl (Nat.le_of_ble_eq_true rfl) (res1 rfl) ?_
  refine W.seq ?_
  refine W.region ?_
  refine L.box (cs := acV a) rfl rfl (fun w5 bx5 hw hz5 => ?_)
  have hB := hw
  have hG5 : Goes tb w w5 ow ow := Goes.bel h.free hw
  have hBN := h.bel hw
  have hDc := hD.bel hw h.free
  have hGc : Goes2 tb td w w5 ow ow := hG5.two
  have hn5 : ow w.heap.size = none := hf0 _ (Nat.le_refl _)
  refine L.val (x_as (v := .slice _ _ _) rfl) rfl ?_
  refine L.nil ?_
  refine thn_n ?_
  refine W.seq ?_
  refine W.seq ?_
  refine W.region ?_
  refine L.val (x_fa ksest_fo36_0 rfl) rfl ?_
  refine L.val (x_ld (v := .int _ _) ksest_oc3 rfl (bx5.cell0 rfl)) rfl ?_
  refine L.val (x_lss rfl rfl) rfl ?_
  refine L.val (x_mv (v := .bool _) rfl) rfl ?_
  refine' L.group0 3 18 20 20 17 false rfl ?_ ?_ ?_
  rotate_left 1
  ·intro g17
   have h17 := dlt_f g17
   refine L.gyes' (dj := 17) (b := _) rfl rfl g17 ?_
   refine L.val (x_fa ksest_fo36_0 rfl) rfl ?_
   refine L.gyes' (dj := 17) (b := _) rfl rfl g17 ?_
   refine L.val (x_ld (v := .int _ _) ksest_oc3 rfl (bx5.cell0 rfl)) rfl ?_
   refine L.gyes' (dj := 17) (b := _) rfl rfl g17 ?_
   refine L.val (x_gtr rfl rfl) rfl ?_
   refine L.nil ?_
   refine thn_n ⟨rfl, rfl, ?_, rfl⟩
   repeat (first | exact jeq.refl _ _ _ | refine jeq.upd rfl ?_ | refine jeq.jk rfl rfl ?_)
  ·intro g17
   refine L.gno (dj := 17) (b := _) rfl rfl g17 rfl ?_
   refine L.gno (dj := 17) (b := _) rfl rfl g17 rfl ?_
   refine L.gno (dj := 17) (b := _) rfl rfl g17 rfl ?_
   refine L.nil (thn_n ⟨rfl, rfl, ?_⟩)
   repeat (first | exact jeq.refl _ _ _ | refine jeq.upd rfl ?_ | refine jeq.jk rfl rfl ?_)
  intro J17 j17
  refine L.val (x_or rfl j17) rfl ?_
  refine L.nil ?_
  refine thn_n ?_
  refine W.cond (b := _) rfl (fun g21 => ?_) (fun g21 => ?_)
  ·have h21 := g21
   exfalso; simp only [Bool.or_eq_true, decide_eq_true_eq] at g21; omega
  ·have h21 := g21
   have hk : ¬ (a.kind < 1 ∨ 5 < a.kind) := by simp only [Bool.or_eq_false_iff, decide_eq_false_iff_not] at g21; omega
   refine W.skip ?_
   refine thn_n ?_
   refine W.seq ?_
   refine W.seq ?_
   refine W.region ?_
   refine L.val (x_fa ksest_fo36_1 rfl) rfl ?_
   refine L.val (x_ld (v := .int _ _) ksest_oc3 rfl (bx5.cell0 rfl)) rfl ?_
   refine L.val (x_lss rfl rfl) rfl ?_
   refine L.val (x_mv (v := .bool _) rfl) rfl ?_
   refine' L.group0 5 35 39 39 34 false rfl ?_ ?_ ?_
   rotate_left 1
   ·intro g34
    have h34 := dlt_f g34
    refine L.gyes' (dj := 34) (b := _) rfl rfl g34 ?_
    refine L.val (x_fa ksest_fo36_1 rfl) rfl ?_
    refine L.gyes' (dj := 34) (b := _) rfl rfl g34 ?_
    refine L.val (x_ld (v := .int _ _) ksest_oc3 rfl (bx5.cell0 rfl)) rfl ?_
    refine L.gyes' (dj := 34) (b := _) rfl rfl g34 ?_
    refine L.val (x_mv (v := .slice _ _ _) rfl) rfl ?_
    refine L.gyes' (dj := 34) (b := _) rfl rfl g34 ?_
    refine L.val (x_len_slice Try.underlying29 rfl) rfl ?_
    refine L.gyes' (dj := 34) (b := _) rfl rfl g34 ?_
    refine L.val (x_gtr rfl rfl) rfl ?_
    refine L.nil ?_
    refine thn_n ⟨rfl, rfl, ?_, rfl⟩
    repeat (first | exact jeq.refl _ _ _ | refine jeq.upd rfl ?_ | refine jeq.jk rfl rfl ?_)
   ·intro g34
    refine L.gno (dj := 34) (b := _) rfl rfl g34 rfl ?_
    refine L.gno (dj := 34) (b := _) rfl rfl g34 rfl ?_
    refine L.gno (dj := 34) (b := _) rfl rfl g34 rfl ?_
    refine L.gno (dj := 34) (b := _) rfl rfl g34 rfl ?_
    refine L.gno (dj := 34) (b := _) rfl rfl g34 rfl ?_
    refine L.nil (thn_n ⟨rfl, rfl, ?_⟩)
    repeat (first | exact jeq.refl _ _ _ | refine jeq.upd rfl ?_ | refine jeq.jk rfl rfl ?_)
   intro J34 j34
   refine L.val (x_or rfl j34) rfl ?_
   refine L.nil ?_
   refine thn_n ?_
   refine W.cond (b := _) rfl (fun g40 => ?_) (fun g40 => ?_)
   ·have h40 := g40
    have hi : a.id < 1 ∨ (ds.length : Int) < a.id := by simp only [Bool.or_eq_true, decide_eq_true_eq] at g40; omega
    have hst : stepS s ds a = (s, ds) := by unfold stepS; rw [if_neg hk, if_pos hi]
    refine W.seq ?_
    refine W.region ?_
    refine L.val (x_mv (v := .slice _ _ _) rfl) rfl ?_
    refine L.val (x_as (v := .slice _ _ _) rfl) rfl ?_
    refine L.nil ?_
    refine thn_n ?_
    refine W.ret (thn_r (fin_mk (.inr rfl) ?_))
    rw [hst]
    exact ⟨_, _, _, _, _, hBN, hDc, hGc⟩
   ·have h40 := g40
    have hid : ¬ (a.id < 1 ∨ (ds.length : Int) < a.id) := by simp only [Bool.or_eq_false_iff, decide_eq_false_iff_not] at g40; omega
    obtain ⟨i, hai⟩ : ∃ i : Nat, i = a.id.toNat - 1 := ⟨_, rfl⟩
    have hil : i < ds.length := by omega
    obtain ⟨ba, hpa⟩ : ∃ ba, pa = some ⟨ba, 0, none⟩ := by
      obtain ⟨rowsq, hO, -⟩ := hDc
      exact own_pos hO.1 (by omega)
    subst hpa
    refine W.skip ?_
    refine thn_n ?_
    refine W.seq ?_
    refine W.region ?_
    refine L.val (x_mv (v := .slice _ _ _) rfl) rfl ?_
    refine L.val (x_fa ksest_fo36_1 rfl) rfl ?_
    refine L.val (x_ld (v := .int _ _) ksest_oc3 rfl (bx5.cell0 rfl)) rfl ?_
    refine L.val (x_sub rfl rfl (wr64 (by omega))) rfl ?_
    refine L.val (x_ia (j := i) Try.underlying29 ksest_sz41 rfl rfl (by omega) (by omega)) rfl ?_
    refine L.val (x_as (v := .pointer _) rfl) rfl ?_
    refine L.nil ?_
    refine thn_n ?_
    refine W.seq ?_
    refine W.seq ?_
    refine W.region ?_
    refine L.val (x_fa ksest_fo36_0 rfl) rfl ?_
    refine L.val (x_ld (v := .int _ _) ksest_oc3 rfl (bx5.cell0 rfl)) rfl ?_
    refine L.nil ?_
    refine thn_n ?_
    refine W.block ?_
    refine W.seq ?_
    refine W.region ?_
    refine L.val (x_eql rfl rfl) rfl ?_
    refine L.val (x_as (v := .bool _) rfl) rfl ?_
    refine L.nil ?_
    refine thn_n ?_
    refine W.cond (b := _) rfl (fun g50 => ?_) (fun g50 => ?_)
    ·have h50 := of_decide_eq_true g50
     exfalso; omega
    ·have h50 := of_decide_eq_false g50
     have hk1 : ¬ a.kind = 1 := h50
     refine W.seq ?_
     refine W.region ?_
     refine L.val (x_eql rfl rfl) rfl ?_
     refine L.val (x_as (v := .bool _) rfl) rfl ?_
     refine L.nil ?_
     refine thn_n ?_
     refine W.cond (b := _) rfl (fun g104 => ?_) (fun g104 => ?_)
     ·have h104 := of_decide_eq_true g104
      exfalso; omega
     ·have h104 := of_decide_eq_false g104
      have hk2 : ¬ a.kind = 2 := h104
      refine W.seq ?_
      refine W.region ?_
      refine L.val (x_eql rfl rfl) rfl ?_
      refine L.val (x_as (v := .bool _) rfl) rfl ?_
      refine L.nil ?_
      refine thn_n ?_
      refine W.cond (b := _) rfl (fun g156 => ?_) (fun g156 => ?_)
      ·have h156 := of_decide_eq_true g156
       exfalso; omega
      ·have h156 := of_decide_eq_false g156
       have hk3 : ¬ a.kind = 3 := h156
       refine W.seq ?_
       refine W.region ?_
       refine L.val (x_eql rfl rfl) rfl ?_
       refine L.val (x_as (v := .bool _) rfl) rfl ?_
       refine L.nil ?_
       refine thn_n ?_
       refine W.cond (b := _) rfl (fun g205 => ?_) (fun g205 => ?_)
       ·have h205 := of_decide_eq_true g205
        have hk4 : a.kind = 4 := h205
        refine W.seq ?_
        refine W.region ?_
        refine L.val (x_mv (v := .pointer _) rfl) rfl ?_
        refine L.ret (x_call ksest_en16 rfl) rfl (log_ok ow tb b bh bo s _ lh lo rows _ hBN (by omega) (fun l hl => by have := hll l hl; omega)) ?_
        rintro v207 w207 ⟨hL, hw⟩
        have hDc := hDc.bel hw hBN.free
        have hGc := hGc.trans (Goes.bel hBN.free hw).two
        have hBN := hBN.bel hw
        have bx5 := bx5.carry hw
        obtain ⟨p207, c207, row207, rfl, -⟩ := hL
        refine L.val (x_len_slice Try.underlying30 rfl) rfl ?_
        refine L.val (x_as (v := .int _ _) rfl) rfl ?_
        refine L.nil ?_
        refine thn_n ?_
        refine W.seq ?_
        refine W.region ?_
        refine L.val (x_mv (v := .pointer _) rfl) rfl ?_
        refine L.val (x_fa ksest_fo36_1 rfl) rfl ?_
        refine L.val (x_ld (v := .int _ _) ksest_oc3 rfl (bx5.cell0 rfl)) rfl ?_
        refine L.ret (x_call ksest_en42 rfl) rfl (commit_ok ow tb b bh bo s _ lh lo rows a.id _ hBN hats (by omega)) ?_
        rintro v212 wc ⟨rfl, owc, vlc, lhc, loc, rowsc, hG, hBN⟩
        have hn5' : owc w.heap.size = none := (hG.old _ bx5.lt).elim (fun e => e.trans hn5) (fun e => e.2)
        have hDc := hDc.goes hG htd.symm
        have hGc := hGc.trans hG.two
        have bx5 := bx5.carryR hG.gr (fun ⟨p, e⟩ => by rw [hn5] at e; cases e)
        have hn5 := hn5'
        rw [if_pos ho] at hBN ⊢
        refine L.nil ?_
        refine thn_n ?_
        refine W.block ?_
        refine W.seq ?_
        refine W.region ?_
        refine L.val (x_eql rfl rfl) rfl ?_
        refine L.val (x_as (v := .bool _) rfl) rfl ?_
        refine L.nil ?_
        refine thn_n ?_
        refine W.cond (b := _) rfl (fun g214 => ?_) (fun g214 => ?_)
        ·have h214 := of_decide_eq_true g214
         have hst : stepS s ds a = (s.commitS a.id, ds.set i { ds.getD i default with end_ := (s.log.length : Nat) }) := by unfold stepS; rw [if_neg hk, if_neg hid]; dsimp only; rw [if_neg hk1, if_neg hk2, if_neg hk3, if_pos hk4, if_pos ho, if_pos h214, hai]
         have hi : i < ds.length := hil
         obtain ⟨rowsD, hOl, hrl, hrow⟩ := id hDc
         obtain ⟨va, vv, vt, vk, kr, hr, d2, d3, d4, d5, d6, d7⟩ := hrow i hi
         obtain ⟨aa, ca, rfl, -⟩ := own_shape d2.1
         obtain ⟨av, cv, rfl, -⟩ := own_shape d3.1
         obtain ⟨at_, ct, rfl, -⟩ := own_shape d4.1
         obtain ⟨ak, ck, rfl, -⟩ := own_shape d5.1
         have h8 := dids_lens hrl hrow
         obtain ⟨tl, hallc⟩ : ∃ tl, Box wc ba 41 (rowsD.flatten ++ tl) := by
           rcases Own.open hOl.1 with ⟨e, -⟩ | ⟨b', c', tl, e, -, -, -, hbx⟩
           · cases e
           · simp only [Value.slice.injEq, Option.some.injEq, Addr.mk.injEq, and_true, true_and] at e
             exact ⟨tl, by rw [e.1]; exact hbx⟩
         have hall := hallc
         have hc0 : (rowsD.flatten ++ tl)[0 + i * 8 + 0]? = some (.slice aa (ds.getD i default).acts.length ca) := by rw [Nat.zero_add]; exact row_cell h8 (by omega) (by omega) (by rw [hr]; rfl)
         have hc1 : (rowsD.flatten ++ tl)[0 + i * 8 + 1]? = some (.slice av (ds.getD i default).values.length cv) := by rw [Nat.zero_add]; exact row_cell h8 (by omega) (by omega) (by rw [hr]; rfl)
         have hc2 : (rowsD.flatten ++ tl)[0 + i * 8 + 2]? = some (.slice at_ (ds.getD i default).there.length ct) := by rw [Nat.zero_add]; exact row_cell h8 (by omega) (by omega) (by rw [hr]; rfl)
         have hc3 : (rowsD.flatten ++ tl)[0 + i * 8 + 3]? = some (.slice ak (ds.getD i default).keys.length ck) := by rw [Nat.zero_add]; exact row_cell h8 (by omega) (by omega) (by rw [hr]; rfl)
         have hlen0 : i * 8 + 8 ≤ (rowsD.flatten ++ tl).length := by rw [List.length_append, flat_len h8, hrl]; omega
         have hal := hDN.2 (ds.getD i default) (by rw [List.getD_eq_getElem?_getD, List.getElem?_eq_getElem hi]; exact List.getElem_mem hi)
         obtain ⟨-, dl1, dl2, dl3⟩ := id d7
         have hba : owc ba = some (td, .log) := hOl.2 ba rfl
         have hba5 : w.heap.size ≠ ba := fun e => by rw [← e, hn5] at hba; cases hba
         have hqq : ∀ {v : Value} {p : Part}, (∀ j, some j = v.ownBlock → owc j = some (td, p)) → p ≠ .log → ∀ j, some j = v.ownBlock → j ≠ w.heap.size ∧ j ≠ ba := fun {v p} hl hp j hj => ⟨fun e => (by have := hl j hj; rw [e, hn5] at this; cases this), fun e => (by have := hl j hj; rw [e, hba] at this; simp at this; exact hp this.symm)⟩
         have hq2 := hqq d2.2 (by simp)
         have hq3 := hqq d3.2 (by simp)
         have hq4 := hqq d4.2 (by simp)
         have hq5 := hqq d5.2 (by simp)
         refine W.region ?_
         refine L.val (x_mv (v := .pointer _) rfl) rfl ?_
         refine L.val (x_mv (v := .int _ _) rfl) rfl ?_
         refine L.val (x_nil rfl) rfl ?_
         refine L.val (x_fa ksest_fo41_5 rfl) rfl ?_
         refine L.set (v := .int _ _) ksest_sz3 rfl rfl rfl hall (by rw [Nat.blt_eq]; omega) (fun wl230 hallN hw hz230 => ?_)
         simp only [Nat.zero_add] at hallN
         obtain ⟨hKe, hDd⟩ := did_set (d' := { ds.getD i default with end_ := (s.log.length : Nat) }) hBN.free hOl hrl hrow (i := i) (j := 5) hi (by decide) hallc hallN hw (fun _ _ _ _ => rfl) ⟨rfl, rfl, rfl, rfl⟩
         have hBN := hBN.goes hKe.goes htd
         have hGc := hGc.trans hKe.goes.two'
         refine L.nil ?_
         refine blk_n ?_
         refine blk_n ?_
         refine thn_n ?_
         refine W.seq ?_
         refine W.region ?_
         refine L.val (x_mv (v := .slice _ _ _) rfl) rfl ?_
         refine L.val (x_as (v := .slice _ _ _) rfl) rfl ?_
         refine L.nil ?_
         refine thn_n ?_
         refine W.ret (fin_mk (.inr rfl) ?_)
         rw [hst]
         exact ⟨_, _, _, _, _, hBN, hDd, hGc⟩
        ·have h214 := of_decide_eq_false g214
         have hca : s.commitA a.id = 401 := by
           have : s.commitA a.id = 401 ∨ s.commitA a.id = 0 := by unfold Bs.commitA; split <;> simp
           exact this.resolve_right h214
         refine W.seq ?_
         refine W.region ?_
         refine L.val (x_eql rfl rfl) rfl ?_
         refine L.val (x_as (v := .bool _) rfl) rfl ?_
         refine L.nil ?_
         refine thn_n ?_
         refine W.cond (b := _) rfl (fun g220 => ?_) (fun g220 => ?_)
         ·have h220 := of_decide_eq_true g220
          have hst : stepS s ds a = (s.commitS a.id, ds.set i { ds.getD i default with clashed := true }) := by unfold stepS; rw [if_neg hk, if_neg hid]; dsimp only; rw [if_neg hk1, if_neg hk2, if_neg hk3, if_pos hk4, if_pos ho, if_neg h214, hai]
          have hi : i < ds.length := hil
          obtain ⟨rowsD, hOl, hrl, hrow⟩ := id hDc
          obtain ⟨va, vv, vt, vk, kr, hr, d2, d3, d4, d5, d6, d7⟩ := hrow i hi
          obtain ⟨aa, ca, rfl, -⟩ := own_shape d2.1
          obtain ⟨av, cv, rfl, -⟩ := own_shape d3.1
          obtain ⟨at_, ct, rfl, -⟩ := own_shape d4.1
          obtain ⟨ak, ck, rfl, -⟩ := own_shape d5.1
          have h8 := dids_lens hrl hrow
          obtain ⟨tl, hallc⟩ : ∃ tl, Box wc ba 41 (rowsD.flatten ++ tl) := by
            rcases Own.open hOl.1 with ⟨e, -⟩ | ⟨b', c', tl, e, -, -, -, hbx⟩
            · cases e
            · simp only [Value.slice.injEq, Option.some.injEq, Addr.mk.injEq, and_true, true_and] at e
              exact ⟨tl, by rw [e.1]; exact hbx⟩
          have hall := hallc
          have hc0 : (rowsD.flatten ++ tl)[0 + i * 8 + 0]? = some (.slice aa (ds.getD i default).acts.length ca) := by rw [Nat.zero_add]; exact row_cell h8 (by omega) (by omega) (by rw [hr]; rfl)
          have hc1 : (rowsD.flatten ++ tl)[0 + i * 8 + 1]? = some (.slice av (ds.getD i default).values.length cv) := by rw [Nat.zero_add]; exact row_cell h8 (by omega) (by omega) (by rw [hr]; rfl)
          have hc2 : (rowsD.flatten ++ tl)[0 + i * 8 + 2]? = some (.slice at_ (ds.getD i default).there.length ct) := by rw [Nat.zero_add]; exact row_cell h8 (by omega) (by omega) (by rw [hr]; rfl)
          have hc3 : (rowsD.flatten ++ tl)[0 + i * 8 + 3]? = some (.slice ak (ds.getD i default).keys.length ck) := by rw [Nat.zero_add]; exact row_cell h8 (by omega) (by omega) (by rw [hr]; rfl)
          have hlen0 : i * 8 + 8 ≤ (rowsD.flatten ++ tl).length := by rw [List.length_append, flat_len h8, hrl]; omega
          have hal := hDN.2 (ds.getD i default) (by rw [List.getD_eq_getElem?_getD, List.getElem?_eq_getElem hi]; exact List.getElem_mem hi)
          obtain ⟨-, dl1, dl2, dl3⟩ := id d7
          have hba : owc ba = some (td, .log) := hOl.2 ba rfl
          have hba5 : w.heap.size ≠ ba := fun e => by rw [← e, hn5] at hba; cases hba
          have hqq : ∀ {v : Value} {p : Part}, (∀ j, some j = v.ownBlock → owc j = some (td, p)) → p ≠ .log → ∀ j, some j = v.ownBlock → j ≠ w.heap.size ∧ j ≠ ba := fun {v p} hl hp j hj => ⟨fun e => (by have := hl j hj; rw [e, hn5] at this; cases this), fun e => (by have := hl j hj; rw [e, hba] at this; simp at this; exact hp this.symm)⟩
          have hq2 := hqq d2.2 (by simp)
          have hq3 := hqq d3.2 (by simp)
          have hq4 := hqq d4.2 (by simp)
          have hq5 := hqq d5.2 (by simp)
          refine W.region ?_
          refine L.val (x_mv (v := .pointer _) rfl) rfl ?_
          refine L.val (x_nil rfl) rfl ?_
          refine L.val (x_fa ksest_fo41_7 rfl) rfl ?_
          refine L.set (v := .bool _) ksest_sz4 rfl rfl rfl hall (by rw [Nat.blt_eq]; omega) (fun wl236 hallN hw hz236 => ?_)
          simp only [Nat.zero_add] at hallN
          obtain ⟨hKe, hDd⟩ := did_set (d' := { ds.getD i default with clashed := true }) hBN.free hOl hrl hrow (i := i) (j := 7) hi (by decide) hallc hallN hw (fun _ _ _ _ => rfl) ⟨rfl, rfl, rfl, rfl⟩
          have hBN := hBN.goes hKe.goes htd
          have hGc := hGc.trans hKe.goes.two'
          refine L.nil ?_
          refine blk_n ?_
          refine blk_n ?_
          refine thn_n ?_
          refine W.seq ?_
          refine W.region ?_
          refine L.val (x_mv (v := .slice _ _ _) rfl) rfl ?_
          refine L.val (x_as (v := .slice _ _ _) rfl) rfl ?_
          refine L.nil ?_
          refine thn_n ?_
          refine W.ret (fin_mk (.inr rfl) ?_)
          rw [hst]
          exact ⟨_, _, _, _, _, hBN, hDd, hGc⟩
         ·have h220 := of_decide_eq_false g220
          exact absurd hca h220
       ·have h205 := of_decide_eq_false g205
        exfalso; omega
theorem step_abort (ow : Labels) (tb td b bh bo N : Nat) (s : Bs) (ds : List Dd) (a : Ac) (v vl : Value) (lh : List (Str × Value)) (lo : List (Int × Value)) (rows : List (List Value)) (w : World) (h : BaseAt ow tb w b s bh bo vl lh lo rows) (hD : DidsAt ow td w v ds) (htd : tb ≠ td)
    (hN : Bnd N s) (hDN : DBnd N ds) (hN9 : N ≤ 900) (hae : EdOk a.ed) (hkk : a.kind = 5) (ho : s.isOpen a.id) :
    Ret Try.prog 17 #[.pointer (some ⟨b, 0, none⟩), v, .agg (acV a).toArray] w fun v' w' => ∃ ow' vl' lh' lo' rows', BaseAt ow' tb w' b (stepS s ds a).1 bh bo vl' lh' lo' rows' ∧ DidsAt ow' td w' v' (stepS s ds a).2 ∧ Goes2 tb td w w' ow ow' := by
  have hfl := hN.flat hN9
  have hgets : ∀ x ∈ s.all, x.gets.length ≤ 1000000 := fun x hx => by have := (hN.se x hx).2.2.1; omega
  have heds : ∀ x ∈ s.all, x.eds.length ≤ 1000000 := fun x hx => by have := (hN.se x hx).2.1; omega
  have hheads : ∀ x ∈ s.all, x.heads.length ≤ 1000000 ∧ x.eds.length ≤ 1000000 := fun x hx => by have := (hN.se x hx).2; omega
  have hats : ∀ x ∈ s.all, x.at_ ≤ s.log.length ∧ x.eds.length ≤ 1000000 := fun x hx => by have := (hN.se x hx); exact ⟨this.1, by omega⟩
  have hlg := hN.lg
  have hal0 := hN.al
  have hll := hN.ll
  have hdl := hDN.1
  have hf0 := h.free
  have hkv1 : (Value.slice none 0 0).oneCell' = true := rfl
  obtain ⟨pa, ca0, hvs⟩ : ∃ pa ca, v = .slice pa ds.length ca := by
    obtain ⟨rows, hO, -⟩ := hD
    obtain ⟨pa, ca, e, -⟩ := own_shape hO.1
    exact ⟨pa, ca, e⟩
  subst hvs
  refine ret_of_W Try.func17 rfl (Nat.le_of_ble_eq_true rfl) (res1 rfl) ?_
  refine W.seq ?_
  refine W.region ?_
  refine L.box (cs := acV a) rfl rfl (fun w5 bx5 hw hz5 => ?_)
  have hB := hw
  have hG5 : Goes tb w w5 ow ow := Goes.bel h.free hw
  have hBN := h.bel hw
  have hDc := hD.bel hw h.free
  have hGc : Goes2 tb td w w5 ow ow := hG5.two
  have hn5 : ow w.heap.size = none := hf0 _ (Nat.le_refl _)
  refine L.val (x_as (v := .slice _ _ _) rfl) rfl ?_
  refine L.nil ?_
  refine thn_n ?_
  refine W.seq ?_
  refine W.seq ?_
  refine W.region ?_
  refine L.val (x_fa ksest_fo36_0 rfl) rfl ?_
  refine L.val (x_ld (v := .int _ _) ksest_oc3 rfl (bx5.cell0 rfl)) rfl ?_
  refine L.val (x_lss rfl rfl) rfl ?_
  refine L.val (x_mv (v := .bool _) rfl) rfl ?_
  refine' L.group0 3 18 20 20 17 false rfl ?_ ?_ ?_
  rotate_left 1
  ·intro g17
   have h17 := dlt_f g17
   refine L.gyes' (dj := 17) (b := _) rfl rfl g17 ?_
   refine L.val (x_fa ksest_fo36_0 rfl) rfl ?_
   refine L.gyes' (dj := 17) (b := _) rfl rfl g17 ?_
   refine L.val (x_ld (v := .int _ _) ksest_oc3 rfl (bx5.cell0 rfl)) rfl ?_
   refine L.gyes' (dj := 17) (b := _) rfl rfl g17 ?_
   refine L.val (x_gtr rfl rfl) rfl ?_
   refine L.nil ?_
   refine thn_n ⟨rfl, rfl, ?_, rfl⟩
   repeat (first | exact jeq.refl _ _ _ | refine jeq.upd rfl ?_ | refine jeq.jk rfl rfl ?_)
  ·intro g17
   refine L.gno (dj := 17) (b := _) rfl rfl g17 rfl ?_
   refine L.gno (dj := 17) (b := _) rfl rfl g17 rfl ?_
   refine L.gno (dj := 17) (b := _) rfl rfl g17 rfl ?_
   refine L.nil (thn_n ⟨rfl, rfl, ?_⟩)
   repeat (first | exact jeq.refl _ _ _ | refine jeq.upd rfl ?_ | refine jeq.jk rfl rfl ?_)
  intro J17 j17
  refine L.val (x_or rfl j17) rfl ?_
  refine L.nil ?_
  refine thn_n ?_
  refine W.cond (b := _) rfl (fun g21 => ?_) (fun g21 => ?_)
  ·have h21 := g21
   exfalso; simp only [Bool.or_eq_true, decide_eq_true_eq] at g21; omega
  ·have h21 := g21
   have hk : ¬ (a.kind < 1 ∨ 5 < a.kind) := by simp only [Bool.or_eq_false_iff, decide_eq_false_iff_not] at g21; omega
   refine W.skip ?_
   refine thn_n ?_
   refine W.seq ?_
   refine W.seq ?_
   refine W.region ?_
   refine L.val (x_fa ksest_fo36_1 rfl) rfl ?_
   refine L.val (x_ld (v := .int _ _) ksest_oc3 rfl (bx5.cell0 rfl)) rfl ?_
   refine L.val (x_lss rfl rfl) rfl ?_
   refine L.val (x_mv (v := .bool _) rfl) rfl ?_
   refine' L.group0 5 35 39 39 34 false rfl ?_ ?_ ?_
   rotate_left 1
   ·intro g34
    have h34 := dlt_f g34
    refine L.gyes' (dj := 34) (b := _) rfl rfl g34 ?_
    refine L.val (x_fa ksest_fo36_1 rfl) rfl ?_
    refine L.gyes' (dj := 34) (b := _) rfl rfl g34 ?_
    refine L.val (x_ld (v := .int _ _) ksest_oc3 rfl (bx5.cell0 rfl)) rfl ?_
    refine L.gyes' (dj := 34) (b := _) rfl rfl g34 ?_
    refine L.val (x_mv (v := .slice _ _ _) rfl) rfl ?_
    refine L.gyes' (dj := 34) (b := _) rfl rfl g34 ?_
    refine L.val (x_len_slice Try.underlying29 rfl) rfl ?_
    refine L.gyes' (dj := 34) (b := _) rfl rfl g34 ?_
    refine L.val (x_gtr rfl rfl) rfl ?_
    refine L.nil ?_
    refine thn_n ⟨rfl, rfl, ?_, rfl⟩
    repeat (first | exact jeq.refl _ _ _ | refine jeq.upd rfl ?_ | refine jeq.jk rfl rfl ?_)
   ·intro g34
    refine L.gno (dj := 34) (b := _) rfl rfl g34 rfl ?_
    refine L.gno (dj := 34) (b := _) rfl rfl g34 rfl ?_
    refine L.gno (dj := 34) (b := _) rfl rfl g34 rfl ?_
    refine L.gno (dj := 34) (b := _) rfl rfl g34 rfl ?_
    refine L.gno (dj := 34) (b := _) rfl rfl g34 rfl ?_
    refine L.nil (thn_n ⟨rfl, rfl, ?_⟩)
    repeat (first | exact jeq.refl _ _ _ | refine jeq.upd rfl ?_ | refine jeq.jk rfl rfl ?_)
   intro J34 j34
   refine L.val (x_or rfl j34) rfl ?_
   refine L.nil ?_
   refine thn_n ?_
   refine W.cond (b := _) rfl (fun g40 => ?_) (fun g40 => ?_)
   ·have h40 := g40
    have hi : a.id < 1 ∨ (ds.length : Int) < a.id := by simp only [Bool.or_eq_true, decide_eq_true_eq] at g40; omega
    have hst : stepS s ds a = (s, ds) := by unfold stepS; rw [if_neg hk, if_pos hi]
    refine W.seq ?_
    refine W.region ?_
    refine L.val (x_mv (v := .slice _ _ _) rfl) rfl ?_
    refine L.val (x_as (v := .slice _ _ _) rfl) rfl ?_
    refine L.nil ?_
    refine thn_n ?_
    refine W.ret (thn_r (fin_mk (.inr rfl) ?_))
    rw [hst]
    exact ⟨_, _, _, _, _, hBN, hDc, hGc⟩
   ·have h40 := g40
    have hid : ¬ (a.id < 1 ∨ (ds.length : Int) < a.id) := by simp only [Bool.or_eq_false_iff, decide_eq_false_iff_not] at g40; omega
    obtain ⟨i, hai⟩ : ∃ i : Nat, i = a.id.toNat - 1 := ⟨_, rfl⟩
    have hil : i < ds.length := by omega
    obtain ⟨ba, hpa⟩ : ∃ ba, pa = some ⟨ba, 0, none⟩ := by
      obtain ⟨rowsq, hO, -⟩ := hDc
      exact own_pos hO.1 (by omega)
    subst hpa
    refine W.skip ?_
    refine thn_n ?_
    refine W.seq ?_
    refine W.region ?_
    refine L.val (x_mv (v := .slice _ _ _) rfl) rfl ?_
    refine L.val (x_fa ksest_fo36_1 rfl) rfl ?_
    refine L.val (x_ld (v := .int _ _) ksest_oc3 rfl (bx5.cell0 rfl)) rfl ?_
    refine L.val (x_sub rfl rfl (wr64 (by omega))) rfl ?_
    refine L.val (x_ia (j := i) Try.underlying29 ksest_sz41 rfl rfl (by omega) (by omega)) rfl ?_
    refine L.val (x_as (v := .pointer _) rfl) rfl ?_
    refine L.nil ?_
    refine thn_n ?_
    refine W.seq ?_
    refine W.seq ?_
    refine W.region ?_
    refine L.val (x_fa ksest_fo36_0 rfl) rfl ?_
    refine L.val (x_ld (v := .int _ _) ksest_oc3 rfl (bx5.cell0 rfl)) rfl ?_
    refine L.nil ?_
    refine thn_n ?_
    refine W.block ?_
    refine W.seq ?_
    refine W.region ?_
    refine L.val (x_eql rfl rfl) rfl ?_
    refine L.val (x_as (v := .bool _) rfl) rfl ?_
    refine L.nil ?_
    refine thn_n ?_
    refine W.cond (b := _) rfl (fun g50 => ?_) (fun g50 => ?_)
    ·have h50 := of_decide_eq_true g50
     exfalso; omega
    ·have h50 := of_decide_eq_false g50
     have hk1 : ¬ a.kind = 1 := h50
     refine W.seq ?_
     refine W.region ?_
     refine L.val (x_eql rfl rfl) rfl ?_
     refine L.val (x_as (v := .bool _) rfl) rfl ?_
     refine L.nil ?_
     refine thn_n ?_
     refine W.cond (b := _) rfl (fun g104 => ?_) (fun g104 => ?_)
     ·have h104 := of_decide_eq_true g104
      exfalso; omega
     ·have h104 := of_decide_eq_false g104
      have hk2 : ¬ a.kind = 2 := h104
      refine W.seq ?_
      refine W.region ?_
      refine L.val (x_eql rfl rfl) rfl ?_
      refine L.val (x_as (v := .bool _) rfl) rfl ?_
      refine L.nil ?_
      refine thn_n ?_
      refine W.cond (b := _) rfl (fun g156 => ?_) (fun g156 => ?_)
      ·have h156 := of_decide_eq_true g156
       exfalso; omega
      ·have h156 := of_decide_eq_false g156
       have hk3 : ¬ a.kind = 3 := h156
       refine W.seq ?_
       refine W.region ?_
       refine L.val (x_eql rfl rfl) rfl ?_
       refine L.val (x_as (v := .bool _) rfl) rfl ?_
       refine L.nil ?_
       refine thn_n ?_
       refine W.cond (b := _) rfl (fun g205 => ?_) (fun g205 => ?_)
       ·have h205 := of_decide_eq_true g205
        exfalso; omega
       ·have h205 := of_decide_eq_false g205
        have hk4 : ¬ a.kind = 4 := h205
        refine W.seq ?_
        refine W.region ?_
        refine L.val (x_eql rfl rfl) rfl ?_
        refine L.val (x_as (v := .bool _) rfl) rfl ?_
        refine L.nil ?_
        refine thn_n ?_
        refine W.cond (b := _) rfl (fun g225 => ?_) (fun g225 => ?_)
        ·have h225 := of_decide_eq_true g225
         refine W.region ?_
         refine L.val (x_mv (v := .pointer _) rfl) rfl ?_
         refine L.val (x_fa ksest_fo36_1 rfl) rfl ?_
         refine L.val (x_ld (v := .int _ _) ksest_oc3 rfl (bx5.cell0 rfl)) rfl ?_
         refine L.ret (x_call ksest_en22 rfl) rfl (abort_ok ow tb b bh bo s _ lh lo rows a.id _ hBN) ?_
         rintro v229 wc ⟨rfl, hG, lo9, hBN⟩
         have hDd := hDc.goes hG htd.symm
         have hGc := hGc.trans hG.two
         rw [if_pos ho] at hBN
         have hst : stepS s ds a = (s.shut a.id, ds) := by unfold stepS; rw [if_neg hk, if_neg hid]; dsimp only; rw [if_neg hk1, if_neg hk2, if_neg hk3, if_neg hk4, if_pos ho]
         refine L.nil ?_
         refine blk_n ?_
         refine thn_n ?_
         refine W.seq ?_
         refine W.region ?_
         refine L.val (x_mv (v := .slice _ _ _) rfl) rfl ?_
         refine L.val (x_as (v := .slice _ _ _) rfl) rfl ?_
         refine L.nil ?_
         refine thn_n ?_
         refine W.ret (fin_mk (.inr rfl) ?_)
         rw [hst]
         exact ⟨_, _, _, _, _, hBN, hDd, hGc⟩
        ·have h225 := of_decide_eq_false g225
         exfalso; omega
theorem step_getN (ow : Labels) (tb td b bh bo N : Nat) (s : Bs) (ds : List Dd) (a : Ac) (v vl : Value) (lh : List (Str × Value)) (lo : List (Int × Value)) (rows : List (List Value)) (w : World) (h : BaseAt ow tb w b s bh bo vl lh lo rows) (hD : DidsAt ow td w v ds) (htd : tb ≠ td)
    (hN : Bnd N s) (hDN : DBnd N ds) (hN9 : N ≤ 900) (hae : EdOk a.ed) (hkk : a.kind = 1) (ho : ¬ s.isOpen a.id) :
    Ret Try.prog 17 #[.pointer (some ⟨b, 0, none⟩), v, .agg (acV a).toArray] w fun v' w' => ∃ ow' vl' lh' lo' rows', BaseAt ow' tb w' b (stepS s ds a).1 bh bo vl' lh' lo' rows' ∧ DidsAt ow' td w' v' (stepS s ds a).2 ∧ Goes2 tb td w w' ow ow' := by
  have hfl := hN.flat hN9
  have hgets : ∀ x ∈ s.all, x.gets.length ≤ 1000000 := fun x hx => by have := (hN.se x hx).2.2.1; omega
  have heds : ∀ x ∈ s.all, x.eds.length ≤ 1000000 := fun x hx => by have := (hN.se x hx).2.1; omega
  have hheads : ∀ x ∈ s.all, x.heads.length ≤ 1000000 ∧ x.eds.length ≤ 1000000 := fun x hx => by have := (hN.se x hx).2; omega
  have hats : ∀ x ∈ s.all, x.at_ ≤ s.log.length ∧ x.eds.length ≤ 1000000 := fun x hx => by have := (hN.se x hx); exact ⟨this.1, by omega⟩
  have hlg := hN.lg
  have hal0 := hN.al
  have hll := hN.ll
  have hdl := hDN.1
  have hf0 := h.free
  have hkv1 : (Value.slice none 0 0).oneCell' = true := rfl
  obtain ⟨pa, ca0, hvs⟩ : ∃ pa ca, v = .slice pa ds.length ca := by
    obtain ⟨rows, hO, -⟩ := hD
    obtain ⟨pa, ca, e, -⟩ := own_shape hO.1
    exact ⟨pa, ca, e⟩
  subst hvs
  refine ret_of_W Try.func17 rfl (Nat.le_of_ble_eq_true rfl) (res1 rfl) ?_
  refine W.seq ?_
  refine W.region ?_
  refine L.box (cs := acV a) rfl rfl (fun w5 bx5 hw hz5 => ?_)
  have hB := hw
  have hG5 : Goes tb w w5 ow ow := Goes.bel h.free hw
  have hBN := h.bel hw
  have hDc := hD.bel hw h.free
  have hGc : Goes2 tb td w w5 ow ow := hG5.two
  have hn5 : ow w.heap.size = none := hf0 _ (Nat.le_refl _)
  refine L.val (x_as (v := .slice _ _ _) rfl) rfl ?_
  refine L.nil ?_
  refine thn_n ?_
  refine W.seq ?_
  refine W.seq ?_
  refine W.region ?_
  refine L.val (x_fa ksest_fo36_0 rfl) rfl ?_
  refine L.val (x_ld (v := .int _ _) ksest_oc3 rfl (bx5.cell0 rfl)) rfl ?_
  refine L.val (x_lss rfl rfl) rfl ?_
  refine L.val (x_mv (v := .bool _) rfl) rfl ?_
  refine' L.group0 3 18 20 20 17 false rfl ?_ ?_ ?_
  rotate_left 1
  ·intro g17
   have h17 := dlt_f g17
   refine L.gyes' (dj := 17) (b := _) rfl rfl g17 ?_
   refine L.val (x_fa ksest_fo36_0 rfl) rfl ?_
   refine L.gyes' (dj := 17) (b := _) rfl rfl g17 ?_
   refine L.val (x_ld (v := .int _ _) ksest_oc3 rfl (bx5.cell0 rfl)) rfl ?_
   refine L.gyes' (dj := 17) (b := _) rfl rfl g17 ?_
   refine L.val (x_gtr rfl rfl) rfl ?_
   refine L.nil ?_
   refine thn_n ⟨rfl, rfl, ?_, rfl⟩
   repeat (first | exact jeq.refl _ _ _ | refine jeq.upd rfl ?_ | refine jeq.jk rfl rfl ?_)
  ·intro g17
   refine L.gno (dj := 17) (b := _) rfl rfl g17 rfl ?_
   refine L.gno (dj := 17) (b := _) rfl rfl g17 rfl ?_
   refine L.gno (dj := 17) (b := _) rfl rfl g17 rfl ?_
   refine L.nil (thn_n ⟨rfl, rfl, ?_⟩)
   repeat (first | exact jeq.refl _ _ _ | refine jeq.upd rfl ?_ | refine jeq.jk rfl rfl ?_)
  intro J17 j17
  refine L.val (x_or rfl j17) rfl ?_
  refine L.nil ?_
  refine thn_n ?_
  refine W.cond (b := _) rfl (fun g21 => ?_) (fun g21 => ?_)
  ·have h21 := g21
   exfalso; simp only [Bool.or_eq_true, decide_eq_true_eq] at g21; omega
  ·have h21 := g21
   have hk : ¬ (a.kind < 1 ∨ 5 < a.kind) := by simp only [Bool.or_eq_false_iff, decide_eq_false_iff_not] at g21; omega
   refine W.skip ?_
   refine thn_n ?_
   refine W.seq ?_
   refine W.seq ?_
   refine W.region ?_
   refine L.val (x_fa ksest_fo36_1 rfl) rfl ?_
   refine L.val (x_ld (v := .int _ _) ksest_oc3 rfl (bx5.cell0 rfl)) rfl ?_
   refine L.val (x_lss rfl rfl) rfl ?_
   refine L.val (x_mv (v := .bool _) rfl) rfl ?_
   refine' L.group0 5 35 39 39 34 false rfl ?_ ?_ ?_
   rotate_left 1
   ·intro g34
    have h34 := dlt_f g34
    refine L.gyes' (dj := 34) (b := _) rfl rfl g34 ?_
    refine L.val (x_fa ksest_fo36_1 rfl) rfl ?_
    refine L.gyes' (dj := 34) (b := _) rfl rfl g34 ?_
    refine L.val (x_ld (v := .int _ _) ksest_oc3 rfl (bx5.cell0 rfl)) rfl ?_
    refine L.gyes' (dj := 34) (b := _) rfl rfl g34 ?_
    refine L.val (x_mv (v := .slice _ _ _) rfl) rfl ?_
    refine L.gyes' (dj := 34) (b := _) rfl rfl g34 ?_
    refine L.val (x_len_slice Try.underlying29 rfl) rfl ?_
    refine L.gyes' (dj := 34) (b := _) rfl rfl g34 ?_
    refine L.val (x_gtr rfl rfl) rfl ?_
    refine L.nil ?_
    refine thn_n ⟨rfl, rfl, ?_, rfl⟩
    repeat (first | exact jeq.refl _ _ _ | refine jeq.upd rfl ?_ | refine jeq.jk rfl rfl ?_)
   ·intro g34
    refine L.gno (dj := 34) (b := _) rfl rfl g34 rfl ?_
    refine L.gno (dj := 34) (b := _) rfl rfl g34 rfl ?_
    refine L.gno (dj := 34) (b := _) rfl rfl g34 rfl ?_
    refine L.gno (dj := 34) (b := _) rfl rfl g34 rfl ?_
    refine L.gno (dj := 34) (b := _) rfl rfl g34 rfl ?_
    refine L.nil (thn_n ⟨rfl, rfl, ?_⟩)
    repeat (first | exact jeq.refl _ _ _ | refine jeq.upd rfl ?_ | refine jeq.jk rfl rfl ?_)
   intro J34 j34
   refine L.val (x_or rfl j34) rfl ?_
   refine L.nil ?_
   refine thn_n ?_
   refine W.cond (b := _) rfl (fun g40 => ?_) (fun g40 => ?_)
   ·have h40 := g40
    have hi : a.id < 1 ∨ (ds.length : Int) < a.id := by simp only [Bool.or_eq_true, decide_eq_true_eq] at g40; omega
    have hst : stepS s ds a = (s, ds) := by unfold stepS; rw [if_neg hk, if_pos hi]
    refine W.seq ?_
    refine W.region ?_
    refine L.val (x_mv (v := .slice _ _ _) rfl) rfl ?_
    refine L.val (x_as (v := .slice _ _ _) rfl) rfl ?_
    refine L.nil ?_
    refine thn_n ?_
    refine W.ret (thn_r (fin_mk (.inr rfl) ?_))
    rw [hst]
    exact ⟨_, _, _, _, _, hBN, hDc, hGc⟩
   ·have h40 := g40
    have hid : ¬ (a.id < 1 ∨ (ds.length : Int) < a.id) := by simp only [Bool.or_eq_false_iff, decide_eq_false_iff_not] at g40; omega
    obtain ⟨i, hai⟩ : ∃ i : Nat, i = a.id.toNat - 1 := ⟨_, rfl⟩
    have hil : i < ds.length := by omega
    obtain ⟨ba, hpa⟩ : ∃ ba, pa = some ⟨ba, 0, none⟩ := by
      obtain ⟨rowsq, hO, -⟩ := hDc
      exact own_pos hO.1 (by omega)
    subst hpa
    refine W.skip ?_
    refine thn_n ?_
    refine W.seq ?_
    refine W.region ?_
    refine L.val (x_mv (v := .slice _ _ _) rfl) rfl ?_
    refine L.val (x_fa ksest_fo36_1 rfl) rfl ?_
    refine L.val (x_ld (v := .int _ _) ksest_oc3 rfl (bx5.cell0 rfl)) rfl ?_
    refine L.val (x_sub rfl rfl (wr64 (by omega))) rfl ?_
    refine L.val (x_ia (j := i) Try.underlying29 ksest_sz41 rfl rfl (by omega) (by omega)) rfl ?_
    refine L.val (x_as (v := .pointer _) rfl) rfl ?_
    refine L.nil ?_
    refine thn_n ?_
    refine W.seq ?_
    refine W.seq ?_
    refine W.region ?_
    refine L.val (x_fa ksest_fo36_0 rfl) rfl ?_
    refine L.val (x_ld (v := .int _ _) ksest_oc3 rfl (bx5.cell0 rfl)) rfl ?_
    refine L.nil ?_
    refine thn_n ?_
    refine W.block ?_
    refine W.seq ?_
    refine W.region ?_
    refine L.val (x_eql rfl rfl) rfl ?_
    refine L.val (x_as (v := .bool _) rfl) rfl ?_
    refine L.nil ?_
    refine thn_n ?_
    refine W.cond (b := _) rfl (fun g50 => ?_) (fun g50 => ?_)
    ·have h50 := of_decide_eq_true g50
     have hk1 : a.kind = 1 := h50
     refine W.seq ?_
     refine W.region ?_
     refine L.val (x_mv (v := .pointer _) rfl) rfl ?_
     refine L.val (x_fa ksest_fo36_1 rfl) rfl ?_
     refine L.val (x_ld (v := .int _ _) ksest_oc3 rfl (bx5.cell0 rfl)) rfl ?_
     refine L.val (x_fa ksest_fo36_2 rfl) rfl ?_
     refine L.val (x_fa ksest_fo34_0 rfl) rfl ?_
     refine L.val (x_ld (v := S _) ksest_oc9 rfl (bx5.cell (i := 0 + 2 + 0) rfl)) rfl ?_
     refine L.ret (x_call ksest_en19 rfl) rfl (get_ok ow tb b bh bo s _ lh lo rows a.id a.ed.key _ hBN hgets (by simp only [List.length_cons]; omega)) ?_
     rintro v58 wc ⟨rfl, hG, hBN⟩
     rw [if_neg ho] at hBN ⊢
     have hDd := hDc.goes hG htd.symm
     have hGc := hGc.trans hG.two
     have hst : stepS s ds a = (s, ds) := by unfold stepS; rw [if_neg hk, if_neg hid]; dsimp only; rw [if_pos hk1, if_neg ho]
     refine L.val (x_mv (v := _) rfl) rfl ?_
     refine L.val (x_ext (v := S _) rfl rfl) rfl ?_
     refine L.val (x_ext (v := .bool _) rfl rfl) rfl ?_
     refine L.val (x_ext (v := .int _ _) rfl rfl) rfl ?_
     refine L.val (x_as (v := S _) rfl) rfl ?_
     refine L.val (x_as (v := .bool _) rfl) rfl ?_
     refine L.val (x_as (v := .int _ _) rfl) rfl ?_
     refine L.nil ?_
     refine thn_n ?_
     refine W.seq ?_
     refine W.region ?_
     refine L.val (x_mv (v := .int _ _) rfl) rfl ?_
     refine L.val (x_eql rfl rfl) rfl ?_
     refine L.nil ?_
     refine thn_n ?_
     refine W.cond (b := _) rfl (fun g63 => ?_) (fun g63 => ?_)
     ·have h63 := of_decide_eq_true g63
      exact absurd h63 (by decide)
     ·have h63 := of_decide_eq_false g63
      refine W.skip ?_
      refine blk_n ?_
      refine thn_n ?_
      refine W.seq ?_
      refine W.region ?_
      refine L.val (x_mv (v := .slice _ _ _) rfl) rfl ?_
      refine L.val (x_as (v := .slice _ _ _) rfl) rfl ?_
      refine L.nil ?_
      refine thn_n ?_
      refine W.ret (fin_mk (.inr rfl) ?_)
      rw [hst]
      exact ⟨_, _, _, _, _, hBN, hDd, hGc⟩
    ·have h50 := of_decide_eq_false g50
     exfalso; omega
theorem step_keysN (ow : Labels) (tb td b bh bo N : Nat) (s : Bs) (ds : List Dd) (a : Ac) (v vl : Value) (lh : List (Str × Value)) (lo : List (Int × Value)) (rows : List (List Value)) (w : World) (h : BaseAt ow tb w b s bh bo vl lh lo rows) (hD : DidsAt ow td w v ds) (htd : tb ≠ td)
    (hN : Bnd N s) (hDN : DBnd N ds) (hN9 : N ≤ 900) (hae : EdOk a.ed) (hkk : a.kind = 2) (ho : ¬ s.isOpen a.id) :
    Ret Try.prog 17 #[.pointer (some ⟨b, 0, none⟩), v, .agg (acV a).toArray] w fun v' w' => ∃ ow' vl' lh' lo' rows', BaseAt ow' tb w' b (stepS s ds a).1 bh bo vl' lh' lo' rows' ∧ DidsAt ow' td w' v' (stepS s ds a).2 ∧ Goes2 tb td w w' ow ow' := by
  have hfl := hN.flat hN9
  have hgets : ∀ x ∈ s.all, x.gets.length ≤ 1000000 := fun x hx => by have := (hN.se x hx).2.2.1; omega
  have heds : ∀ x ∈ s.all, x.eds.length ≤ 1000000 := fun x hx => by have := (hN.se x hx).2.1; omega
  have hheads : ∀ x ∈ s.all, x.heads.length ≤ 1000000 ∧ x.eds.length ≤ 1000000 := fun x hx => by have := (hN.se x hx).2; omega
  have hats : ∀ x ∈ s.all, x.at_ ≤ s.log.length ∧ x.eds.length ≤ 1000000 := fun x hx => by have := (hN.se x hx); exact ⟨this.1, by omega⟩
  have hlg := hN.lg
  have hal0 := hN.al
  have hll := hN.ll
  have hdl := hDN.1
  have hf0 := h.free
  have hkv1 : (Value.slice none 0 0).oneCell' = true := rfl
  obtain ⟨pa, ca0, hvs⟩ : ∃ pa ca, v = .slice pa ds.length ca := by
    obtain ⟨rows, hO, -⟩ := hD
    obtain ⟨pa, ca, e, -⟩ := own_shape hO.1
    exact ⟨pa, ca, e⟩
  subst hvs
  refine ret_of_W Try.func17 rfl (Nat.le_of_ble_eq_true rfl) (res1 rfl) ?_
  refine W.seq ?_
  refine W.region ?_
  refine L.box (cs := acV a) rfl rfl (fun w5 bx5 hw hz5 => ?_)
  have hB := hw
  have hG5 : Goes tb w w5 ow ow := Goes.bel h.free hw
  have hBN := h.bel hw
  have hDc := hD.bel hw h.free
  have hGc : Goes2 tb td w w5 ow ow := hG5.two
  have hn5 : ow w.heap.size = none := hf0 _ (Nat.le_refl _)
  refine L.val (x_as (v := .slice _ _ _) rfl) rfl ?_
  refine L.nil ?_
  refine thn_n ?_
  refine W.seq ?_
  refine W.seq ?_
  refine W.region ?_
  refine L.val (x_fa ksest_fo36_0 rfl) rfl ?_
  refine L.val (x_ld (v := .int _ _) ksest_oc3 rfl (bx5.cell0 rfl)) rfl ?_
  refine L.val (x_lss rfl rfl) rfl ?_
  refine L.val (x_mv (v := .bool _) rfl) rfl ?_
  refine' L.group0 3 18 20 20 17 false rfl ?_ ?_ ?_
  rotate_left 1
  ·intro g17
   have h17 := dlt_f g17
   refine L.gyes' (dj := 17) (b := _) rfl rfl g17 ?_
   refine L.val (x_fa ksest_fo36_0 rfl) rfl ?_
   refine L.gyes' (dj := 17) (b := _) rfl rfl g17 ?_
   refine L.val (x_ld (v := .int _ _) ksest_oc3 rfl (bx5.cell0 rfl)) rfl ?_
   refine L.gyes' (dj := 17) (b := _) rfl rfl g17 ?_
   refine L.val (x_gtr rfl rfl) rfl ?_
   refine L.nil ?_
   refine thn_n ⟨rfl, rfl, ?_, rfl⟩
   repeat (first | exact jeq.refl _ _ _ | refine jeq.upd rfl ?_ | refine jeq.jk rfl rfl ?_)
  ·intro g17
   refine L.gno (dj := 17) (b := _) rfl rfl g17 rfl ?_
   refine L.gno (dj := 17) (b := _) rfl rfl g17 rfl ?_
   refine L.gno (dj := 17) (b := _) rfl rfl g17 rfl ?_
   refine L.nil (thn_n ⟨rfl, rfl, ?_⟩)
   repeat (first | exact jeq.refl _ _ _ | refine jeq.upd rfl ?_ | refine jeq.jk rfl rfl ?_)
  intro J17 j17
  refine L.val (x_or rfl j17) rfl ?_
  refine L.nil ?_
  refine thn_n ?_
  refine W.cond (b := _) rfl (fun g21 => ?_) (fun g21 => ?_)
  ·have h21 := g21
   exfalso; simp only [Bool.or_eq_true, decide_eq_true_eq] at g21; omega
  ·have h21 := g21
   have hk : ¬ (a.kind < 1 ∨ 5 < a.kind) := by simp only [Bool.or_eq_false_iff, decide_eq_false_iff_not] at g21; omega
   refine W.skip ?_
   refine thn_n ?_
   refine W.seq ?_
   refine W.seq ?_
   refine W.region ?_
   refine L.val (x_fa ksest_fo36_1 rfl) rfl ?_
   refine L.val (x_ld (v := .int _ _) ksest_oc3 rfl (bx5.cell0 rfl)) rfl ?_
   refine L.val (x_lss rfl rfl) rfl ?_
   refine L.val (x_mv (v := .bool _) rfl) rfl ?_
   refine' L.group0 5 35 39 39 34 false rfl ?_ ?_ ?_
   rotate_left 1
   ·intro g34
    have h34 := dlt_f g34
    refine L.gyes' (dj := 34) (b := _) rfl rfl g34 ?_
    refine L.val (x_fa ksest_fo36_1 rfl) rfl ?_
    refine L.gyes' (dj := 34) (b := _) rfl rfl g34 ?_
    refine L.val (x_ld (v := .int _ _) ksest_oc3 rfl (bx5.cell0 rfl)) rfl ?_
    refine L.gyes' (dj := 34) (b := _) rfl rfl g34 ?_
    refine L.val (x_mv (v := .slice _ _ _) rfl) rfl ?_
    refine L.gyes' (dj := 34) (b := _) rfl rfl g34 ?_
    refine L.val (x_len_slice Try.underlying29 rfl) rfl ?_
    refine L.gyes' (dj := 34) (b := _) rfl rfl g34 ?_
    refine L.val (x_gtr rfl rfl) rfl ?_
    refine L.nil ?_
    refine thn_n ⟨rfl, rfl, ?_, rfl⟩
    repeat (first | exact jeq.refl _ _ _ | refine jeq.upd rfl ?_ | refine jeq.jk rfl rfl ?_)
   ·intro g34
    refine L.gno (dj := 34) (b := _) rfl rfl g34 rfl ?_
    refine L.gno (dj := 34) (b := _) rfl rfl g34 rfl ?_
    refine L.gno (dj := 34) (b := _) rfl rfl g34 rfl ?_
    refine L.gno (dj := 34) (b := _) rfl rfl g34 rfl ?_
    refine L.gno (dj := 34) (b := _) rfl rfl g34 rfl ?_
    refine L.nil (thn_n ⟨rfl, rfl, ?_⟩)
    repeat (first | exact jeq.refl _ _ _ | refine jeq.upd rfl ?_ | refine jeq.jk rfl rfl ?_)
   intro J34 j34
   refine L.val (x_or rfl j34) rfl ?_
   refine L.nil ?_
   refine thn_n ?_
   refine W.cond (b := _) rfl (fun g40 => ?_) (fun g40 => ?_)
   ·have h40 := g40
    have hi : a.id < 1 ∨ (ds.length : Int) < a.id := by simp only [Bool.or_eq_true, decide_eq_true_eq] at g40; omega
    have hst : stepS s ds a = (s, ds) := by unfold stepS; rw [if_neg hk, if_pos hi]
    refine W.seq ?_
    refine W.region ?_
    refine L.val (x_mv (v := .slice _ _ _) rfl) rfl ?_
    refine L.val (x_as (v := .slice _ _ _) rfl) rfl ?_
    refine L.nil ?_
    refine thn_n ?_
    refine W.ret (thn_r (fin_mk (.inr rfl) ?_))
    rw [hst]
    exact ⟨_, _, _, _, _, hBN, hDc, hGc⟩
   ·have h40 := g40
    have hid : ¬ (a.id < 1 ∨ (ds.length : Int) < a.id) := by simp only [Bool.or_eq_false_iff, decide_eq_false_iff_not] at g40; omega
    obtain ⟨i, hai⟩ : ∃ i : Nat, i = a.id.toNat - 1 := ⟨_, rfl⟩
    have hil : i < ds.length := by omega
    obtain ⟨ba, hpa⟩ : ∃ ba, pa = some ⟨ba, 0, none⟩ := by
      obtain ⟨rowsq, hO, -⟩ := hDc
      exact own_pos hO.1 (by omega)
    subst hpa
    refine W.skip ?_
    refine thn_n ?_
    refine W.seq ?_
    refine W.region ?_
    refine L.val (x_mv (v := .slice _ _ _) rfl) rfl ?_
    refine L.val (x_fa ksest_fo36_1 rfl) rfl ?_
    refine L.val (x_ld (v := .int _ _) ksest_oc3 rfl (bx5.cell0 rfl)) rfl ?_
    refine L.val (x_sub rfl rfl (wr64 (by omega))) rfl ?_
    refine L.val (x_ia (j := i) Try.underlying29 ksest_sz41 rfl rfl (by omega) (by omega)) rfl ?_
    refine L.val (x_as (v := .pointer _) rfl) rfl ?_
    refine L.nil ?_
    refine thn_n ?_
    refine W.seq ?_
    refine W.seq ?_
    refine W.region ?_
    refine L.val (x_fa ksest_fo36_0 rfl) rfl ?_
    refine L.val (x_ld (v := .int _ _) ksest_oc3 rfl (bx5.cell0 rfl)) rfl ?_
    refine L.nil ?_
    refine thn_n ?_
    refine W.block ?_
    refine W.seq ?_
    refine W.region ?_
    refine L.val (x_eql rfl rfl) rfl ?_
    refine L.val (x_as (v := .bool _) rfl) rfl ?_
    refine L.nil ?_
    refine thn_n ?_
    refine W.cond (b := _) rfl (fun g50 => ?_) (fun g50 => ?_)
    ·have h50 := of_decide_eq_true g50
     exfalso; omega
    ·have h50 := of_decide_eq_false g50
     have hk1 : ¬ a.kind = 1 := h50
     refine W.seq ?_
     refine W.region ?_
     refine L.val (x_eql rfl rfl) rfl ?_
     refine L.val (x_as (v := .bool _) rfl) rfl ?_
     refine L.nil ?_
     refine thn_n ?_
     refine W.cond (b := _) rfl (fun g104 => ?_) (fun g104 => ?_)
     ·have h104 := of_decide_eq_true g104
      have hk2 : a.kind = 2 := h104
      refine W.seq ?_
      refine W.region ?_
      refine L.val (x_mv (v := .pointer _) rfl) rfl ?_
      refine L.val (x_fa ksest_fo36_1 rfl) rfl ?_
      refine L.val (x_ld (v := .int _ _) ksest_oc3 rfl (bx5.cell0 rfl)) rfl ?_
      refine L.val (x_fa ksest_fo36_2 rfl) rfl ?_
      refine L.val (x_fa ksest_fo34_0 rfl) rfl ?_
      refine L.val (x_ld (v := S _) ksest_oc9 rfl (bx5.cell (i := 0 + 2 + 0) rfl)) rfl ?_
      refine L.ret (x_call ksest_en20 rfl) rfl (keysOk ow tb b bh bo s _ lh lo rows a.id a.ed.key _ hBN hheads (by simp only [List.length_cons]; omega) hfl) ?_
      rintro v112 wc ⟨⟨u112, rfl, hu⟩, hG, hBN⟩
      rw [if_neg ho] at hBN hu ⊢
      obtain ⟨pk, ckk, rfl, -⟩ := id hu
      have hDd := hDc.goes hG htd.symm
      have hGc := hGc.trans hG.two
      have hst : stepS s ds a = (s, ds) := by unfold stepS; rw [if_neg hk, if_neg hid]; dsimp only; rw [if_neg hk1, if_pos hk2, if_neg ho]
      refine L.val (x_mv (v := _) rfl) rfl ?_
      refine L.val (x_ext (v := .slice _ _ _) rfl rfl) rfl ?_
      refine L.val (x_ext (v := .int _ _) rfl rfl) rfl ?_
      refine L.val (x_as (v := .slice _ _ _) rfl) rfl ?_
      refine L.val (x_as (v := .int _ _) rfl) rfl ?_
      refine L.nil ?_
      refine thn_n ?_
      refine W.seq ?_
      refine W.region ?_
      refine L.val (x_mv (v := .int _ _) rfl) rfl ?_
      refine L.val (x_eql rfl rfl) rfl ?_
      refine L.nil ?_
      refine thn_n ?_
      refine W.cond (b := _) rfl (fun g116 => ?_) (fun g116 => ?_)
      ·have h116 := of_decide_eq_true g116
       exact absurd h116 (by decide)
      ·have h116 := of_decide_eq_false g116
       refine W.skip ?_
       refine blk_n ?_
       refine thn_n ?_
       refine W.seq ?_
       refine W.region ?_
       refine L.val (x_mv (v := .slice _ _ _) rfl) rfl ?_
       refine L.val (x_as (v := .slice _ _ _) rfl) rfl ?_
       refine L.nil ?_
       refine thn_n ?_
       refine W.ret (fin_mk (.inr rfl) ?_)
       rw [hst]
       exact ⟨_, _, _, _, _, hBN, hDd, hGc⟩
     ·have h104 := of_decide_eq_false g104
      exfalso; omega
theorem step_putN (ow : Labels) (tb td b bh bo N : Nat) (s : Bs) (ds : List Dd) (a : Ac) (v vl : Value) (lh : List (Str × Value)) (lo : List (Int × Value)) (rows : List (List Value)) (w : World) (h : BaseAt ow tb w b s bh bo vl lh lo rows) (hD : DidsAt ow td w v ds) (htd : tb ≠ td)
    (hN : Bnd N s) (hDN : DBnd N ds) (hN9 : N ≤ 900) (hae : EdOk a.ed) (hkk : a.kind = 3) (ho : ¬ s.isOpen a.id) :
    Ret Try.prog 17 #[.pointer (some ⟨b, 0, none⟩), v, .agg (acV a).toArray] w fun v' w' => ∃ ow' vl' lh' lo' rows', BaseAt ow' tb w' b (stepS s ds a).1 bh bo vl' lh' lo' rows' ∧ DidsAt ow' td w' v' (stepS s ds a).2 ∧ Goes2 tb td w w' ow ow' := by
  have hfl := hN.flat hN9
  have hgets : ∀ x ∈ s.all, x.gets.length ≤ 1000000 := fun x hx => by have := (hN.se x hx).2.2.1; omega
  have heds : ∀ x ∈ s.all, x.eds.length ≤ 1000000 := fun x hx => by have := (hN.se x hx).2.1; omega
  have hheads : ∀ x ∈ s.all, x.heads.length ≤ 1000000 ∧ x.eds.length ≤ 1000000 := fun x hx => by have := (hN.se x hx).2; omega
  have hats : ∀ x ∈ s.all, x.at_ ≤ s.log.length ∧ x.eds.length ≤ 1000000 := fun x hx => by have := (hN.se x hx); exact ⟨this.1, by omega⟩
  have hlg := hN.lg
  have hal0 := hN.al
  have hll := hN.ll
  have hdl := hDN.1
  have hf0 := h.free
  have hkv1 : (Value.slice none 0 0).oneCell' = true := rfl
  obtain ⟨pa, ca0, hvs⟩ : ∃ pa ca, v = .slice pa ds.length ca := by
    obtain ⟨rows, hO, -⟩ := hD
    obtain ⟨pa, ca, e, -⟩ := own_shape hO.1
    exact ⟨pa, ca, e⟩
  subst hvs
  refine ret_of_W Try.func17 rfl (Nat.le_of_ble_eq_true rfl) (res1 rfl) ?_
  refine W.seq ?_
  refine W.region ?_
  refine L.box (cs := acV a) rfl rfl (fun w5 bx5 hw hz5 => ?_)
  have hB := hw
  have hG5 : Goes tb w w5 ow ow := Goes.bel h.free hw
  have hBN := h.bel hw
  have hDc := hD.bel hw h.free
  have hGc : Goes2 tb td w w5 ow ow := hG5.two
  have hn5 : ow w.heap.size = none := hf0 _ (Nat.le_refl _)
  refine L.val (x_as (v := .slice _ _ _) rfl) rfl ?_
  refine L.nil ?_
  refine thn_n ?_
  refine W.seq ?_
  refine W.seq ?_
  refine W.region ?_
  refine L.val (x_fa ksest_fo36_0 rfl) rfl ?_
  refine L.val (x_ld (v := .int _ _) ksest_oc3 rfl (bx5.cell0 rfl)) rfl ?_
  refine L.val (x_lss rfl rfl) rfl ?_
  refine L.val (x_mv (v := .bool _) rfl) rfl ?_
  refine' L.group0 3 18 20 20 17 false rfl ?_ ?_ ?_
  rotate_left 1
  ·intro g17
   have h17 := dlt_f g17
   refine L.gyes' (dj := 17) (b := _) rfl rfl g17 ?_
   refine L.val (x_fa ksest_fo36_0 rfl) rfl ?_
   refine L.gyes' (dj := 17) (b := _) rfl rfl g17 ?_
   refine L.val (x_ld (v := .int _ _) ksest_oc3 rfl (bx5.cell0 rfl)) rfl ?_
   refine L.gyes' (dj := 17) (b := _) rfl rfl g17 ?_
   refine L.val (x_gtr rfl rfl) rfl ?_
   refine L.nil ?_
   refine thn_n ⟨rfl, rfl, ?_, rfl⟩
   repeat (first | exact jeq.refl _ _ _ | refine jeq.upd rfl ?_ | refine jeq.jk rfl rfl ?_)
  ·intro g17
   refine L.gno (dj := 17) (b := _) rfl rfl g17 rfl ?_
   refine L.gno (dj := 17) (b := _) rfl rfl g17 rfl ?_
   refine L.gno (dj := 17) (b := _) rfl rfl g17 rfl ?_
   refine L.nil (thn_n ⟨rfl, rfl, ?_⟩)
   repeat (first | exact jeq.refl _ _ _ | refine jeq.upd rfl ?_ | refine jeq.jk rfl rfl ?_)
  intro J17 j17
  refine L.val (x_or rfl j17) rfl ?_
  refine L.nil ?_
  refine thn_n ?_
  refine W.cond (b := _) rfl (fun g21 => ?_) (fun g21 => ?_)
  ·have h21 := g21
   exfalso; simp only [Bool.or_eq_true, decide_eq_true_eq] at g21; omega
  ·have h21 := g21
   have hk : ¬ (a.kind < 1 ∨ 5 < a.kind) := by simp only [Bool.or_eq_false_iff, decide_eq_false_iff_not] at g21; omega
   refine W.skip ?_
   refine thn_n ?_
   refine W.seq ?_
   refine W.seq ?_
   refine W.region ?_
   refine L.val (x_fa ksest_fo36_1 rfl) rfl ?_
   refine L.val (x_ld (v := .int _ _) ksest_oc3 rfl (bx5.cell0 rfl)) rfl ?_
   refine L.val (x_lss rfl rfl) rfl ?_
   refine L.val (x_mv (v := .bool _) rfl) rfl ?_
   refine' L.group0 5 35 39 39 34 false rfl ?_ ?_ ?_
   rotate_left 1
   ·intro g34
    have h34 := dlt_f g34
    refine L.gyes' (dj := 34) (b := _) rfl rfl g34 ?_
    refine L.val (x_fa ksest_fo36_1 rfl) rfl ?_
    refine L.gyes' (dj := 34) (b := _) rfl rfl g34 ?_
    refine L.val (x_ld (v := .int _ _) ksest_oc3 rfl (bx5.cell0 rfl)) rfl ?_
    refine L.gyes' (dj := 34) (b := _) rfl rfl g34 ?_
    refine L.val (x_mv (v := .slice _ _ _) rfl) rfl ?_
    refine L.gyes' (dj := 34) (b := _) rfl rfl g34 ?_
    refine L.val (x_len_slice Try.underlying29 rfl) rfl ?_
    refine L.gyes' (dj := 34) (b := _) rfl rfl g34 ?_
    refine L.val (x_gtr rfl rfl) rfl ?_
    refine L.nil ?_
    refine thn_n ⟨rfl, rfl, ?_, rfl⟩
    repeat (first | exact jeq.refl _ _ _ | refine jeq.upd rfl ?_ | refine jeq.jk rfl rfl ?_)
   ·intro g34
    refine L.gno (dj := 34) (b := _) rfl rfl g34 rfl ?_
    refine L.gno (dj := 34) (b := _) rfl rfl g34 rfl ?_
    refine L.gno (dj := 34) (b := _) rfl rfl g34 rfl ?_
    refine L.gno (dj := 34) (b := _) rfl rfl g34 rfl ?_
    refine L.gno (dj := 34) (b := _) rfl rfl g34 rfl ?_
    refine L.nil (thn_n ⟨rfl, rfl, ?_⟩)
    repeat (first | exact jeq.refl _ _ _ | refine jeq.upd rfl ?_ | refine jeq.jk rfl rfl ?_)
   intro J34 j34
   refine L.val (x_or rfl j34) rfl ?_
   refine L.nil ?_
   refine thn_n ?_
   refine W.cond (b := _) rfl (fun g40 => ?_) (fun g40 => ?_)
   ·have h40 := g40
    have hi : a.id < 1 ∨ (ds.length : Int) < a.id := by simp only [Bool.or_eq_true, decide_eq_true_eq] at g40; omega
    have hst : stepS s ds a = (s, ds) := by unfold stepS; rw [if_neg hk, if_pos hi]
    refine W.seq ?_
    refine W.region ?_
    refine L.val (x_mv (v := .slice _ _ _) rfl) rfl ?_
    refine L.val (x_as (v := .slice _ _ _) rfl) rfl ?_
    refine L.nil ?_
    refine thn_n ?_
    refine W.ret (thn_r (fin_mk (.inr rfl) ?_))
    rw [hst]
    exact ⟨_, _, _, _, _, hBN, hDc, hGc⟩
   ·have h40 := g40
    have hid : ¬ (a.id < 1 ∨ (ds.length : Int) < a.id) := by simp only [Bool.or_eq_false_iff, decide_eq_false_iff_not] at g40; omega
    obtain ⟨i, hai⟩ : ∃ i : Nat, i = a.id.toNat - 1 := ⟨_, rfl⟩
    have hil : i < ds.length := by omega
    obtain ⟨ba, hpa⟩ : ∃ ba, pa = some ⟨ba, 0, none⟩ := by
      obtain ⟨rowsq, hO, -⟩ := hDc
      exact own_pos hO.1 (by omega)
    subst hpa
    refine W.skip ?_
    refine thn_n ?_
    refine W.seq ?_
    refine W.region ?_
    refine L.val (x_mv (v := .slice _ _ _) rfl) rfl ?_
    refine L.val (x_fa ksest_fo36_1 rfl) rfl ?_
    refine L.val (x_ld (v := .int _ _) ksest_oc3 rfl (bx5.cell0 rfl)) rfl ?_
    refine L.val (x_sub rfl rfl (wr64 (by omega))) rfl ?_
    refine L.val (x_ia (j := i) Try.underlying29 ksest_sz41 rfl rfl (by omega) (by omega)) rfl ?_
    refine L.val (x_as (v := .pointer _) rfl) rfl ?_
    refine L.nil ?_
    refine thn_n ?_
    refine W.seq ?_
    refine W.seq ?_
    refine W.region ?_
    refine L.val (x_fa ksest_fo36_0 rfl) rfl ?_
    refine L.val (x_ld (v := .int _ _) ksest_oc3 rfl (bx5.cell0 rfl)) rfl ?_
    refine L.nil ?_
    refine thn_n ?_
    refine W.block ?_
    refine W.seq ?_
    refine W.region ?_
    refine L.val (x_eql rfl rfl) rfl ?_
    refine L.val (x_as (v := .bool _) rfl) rfl ?_
    refine L.nil ?_
    refine thn_n ?_
    refine W.cond (b := _) rfl (fun g50 => ?_) (fun g50 => ?_)
    ·have h50 := of_decide_eq_true g50
     exfalso; omega
    ·have h50 := of_decide_eq_false g50
     have hk1 : ¬ a.kind = 1 := h50
     refine W.seq ?_
     refine W.region ?_
     refine L.val (x_eql rfl rfl) rfl ?_
     refine L.val (x_as (v := .bool _) rfl) rfl ?_
     refine L.nil ?_
     refine thn_n ?_
     refine W.cond (b := _) rfl (fun g104 => ?_) (fun g104 => ?_)
     ·have h104 := of_decide_eq_true g104
      exfalso; omega
     ·have h104 := of_decide_eq_false g104
      have hk2 : ¬ a.kind = 2 := h104
      refine W.seq ?_
      refine W.region ?_
      refine L.val (x_eql rfl rfl) rfl ?_
      refine L.val (x_as (v := .bool _) rfl) rfl ?_
      refine L.nil ?_
      refine thn_n ?_
      refine W.cond (b := _) rfl (fun g156 => ?_) (fun g156 => ?_)
      ·have h156 := of_decide_eq_true g156
       have hk3 : a.kind = 3 := h156
       refine W.seq ?_
       refine W.region ?_
       refine L.val (x_mv (v := .pointer _) rfl) rfl ?_
       refine L.val (x_fa ksest_fo36_1 rfl) rfl ?_
       refine L.val (x_ld (v := .int _ _) ksest_oc3 rfl (bx5.cell0 rfl)) rfl ?_
       refine L.val (x_fa ksest_fo36_2 rfl) rfl ?_
       refine L.val (x_ldn (vs := edV a.ed) ksest_ag34 rfl rfl (bx5.rowD 2 rfl)) rfl ?_
       refine L.ret (x_call ksest_en40 rfl) rfl (put_ok ow tb b bh bo s _ lh lo rows a.id a.ed _ hBN heds hae) ?_
       rintro v162 wc ⟨rfl, owc, hG, hBN⟩
       have hno : ¬ (s.isOpen a.id ∧ okEd a.ed = true) := fun hh => ho hh.1
       rw [if_neg hno] at hBN
       rw [if_neg ho]
       have hDd := hDc.goes hG htd.symm
       have hGc := hGc.trans hG.two
       have hst : stepS s ds a = (s, ds) := by unfold stepS; rw [if_neg hk, if_neg hid]; dsimp only; rw [if_neg hk1, if_neg hk2, if_pos hk3, if_neg hno]
       refine L.val (x_eql rfl rfl) rfl ?_
       refine L.nil ?_
       refine thn_n ?_
       refine W.cond (b := _) rfl (fun g163 => ?_) (fun g163 => ?_)
       ·have h163 := of_decide_eq_true g163
        exact absurd h163 (by decide)
       ·have h163 := of_decide_eq_false g163
        refine W.skip ?_
        refine blk_n ?_
        refine thn_n ?_
        refine W.seq ?_
        refine W.region ?_
        refine L.val (x_mv (v := .slice _ _ _) rfl) rfl ?_
        refine L.val (x_as (v := .slice _ _ _) rfl) rfl ?_
        refine L.nil ?_
        refine thn_n ?_
        refine W.ret (fin_mk (.inr rfl) ?_)
        rw [hst]
        exact ⟨_, _, _, _, _, hBN, hDd, hGc⟩
      ·have h156 := of_decide_eq_false g156
       exfalso; omega
theorem step_commitN (ow : Labels) (tb td b bh bo N : Nat) (s : Bs) (ds : List Dd) (a : Ac) (v vl : Value) (lh : List (Str × Value)) (lo : List (Int × Value)) (rows : List (List Value)) (w : World) (h : BaseAt ow tb w b s bh bo vl lh lo rows) (hD : DidsAt ow td w v ds) (htd : tb ≠ td)
    (hN : Bnd N s) (hDN : DBnd N ds) (hN9 : N ≤ 900) (hae : EdOk a.ed) (hkk : a.kind = 4) (ho : ¬ s.isOpen a.id) :
    Ret Try.prog 17 #[.pointer (some ⟨b, 0, none⟩), v, .agg (acV a).toArray] w fun v' w' => ∃ ow' vl' lh' lo' rows', BaseAt ow' tb w' b (stepS s ds a).1 bh bo vl' lh' lo' rows' ∧ DidsAt ow' td w' v' (stepS s ds a).2 ∧ Goes2 tb td w w' ow ow' := by
  have hfl := hN.flat hN9
  have hgets : ∀ x ∈ s.all, x.gets.length ≤ 1000000 := fun x hx => by have := (hN.se x hx).2.2.1; omega
  have heds : ∀ x ∈ s.all, x.eds.length ≤ 1000000 := fun x hx => by have := (hN.se x hx).2.1; omega
  have hheads : ∀ x ∈ s.all, x.heads.length ≤ 1000000 ∧ x.eds.length ≤ 1000000 := fun x hx => by have := (hN.se x hx).2; omega
  have hats : ∀ x ∈ s.all, x.at_ ≤ s.log.length ∧ x.eds.length ≤ 1000000 := fun x hx => by have := (hN.se x hx); exact ⟨this.1, by omega⟩
  have hlg := hN.lg
  have hal0 := hN.al
  have hll := hN.ll
  have hdl := hDN.1
  have hf0 := h.free
  have hkv1 : (Value.slice none 0 0).oneCell' = true := rfl
  obtain ⟨pa, ca0, hvs⟩ : ∃ pa ca, v = .slice pa ds.length ca := by
    obtain ⟨rows, hO, -⟩ := hD
    obtain ⟨pa, ca, e, -⟩ := own_shape hO.1
    exact ⟨pa, ca, e⟩
  subst hvs
  refine ret_of_W Try.func17 rfl (Nat.le_of_ble_eq_true rfl) (res1 rfl) ?_
  refine W.seq ?_
  refine W.region ?_
  refine L.box (cs := acV a) rfl rfl (fun w5 bx5 hw hz5 => ?_)
  have hB := hw
  have hG5 : Goes tb w w5 ow ow := Goes.bel h.free hw
  have hBN := h.bel hw
  have hDc := hD.bel hw h.free
  have hGc : Goes2 tb td w w5 ow ow := hG5.two
  have hn5 : ow w.heap.size = none := hf0 _ (Nat.le_refl _)
  refine L.val (x_as (v := .slice _ _ _) rfl) rfl ?_
  refine L.nil ?_
  refine thn_n ?_
  refine W.seq ?_
  refine W.seq ?_
  refine W.region ?_
  refine L.val (x_fa ksest_fo36_0 rfl) rfl ?_
  refine L.val (x_ld (v := .int _ _) ksest_oc3 rfl (bx5.cell0 rfl)) rfl ?_
  refine L.val (x_lss rfl rfl) rfl ?_
  refine L.val (x_mv (v := .bool _) rfl) rfl ?_
  refine' L.group0 3 18 20 20 17 false rfl ?_ ?_ ?_
  rotate_left 1
  ·intro g17
   have h17 := dlt_f g17
   refine L.gyes' (dj := 17) (b := _) rfl rfl g17 ?_
   refine L.val (x_fa ksest_fo36_0 rfl) rfl ?_
   refine L.gyes' (dj := 17) (b := _) rfl rfl g17 ?_
   refine L.val (x_ld (v := .int _ _) ksest_oc3 rfl (bx5.cell0 rfl)) rfl ?_
   refine L.gyes' (dj := 17) (b := _) rfl rfl g17 ?_
   refine L.val (x_gtr rfl rfl) rfl ?_
   refine L.nil ?_
   refine thn_n ⟨rfl, rfl, ?_, rfl⟩
   repeat (first | exact jeq.refl _ _ _ | refine jeq.upd rfl ?_ | refine jeq.jk rfl rfl ?_)
  ·intro g17
   refine L.gno (dj := 17) (b := _) rfl rfl g17 rfl ?_
   refine L.gno (dj := 17) (b := _) rfl rfl g17 rfl ?_
   refine L.gno (dj := 17) (b := _) rfl rfl g17 rfl ?_
   refine L.nil (thn_n ⟨rfl, rfl, ?_⟩)
   repeat (first | exact jeq.refl _ _ _ | refine jeq.upd rfl ?_ | refine jeq.jk rfl rfl ?_)
  intro J17 j17
  refine L.val (x_or rfl j17) rfl ?_
  refine L.nil ?_
  refine thn_n ?_
  refine W.cond (b := _) rfl (fun g21 => ?_) (fun g21 => ?_)
  ·have h21 := g21
   exfalso; simp only [Bool.or_eq_true, decide_eq_true_eq] at g21; omega
  ·have h21 := g21
   have hk : ¬ (a.kind < 1 ∨ 5 < a.kind) := by simp only [Bool.or_eq_false_iff, decide_eq_false_iff_not] at g21; omega
   refine W.skip ?_
   refine thn_n ?_
   refine W.seq ?_
   refine W.seq ?_
   refine W.region ?_
   refine L.val (x_fa ksest_fo36_1 rfl) rfl ?_
   refine L.val (x_ld (v := .int _ _) ksest_oc3 rfl (bx5.cell0 rfl)) rfl ?_
   refine L.val (x_lss rfl rfl) rfl ?_
   refine L.val (x_mv (v := .bool _) rfl) rfl ?_
   refine' L.group0 5 35 39 39 34 false rfl ?_ ?_ ?_
   rotate_left 1
   ·intro g34
    have h34 := dlt_f g34
    refine L.gyes' (dj := 34) (b := _) rfl rfl g34 ?_
    refine L.val (x_fa ksest_fo36_1 rfl) rfl ?_
    refine L.gyes' (dj := 34) (b := _) rfl rfl g34 ?_
    refine L.val (x_ld (v := .int _ _) ksest_oc3 rfl (bx5.cell0 rfl)) rfl ?_
    refine L.gyes' (dj := 34) (b := _) rfl rfl g34 ?_
    refine L.val (x_mv (v := .slice _ _ _) rfl) rfl ?_
    refine L.gyes' (dj := 34) (b := _) rfl rfl g34 ?_
    refine L.val (x_len_slice Try.underlying29 rfl) rfl ?_
    refine L.gyes' (dj := 34) (b := _) rfl rfl g34 ?_
    refine L.val (x_gtr rfl rfl) rfl ?_
    refine L.nil ?_
    refine thn_n ⟨rfl, rfl, ?_, rfl⟩
    repeat (first | exact jeq.refl _ _ _ | refine jeq.upd rfl ?_ | refine jeq.jk rfl rfl ?_)
   ·intro g34
    refine L.gno (dj := 34) (b := _) rfl rfl g34 rfl ?_
    refine L.gno (dj := 34) (b := _) rfl rfl g34 rfl ?_
    refine L.gno (dj := 34) (b := _) rfl rfl g34 rfl ?_
    refine L.gno (dj := 34) (b := _) rfl rfl g34 rfl ?_
    refine L.gno (dj := 34) (b := _) rfl rfl g34 rfl ?_
    refine L.nil (thn_n ⟨rfl, rfl, ?_⟩)
    repeat (first | exact jeq.refl _ _ _ | refine jeq.upd rfl ?_ | refine jeq.jk rfl rfl ?_)
   intro J34 j34
   refine L.val (x_or rfl j34) rfl ?_
   refine L.nil ?_
   refine thn_n ?_
   refine W.cond (b := _) rfl (fun g40 => ?_) (fun g40 => ?_)
   ·have h40 := g40
    have hi : a.id < 1 ∨ (ds.length : Int) < a.id := by simp only [Bool.or_eq_true, decide_eq_true_eq] at g40; omega
    have hst : stepS s ds a = (s, ds) := by unfold stepS; rw [if_neg hk, if_pos hi]
    refine W.seq ?_
    refine W.region ?_
    refine L.val (x_mv (v := .slice _ _ _) rfl) rfl ?_
    refine L.val (x_as (v := .slice _ _ _) rfl) rfl ?_
    refine L.nil ?_
    refine thn_n ?_
    refine W.ret (thn_r (fin_mk (.inr rfl) ?_))
    rw [hst]
    exact ⟨_, _, _, _, _, hBN, hDc, hGc⟩
   ·have h40 := g40
    have hid : ¬ (a.id < 1 ∨ (ds.length : Int) < a.id) := by simp only [Bool.or_eq_false_iff, decide_eq_false_iff_not] at g40; omega
    obtain ⟨i, hai⟩ : ∃ i : Nat, i = a.id.toNat - 1 := ⟨_, rfl⟩
    have hil : i < ds.length := by omega
    obtain ⟨ba, hpa⟩ : ∃ ba, pa = some ⟨ba, 0, none⟩ := by
      obtain ⟨rowsq, hO, -⟩ := hDc
      exact own_pos hO.1 (by omega)
    subst hpa
    refine W.skip ?_
    refine thn_n ?_
    refine W.seq ?_
    refine W.region ?_
    refine L.val (x_mv (v := .slice _ _ _) rfl) rfl ?_
    refine L.val (x_fa ksest_fo36_1 rfl) rfl ?_
    refine L.val (x_ld (v := .int _ _) ksest_oc3 rfl (bx5.cell0 rfl)) rfl ?_
    refine L.val (x_sub rfl rfl (wr64 (by omega))) rfl ?_
    refine L.val (x_ia (j := i) Try.underlying29 ksest_sz41 rfl rfl (by omega) (by omega)) rfl ?_
    refine L.val (x_as (v := .pointer _) rfl) rfl ?_
    refine L.nil ?_
    refine thn_n ?_
    refine W.seq ?_
    refine W.seq ?_
    refine W.region ?_
    refine L.val (x_fa ksest_fo36_0 rfl) rfl ?_
    refine L.val (x_ld (v := .int _ _) ksest_oc3 rfl (bx5.cell0 rfl)) rfl ?_
    refine L.nil ?_
    refine thn_n ?_
    refine W.block ?_
    refine W.seq ?_
    refine W.region ?_
    refine L.val (x_eql rfl rfl) rfl ?_
    refine L.val (x_as (v := .bool _) rfl) rfl ?_
    refine L.nil ?_
    refine thn_n ?_
    refine W.cond (b := _) rfl (fun g50 => ?_) (fun g50 => ?_)
    ·have h50 := of_decide_eq_true g50
     exfalso; omega
    ·have h50 := of_decide_eq_false g50
     have hk1 : ¬ a.kind = 1 := h50
     refine W.seq ?_
     refine W.region ?_
     refine L.val (x_eql rfl rfl) rfl ?_
     refine L.val (x_as (v := .bool _) rfl) rfl ?_
     refine L.nil ?_
     refine thn_n ?_
     refine W.cond (b := _) rfl (fun g104 => ?_) (fun g104 => ?_)
     ·have h104 := of_decide_eq_true g104
      exfalso; omega
     ·have h104 := of_decide_eq_false g104
      have hk2 : ¬ a.kind = 2 := h104
      refine W.seq ?_
      refine W.region ?_
      refine L.val (x_eql rfl rfl) rfl ?_
      refine L.val (x_as (v := .bool _) rfl) rfl ?_
      refine L.nil ?_
      refine thn_n ?_
      refine W.cond (b := _) rfl (fun g156 => ?_) (fun g156 => ?_)
      ·have h156 := of_decide_eq_true g156
       exfalso; omega
      ·have h156 := of_decide_eq_false g156
       have hk3 : ¬ a.kind = 3 := h156
       refine W.seq ?_
       refine W.region ?_
       refine L.val (x_eql rfl rfl) rfl ?_
       refine L.val (x_as (v := .bool _) rfl) rfl ?_
       refine L.nil ?_
       refine thn_n ?_
       refine W.cond (b := _) rfl (fun g205 => ?_) (fun g205 => ?_)
       ·have h205 := of_decide_eq_true g205
        have hk4 : a.kind = 4 := h205
        refine W.seq ?_
        refine W.region ?_
        refine L.val (x_mv (v := .pointer _) rfl) rfl ?_
        refine L.ret (x_call ksest_en16 rfl) rfl (log_ok ow tb b bh bo s _ lh lo rows _ hBN (by omega) (fun l hl => by have := hll l hl; omega)) ?_
        rintro v207 w207 ⟨hL, hw⟩
        have hDc := hDc.bel hw hBN.free
        have hGc := hGc.trans (Goes.bel hBN.free hw).two
        have hBN := hBN.bel hw
        have bx5 := bx5.carry hw
        obtain ⟨p207, c207, row207, rfl, -⟩ := hL
        refine L.val (x_len_slice Try.underlying30 rfl) rfl ?_
        refine L.val (x_as (v := .int _ _) rfl) rfl ?_
        refine L.nil ?_
        refine thn_n ?_
        refine W.seq ?_
        refine W.region ?_
        refine L.val (x_mv (v := .pointer _) rfl) rfl ?_
        refine L.val (x_fa ksest_fo36_1 rfl) rfl ?_
        refine L.val (x_ld (v := .int _ _) ksest_oc3 rfl (bx5.cell0 rfl)) rfl ?_
        refine L.ret (x_call ksest_en42 rfl) rfl (commit_ok ow tb b bh bo s _ lh lo rows a.id _ hBN hats (by omega)) ?_
        rintro v212 wc ⟨rfl, owc, vlc, lhc, loc, rowsc, hG, hBN⟩
        have hn5' : owc w.heap.size = none := (hG.old _ bx5.lt).elim (fun e => e.trans hn5) (fun e => e.2)
        have hDc := hDc.goes hG htd.symm
        have hGc := hGc.trans hG.two
        have bx5 := bx5.carryR hG.gr (fun ⟨p, e⟩ => by rw [hn5] at e; cases e)
        have hn5 := hn5'
        rw [if_neg ho] at hBN ⊢
        refine L.nil ?_
        refine thn_n ?_
        refine W.block ?_
        refine W.seq ?_
        refine W.region ?_
        refine L.val (x_eql rfl rfl) rfl ?_
        refine L.val (x_as (v := .bool _) rfl) rfl ?_
        refine L.nil ?_
        refine thn_n ?_
        refine W.cond (b := _) rfl (fun g214 => ?_) (fun g214 => ?_)
        ·have h214 := of_decide_eq_true g214
         exact absurd h214 (by decide)
        ·have h214 := of_decide_eq_false g214
         refine W.seq ?_
         refine W.region ?_
         refine L.val (x_eql rfl rfl) rfl ?_
         refine L.val (x_as (v := .bool _) rfl) rfl ?_
         refine L.nil ?_
         refine thn_n ?_
         refine W.cond (b := _) rfl (fun g220 => ?_) (fun g220 => ?_)
         ·have h220 := of_decide_eq_true g220
          exact absurd h220 (by decide)
         ·have h220 := of_decide_eq_false g220
          have hst : stepS s ds a = (s, ds) := by unfold stepS; rw [if_neg hk, if_neg hid]; dsimp only; rw [if_neg hk1, if_neg hk2, if_neg hk3, if_pos hk4, if_neg ho]
          have hDd := hDc
          refine W.skip ?_
          refine blk_n ?_
          refine blk_n ?_
          refine thn_n ?_
          refine W.seq ?_
          refine W.region ?_
          refine L.val (x_mv (v := .slice _ _ _) rfl) rfl ?_
          refine L.val (x_as (v := .slice _ _ _) rfl) rfl ?_
          refine L.nil ?_
          refine thn_n ?_
          refine W.ret (fin_mk (.inr rfl) ?_)
          rw [hst]
          exact ⟨_, _, _, _, _, hBN, hDd, hGc⟩
       ·have h205 := of_decide_eq_false g205
        exfalso; omega
theorem step_abortN (ow : Labels) (tb td b bh bo N : Nat) (s : Bs) (ds : List Dd) (a : Ac) (v vl : Value) (lh : List (Str × Value)) (lo : List (Int × Value)) (rows : List (List Value)) (w : World) (h : BaseAt ow tb w b s bh bo vl lh lo rows) (hD : DidsAt ow td w v ds) (htd : tb ≠ td)
    (hN : Bnd N s) (hDN : DBnd N ds) (hN9 : N ≤ 900) (hae : EdOk a.ed) (hkk : a.kind = 5) (ho : ¬ s.isOpen a.id) :
    Ret Try.prog 17 #[.pointer (some ⟨b, 0, none⟩), v, .agg (acV a).toArray] w fun v' w' => ∃ ow' vl' lh' lo' rows', BaseAt ow' tb w' b (stepS s ds a).1 bh bo vl' lh' lo' rows' ∧ DidsAt ow' td w' v' (stepS s ds a).2 ∧ Goes2 tb td w w' ow ow' := by
  have hfl := hN.flat hN9
  have hgets : ∀ x ∈ s.all, x.gets.length ≤ 1000000 := fun x hx => by have := (hN.se x hx).2.2.1; omega
  have heds : ∀ x ∈ s.all, x.eds.length ≤ 1000000 := fun x hx => by have := (hN.se x hx).2.1; omega
  have hheads : ∀ x ∈ s.all, x.heads.length ≤ 1000000 ∧ x.eds.length ≤ 1000000 := fun x hx => by have := (hN.se x hx).2; omega
  have hats : ∀ x ∈ s.all, x.at_ ≤ s.log.length ∧ x.eds.length ≤ 1000000 := fun x hx => by have := (hN.se x hx); exact ⟨this.1, by omega⟩
  have hlg := hN.lg
  have hal0 := hN.al
  have hll := hN.ll
  have hdl := hDN.1
  have hf0 := h.free
  have hkv1 : (Value.slice none 0 0).oneCell' = true := rfl
  obtain ⟨pa, ca0, hvs⟩ : ∃ pa ca, v = .slice pa ds.length ca := by
    obtain ⟨rows, hO, -⟩ := hD
    obtain ⟨pa, ca, e, -⟩ := own_shape hO.1
    exact ⟨pa, ca, e⟩
  subst hvs
  refine ret_of_W Try.func17 rfl (Nat.le_of_ble_eq_true rfl) (res1 rfl) ?_
  refine W.seq ?_
  refine W.region ?_
  refine L.box (cs := acV a) rfl rfl (fun w5 bx5 hw hz5 => ?_)
  have hB := hw
  have hG5 : Goes tb w w5 ow ow := Goes.bel h.free hw
  have hBN := h.bel hw
  have hDc := hD.bel hw h.free
  have hGc : Goes2 tb td w w5 ow ow := hG5.two
  have hn5 : ow w.heap.size = none := hf0 _ (Nat.le_refl _)
  refine L.val (x_as (v := .slice _ _ _) rfl) rfl ?_
  refine L.nil ?_
  refine thn_n ?_
  refine W.seq ?_
  refine W.seq ?_
  refine W.region ?_
  refine L.val (x_fa ksest_fo36_0 rfl) rfl ?_
  refine L.val (x_ld (v := .int _ _) ksest_oc3 rfl (bx5.cell0 rfl)) rfl ?_
  refine L.val (x_lss rfl rfl) rfl ?_
  refine L.val (x_mv (v := .bool _) rfl) rfl ?_
  refine' L.group0 3 18 20 20 17 false rfl ?_ ?_ ?_
  rotate_left 1
  ·intro g17
   have h17 := dlt_f g17
   refine L.gyes' (dj := 17) (b := _) rfl rfl g17 ?_
   refine L.val (x_fa ksest_fo36_0 rfl) rfl ?_
   refine L.gyes' (dj := 17) (b := _) rfl rfl g17 ?_
   refine L.val (x_ld (v := .int _ _) ksest_oc3 rfl (bx5.cell0 rfl)) rfl ?_
   refine L.gyes' (dj := 17) (b := _) rfl rfl g17 ?_
   refine L.val (x_gtr rfl rfl) rfl ?_
   refine L.nil ?_
   refine thn_n ⟨rfl, rfl, ?_, rfl⟩
   repeat (first | exact jeq.refl _ _ _ | refine jeq.upd rfl ?_ | refine jeq.jk rfl rfl ?_)
  ·intro g17
   refine L.gno (dj := 17) (b := _) rfl rfl g17 rfl ?_
   refine L.gno (dj := 17) (b := _) rfl rfl g17 rfl ?_
   refine L.gno (dj := 17) (b := _) rfl rfl g17 rfl ?_
   refine L.nil (thn_n ⟨rfl, rfl, ?_⟩)
   repeat (first | exact jeq.refl _ _ _ | refine jeq.upd rfl ?_ | refine jeq.jk rfl rfl ?_)
  intro J17 j17
  refine L.val (x_or rfl j17) rfl ?_
  refine L.nil ?_
  refine thn_n ?_
  refine W.cond (b := _) rfl (fun g21 => ?_) (fun g21 => ?_)
  ·have h21 := g21
   exfalso; simp only [Bool.or_eq_true, decide_eq_true_eq] at g21; omega
  ·have h21 := g21
   have hk : ¬ (a.kind < 1 ∨ 5 < a.kind) := by simp only [Bool.or_eq_false_iff, decide_eq_false_iff_not] at g21; omega
   refine W.skip ?_
   refine thn_n ?_
   refine W.seq ?_
   refine W.seq ?_
   refine W.region ?_
   refine L.val (x_fa ksest_fo36_1 rfl) rfl ?_
   refine L.val (x_ld (v := .int _ _) ksest_oc3 rfl (bx5.cell0 rfl)) rfl ?_
   refine L.val (x_lss rfl rfl) rfl ?_
   refine L.val (x_mv (v := .bool _) rfl) rfl ?_
   refine' L.group0 5 35 39 39 34 false rfl ?_ ?_ ?_
   rotate_left 1
   ·intro g34
    have h34 := dlt_f g34
    refine L.gyes' (dj := 34) (b := _) rfl rfl g34 ?_
    refine L.val (x_fa ksest_fo36_1 rfl) rfl ?_
    refine L.gyes' (dj := 34) (b := _) rfl rfl g34 ?_
    refine L.val (x_ld (v := .int _ _) ksest_oc3 rfl (bx5.cell0 rfl)) rfl ?_
    refine L.gyes' (dj := 34) (b := _) rfl rfl g34 ?_
    refine L.val (x_mv (v := .slice _ _ _) rfl) rfl ?_
    refine L.gyes' (dj := 34) (b := _) rfl rfl g34 ?_
    refine L.val (x_len_slice Try.underlying29 rfl) rfl ?_
    refine L.gyes' (dj := 34) (b := _) rfl rfl g34 ?_
    refine L.val (x_gtr rfl rfl) rfl ?_
    refine L.nil ?_
    refine thn_n ⟨rfl, rfl, ?_, rfl⟩
    repeat (first | exact jeq.refl _ _ _ | refine jeq.upd rfl ?_ | refine jeq.jk rfl rfl ?_)
   ·intro g34
    refine L.gno (dj := 34) (b := _) rfl rfl g34 rfl ?_
    refine L.gno (dj := 34) (b := _) rfl rfl g34 rfl ?_
    refine L.gno (dj := 34) (b := _) rfl rfl g34 rfl ?_
    refine L.gno (dj := 34) (b := _) rfl rfl g34 rfl ?_
    refine L.gno (dj := 34) (b := _) rfl rfl g34 rfl ?_
    refine L.nil (thn_n ⟨rfl, rfl, ?_⟩)
    repeat (first | exact jeq.refl _ _ _ | refine jeq.upd rfl ?_ | refine jeq.jk rfl rfl ?_)
   intro J34 j34
   refine L.val (x_or rfl j34) rfl ?_
   refine L.nil ?_
   refine thn_n ?_
   refine W.cond (b := _) rfl (fun g40 => ?_) (fun g40 => ?_)
   ·have h40 := g40
    have hi : a.id < 1 ∨ (ds.length : Int) < a.id := by simp only [Bool.or_eq_true, decide_eq_true_eq] at g40; omega
    have hst : stepS s ds a = (s, ds) := by unfold stepS; rw [if_neg hk, if_pos hi]
    refine W.seq ?_
    refine W.region ?_
    refine L.val (x_mv (v := .slice _ _ _) rfl) rfl ?_
    refine L.val (x_as (v := .slice _ _ _) rfl) rfl ?_
    refine L.nil ?_
    refine thn_n ?_
    refine W.ret (thn_r (fin_mk (.inr rfl) ?_))
    rw [hst]
    exact ⟨_, _, _, _, _, hBN, hDc, hGc⟩
   ·have h40 := g40
    have hid : ¬ (a.id < 1 ∨ (ds.length : Int) < a.id) := by simp only [Bool.or_eq_false_iff, decide_eq_false_iff_not] at g40; omega
    obtain ⟨i, hai⟩ : ∃ i : Nat, i = a.id.toNat - 1 := ⟨_, rfl⟩
    have hil : i < ds.length := by omega
    obtain ⟨ba, hpa⟩ : ∃ ba, pa = some ⟨ba, 0, none⟩ := by
      obtain ⟨rowsq, hO, -⟩ := hDc
      exact own_pos hO.1 (by omega)
    subst hpa
    refine W.skip ?_
    refine thn_n ?_
    refine W.seq ?_
    refine W.region ?_
    refine L.val (x_mv (v := .slice _ _ _) rfl) rfl ?_
    refine L.val (x_fa ksest_fo36_1 rfl) rfl ?_
    refine L.val (x_ld (v := .int _ _) ksest_oc3 rfl (bx5.cell0 rfl)) rfl ?_
    refine L.val (x_sub rfl rfl (wr64 (by omega))) rfl ?_
    refine L.val (x_ia (j := i) Try.underlying29 ksest_sz41 rfl rfl (by omega) (by omega)) rfl ?_
    refine L.val (x_as (v := .pointer _) rfl) rfl ?_
    refine L.nil ?_
    refine thn_n ?_
    refine W.seq ?_
    refine W.seq ?_
    refine W.region ?_
    refine L.val (x_fa ksest_fo36_0 rfl) rfl ?_
    refine L.val (x_ld (v := .int _ _) ksest_oc3 rfl (bx5.cell0 rfl)) rfl ?_
    refine L.nil ?_
    refine thn_n ?_
    refine W.block ?_
    refine W.seq ?_
    refine W.region ?_
    refine L.val (x_eql rfl rfl) rfl ?_
    refine L.val (x_as (v := .bool _) rfl) rfl ?_
    refine L.nil ?_
    refine thn_n ?_
    refine W.cond (b := _) rfl (fun g50 => ?_) (fun g50 => ?_)
    ·have h50 := of_decide_eq_true g50
     exfalso; omega
    ·have h50 := of_decide_eq_false g50
     have hk1 : ¬ a.kind = 1 := h50
     refine W.seq ?_
     refine W.region ?_
     refine L.val (x_eql rfl rfl) rfl ?_
     refine L.val (x_as (v := .bool _) rfl) rfl ?_
     refine L.nil ?_
     refine thn_n ?_
     refine W.cond (b := _) rfl (fun g104 => ?_) (fun g104 => ?_)
     ·have h104 := of_decide_eq_true g104
      exfalso; omega
     ·have h104 := of_decide_eq_false g104
      have hk2 : ¬ a.kind = 2 := h104
      refine W.seq ?_
      refine W.region ?_
      refine L.val (x_eql rfl rfl) rfl ?_
      refine L.val (x_as (v := .bool _) rfl) rfl ?_
      refine L.nil ?_
      refine thn_n ?_
      refine W.cond (b := _) rfl (fun g156 => ?_) (fun g156 => ?_)
      ·have h156 := of_decide_eq_true g156
       exfalso; omega
      ·have h156 := of_decide_eq_false g156
       have hk3 : ¬ a.kind = 3 := h156
       refine W.seq ?_
       refine W.region ?_
       refine L.val (x_eql rfl rfl) rfl ?_
       refine L.val (x_as (v := .bool _) rfl) rfl ?_
       refine L.nil ?_
       refine thn_n ?_
       refine W.cond (b := _) rfl (fun g205 => ?_) (fun g205 => ?_)
       ·have h205 := of_decide_eq_true g205
        exfalso; omega
       ·have h205 := of_decide_eq_false g205
        have hk4 : ¬ a.kind = 4 := h205
        refine W.seq ?_
        refine W.region ?_
        refine L.val (x_eql rfl rfl) rfl ?_
        refine L.val (x_as (v := .bool _) rfl) rfl ?_
        refine L.nil ?_
        refine thn_n ?_
        refine W.cond (b := _) rfl (fun g225 => ?_) (fun g225 => ?_)
        ·have h225 := of_decide_eq_true g225
         refine W.region ?_
         refine L.val (x_mv (v := .pointer _) rfl) rfl ?_
         refine L.val (x_fa ksest_fo36_1 rfl) rfl ?_
         refine L.val (x_ld (v := .int _ _) ksest_oc3 rfl (bx5.cell0 rfl)) rfl ?_
         refine L.ret (x_call ksest_en22 rfl) rfl (abort_ok ow tb b bh bo s _ lh lo rows a.id _ hBN) ?_
         rintro v229 wc ⟨rfl, hG, lo9, hBN⟩
         have hDd := hDc.goes hG htd.symm
         have hGc := hGc.trans hG.two
         rw [if_neg ho] at hBN
         have hst : stepS s ds a = (s, ds) := by unfold stepS; rw [if_neg hk, if_neg hid]; dsimp only; rw [if_neg hk1, if_neg hk2, if_neg hk3, if_neg hk4, if_neg ho]
         refine L.nil ?_
         refine blk_n ?_
         refine thn_n ?_
         refine W.seq ?_
         refine W.region ?_
         refine L.val (x_mv (v := .slice _ _ _) rfl) rfl ?_
         refine L.val (x_as (v := .slice _ _ _) rfl) rfl ?_
         refine L.nil ?_
         refine thn_n ?_
         refine W.ret (fin_mk (.inr rfl) ?_)
         rw [hst]
         exact ⟨_, _, _, _, _, hBN, hDd, hGc⟩
        ·have h225 := of_decide_eq_false g225
         exfalso; omega
theorem step_ok (ow : Labels) (tb td b bh bo N : Nat) (s : Bs) (ds : List Dd) (a : Ac) (v vl : Value) (lh : List (Str × Value)) (lo : List (Int × Value)) (rows : List (List Value)) (w : World) (h : BaseAt ow tb w b s bh bo vl lh lo rows) (hD : DidsAt ow td w v ds) (htd : tb ≠ td)
    (hN : Bnd N s) (hDN : DBnd N ds) (hN9 : N ≤ 900) (hae : EdOk a.ed) :
    Ret Try.prog 17 #[.pointer (some ⟨b, 0, none⟩), v, .agg (acV a).toArray] w fun v' w' => ∃ ow' vl' lh' lo' rows', BaseAt ow' tb w' b (stepS s ds a).1 bh bo vl' lh' lo' rows' ∧ DidsAt ow' td w' v' (stepS s ds a).2 ∧ Goes2 tb td w w' ow ow' := by
  by_cases hb : a.kind < 1 ∨ 5 < a.kind
  · exact step_begin ow tb td b bh bo N s ds a v vl lh lo rows w h hD htd hN hDN hN9 hae hb
  have hc : a.kind = 1 ∨ a.kind = 2 ∨ a.kind = 3 ∨ a.kind = 4 ∨ a.kind = 5 := by omega
  by_cases ho : s.isOpen a.id
  · rcases hc with hc | hc | hc | hc | hc
    · exact step_get ow tb td b bh bo N s ds a v vl lh lo rows w h hD htd hN hDN hN9 hae hc ho
    · exact step_keys ow tb td b bh bo N s ds a v vl lh lo rows w h hD htd hN hDN hN9 hae hc ho
    · exact step_put ow tb td b bh bo N s ds a v vl lh lo rows w h hD htd hN hDN hN9 hae hc ho
    · exact step_commit ow tb td b bh bo N s ds a v vl lh lo rows w h hD htd hN hDN hN9 hae hc ho
    · exact step_abort ow tb td b bh bo N s ds a v vl lh lo rows w h hD htd hN hDN hN9 hae hc ho
  · rcases hc with hc | hc | hc | hc | hc
    · exact step_getN ow tb td b bh bo N s ds a v vl lh lo rows w h hD htd hN hDN hN9 hae hc ho
    · exact step_keysN ow tb td b bh bo N s ds a v vl lh lo rows w h hD htd hN hDN hN9 hae hc ho
    · exact step_putN ow tb td b bh bo N s ds a v vl lh lo rows w h hD htd hN hDN hN9 hae hc ho
    · exact step_commitN ow tb td b bh bo N s ds a v vl lh lo rows w h hD htd hN hDN hN9 hae hc ho
    · exact step_abortN ow tb td b bh bo N s ds a v vl lh lo rows w h hD htd hN hDN hN9 hae hc ho
end Go.Gx
