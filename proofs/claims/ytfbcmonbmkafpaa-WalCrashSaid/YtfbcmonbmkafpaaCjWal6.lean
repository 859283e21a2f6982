/- A log's commit. Conditions: none. -/
import Derived.Test.YtfbcmonbmkafpaaCjWal4
namespace Go.Gx
open Go.Proofs
theorem kwal6_ag26 : aggT Try.prog 26 4 = true := by kernel_rfl
theorem kwal6_en31 : Go.Proofs.Enters Try.prog 31 := Go.Proofs.enters_of Try.func31 (by kernel_rfl) rfl
theorem kwal6_en33 : Go.Proofs.Enters Try.prog 33 := Go.Proofs.enters_of Try.func33 (by kernel_rfl) rfl
theorem kwal6_en34 : Go.Proofs.Enters Try.prog 34 := Go.Proofs.enters_of Try.func34 (by kernel_rfl) rfl
theorem kwal6_en44 : Go.Proofs.Enters Try.prog 44 := Go.Proofs.enters_of Try.func44 (by kernel_rfl) rfl
theorem kwal6_en45 : Go.Proofs.Enters Try.prog 45 := Go.Proofs.enters_of Try.func45 (by kernel_rfl) rfl
theorem kwal6_en46 : Go.Proofs.Enters Try.prog 46 := Go.Proofs.enters_of Try.func46 (by kernel_rfl) rfl
theorem kwal6_fo26_0 : fieldOff Try.prog 26 0 = some 0 := by kernel_rfl
theorem kwal6_fo26_1 : fieldOff Try.prog 26 1 = some 1 := by kernel_rfl
theorem kwal6_fo29_0 : fieldOff Try.prog 29 0 = some 0 := by kernel_rfl
theorem kwal6_fo29_1 : fieldOff Try.prog 29 1 = some 4 := by kernel_rfl
theorem kwal6_mixed : Try.prog.follows .mixedOrders = true := by kernel_rfl
theorem kwal6_oc24 : oneCellT Try.prog 24 = true := by kernel_rfl
theorem kwal6_oc27 : oneCellT Try.prog 27 = true := by kernel_rfl
theorem kwal6_oc3 : oneCellT Try.prog 3 = true := by kernel_rfl
theorem DiskAt.carry {n0 b : Nat} {w w' : World} {D : Dk} (h : DiskAt n0 w b D) (g : Bel w w') : DiskAt n0 w' b D := h.bel g
theorem LogAt.carry {n0 bl b : Nat} {w w' : World} {p : Pt} (h : LogAt n0 w bl b p) (g : Bel w w') : LogAt n0 w' bl b p := h.bel g
theorem Dg.carry {ty : TypeId → Bool} {n0 : Nat} {w w' w'' : World} (h : Dg ty n0 w w') (g : Bel w' w'') : Dg ty n0 w w'' := h.trans (Dg.of_bel g)
def pad (s : Str) : Str := s ++ zeros (64 - s.length)
theorem pad_len {s : Str} (h : s.length ≤ 64) : (pad s).length = 64 := by unfold pad; rw [List.length_append, zeros_len]; omega
def ckS (all : Str) (j : Nat) : Str := pad ((all.drop (64 * j)).take 64)
theorem ckS_len (all : Str) (j : Nat) : (ckS all j).length = 64 := pad_len (by rw [List.length_take]; omega)
def wrC (D : Dk) (st : Nat) (all : Str) (j : Nat) : Dk := { D with ca := D.ca ++ (List.range j).map (fun k => (st + k, ckS all k)), ops := D.ops + j }
theorem wrC_zero (D : Dk) (st : Nat) (all : Str) : wrC D st all 0 = D := by simp [wrC]
theorem wrC_succ (D : Dk) (st : Nat) (all : Str) (j : Nat) : wrD (wrC D st all j) (st + j) (ckS all j) = wrC D st all (j + 1) := by
  simp [wrD, wrC, List.range_succ, Nat.add_assoc]
def allS (D : Dk) (p : Pt) (at' : Nat) (s : Str) : Str := if at' % 64 = 0 then s else (rdD D (stN D.pl.length p.half + at' / 64)).take (at' % 64) ++ s
def wrs (D : Dk) (p : Pt) (at' : Nat) (s : Str) : Dk :=
  wrC D (stN D.pl.length p.half + at' / 64) (allS D p at' s) (if s = [] then 0 else ((allS D p at' s).length + 63) / 64)
def comD (D : Dk) (p : Pt) (at' : Nat) (s : Str) : Dk := flD (wrD (flD (wrD (wrs D p at' s) (p.ep % 2) (zeros 64))) (p.ep % 2) (hdrS p))
theorem rdD_len {D : Dk} (h : DkOk D) {i : Nat} (hi : i < D.pl.length) : (rdD D i).length = 64 := by
  unfold rdD
  cases hq : D.ca.reverse.find? (fun y => y.1 == i) with
  | none => exact h.sec _ (by rw [List.getD_eq_getElem?_getD, List.getElem?_eq_getElem hi]; exact List.getElem_mem hi)
  | some x => exact (h.cac x (by have := List.mem_of_find?_eq_some hq; simpa using this)).2
theorem allS_len {D : Dk} (h : DkOk D) {p : Pt} {at' : Nat} {s : Str} (h6 : 6 ≤ D.pl.length) (hh : p.half ≤ 1) (hr : at' ≤ roomN D.pl.length) : (allS D p at' s).length = at' % 64 + s.length := by
  unfold allS
  have := stN_le h6 hh
  unfold roomN at hr
  split
  · omega
  · rw [List.length_append, List.length_take, rdD_len h (by omega)]; omega
theorem hdrS_len (p : Pt) : (hdrS p).length = 64 := by simp [hdrS, turnS, ptS_len, zeros_len]
theorem commit_w (n0 bl b : Nat) (D : Dk) (q p : Pt) (at' : Nat) (s : Str) (w : World) (h : DiskAt n0 w b D) (hl : LogAt n0 w bl b q) (ha : D.armed = 0) (hd : D.dead = false) (hn : n0 ≤ w.heap.size)
    (h6 : 6 ≤ D.pl.length) (hp : PtOk p) (hh : p.half ≤ 1) (hr : at' + s.length ≤ roomN D.pl.length) (hf : D.ca = [] ∧ D.ops < 900000000) :
    Ret Try.prog 29 #[.pointer (some ⟨bl, 0, none⟩), .agg (ptV p).toArray, .int .i64 (at' : Nat), S s] w fun v w' => v = .int .i64 0 ∧ DiskAt n0 w' b (comD D p at' s) ∧ LogAt n0 w' bl b p ∧ Dg lgTy n0 w w' := by
  have hst := stN_le h6 hh
  have hok := h.2.1
  have hsm := hok.small
  have hal := allS_len hok (s := s) h6 hh (at' := at') (by omega)
  have hrN : roomN D.pl.length = hlf D.pl.length * 64 := rfl
  have hbl := hl.1
  have hb := hl.2
  have hwc : (wrs D p at' s).ca.length ≤ 2200 ∧ (wrs D p at' s).ops ≤ D.ops + 2200 := by
    have h1 : (if s = [] then 0 else ((allS D p at' s).length + 63) / 64) ≤ 2200 := by
      have : hlf D.pl.length ≤ 2047 := by unfold hlf; omega
      split <;> omega
    refine ⟨?_, ?_⟩
    · simp only [wrs, wrC, hf.1, List.nil_append, List.length_map, List.length_range]; exact h1
    · show D.ops + _ ≤ _; omega
  refine ret_of_W Try.func29 rfl (Nat.le_of_ble_eq_true rfl) (res1 rfl) ?_
  have hG := Dg.refl lgTy n0 w
  have hB := Gr.refl (fun _ => False) w
  refine W.seq ?_
  refine W.region ?_
  refine L.box (cs := ptV p) rfl rfl (fun w5 bx5 hw hz5 => ?_)
  have hG := hG.carry hw; have h := h.carry hw; have hb := hb.carry hw
  have hnB := bx5.lt
  refine L.val (x_as (v := .int _ _) rfl) rfl ?_
  refine L.nil ?_
  refine thn_n ?_
  refine W.seq ?_
  refine W.region ?_
  refine L.val (x_mv (v := S _) rfl) rfl ?_
  refine L.val (x_as (v := S _) rfl) rfl ?_
  refine L.nil ?_
  refine thn_n ?_
  refine W.cut (fun D' E' w' => D' = [] ∧ E' 0 = .pointer (some ⟨bl, 0, none⟩) ∧ E' 2 = .int .i64 (at' : Nat) ∧ E' 3 = S s ∧ E' 5 = .pointer (some ⟨w.heap.size, 0, none⟩) ∧ E' 9 = S (allS D p at' s) ∧ DiskAt n0 w' b D ∧ Box w' bl 29 (logV q b false) ∧ Box w' w.heap.size 26 (ptV p) ∧ Dg lgTy n0 w w') ?_ ?_
  ·refine W.seq ?_
   refine W.region ?_
   refine L.val (x_mv (v := .int _ _) rfl) rfl ?_
   refine L.val (x_rem rfl rfl (by omega) (by decide) rfl) rfl ?_
   refine L.val (x_neq rfl rfl) rfl ?_
   refine L.nil ?_
   refine thn_n ?_
   refine W.cond (b := _) rfl (fun g18 => ?_) (fun g18 => ?_)
   ·have h18 := dne_t g18
    have hne : ¬ at' % 64 = 0 := by omega
    refine W.seq ?_
    refine W.drawF 20 kwal6_mixed (fun wF20 hB0 => ?_)
    refine LAC.takeN (i := 0) rfl (by kernel_rfl) (by kernel_rfl) (by kernel_rfl) (by kernel_rfl) (fun w hw => x_mv (v := .pointer _) rfl) rfl ?_
    refine LAC.takeN (i := 1) rfl (by kernel_rfl) (by kernel_rfl) (by kernel_rfl) (by kernel_rfl) (fun w hw => x_nil rfl) rfl ?_
    refine LAC.takeN (i := 2) rfl (by kernel_rfl) (by kernel_rfl) (by kernel_rfl) (by kernel_rfl) (fun w hw => x_fa kwal6_fo29_1 rfl) rfl ?_
    refine LAC.takeN (i := 3) rfl (by kernel_rfl) (by kernel_rfl) (by kernel_rfl) (by kernel_rfl) (fun w hw => x_ld (v := .pointer _) kwal6_oc27 rfl (hw.keep (hb.cell0 rfl))) rfl ?_
    refine LAC.takeN (i := 4) rfl (by kernel_rfl) (by kernel_rfl) (by kernel_rfl) (by kernel_rfl) (fun w hw => x_mv (v := .pointer _) rfl) rfl ?_
    refine LAC.takeN (i := 5) rfl (by kernel_rfl) (by kernel_rfl) (by kernel_rfl) (by kernel_rfl) (fun w hw => x_nil rfl) rfl ?_
    refine LAC.takeN (i := 6) rfl (by kernel_rfl) (by kernel_rfl) (by kernel_rfl) (by kernel_rfl) (fun w hw => x_fa kwal6_fo29_1 rfl) rfl ?_
    refine LAC.takeN (i := 7) rfl (by kernel_rfl) (by kernel_rfl) (by kernel_rfl) (by kernel_rfl) (fun w hw => x_ld (v := .pointer _) kwal6_oc27 rfl (hw.keep (hb.cell0 rfl))) rfl ?_
    refine LAC.takeN (i := 8) rfl (by kernel_rfl) (by kernel_rfl) (by kernel_rfl) (by kernel_rfl) (fun w hw => x_fa kwal6_fo26_1 rfl) rfl ?_
    refine LAC.takeN (i := 9) rfl (by kernel_rfl) (by kernel_rfl) (by kernel_rfl) (by kernel_rfl) (fun w hw => x_ld (v := .int _ _) kwal6_oc3 rfl (hw.keep (bx5.cell0 rfl))) rfl ?_
    refine LAC.takeN (i := 11) rfl (by kernel_rfl) (by kernel_rfl) (by kernel_rfl) (by kernel_rfl) (fun w hw => x_mv (v := .int _ _) rfl) rfl ?_
    refine LAC.takeN (i := 12) rfl (by kernel_rfl) (by kernel_rfl) (by kernel_rfl) (by kernel_rfl) (fun w hw => x_quo rfl rfl (by decide) (wq64 (by omega) (by decide))) rfl ?_
    refine LAC.step (rs := [10]) (fun _ => hB0) (by kernel_rfl) (by simp) ⟨⟨_, rfl, ?_⟩, trivial⟩
    refine L.ret (x_call kwal6_en34 rfl) rfl (start_w n0 b D p.half _ ((h.bel hB0)) h6 hh) ?_
    rintro _ w30 ⟨rfl, hq30⟩
    rw [hq30]
    refine L.nil ?_
    refine thn_n ?_
    refine LAC.takeN (i := 13) rfl (by kernel_rfl) (by kernel_rfl) (by kernel_rfl) (by kernel_rfl) (fun w hw => x_add rfl rfl (wr64 (by omega))) rfl ?_
    refine LAC.step (rs := [14]) (fun _ => hB0) (by kernel_rfl) (by simp) ⟨⟨_, rfl, ?_⟩, trivial⟩
    refine L.ret (x_call kwal6_en31 rfl) rfl (read_d n0 b D (stN D.pl.length p.half + at' / 64) _ ((h.bel hB0)) hd (by omega)) ?_
    rintro _ w34 ⟨rfl, hw⟩
    have hB0 := hB0.carry hw
    refine L.nil ?_
    refine thn_n ?_
    refine LAC.takeN (i := 15) rfl (by kernel_rfl) (by kernel_rfl) (by kernel_rfl) (by kernel_rfl) (fun w hw => x_mv (v := _) rfl) rfl ?_
    refine LAC.takeN (i := 16) rfl (by kernel_rfl) (by kernel_rfl) (by kernel_rfl) (by kernel_rfl) (fun w hw => x_ext (v := S _) rfl rfl) rfl ?_
    refine LAC.takeN (i := 17) rfl (by kernel_rfl) (by kernel_rfl) (by kernel_rfl) (by kernel_rfl) (fun w hw => x_ext (v := .int _ _) rfl rfl) rfl ?_
    refine LAC.takeN (i := 18) rfl (by kernel_rfl) (by kernel_rfl) (by kernel_rfl) (by kernel_rfl) (fun w hw => x_as (v := S _) rfl) rfl ?_
    refine LAC.takeN (i := 19) rfl (by kernel_rfl) (by kernel_rfl) (by kernel_rfl) (by kernel_rfl) (fun w hw => x_as (v := .int _ _) rfl) rfl ?_
    refine LAC.doneF (by kernel_rfl) hB0 ?_
    have hG := hG.carry hB0; have h := h.carry hB0; have hb := hb.carry hB0; have bx5 := bx5.carry hB0
    refine thn_n ?_
    refine W.region ?_
    refine L.val (x_mv (v := S _) rfl) rfl ?_
    refine L.val (x_mv (v := .int _ _) rfl) rfl ?_
    refine L.val (x_rem rfl rfl (by omega) (by decide) rfl) rfl ?_
    refine L.val (x_slS (j := at' % 64) Try.underlying9 rfl rfl (by omega) (by rw [rdD_len hok (by omega)]; omega)) rfl ?_
    refine L.val (x_mv (v := S _) rfl) rfl ?_
    refine L.val (x_cat rfl rfl (by simp; omega)) rfl ?_
    refine L.val (x_as (v := S _) rfl) rfl ?_
    refine L.nil ?_
    refine thn_n ?_
    first | exact ⟨rfl, rfl, rfl, rfl, rfl, by unfold allS; rw [if_neg hne]; rfl, h, hb, bx5, hG⟩ | exact ⟨rfl, rfl, rfl, rfl, rfl, by unfold allS; rw [if_pos hne]; rfl, h, hb, bx5, hG⟩
   ·have h18 := dne_f g18
    have hne : at' % 64 = 0 := by omega
    refine W.skip ?_
    refine thn_n ?_
    first | exact ⟨rfl, rfl, rfl, rfl, rfl, by unfold allS; rw [if_neg hne]; rfl, h, hb, bx5, hG⟩ | exact ⟨rfl, rfl, rfl, rfl, rfl, by unfold allS; rw [if_pos hne]; rfl, h, hb, bx5, hG⟩
  ·rintro D' E w43 ⟨rfl, e0, e2, e3, e5, e9, h, hb, bx5, hG⟩
   rw [upd_self e0, upd_self e2, upd_self e3, upd_self e5, upd_self e9]
   refine W.cut (fun D' E' w' => D' = [] ∧ E' 0 = .pointer (some ⟨bl, 0, none⟩) ∧ E' 5 = .pointer (some ⟨w.heap.size, 0, none⟩) ∧ DiskAt n0 w' b (wrs D p at' s) ∧ Box w' bl 29 (logV q b false) ∧ Box w' w.heap.size 26 (ptV p) ∧ Dg lgTy n0 w w') ?_ ?_
   ·refine W.seq ?_
    refine W.region ?_
    refine L.val (x_mv (v := .int _ _) rfl) rfl ?_
    refine L.val (x_quo rfl rfl (by decide) (wq64 (by omega) (by decide))) rfl ?_
    refine L.val (x_as (v := .int _ _) rfl) rfl ?_
    refine L.nil ?_
    refine thn_n ?_
    refine W.block ?_
    refine W.loop (fun m' E w' => ∃ (j : Nat), m' = (allS D p at' s).length + 64 - 64 * j ∧ E 0 = .pointer (some ⟨bl, 0, none⟩) ∧ E 3 = S s ∧ E 5 = .pointer (some ⟨w.heap.size, 0, none⟩) ∧ E 9 = S ((allS D p at' s).drop (64 * j)) ∧ E 12 = .int .i64 (at' / 64 + j : Nat) ∧ (j = 0 ∨ 64 * j < (allS D p at' s).length ∧ s ≠ []) ∧ (DiskAt n0 w' b (wrC D (stN D.pl.length p.half + at' / 64) (allS D p at' s) j)) ∧ (Box w' bl 29 (logV q b false)) ∧ (Box w' w.heap.size 26 (ptV p)) ∧ (Dg lgTy n0 w w')) ((allS D p at' s).length + 64) ?_ ?_
    ·exact ⟨0, by omega, by first | rfl | exact vi (by omega), by first | rfl | exact vi (by omega), by first | rfl | exact vi (by omega), by first | rfl | exact vi (by omega), by first | rfl | exact vi (by omega), (by first | assumption | omega | rfl), (by rw [wrC_zero]; exact h), (by first | assumption | omega | rfl), (by first | assumption | omega | rfl), (by first | assumption | omega | rfl)⟩
    ·rintro _ E wL45 ⟨j, em, e0, e3, e5, e9, e12, hj, h, hb, bx5, hG⟩
     rw [upd_self e0, upd_self e3, upd_self e5, upd_self e9, upd_self e12]
     refine W.seq ?_
     refine W.seq ?_
     refine W.region ?_
     refine L.val (x_mv (v := S _) rfl) rfl ?_
     refine L.val (x_nes rfl rfl) rfl ?_
     refine L.val (x_mv (v := .bool _) rfl) rfl ?_
     refine L.splitat (dj := 47) (b := _) rfl (fun g47 => ?_) (fun g47 => ?_)
     ·have h47 := sne_t g47
      refine L.gyes' (dj := 47) (b := _) rfl rfl g47 ?_
      refine L.val (x_mv (v := S _) rfl) rfl ?_
      refine L.gyes' (dj := 47) (b := _) rfl rfl g47 ?_
      refine L.val (x_nes rfl rfl) rfl ?_
      refine L.val (x_pick_t (v := .bool _) (congrArg Value.bool g47) rfl) rfl ?_
      refine L.nil ?_
      refine thn_n ?_
      refine W.cond (b := _) rfl (fun g49 => ?_) (fun g49 => ?_)
      ·have h49 := sne_t g49
       have hlj : 64 * j < (allS D p at' s).length := by
         rcases Nat.lt_or_ge (64 * j) (allS D p at' s).length with h | h
         · exact h
         · exact absurd (List.drop_of_length_le h) h47
       have hld : ((allS D p at' s).drop (64 * j)).length = (allS D p at' s).length - 64 * j := List.length_drop
       have eT : ((allS D p at' s).drop (64 * j)).take (min ((allS D p at' s).drop (64 * j)).length 64) = ((allS D p at' s).drop (64 * j)).take 64 := by
         rw [Nat.min_comm, ← List.take_take, List.take_length]
       have eDr : ((allS D p at' s).drop (64 * j)).drop (min ((allS D p at' s).drop (64 * j)).length 64) = (allS D p at' s).drop (64 * (j + 1)) := by
         rw [List.drop_drop]
         rcases Nat.lt_or_ge (64 * (j + 1)) (allS D p at' s).length with h | h
         · rw [show 64 * j + min ((allS D p at' s).drop (64 * j)).length 64 = 64 * (j + 1) by omega]
         · rw [List.drop_of_length_le h, List.drop_of_length_le (by omega)]
       have hjn : j ≤ 2200 := by
         have : hlf D.pl.length ≤ 2047 := by unfold hlf; omega
         omega
       have hcl : (wrC D (stN D.pl.length p.half + at' / 64) (allS D p at' s) j).ca.length = j := by simp [wrC, hf.1]
       refine W.skip ?_
       refine thn_n ?_
       refine W.seq ?_
       refine W.block ?_
       refine W.seq ?_
       refine W.region ?_
       refine L.val (x_mv (v := S _) rfl) rfl ?_
       refine L.val (x_len_str Try.underlying9 rfl) rfl ?_
       refine L.val (x_min rfl rfl) rfl ?_
       refine L.val (x_as (v := .int _ _) rfl) rfl ?_
       refine L.nil ?_
       refine thn_n ?_
       refine W.seq ?_
       refine W.seq ?_
       refine W.drawD (fun _ => True) (fun _ => False) 14 kwal6_mixed (fun wD56 hw => ?_)
       have hG := hG.carry hw; have h := h.carry hw; have hb := hb.carry hw; have bx5 := bx5.carry hw
       have hB0 := Gr.refl (fun _ => False) wD56; have hR0 := Gr.refl (fun _ => True) wD56
       refine LAD.take0 (i := 0) rfl (by kernel_rfl) (by kernel_rfl) (by kernel_rfl) (by kernel_rfl) (fun w hw => x_mv (v := .pointer _) rfl) rfl ?_
       refine LAD.take0 (i := 1) rfl (by kernel_rfl) (by kernel_rfl) (by kernel_rfl) (by kernel_rfl) (fun w hw => x_mv (v := .pointer _) rfl) rfl ?_
       refine LAD.take0 (i := 2) rfl (by kernel_rfl) (by kernel_rfl) (by kernel_rfl) (by kernel_rfl) (fun w hw => x_nil rfl) rfl ?_
       refine LAD.take0 (i := 3) rfl (by kernel_rfl) (by kernel_rfl) (by kernel_rfl) (by kernel_rfl) (fun w hw => x_fa kwal6_fo29_1 rfl) rfl ?_
       refine LAD.takeP [9, 7, 4] (i := 4) rfl (by kernel_rfl) (by kernel_rfl) (by kernel_rfl) (by kernel_rfl) (by kernel_rfl) (by kernel_rfl) (fun w hw => x_ld (v := .pointer _) kwal6_oc27 rfl (hw.keepR (fun e => e) (hb.cell0 rfl))) rfl ?_
       refine LAD.take0 (i := 5) rfl (by kernel_rfl) (by kernel_rfl) (by kernel_rfl) (by kernel_rfl) (fun w hw => x_fa kwal6_fo26_1 rfl) rfl ?_
       refine LAD.takeP [9, 7, 6] (i := 6) rfl (by kernel_rfl) (by kernel_rfl) (by kernel_rfl) (by kernel_rfl) (by kernel_rfl) (by kernel_rfl) (fun w hw => x_ld (v := .int _ _) kwal6_oc3 rfl (hw.keepR (fun e => e) (bx5.cell0 rfl))) rfl ?_
       refine LAD.take0 (i := 8) rfl (by kernel_rfl) (by kernel_rfl) (by kernel_rfl) (by kernel_rfl) (fun w hw => x_mv (v := .int _ _) rfl) rfl ?_
       refine LAD.take0 (i := 10) rfl (by kernel_rfl) (by kernel_rfl) (by kernel_rfl) (by kernel_rfl) (fun w hw => x_mv (v := S _) rfl) rfl ?_
       refine LAD.take0 (i := 11) rfl (by kernel_rfl) (by kernel_rfl) (by kernel_rfl) (by kernel_rfl) (fun w hw => x_mv (v := .int _ _) rfl) rfl ?_
       refine LAD.take0 (i := 12) rfl (by kernel_rfl) (by kernel_rfl) (by kernel_rfl) (by kernel_rfl) (fun w hw => x_slS (j := min ((allS D p at' s).drop (64 * j)).length 64) Try.underlying9 rfl rfl (by omega) (by omega)) rfl ?_
       rw [eT]
       refine LAD.step (rs := [7]) hR0 (fun _ => hB0) (by kernel_rfl) (by simp) ⟨⟨_, rfl, ?_⟩, trivial⟩
       refine L.ret (x_call kwal6_en34 rfl) rfl (start_w n0 b _ p.half _ (h.bel hB0) h6 hh) ?_
       rintro _ w63 ⟨rfl, hq63⟩
       rw [hq63, show (wrC D (stN D.pl.length p.half + at' / 64) (allS D p at' s) j).pl = D.pl from rfl]
       refine L.nil ?_
       refine thn_n ?_
       refine LAD.take0 (i := 9) rfl (by kernel_rfl) (by kernel_rfl) (by kernel_rfl) (by kernel_rfl) (fun w hw => x_add rfl rfl (wr64 (by omega))) rfl ?_
       rw [show ((stN D.pl.length p.half : Nat) : Int) + ((at' / 64 + j : Nat) : Int) = ((stN D.pl.length p.half + at' / 64 + j : Nat) : Int) by omega]
       refine LAD.step (rs := [13]) hR0 (fun _ => hB0) (by kernel_rfl) (by simp) ⟨⟨_, rfl, ?_⟩, trivial⟩
       refine L.ret (x_call kwal6_en33 rfl) rfl (padded_ok _ (by rw [List.length_take]; omega) _) ?_
       rintro _ w69 ⟨rfl, hw⟩
       have hB0 := hB0.carry hw; have hR0 := hR0.carry hw; have hb := hb.carry hw; have bx5 := bx5.carry hw
       refine L.nil ?_
       refine thn_n ?_
       refine LAD.step (rs := [14]) hR0 (fun _ => hB0) (by kernel_rfl) (by simp) ⟨⟨_, rfl, ?_⟩, trivial⟩
       refine L.ret (x_call kwal6_en44 rfl) rfl (write_w n0 bl b _ q (stN D.pl.length p.half + at' / 64 + j) (ckS (allS D p at' s) j) _ (h.bel hB0) ⟨hbl, hb⟩ ha hd (by show _ < D.pl.length; omega) (ckS_len _ _) (Nat.le_trans hn (hG.carry hB0).size) (by rw [hcl]; show _ ∧ D.ops + j < _; omega)) ?_
       rintro _ w70 ⟨rfl, h70, hl70, hg70⟩
       have hR0 := hR0.trans (Gr.mono hg70 (fun _ _ _ => trivial))
       have hG70 := (hG.carry hB0).trans hg70
       have hb := hl70.2
       have bx5 := bx5.dg hg70 rfl
       rw [wrC_succ] at h70
       refine L.nil ?_
       refine thn_n ?_
       refine LAD.take0 (i := 15) rfl (by kernel_rfl) (by kernel_rfl) (by kernel_rfl) (by kernel_rfl) (fun w hw => x_not rfl) rfl ?_
       refine LAD.done (by kernel_rfl) (by kernel_rfl) hR0 ?_
       have hG := hG70
       have h := h70
       refine thn_n ?_
       refine W.cond (b := _) rfl (fun g71 => ?_) (fun g71 => ?_)
       ·have h71 := (not_t g71)
        cases g71
       ·have h71 := (not_f g71)
        refine W.skip ?_
        refine thn_n ?_
        refine W.seq ?_
        refine W.region ?_
        refine L.val (x_mv (v := S _) rfl) rfl ?_
        refine L.val (x_mv (v := .int _ _) rfl) rfl ?_
        refine L.val (x_slB (j := min ((allS D p at' s).drop (64 * j)).length 64) Try.underlying9 rfl rfl (by omega) (by omega)) rfl ?_
        rw [eDr]
        refine L.val (x_as (v := S _) rfl) rfl ?_
        refine L.nil ?_
        refine thn_n ?_
        refine W.seq ?_
        refine W.region ?_
        refine L.val (x_mv (v := S _) rfl) rfl ?_
        refine L.val (x_eqs rfl rfl) rfl ?_
        refine L.nil ?_
        refine thn_n ?_
        refine W.cond (b := _) rfl (fun g76 => ?_) (fun g76 => ?_)
        ·have h76 := seq_t g76
         have hz : (allS D p at' s).length ≤ 64 * (j + 1) := by have := congrArg List.length h76; simp only [List.length_drop, List.length_nil] at this; omega
         have hfin : j + 1 = (if s = [] then 0 else ((allS D p at' s).length + 63) / 64) := by
           rw [if_neg h49]; omega
         refine W.exit (blk_miss rfl (thn_x (thn_x (blk_hit ?_))))
         refine thn_n ?_
         refine ⟨rfl, rfl, rfl, ?_, hb, bx5, hG⟩
         unfold wrs
         exact hfin ▸ h
        ·have h76 := seq_f g76
         have hlt2 : 64 * (j + 1) < (allS D p at' s).length := by
           rcases Nat.lt_or_ge (64 * (j + 1)) (allS D p at' s).length with h | h
           · exact h
           · exact absurd (List.drop_of_length_le h) h76
         refine W.skip ?_
         refine blk_n ?_
         refine thn_n ?_
         refine W.region ?_
         refine L.val (x_mv (v := .int _ _) rfl) rfl ?_
         refine L.val (x_add rfl rfl (wr64 (by omega))) rfl ?_
         refine L.val (x_as (v := .int _ _) rfl) rfl ?_
         refine L.nil ?_
         refine thn_n ⟨rfl, ?_⟩
         refine ⟨_, ?_, j + 1, rfl, by first | rfl | exact vi (by omega), by first | rfl | exact vi (by omega), by first | rfl | exact vi (by omega), by first | rfl | exact vi (by omega), by first | rfl | exact vi (by omega), (by exact .inr ⟨by omega, h49⟩), (by first | assumption | omega | rfl), (by first | assumption | omega | rfl), (by first | assumption | omega | rfl), (by first | assumption | omega | rfl)⟩
         omega
      ·have h49 := sne_f g49
       have hfin : j = (if s = [] then 0 else ((allS D p at' s).length + 63) / 64) := by
         rcases hj with rfl | hj
         · rw [if_pos h49]
         · exact absurd h49 hj.2
       refine W.exit (thn_x (thn_x (blk_hit ?_)))
       refine thn_n ?_
       refine ⟨rfl, rfl, rfl, ?_, hb, bx5, hG⟩
       unfold wrs
       exact hfin ▸ h
     ·have h47 := sne_f g47
      have hz : (allS D p at' s).length ≤ 64 * j := by have := congrArg List.length h47; simp only [List.length_drop, List.length_nil] at this; omega
      have hfin : j = (if s = [] then 0 else ((allS D p at' s).length + 63) / 64) := by
        rcases hj with rfl | hj
        · rw [if_pos (List.eq_nil_of_length_eq_zero (by omega))]
        · omega
      refine L.gno (dj := 47) (b := _) rfl rfl g47 rfl ?_
      refine L.gno (dj := 47) (b := _) rfl rfl g47 rfl ?_
      refine L.val (x_pick_f (v := .bool _) (congrArg Value.bool g47) rfl) rfl ?_
      refine L.nil ?_
      refine thn_n ?_
      refine W.cond (b := false) rfl (fun h => nomatch h) (fun _ => ?_)
      refine W.exit (thn_x (thn_x (blk_hit ?_)))
      refine thn_n ?_
      refine ⟨rfl, rfl, rfl, ?_, hb, bx5, hG⟩
      unfold wrs
      exact hfin ▸ h
   ·rintro D' E w77 ⟨rfl, e0, e5, h, hb, bx5, hG⟩
    rw [upd_self e0, upd_self e5]
    refine W.seq ?_
    refine W.region ?_
    refine L.val (x_fa kwal6_fo26_0 rfl) rfl ?_
    refine L.val (x_ld (v := .int _ _) kwal6_oc24 rfl (bx5.cell0 rfl)) rfl ?_
    refine L.val (x_rem (c := ((p.ep % 2 : Nat) : Int)) rfl rfl (by omega) (by decide) (by omega)) rfl ?_
    refine L.val (x_conv (k' := .i64) (by rw [Try.underlying24]; rfl) Try.underlying3 rfl (wr64 (by omega))) rfl ?_
    refine L.val (x_as (v := .int _ _) rfl) rfl ?_
    refine L.nil ?_
    refine thn_n ?_
    refine W.seq ?_
    refine W.seq ?_
    refine W.region ?_
    refine L.val (x_mv (v := .pointer _) rfl) rfl ?_
    refine L.val (x_mv (v := .int _ _) rfl) rfl ?_
    refine L.ret (x_call kwal6_en33 rfl) rfl (padded_ok [] (by decide) _) ?_
    rintro _ w83 ⟨rfl, hw⟩
    have hG := hG.carry hw; have h := h.carry hw; have hb := hb.carry hw; have bx5 := bx5.carry hw
    refine L.ret (x_call kwal6_en44 rfl) rfl (write_w n0 bl b _ q (p.ep % 2) (zeros 64) _ h ⟨hbl, hb⟩ ha hd (by show _ < D.pl.length; omega) (zeros_len _) (Nat.le_trans hn hG.size) (by omega)) ?_
    rintro _ w84 ⟨rfl, h84, hl84, hg84⟩
    have h := h84; have hb := hl84.2; have bx5 := bx5.dg hg84 rfl
    have hG := hG.trans hg84
    refine L.val (x_not rfl) rfl ?_
    refine L.val (x_mv (v := .bool _) rfl) rfl ?_
    refine L.splitat (dj := 86) (b := _) rfl (fun g86 => ?_) (fun g86 => ?_)
    ·have h86 := (not_t g86)
     cases g86
    ·have h86 := (not_f g86)
     refine L.gyes' (dj := 86) (b := _) rfl rfl g86 ?_
     refine L.val (x_mv (v := .pointer _) rfl) rfl ?_
     refine L.gyes' (dj := 86) (b := _) rfl rfl g86 ?_
     refine L.ret (x_call kwal6_en45 rfl) rfl (flush_w n0 bl b _ q _ h ⟨hbl, hb⟩ ha hd (Nat.le_trans hn hG.size) (by show (wrs D p at' s).ops + 1 < _; omega)) ?_
     rintro _ w88 ⟨rfl, h88, hl88, hg88⟩
     have h := h88; have hb := hl88.2; have bx5 := bx5.dg hg88 rfl
     have hG := hG.trans hg88
     refine L.gyes' (dj := 86) (b := _) rfl rfl g86 ?_
     refine L.val (x_not rfl) rfl ?_
     refine L.val (x_pick_f (v := .bool _) (congrArg Value.bool g86) rfl) rfl ?_
     refine L.val (x_mv (v := .bool _) rfl) rfl ?_
     refine L.splitat (dj := 91) (b := _) rfl (fun g91 => ?_) (fun g91 => ?_)
     ·have h91 := (not_t g91)
      cases g91
     ·have h91 := (not_f g91)
      refine L.gyes' (dj := 91) (b := _) rfl rfl g91 ?_
      refine L.val (x_mv (v := .pointer _) rfl) rfl ?_
      refine L.gyes' (dj := 91) (b := _) rfl rfl g91 ?_
      refine L.val (x_mv (v := .int _ _) rfl) rfl ?_
      refine L.gyes' (dj := 91) (b := _) rfl rfl g91 ?_
      refine L.val (x_ldn (vs := _) kwal6_ag26 rfl rfl (bx5.row rfl)) rfl ?_
      refine L.gyes' (dj := 91) (b := _) rfl rfl g91 ?_
      refine L.ret (x_call kwal6_en46 rfl) rfl (header_ok p hp _) ?_
      rintro _ w95 ⟨rfl, hw⟩
      have hG := hG.carry hw; have h := h.carry hw; have hb := hb.carry hw; have bx5 := bx5.carry hw
      refine L.gyes' (dj := 91) (b := _) rfl rfl g91 ?_
      refine L.ret (x_call kwal6_en44 rfl) rfl (write_w n0 bl b _ q (p.ep % 2) (hdrS p) _ h ⟨hbl, hb⟩ ha hd (by show _ < (apD D.pl (wrD (wrs D p at' s) (p.ep % 2) (zeros 64)).ca).length; rw [apD_len]; omega) (hdrS_len _) (Nat.le_trans hn hG.size) (by show (0 < _) ∧ (wrs D p at' s).ops + 1 + 1 < _; omega)) ?_
      rintro _ w96 ⟨rfl, h96, hl96, hg96⟩
      have h := h96; have hb := hl96.2; have bx5 := bx5.dg hg96 rfl
      have hG := hG.trans hg96
      refine L.gyes' (dj := 91) (b := _) rfl rfl g91 ?_
      refine L.val (x_not rfl) rfl ?_
      refine L.val (x_pick_f (v := .bool _) (congrArg Value.bool g91) rfl) rfl ?_
      refine L.val (x_mv (v := .bool _) rfl) rfl ?_
      refine L.splitat (dj := 99) (b := _) rfl (fun g99 => ?_) (fun g99 => ?_)
      ·have h99 := (not_t g99)
       cases g99
      ·have h99 := (not_f g99)
       refine L.gyes' (dj := 99) (b := _) rfl rfl g99 ?_
       refine L.val (x_mv (v := .pointer _) rfl) rfl ?_
       refine L.gyes' (dj := 99) (b := _) rfl rfl g99 ?_
       refine L.ret (x_call kwal6_en45 rfl) rfl (flush_w n0 bl b _ q _ h ⟨hbl, hb⟩ ha hd (Nat.le_trans hn hG.size) (by show (wrs D p at' s).ops + 1 + 1 + 1 < _; omega)) ?_
       rintro _ w101 ⟨rfl, h101, hl101, hg101⟩
       have h := h101; have hb := hl101.2; have bx5 := bx5.dg hg101 rfl
       have hG := hG.trans hg101
       refine L.gyes' (dj := 99) (b := _) rfl rfl g99 ?_
       refine L.val (x_not rfl) rfl ?_
       refine L.val (x_pick_f (v := .bool _) (congrArg Value.bool g99) rfl) rfl ?_
       refine L.nil ?_
       refine thn_n ?_
       refine W.cond (b := _) rfl (fun g102 => ?_) (fun g102 => ?_)
       ·have h102 := (not_t g102)
        cases g102
       ·have h102 := (not_f g102)
        refine W.skip ?_
        refine thn_n ?_
        refine W.seq ?_
        refine W.region ?_
        refine L.val (x_mv (v := .pointer _) rfl) rfl ?_
        refine L.val (x_ldn (vs := _) kwal6_ag26 rfl rfl (bx5.row rfl)) rfl ?_
        refine L.val (x_nil rfl) rfl ?_
        refine L.val (x_fa kwal6_fo29_0 rfl) rfl ?_
        have hlo : LogAt n0 _ bl b q := ⟨hbl, hb⟩
        refine L.setPart (o := 0) (k := 4) (new := ptV p) kwal6_ag26 rfl rfl hb (by show 4 ≤ 6; omega) rfl (ptV_one p) (fun wl107 hb hw hzl107 => ?_)
        have h := h.log hlo hw
        have hG := hG.trans (Dg.log hlo hw)
        refine L.nil ?_
        refine thn_n ?_
        refine W.seq ?_
        refine W.region ?_
        refine L.val (x_as (v := .int _ _) rfl) rfl ?_
        refine L.nil ?_
        refine thn_n ?_
        refine W.ret (fin_mk (.inr rfl) ?_)
        exact ⟨rfl, h, ⟨hbl, hb⟩, hG⟩
end Go.Gx
