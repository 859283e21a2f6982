/- The laws of stores: what they ask of acts. Conditions: none. -/
import Derived.Test.YtfbcmonbmkafpaaGreatCmStoJ
import Derived.Test.YtfbcmonbmkafpaaGreatCmWalA
namespace Go.Gx
open Go.Proofs Go.Sort
theorem kstol_en8 : Go.Proofs.Enters Tryz.prog 8 := Go.Proofs.enters_of Tryz.func8 (by kernel_rfl) rfl
theorem kstol_en9 : Go.Proofs.Enters Tryz.prog 9 := Go.Proofs.enters_of Tryz.func9 (by kernel_rfl) rfl
theorem kstol_fo52_1 : fieldOff Tryz.prog 52 1 = some 1 := by kernel_rfl
theorem kstol_fo95_0 : fieldOff Tryz.prog 95 0 = some 0 := by kernel_rfl
theorem kstol_fo95_1 : fieldOff Tryz.prog 95 1 = some 1 := by kernel_rfl
theorem kstol_mixed : Tryz.prog.follows .mixedOrders = true := by kernel_rfl
theorem kstol_oc22 : oneCellT Tryz.prog 22 = true := by kernel_rfl
theorem kstol_oc9 : oneCellT Tryz.prog 9 = true := by kernel_rfl
theorem kstol_sz52 : (Tryz.prog.info? 52).map (·.size) = some 7 := by kernel_rfl
theorem kstol_sz9 : (Tryz.prog.info? 9).map (·.size) = some 1 := by kernel_rfl
theorem kstol_sz95 : (Tryz.prog.info? 95).map (·.size) = some 3 := by kernel_rfl
def costE (l : List Ed) : Nat := (l.map fun e => min e.key.length 10000 + min e.val.length 30000 + 10).sum
def costS (l : List Sa) : Nat := (l.map fun a => 200 + costE a.eds).sum
def fewS (l : List Sa) : Bool := decide (costS l ≤ 60000)
theorem costE_take {l : List Ed} {k : Nat} (h : k < l.length) : costE (l.take (k + 1)) = costE (l.take k) + (min (l.getD k default).key.length 10000 + min (l.getD k default).val.length 30000 + 10) := by
  unfold costE
  rw [take_snoc (d := default) h, List.map_append, List.sum_append]; simp
theorem costS_take {l : List Sa} {k : Nat} (h : k < l.length) : costS (l.take (k + 1)) = costS (l.take k) + (200 + costE (l.getD k default).eds) := by
  unfold costS
  rw [take_snoc (d := default) h, List.map_append, List.sum_append]; simp
theorem costE_le (l : List Ed) (k : Nat) : costE (l.take k) ≤ costE l := by
  unfold costE
  conv => rhs; rw [← List.take_append_drop k l, List.map_append, List.sum_append]
  omega
theorem costS_le (l : List Sa) (k : Nat) : costS (l.take k) ≤ costS l := by
  unfold costS
  conv => rhs; rw [← List.take_append_drop k l, List.map_append, List.sum_append]
  omega
theorem costS_len (l : List Sa) : 200 * l.length ≤ costS l := by
  unfold costS
  induction l with
  | nil => exact Nat.le_refl _
  | cons a l ih => simp only [List.map_cons, List.sum_cons, List.length_cons]; omega
theorem costE_len (l : List Ed) : 10 * l.length ≤ costE l := by
  unfold costE
  induction l with
  | nil => exact Nat.le_refl _
  | cons a l ih => simp only [List.map_cons, List.sum_cons, List.length_cons]; omega
theorem costE_siz {l : List Ed} (h : mayL l = true) : sizG l ≤ 3 * costE l := by
  unfold costE sizG
  unfold mayL at h
  induction l with
  | nil => exact Nat.le_refl _
  | cons e l ih =>
    rw [List.all_cons, Bool.and_eq_true] at h
    have := mayE_len h.1
    have ih := ih h.2
    simp only [List.map_cons, List.sum_cons]; omega
theorem sas_elem {A : Nat → Prop} {w : World} {p : Option Addr} {n cap : Nat} {l : List Sa} (h : SasAt A w (.slice p n cap) l) {i : Nat} (hi : i < l.length) : ∃ b o pe ce pk ck, p = some ⟨b, o, none⟩ ∧ EdsAt A w (.slice pe (l.getD i default).eds.length ce) (l.getD i default).eds ∧ BlsAt A w (.slice pk (l.getD i default).keep.length ck) (l.getD i default).keep ∧ (l.getD i default).at' ≤ 9223372036854775807 ∧
    ∀ j, j < 7 → w.cell? ⟨b, o + i * 7 + j, none⟩ = (saV (l.getD i default) (.slice pe (l.getD i default).eds.length ce) (.slice pk (l.getD i default).keep.length ck))[j]? := by
  obtain ⟨p', cap', row, e, -, -, -, hR⟩ := h
  cases e
  obtain ⟨b, o, hp, hA, hc⟩ := hR.elem hi
  obtain ⟨ve, vk, hrow, hs, hk, ha⟩ := hR.each i hi
  obtain ⟨pe, ce, re, rfl, -⟩ := id hs
  obtain ⟨pk, ck, rfl, -⟩ := id hk
  exact ⟨b, o, pe, ce, pk, ck, hp, hs, hk, ha, fun j hj => by rw [hc j hj, hrow]⟩
theorem few23 (A : Nat → Prop) (v : Value) (l : List Sa) (w : World) (h : SasAt A w v l) : Ret Tryz.prog 14 #[v] w fun v w' => v = .bool (fewS l) ∧ Bel w w' := by
  obtain ⟨pv, cv, row, rfl, -, -, hln, -⟩ := id h
  refine ret_of_W Tryz.func14 rfl (Nat.le_of_ble_eq_true rfl) (res1 rfl) ?_
  have hB := Gr.refl (fun _ => False) w
  refine W.seq ?_
  refine W.region ?_
  refine L.val (x_as (v := .bool _) rfl) rfl ?_
  refine L.nil ?_
  refine thn_n ?_
  refine W.seq ?_
  refine W.region ?_
  refine L.val (x_as (v := .int _ _) rfl) rfl ?_
  refine L.nil ?_
  refine thn_n ?_
  refine W.seq ?_
  refine W.seq ?_
  refine W.region ?_
  refine L.val (x_as (v := .int _ _) rfl) rfl ?_
  refine L.nil ?_
  refine thn_n ?_
  refine W.block ?_
  refine W.loop (fun m' E w' => ∃ (i : Nat), m' = l.length - i ∧ E 0 = .slice pv l.length cv ∧ E 3 = .int .i64 (costS (l.take i) : Nat) ∧ E 4 = .int .i64 (i : Nat) ∧ (i ≤ l.length) ∧ (costS (l.take i) ≤ 60000) ∧ (Bel w w') ∧ (SasAt A w' (.slice pv l.length cv) l)) (l.length) ?_ ?_
  ·exact ⟨0, by omega, by first | rfl | exact vi (by omega) | exact vs (by first | assumption | (rw [hst]; done) | (rw [hst]; simp only [List.append_assoc])), by first | rfl | exact vi (by omega) | exact vs (by first | assumption | (rw [hst]; done) | (rw [hst]; simp only [List.append_assoc])), by first | rfl | exact vi (by omega) | exact vs (by first | assumption | (rw [hst]; done) | (rw [hst]; simp only [List.append_assoc])), (by first | assumption | omega | rfl), (by simp [costS]), (by first | assumption | omega | rfl), (by first | assumption | omega | rfl)⟩
  ·rintro _ E wL6 ⟨i, em, e0, e3, e4, hi, hq, hB, h⟩
   rw [upd_self e0, upd_self e3, upd_self e4]
   refine W.seq ?_
   refine W.seq ?_
   refine W.region ?_
   refine L.val (x_mv (v := .int _ _) rfl) rfl ?_
   refine L.val (x_mv (v := .slice _ _ _) rfl) rfl ?_
   refine L.val (x_len_slice Tryz.underlying42 rfl) rfl ?_
   refine L.val (x_lss rfl rfl) rfl ?_
   refine L.nil ?_
   refine thn_n ?_
   refine W.cond (b := _) rfl (fun g9 => ?_) (fun g9 => ?_)
   ·have h9 := of_decide_eq_true g9
    have hlt : i < l.length := by omega
    have hst := costS_take hlt
    have hle := costS_le l (i + 1)
    refine W.skip ?_
    refine thn_n ?_
    refine W.seq ?_
    refine W.block ?_
    refine W.seq ?_
    refine W.region ?_
    refine L.val (x_mv (v := .int _ _) rfl) rfl ?_
    refine L.val (x_add rfl rfl (wr64 (by omega))) rfl ?_
    refine L.val (x_as (v := .int _ _) rfl) rfl ?_
    refine L.nil ?_
    refine thn_n ?_
    refine W.seq ?_
    refine W.seq ?_
    refine W.region ?_
    refine L.val (x_as (v := .int _ _) rfl) rfl ?_
    refine L.nil ?_
    refine thn_n ?_
    refine W.block ?_
    refine W.loop (fun m' E w' => ∃ (j : Nat), m' = (l.getD i default).eds.length - j ∧ E 0 = .slice pv l.length cv ∧ E 3 = .int .i64 (costS (l.take i) + 200 + costE ((l.getD i default).eds.take j) : Nat) ∧ E 4 = .int .i64 (i : Nat) ∧ E 5 = .int .i64 (j : Nat) ∧ (j ≤ (l.getD i default).eds.length) ∧ (costE ((l.getD i default).eds.take j) ≤ 60000) ∧ (Bel w w') ∧ (SasAt A w' (.slice pv l.length cv) l)) ((l.getD i default).eds.length) ?_ ?_
    ·exact ⟨0, by omega, by first | rfl | exact vi (by omega) | exact vs (by first | assumption | (rw [hst]; done) | (rw [hst]; simp only [List.append_assoc])), by first | rfl | exact vi (by omega) | exact vs (by first | assumption | (rw [hst]; done) | (rw [hst]; simp only [List.append_assoc])), by first | rfl | exact vi (by omega) | exact vs (by first | assumption | (rw [hst]; done) | (rw [hst]; simp only [List.append_assoc])), by first | rfl | exact vi (by omega) | exact vs (by first | assumption | (rw [hst]; done) | (rw [hst]; simp only [List.append_assoc])), (by first | assumption | omega | rfl), (by simp [costE]), (by first | assumption | omega | rfl), (by first | assumption | omega | rfl)⟩
    ·rintro _ E wL14 ⟨j, em, e0, e3, e4, e5, hj, hqj, hB, h⟩
     rw [upd_self e0, upd_self e3, upd_self e4, upd_self e5]
     refine W.seq ?_
     refine W.seq ?_
     refine W.region ?_
     obtain ⟨b, o, pb, cb, pk, ck, ep, hs, -, -, hc⟩ := sas_elem h hlt
     have hcb := hc 1 (by omega)
     refine L.val (x_mv (v := .int _ _) rfl) rfl ?_
     refine L.val (x_mv (v := .slice _ _ _) rfl) rfl ?_
     refine L.val (x_mv (v := .int _ _) rfl) rfl ?_
     refine L.val (x_ia (j := i) Tryz.underlying42 kstol_sz52 (by show Value.slice pv _ _ = _; rw [ep]) rfl (by omega) (by omega)) rfl ?_
     refine L.val (x_fa kstol_fo52_1 rfl) rfl ?_
     refine L.val (x_ld (v := .slice _ _ _) kstol_oc22 rfl hcb) rfl ?_
     refine L.val (x_len_slice Tryz.underlying22 rfl) rfl ?_
     refine L.val (x_lss rfl rfl) rfl ?_
     refine L.nil ?_
     refine thn_n ?_
     refine W.cond (b := _) rfl (fun g21 => ?_) (fun g21 => ?_)
     ·have h21 := of_decide_eq_true g21
      have hltj : j < (l.getD i default).eds.length := by omega
      obtain ⟨hek, bj, oj, rfl, -, hcj⟩ := eds_elem hs hltj
      have hcj0 := hcj 0 (by omega)
      have hcj1 := hcj 1 (by omega)
      have hstj := costE_take hltj
      have hlej := costE_le (l.getD i default).eds (j + 1)
      have hek1 := hek.1; have hek2 := hek.2
      subst ep
      obtain ⟨_, _, _, -, -, -, hel, -⟩ := id hs
      refine W.skip ?_
      refine thn_n ?_
      refine W.seq ?_
      refine W.block ?_
      refine W.seq ?_
      refine W.drawF 27 kstol_mixed (fun wF24 hB0 => ?_)
      refine LAC.takeN (i := 0) rfl (by kernel_rfl) (by kernel_rfl) (by kernel_rfl) (by kernel_rfl) (fun w hw => x_mv (v := .int _ _) rfl) rfl ?_
      refine LAC.takeN (i := 1) rfl (by kernel_rfl) (by kernel_rfl) (by kernel_rfl) (by kernel_rfl) (fun w hw => x_mv (v := .slice _ _ _) rfl) rfl ?_
      refine LAC.takeN (i := 2) rfl (by kernel_rfl) (by kernel_rfl) (by kernel_rfl) (by kernel_rfl) (fun w hw => x_mv (v := .int _ _) rfl) rfl ?_
      refine LAC.takeN (i := 3) rfl (by kernel_rfl) (by kernel_rfl) (by kernel_rfl) (by kernel_rfl) (fun w hw => x_ia (j := i) Tryz.underlying42 kstol_sz52 rfl rfl (by omega) (by omega)) rfl ?_
      refine LAC.takeN (i := 4) rfl (by kernel_rfl) (by kernel_rfl) (by kernel_rfl) (by kernel_rfl) (fun w hw => x_fa kstol_fo52_1 rfl) rfl ?_
      refine LAC.takeN (i := 5) rfl (by kernel_rfl) (by kernel_rfl) (by kernel_rfl) (by kernel_rfl) (fun w hw => x_ld (v := .slice _ _ _) kstol_oc22 rfl (hw.keep hcb)) rfl ?_
      refine LAC.takeN (i := 6) rfl (by kernel_rfl) (by kernel_rfl) (by kernel_rfl) (by kernel_rfl) (fun w hw => x_mv (v := .int _ _) rfl) rfl ?_
      refine LAC.takeN (i := 7) rfl (by kernel_rfl) (by kernel_rfl) (by kernel_rfl) (by kernel_rfl) (fun w hw => x_ia (j := j) Tryz.underlying22 kstol_sz95 rfl rfl (by omega) (by omega)) rfl ?_
      refine LAC.takeN (i := 8) rfl (by kernel_rfl) (by kernel_rfl) (by kernel_rfl) (by kernel_rfl) (fun w hw => x_fa kstol_fo95_0 rfl) rfl ?_
      refine LAC.takeN (i := 9) rfl (by kernel_rfl) (by kernel_rfl) (by kernel_rfl) (by kernel_rfl) (fun w hw => x_ld (v := S _) kstol_oc9 rfl (hw.keep hcj0)) rfl ?_
      refine LAC.takeN (i := 10) rfl (by kernel_rfl) (by kernel_rfl) (by kernel_rfl) (by kernel_rfl) (fun w hw => x_len_str Tryz.underlying9 rfl) rfl ?_
      refine LAC.takeN (i := 12) rfl (by kernel_rfl) (by kernel_rfl) (by kernel_rfl) (by kernel_rfl) (fun w hw => x_mv (v := .slice _ _ _) rfl) rfl ?_
      refine LAC.takeN (i := 13) rfl (by kernel_rfl) (by kernel_rfl) (by kernel_rfl) (by kernel_rfl) (fun w hw => x_mv (v := .int _ _) rfl) rfl ?_
      refine LAC.takeN (i := 14) rfl (by kernel_rfl) (by kernel_rfl) (by kernel_rfl) (by kernel_rfl) (fun w hw => x_ia (j := i) Tryz.underlying42 kstol_sz52 rfl rfl (by omega) (by omega)) rfl ?_
      refine LAC.takeN (i := 15) rfl (by kernel_rfl) (by kernel_rfl) (by kernel_rfl) (by kernel_rfl) (fun w hw => x_fa kstol_fo52_1 rfl) rfl ?_
      refine LAC.takeN (i := 16) rfl (by kernel_rfl) (by kernel_rfl) (by kernel_rfl) (by kernel_rfl) (fun w hw => x_ld (v := .slice _ _ _) kstol_oc22 rfl (hw.keep hcb)) rfl ?_
      refine LAC.takeN (i := 17) rfl (by kernel_rfl) (by kernel_rfl) (by kernel_rfl) (by kernel_rfl) (fun w hw => x_mv (v := .int _ _) rfl) rfl ?_
      refine LAC.takeN (i := 18) rfl (by kernel_rfl) (by kernel_rfl) (by kernel_rfl) (by kernel_rfl) (fun w hw => x_ia (j := j) Tryz.underlying22 kstol_sz95 rfl rfl (by omega) (by omega)) rfl ?_
      refine LAC.takeN (i := 19) rfl (by kernel_rfl) (by kernel_rfl) (by kernel_rfl) (by kernel_rfl) (fun w hw => x_fa kstol_fo95_1 rfl) rfl ?_
      refine LAC.takeN (i := 20) rfl (by kernel_rfl) (by kernel_rfl) (by kernel_rfl) (by kernel_rfl) (fun w hw => x_ld (v := S _) kstol_oc9 rfl (hw.keep hcj1)) rfl ?_
      refine LAC.takeN (i := 21) rfl (by kernel_rfl) (by kernel_rfl) (by kernel_rfl) (by kernel_rfl) (fun w hw => x_len_str Tryz.underlying9 rfl) rfl ?_
      refine LAC.step (rs := [11, 22]) (fun _ => hB0) (by kernel_rfl) (by simp) ⟨⟨_, rfl, ?_⟩, ⟨_, rfl, ?_⟩, trivial⟩
      ·refine L.val (x_min rfl rfl) rfl ?_
       refine L.nil ?_
       refine thn_n ?_
       refine LAC.step (rs := [22]) (fun _ => hB0) (by kernel_rfl) (by simp) ⟨⟨_, rfl, ?_⟩, trivial⟩
       refine L.val (x_min rfl rfl) rfl ?_
       refine L.nil ?_
       refine thn_n ?_
       refine LAC.takeN (i := 23) rfl (by kernel_rfl) (by kernel_rfl) (by kernel_rfl) (by kernel_rfl) (fun w hw => x_add rfl rfl (wr64 (by omega))) rfl ?_
       refine LAC.takeN (i := 24) rfl (by kernel_rfl) (by kernel_rfl) (by kernel_rfl) (by kernel_rfl) (fun w hw => x_add rfl rfl (wr64 (by omega))) rfl ?_
       refine LAC.takeN (i := 25) rfl (by kernel_rfl) (by kernel_rfl) (by kernel_rfl) (by kernel_rfl) (fun w hw => x_add rfl rfl (wr64 (by omega))) rfl ?_
       refine LAC.takeN (i := 26) rfl (by kernel_rfl) (by kernel_rfl) (by kernel_rfl) (by kernel_rfl) (fun w hw => x_as (v := .int _ _) rfl) rfl ?_
       refine LAC.doneF (by kernel_rfl) hB0 ?_
       have hB := hB.carry hB0; have h := h.carry hB0
       refine thn_n ?_
       refine W.seq ?_
       refine W.region ?_
       refine L.val (x_mv (v := .int _ _) rfl) rfl ?_
       refine L.val (x_gtr rfl rfl) rfl ?_
       refine L.nil ?_
       refine thn_n ?_
       refine W.cond (b := _) rfl (fun g51 => ?_) (fun g51 => ?_)
       ·have h51 := of_decide_eq_true g51
        have hf : fewS l = false := decide_eq_false (by omega)
        refine W.seq ?_
        refine W.region ?_
        refine L.val (x_as (v := .bool _) rfl) rfl ?_
        refine L.nil ?_
        refine thn_n ?_
        refine W.ret (blk_r (thn_r (thn_r (blk_r (thn_r (blk_r (thn_r (thn_r (blk_r (thn_r (fin_mk (.inr rfl) ?_)))))))))))
        rw [hf]; exact ⟨rfl, hB⟩
       ·have h51 := dlt_f g51
        refine W.skip ?_
        refine blk_n ?_
        refine thn_n ?_
        refine W.region ?_
        refine L.val (x_mv (v := .int _ _) rfl) rfl ?_
        refine L.val (x_add rfl rfl (wr64 (by omega))) rfl ?_
        refine L.val (x_as (v := .int _ _) rfl) rfl ?_
        refine L.nil ?_
        refine thn_n ⟨rfl, ?_⟩
        refine ⟨_, ?_, j + 1, rfl, by first | rfl | exact vi (by omega) | exact vs (by first | assumption | (rw [hst]; done) | (rw [hst]; simp only [List.append_assoc])), by first | rfl | exact vi (by omega) | exact vs (by first | assumption | (rw [hst]; done) | (rw [hst]; simp only [List.append_assoc])), by first | rfl | exact vi (by omega) | exact vs (by first | assumption | (rw [hst]; done) | (rw [hst]; simp only [List.append_assoc])), by first | rfl | exact vi (by omega) | exact vs (by first | assumption | (rw [hst]; done) | (rw [hst]; simp only [List.append_assoc])), (by first | assumption | omega | rfl), (by first | assumption | omega | rfl), (by first | assumption | omega | rfl), (by first | assumption | omega | rfl)⟩
        omega
      ·refine L.val (x_min rfl rfl) rfl ?_
       refine L.nil ?_
       refine thn_n ?_
       refine LAC.step (rs := [11]) (fun _ => hB0) (by kernel_rfl) (by simp) ⟨⟨_, rfl, ?_⟩, trivial⟩
       refine L.val (x_min rfl rfl) rfl ?_
       refine L.nil ?_
       refine thn_n ?_
       refine LAC.takeN (i := 23) rfl (by kernel_rfl) (by kernel_rfl) (by kernel_rfl) (by kernel_rfl) (fun w hw => x_add rfl rfl (wr64 (by omega))) rfl ?_
       refine LAC.takeN (i := 24) rfl (by kernel_rfl) (by kernel_rfl) (by kernel_rfl) (by kernel_rfl) (fun w hw => x_add rfl rfl (wr64 (by omega))) rfl ?_
       refine LAC.takeN (i := 25) rfl (by kernel_rfl) (by kernel_rfl) (by kernel_rfl) (by kernel_rfl) (fun w hw => x_add rfl rfl (wr64 (by omega))) rfl ?_
       refine LAC.takeN (i := 26) rfl (by kernel_rfl) (by kernel_rfl) (by kernel_rfl) (by kernel_rfl) (fun w hw => x_as (v := .int _ _) rfl) rfl ?_
       refine LAC.doneF (by kernel_rfl) hB0 ?_
       have hB := hB.carry hB0; have h := h.carry hB0
       refine thn_n ?_
       refine W.seq ?_
       refine W.region ?_
       refine L.val (x_mv (v := .int _ _) rfl) rfl ?_
       refine L.val (x_gtr rfl rfl) rfl ?_
       refine L.nil ?_
       refine thn_n ?_
       refine W.cond (b := _) rfl (fun g51 => ?_) (fun g51 => ?_)
       ·have h51 := of_decide_eq_true g51
        have hf : fewS l = false := decide_eq_false (by omega)
        refine W.seq ?_
        refine W.region ?_
        refine L.val (x_as (v := .bool _) rfl) rfl ?_
        refine L.nil ?_
        refine thn_n ?_
        refine W.ret (blk_r (thn_r (thn_r (blk_r (thn_r (blk_r (thn_r (thn_r (blk_r (thn_r (fin_mk (.inr rfl) ?_)))))))))))
        rw [hf]; exact ⟨rfl, hB⟩
       ·have h51 := dlt_f g51
        refine W.skip ?_
        refine blk_n ?_
        refine thn_n ?_
        refine W.region ?_
        refine L.val (x_mv (v := .int _ _) rfl) rfl ?_
        refine L.val (x_add rfl rfl (wr64 (by omega))) rfl ?_
        refine L.val (x_as (v := .int _ _) rfl) rfl ?_
        refine L.nil ?_
        refine thn_n ⟨rfl, ?_⟩
        refine ⟨_, ?_, j + 1, rfl, by first | rfl | exact vi (by omega) | exact vs (by first | assumption | (rw [hst]; done) | (rw [hst]; simp only [List.append_assoc])), by first | rfl | exact vi (by omega) | exact vs (by first | assumption | (rw [hst]; done) | (rw [hst]; simp only [List.append_assoc])), by first | rfl | exact vi (by omega) | exact vs (by first | assumption | (rw [hst]; done) | (rw [hst]; simp only [List.append_assoc])), by first | rfl | exact vi (by omega) | exact vs (by first | assumption | (rw [hst]; done) | (rw [hst]; simp only [List.append_assoc])), (by first | assumption | omega | rfl), (by first | assumption | omega | rfl), (by first | assumption | omega | rfl), (by first | assumption | omega | rfl)⟩
        omega
     ·have h21 := dlt_f g21
      have hje : j = (l.getD i default).eds.length := by omega
      subst hje
      rw [List.take_length] at *
      refine W.exit (thn_x (thn_x (blk_hit ?_)))
      refine thn_n ?_
      refine W.seq ?_
      refine W.region ?_
      refine L.val (x_mv (v := .int _ _) rfl) rfl ?_
      refine L.val (x_gtr rfl rfl) rfl ?_
      refine L.nil ?_
      refine thn_n ?_
      refine W.cond (b := _) rfl (fun g53 => ?_) (fun g53 => ?_)
      ·have h53 := of_decide_eq_true g53
       have hf : fewS l = false := decide_eq_false (by omega)
       refine W.seq ?_
       refine W.region ?_
       refine L.val (x_as (v := .bool _) rfl) rfl ?_
       refine L.nil ?_
       refine thn_n ?_
       refine W.ret (blk_r (thn_r (thn_r (blk_r (thn_r (fin_mk (.inr rfl) ?_))))))
       rw [hf]; exact ⟨rfl, hB⟩
      ·have h53 := dlt_f g53
       refine W.skip ?_
       refine blk_n ?_
       refine thn_n ?_
       refine W.region ?_
       refine L.val (x_mv (v := .int _ _) rfl) rfl ?_
       refine L.val (x_add rfl rfl (wr64 (by omega))) rfl ?_
       refine L.val (x_as (v := .int _ _) rfl) rfl ?_
       refine L.nil ?_
       refine thn_n ⟨rfl, ?_⟩
       refine ⟨_, ?_, i + 1, rfl, by first | rfl | exact vi (by omega) | exact vs (by first | assumption | (rw [hst]; done) | (rw [hst]; simp only [List.append_assoc])), by first | rfl | exact vi (by omega) | exact vs (by first | assumption | (rw [hst]; done) | (rw [hst]; simp only [List.append_assoc])), by first | rfl | exact vi (by omega) | exact vs (by first | assumption | (rw [hst]; done) | (rw [hst]; simp only [List.append_assoc])), (by first | assumption | omega | rfl), (by first | assumption | omega | rfl), (by first | assumption | omega | rfl), (by first | assumption | omega | rfl)⟩
       omega
   ·have h9 := dlt_f g9
    have hie : i = l.length := by omega
    subst hie
    rw [List.take_length] at hq
    have hf : fewS l = true := decide_eq_true hq
    refine W.exit (thn_x (thn_x (blk_hit ?_)))
    refine thn_n ?_
    refine W.seq ?_
    refine W.region ?_
    refine L.val (x_as (v := .bool _) rfl) rfl ?_
    refine L.nil ?_
    refine thn_n ?_
    refine W.ret (fin_mk (.inr rfl) ?_)
    rw [hf]; exact ⟨rfl, hB⟩
def secM (n : Int) : Nat := 6 + (n.tmod 90 + 90).toNat % 90
theorem secM_le (n : Int) : 6 ≤ secM n ∧ secM n ≤ 95 := by unfold secM; omega
theorem sectors23 (n : Int) (w : World) : Ret Tryz.prog 16 #[.int .i64 n] w fun v w' => v = .int .i64 (secM n : Nat) ∧ w' = w := by
  have h1 := Int.tmod_lt_of_pos n (show (0 : Int) < 90 by decide)
  have h2 : -90 < n.tmod 90 := by have := Int.lt_tmod_of_pos n (show (0 : Int) < 90 by decide); omega
  have h3 : (n.tmod 90 + 90).tmod 90 = (((n.tmod 90 + 90).toNat % 90 : Nat) : Int) := by
    rw [Int.tmod_eq_emod_of_nonneg (by omega)]; omega
  generalize hz : n.tmod 90 = z at *
  refine ret_of_W Tryz.func16 rfl (Nat.le_of_ble_eq_true rfl) (res1 rfl) ?_
  refine W.seq ?_
  refine W.region ?_
  refine L.val (x_as (v := .int _ _) rfl) rfl ?_
  refine L.nil ?_
  refine thn_n ?_
  refine W.seq ?_
  refine W.region ?_
  refine L.val (x_mv (v := .int _ _) rfl) rfl ?_
  refine L.val (x_tmod (c := z) rfl rfl (by decide) hz) rfl ?_
  refine L.val (x_add rfl rfl (wr64 (by omega))) rfl ?_
  refine L.val (x_tmod rfl rfl (by decide) h3) rfl ?_
  refine L.val (x_add rfl rfl (wr64 (by omega))) rfl ?_
  refine L.val (x_as (v := .int _ _) rfl) rfl ?_
  refine L.nil ?_
  refine thn_n ?_
  refine W.ret (fin_mk (.inr rfl) ?_)
  refine ⟨?_, rfl⟩
  have e : ((secM n : Nat) : Int) = 6 + (((z + 90).toNat % 90 : Nat) : Int) := by unfold secM; rw [hz]; omega
  rw [e]; rfl
theorem rises_take_eq {G H : List Ed} (hG : Rises G) (hH : Rises H) {i : Nat} (h : G.take i = H.take i) (hg : i < G.length) (hh : i < H.length) (hk : (G.getD i default).key = (H.getD i default).key) (hv : (G.getD i default).val = (H.getD i default).val) : G.take (i + 1) = H.take (i + 1) := by
  rw [take_snoc (d := default) hg, take_snoc (d := default) hh, h]
  congr 2
  have e1 := hG.2 (G.getD i default) (by rw [List.getD_eq_getElem?_getD, List.getElem?_eq_getElem hg]; exact List.getElem_mem hg)
  have e2 := hH.2 (H.getD i default) (by rw [List.getD_eq_getElem?_getD, List.getElem?_eq_getElem hh]; exact List.getElem_mem hh)
  generalize G.getD i default = x at *
  generalize H.getD i default = y at *
  cases x; cases y
  simp_all
theorem held23 (n0 bs bl : Nat) (A : Nat → Prop) (v : Value) (G H : List Ed) (w : World) (hst : StoAt n0 w bs bl G) (hG : Rises G) (hk : ∀ e ∈ G, e.key.length ≤ 1000) (hl : G.length ≤ 1000000) (hs : EdsAt A w v H) (hH : Rises H) :
    Ret Tryz.prog 20 #[.pointer (some ⟨bs, 0, none⟩), v] w fun r w' => r = .bool (decide (G = H)) ∧ Bel w w' := by
  obtain ⟨pv, cv, row, rfl, -⟩ := id hs
  refine ret_of_W Tryz.func20 rfl (Nat.le_of_ble_eq_true rfl) (res1 rfl) ?_
  have hB := Gr.refl (fun _ => False) w
  refine W.seq ?_
  refine W.region ?_
  refine L.val (x_as (v := .bool _) rfl) rfl ?_
  refine L.nil ?_
  refine thn_n ?_
  refine W.seq ?_
  refine W.region ?_
  refine L.val (x_mv (v := .pointer _) rfl) rfl ?_
  refine L.ret (x_call kstol_en9 rfl) rfl (keys_s n0 bs bl G [] _ hst hG hk hl) ?_
  rintro v10 w10 ⟨hka, hw⟩
  have hB := hB.carry hw; have hst := hst.carry hw; have hs := hs.carry hw
  rw [keysG_nil] at hka
  obtain ⟨pk, ck, rfl, -⟩ := id hka
  rw [List.length_map] at hka ⊢
  refine L.val (x_as (v := .slice _ _ _) rfl) rfl ?_
  refine L.nil ?_
  refine thn_n ?_
  refine W.seq ?_
  refine W.seq ?_
  refine W.region ?_
  refine L.val (x_mv (v := .slice _ _ _) rfl) rfl ?_
  refine L.val (x_len_slice Tryz.underlying33 rfl) rfl ?_
  refine L.val (x_mv (v := .slice _ _ _) rfl) rfl ?_
  refine L.val (x_len_slice Tryz.underlying22 rfl) rfl ?_
  refine L.val (x_neq rfl rfl) rfl ?_
  refine L.nil ?_
  refine thn_n ?_
  refine W.cond (b := _) rfl (fun g15 => ?_) (fun g15 => ?_)
  ·have h15 := dne_t g15
   have hne : ¬ G = H := fun e => h15 (by rw [e])
   refine W.seq ?_
   refine W.region ?_
   refine L.val (x_as (v := .bool _) rfl) rfl ?_
   refine L.nil ?_
   refine thn_n ?_
   refine W.ret (thn_r (fin_mk (.inr rfl) ?_))
   rw [decide_eq_false hne]; exact ⟨rfl, hB⟩
  ·have h15 := dne_f g15
   have hlen : G.length = H.length := by omega
   refine W.skip ?_
   refine thn_n ?_
   refine W.seq ?_
   refine W.seq ?_
   refine W.region ?_
   refine L.val (x_as (v := .int _ _) rfl) rfl ?_
   refine L.nil ?_
   refine thn_n ?_
   refine W.block ?_
   refine W.loop (fun m' E w' => ∃ (i : Nat), m' = G.length - i ∧ E 0 = .pointer (some ⟨bs, 0, none⟩) ∧ E 1 = .slice pv H.length cv ∧ E 5 = .slice pk G.length ck ∧ E 6 = .int .i64 (i : Nat) ∧ (i ≤ G.length) ∧ (Bel w w') ∧ (StoAt n0 w' bs bl G) ∧ (EdsAt A w' (.slice pv H.length cv) H) ∧ (StrsAt (fun j => j < w.heap.size) w' (.slice pk G.length ck) (G.map (·.key))) ∧ (G.take i = H.take i)) (G.length) ?_ ?_
   ·exact ⟨0, by omega, by first | rfl | exact vi (by omega) | exact vs (by first | assumption | (rw [hst]; done) | (rw [hst]; simp only [List.append_assoc])), by first | rfl | exact vi (by omega) | exact vs (by first | assumption | (rw [hst]; done) | (rw [hst]; simp only [List.append_assoc])), by first | rfl | exact vi (by omega) | exact vs (by first | assumption | (rw [hst]; done) | (rw [hst]; simp only [List.append_assoc])), by first | rfl | exact vi (by omega) | exact vs (by first | assumption | (rw [hst]; done) | (rw [hst]; simp only [List.append_assoc])), (by first | assumption | omega | rfl), (by first | assumption | omega | rfl), (by first | assumption | omega | rfl), (by first | assumption | omega | rfl), (by first | assumption | omega | rfl), (by rfl)⟩
   ·rintro _ E wL16 ⟨i, em, e0, e1, e5, e6, hi, hB, hst, hs, hka, heq⟩
    rw [upd_self e0, upd_self e1, upd_self e5, upd_self e6]
    refine W.seq ?_
    refine W.seq ?_
    refine W.region ?_
    refine L.val (x_mv (v := .int _ _) rfl) rfl ?_
    refine L.val (x_mv (v := .slice _ _ _) rfl) rfl ?_
    refine L.val (x_len_slice Tryz.underlying33 rfl) rfl ?_
    refine L.val (x_lss rfl rfl) rfl ?_
    refine L.nil ?_
    refine thn_n ?_
    refine W.cond (b := _) rfl (fun g19 => ?_) (fun g19 => ?_)
    ·have h19 := of_decide_eq_true g19
     have hlt : i < G.length := by omega
     have hlt2 : i < H.length := by omega
     obtain ⟨bk, ok, rfl, hck⟩ := hka.elem (i := i) (by rw [List.length_map]; exact hlt)
     rw [keys_at hlt] at hck
     obtain ⟨-, be, oe, rfl, -, hce⟩ := eds_elem hs hlt2
     have hce0 := hce 0 (by omega)
     have hce1 := hce 1 (by omega)
     obtain ⟨hv1, hv2⟩ := val_at hG hlt
     refine W.skip ?_
     refine thn_n ?_
     refine W.seq ?_
     refine W.block ?_
     refine W.seq ?_
     refine W.region ?_
     refine L.val (x_mv (v := .pointer _) rfl) rfl ?_
     refine L.val (x_mv (v := .slice _ _ _) rfl) rfl ?_
     refine L.val (x_mv (v := .int _ _) rfl) rfl ?_
     refine L.val (x_ia1 (j := i) Tryz.underlying33 kstol_sz9 rfl rfl (by omega) (by omega)) rfl ?_
     refine L.val (x_ld (v := S _) kstol_oc9 rfl hck) rfl ?_
     refine L.ret (x_call kstol_en8 rfl) rfl (get_s n0 bs bl G (G.getD i default).key _ hst) ?_
     rintro v28 w28 ⟨rfl, hq⟩
     rw [hq, hv1]
     refine L.val (x_mv (v := _) rfl) rfl ?_
     refine L.val (x_ext (v := S _) rfl rfl) rfl ?_
     refine L.val (x_ext (v := .bool _) rfl rfl) rfl ?_
     refine L.val (x_as (v := S _) rfl) rfl ?_
     refine L.val (x_as (v := .bool _) rfl) rfl ?_
     refine L.nil ?_
     refine thn_n ?_
     refine W.seq ?_
     refine W.drawF 23 kstol_mixed (fun wF31 hB0 => ?_)
     refine LAC.takeN (i := 0) rfl (by kernel_rfl) (by kernel_rfl) (by kernel_rfl) (by kernel_rfl) (fun w hw => x_mv (v := .bool _) rfl) rfl ?_
     refine LAC.takeN (i := 1) rfl (by kernel_rfl) (by kernel_rfl) (by kernel_rfl) (by kernel_rfl) (fun w hw => x_not rfl) rfl ?_
     refine LAC.takeN (i := 2) rfl (by kernel_rfl) (by kernel_rfl) (by kernel_rfl) (by kernel_rfl) (fun w hw => x_mv (v := .bool _) rfl) rfl ?_
     refine LAC.split (dj := 33) (b := _) rfl (fun g33 => ?_) (fun g33 => ?_)
     ·have h33 := (not_t g33)
      cases g33
     ·have h33 := (not_f g33)
      refine LAC.takeG (i := 3) rfl (by kernel_rfl) (by kernel_rfl) (by kernel_rfl) (by kernel_rfl) (dj := 33) (b := _) rfl rfl g33 (fun w hw => x_mv (v := .slice _ _ _) rfl) rfl ?_
      refine LAC.takeG (i := 4) rfl (by kernel_rfl) (by kernel_rfl) (by kernel_rfl) (by kernel_rfl) (dj := 33) (b := _) rfl rfl g33 (fun w hw => x_mv (v := .int _ _) rfl) rfl ?_
      refine LAC.takeG (i := 5) rfl (by kernel_rfl) (by kernel_rfl) (by kernel_rfl) (by kernel_rfl) (dj := 33) (b := _) rfl rfl g33 (fun w hw => x_ia1 (j := i) Tryz.underlying33 kstol_sz9 rfl rfl (by omega) (by omega)) rfl ?_
      refine LAC.takeG (i := 6) rfl (by kernel_rfl) (by kernel_rfl) (by kernel_rfl) (by kernel_rfl) (dj := 33) (b := _) rfl rfl g33 (fun w hw => x_ld (v := S _) kstol_oc9 rfl (hw.keep hck)) rfl ?_
      refine LAC.takeG (i := 7) rfl (by kernel_rfl) (by kernel_rfl) (by kernel_rfl) (by kernel_rfl) (dj := 33) (b := _) rfl rfl g33 (fun w hw => x_mv (v := .slice _ _ _) rfl) rfl ?_
      refine LAC.takeG (i := 8) rfl (by kernel_rfl) (by kernel_rfl) (by kernel_rfl) (by kernel_rfl) (dj := 33) (b := _) rfl rfl g33 (fun w hw => x_mv (v := .int _ _) rfl) rfl ?_
      refine LAC.takeG (i := 9) rfl (by kernel_rfl) (by kernel_rfl) (by kernel_rfl) (by kernel_rfl) (dj := 33) (b := _) rfl rfl g33 (fun w hw => x_ia (j := i) Tryz.underlying22 kstol_sz95 rfl rfl (by omega) (by omega)) rfl ?_
      refine LAC.takeG (i := 10) rfl (by kernel_rfl) (by kernel_rfl) (by kernel_rfl) (by kernel_rfl) (dj := 33) (b := _) rfl rfl g33 (fun w hw => x_fa kstol_fo95_0 rfl) rfl ?_
      refine LAC.takeG (i := 11) rfl (by kernel_rfl) (by kernel_rfl) (by kernel_rfl) (by kernel_rfl) (dj := 33) (b := _) rfl rfl g33 (fun w hw => x_ld (v := S _) kstol_oc9 rfl (hw.keep hce0)) rfl ?_
      refine LAC.takeG (i := 12) rfl (by kernel_rfl) (by kernel_rfl) (by kernel_rfl) (by kernel_rfl) (dj := 33) (b := _) rfl rfl g33 (fun w hw => x_nes rfl rfl) rfl ?_
      refine LAC.takeN (i := 13) rfl (by kernel_rfl) (by kernel_rfl) (by kernel_rfl) (by kernel_rfl) (fun w hw => x_pick_f (v := .bool _) (congrArg Value.bool g33) rfl) rfl ?_
      refine LAC.takeN (i := 14) rfl (by kernel_rfl) (by kernel_rfl) (by kernel_rfl) (by kernel_rfl) (fun w hw => x_mv (v := .bool _) rfl) rfl ?_
      refine LAC.split (dj := 45) (b := _) rfl (fun g45 => ?_) (fun g45 => ?_)
      ·have h45 := sne_t g45
       have hne : ¬ G = H := fun e => h45 (by rw [e])
       refine LAC.takeU (i := 15) rfl (by kernel_rfl) (by kernel_rfl) (by kernel_rfl) (by kernel_rfl) (dj := 45) (b := _) rfl rfl g45 rfl ?_
       refine LAC.takeU (i := 16) rfl (by kernel_rfl) (by kernel_rfl) (by kernel_rfl) (by kernel_rfl) (dj := 45) (b := _) rfl rfl g45 rfl ?_
       refine LAC.takeU (i := 17) rfl (by kernel_rfl) (by kernel_rfl) (by kernel_rfl) (by kernel_rfl) (dj := 45) (b := _) rfl rfl g45 rfl ?_
       refine LAC.takeU (i := 18) rfl (by kernel_rfl) (by kernel_rfl) (by kernel_rfl) (by kernel_rfl) (dj := 45) (b := _) rfl rfl g45 rfl ?_
       refine LAC.takeU (i := 19) rfl (by kernel_rfl) (by kernel_rfl) (by kernel_rfl) (by kernel_rfl) (dj := 45) (b := _) rfl rfl g45 rfl ?_
       refine LAC.takeU (i := 20) rfl (by kernel_rfl) (by kernel_rfl) (by kernel_rfl) (by kernel_rfl) (dj := 45) (b := _) rfl rfl g45 rfl ?_
       refine LAC.takeU (i := 21) rfl (by kernel_rfl) (by kernel_rfl) (by kernel_rfl) (by kernel_rfl) (dj := 45) (b := _) rfl rfl g45 rfl ?_
       refine LAC.takeN (i := 22) rfl (by kernel_rfl) (by kernel_rfl) (by kernel_rfl) (by kernel_rfl) (fun w hw => x_pick_t (v := .bool _) (congrArg Value.bool g45) rfl) rfl ?_
       refine LAC.doneF (by kernel_rfl) hB0 ?_
       have hB := hB.carry hB0; have hst := hst.carry hB0; have hs := hs.carry hB0; have hka := hka.carry hB0
       refine thn_n ?_
       refine W.cond (b := true) rfl (fun _ => ?_) (fun h => nomatch h)
       refine W.seq ?_
       refine W.region ?_
       refine L.val (x_as (v := .bool _) rfl) rfl ?_
       refine L.nil ?_
       refine thn_n ?_
       refine W.ret (blk_r (thn_r (thn_r (blk_r (thn_r (fin_mk (.inr rfl) ?_))))))
       rw [decide_eq_false hne]; exact ⟨rfl, hB⟩
      ·have h45 := sne_f g45
       have hke : (G.getD i default).key = (H.getD i default).key := h45
       refine LAC.takeG (i := 15) rfl (by kernel_rfl) (by kernel_rfl) (by kernel_rfl) (by kernel_rfl) (dj := 45) (b := _) rfl rfl g45 (fun w hw => x_mv (v := S _) rfl) rfl ?_
       refine LAC.takeG (i := 16) rfl (by kernel_rfl) (by kernel_rfl) (by kernel_rfl) (by kernel_rfl) (dj := 45) (b := _) rfl rfl g45 (fun w hw => x_mv (v := .slice _ _ _) rfl) rfl ?_
       refine LAC.takeG (i := 17) rfl (by kernel_rfl) (by kernel_rfl) (by kernel_rfl) (by kernel_rfl) (dj := 45) (b := _) rfl rfl g45 (fun w hw => x_mv (v := .int _ _) rfl) rfl ?_
       refine LAC.takeG (i := 18) rfl (by kernel_rfl) (by kernel_rfl) (by kernel_rfl) (by kernel_rfl) (dj := 45) (b := _) rfl rfl g45 (fun w hw => x_ia (j := i) Tryz.underlying22 kstol_sz95 rfl rfl (by omega) (by omega)) rfl ?_
       refine LAC.takeG (i := 19) rfl (by kernel_rfl) (by kernel_rfl) (by kernel_rfl) (by kernel_rfl) (dj := 45) (b := _) rfl rfl g45 (fun w hw => x_fa kstol_fo95_1 rfl) rfl ?_
       refine LAC.takeG (i := 20) rfl (by kernel_rfl) (by kernel_rfl) (by kernel_rfl) (by kernel_rfl) (dj := 45) (b := _) rfl rfl g45 (fun w hw => x_ld (v := S _) kstol_oc9 rfl (hw.keep hce1)) rfl ?_
       refine LAC.takeG (i := 21) rfl (by kernel_rfl) (by kernel_rfl) (by kernel_rfl) (by kernel_rfl) (dj := 45) (b := _) rfl rfl g45 (fun w hw => x_nes rfl rfl) rfl ?_
       refine LAC.takeN (i := 22) rfl (by kernel_rfl) (by kernel_rfl) (by kernel_rfl) (by kernel_rfl) (fun w hw => x_pick_f (v := .bool _) (congrArg Value.bool g45) rfl) rfl ?_
       refine LAC.doneF (by kernel_rfl) hB0 ?_
       have hB := hB.carry hB0; have hst := hst.carry hB0; have hs := hs.carry hB0; have hka := hka.carry hB0
       refine thn_n ?_
       refine W.cond (b := _) rfl (fun g52 => ?_) (fun g52 => ?_)
       ·have h52 := sne_t g52
        have hne : ¬ G = H := fun e => h52 (by rw [e]; rfl)
        refine W.seq ?_
        refine W.region ?_
        refine L.val (x_as (v := .bool _) rfl) rfl ?_
        refine L.nil ?_
        refine thn_n ?_
        refine W.ret (blk_r (thn_r (thn_r (blk_r (thn_r (fin_mk (.inr rfl) ?_))))))
        rw [decide_eq_false hne]; exact ⟨rfl, hB⟩
       ·have h52 := sne_f g52
        have hve : (G.getD i default).val = (H.getD i default).val := h52
        have heq2 := rises_take_eq hG hH heq hlt hlt2 hke hve
        refine W.skip ?_
        refine blk_n ?_
        refine thn_n ?_
        refine W.region ?_
        refine L.val (x_mv (v := .int _ _) rfl) rfl ?_
        refine L.val (x_add rfl rfl (wr64 (by omega))) rfl ?_
        refine L.val (x_as (v := .int _ _) rfl) rfl ?_
        refine L.nil ?_
        refine thn_n ⟨rfl, ?_⟩
        refine ⟨_, ?_, i + 1, rfl, by first | rfl | exact vi (by omega) | exact vs (by first | assumption | (rw [hst]; done) | (rw [hst]; simp only [List.append_assoc])), by first | rfl | exact vi (by omega) | exact vs (by first | assumption | (rw [hst]; done) | (rw [hst]; simp only [List.append_assoc])), by first | rfl | exact vi (by omega) | exact vs (by first | assumption | (rw [hst]; done) | (rw [hst]; simp only [List.append_assoc])), by first | rfl | exact vi (by omega) | exact vs (by first | assumption | (rw [hst]; done) | (rw [hst]; simp only [List.append_assoc])), (by first | assumption | omega | rfl), (by first | assumption | omega | rfl), (by first | assumption | omega | rfl), (by first | assumption | omega | rfl), (by first | assumption | omega | rfl), (by exact heq2)⟩
        omega
    ·have h19 := dlt_f g19
     refine W.exit (thn_x (thn_x (blk_hit ?_)))
     refine thn_n ?_
     refine W.seq ?_
     refine W.region ?_
     refine L.val (x_as (v := .bool _) rfl) rfl ?_
     refine L.nil ?_
     refine thn_n ?_
     refine W.ret (fin_mk (.inr rfl) ?_)
     have hGH : G = H := by
       have e1 : G.take i = G := by rw [show i = G.length by omega, List.take_length]
       have e2 : H.take i = H := by rw [show i = H.length by omega, List.take_length]
       rw [← e1, heq, e2]
     rw [decide_eq_true hGH]; exact ⟨rfl, hB⟩
end Go.Gx
namespace Go.Gx
open Go.Proofs Go.Sort
def stepG (e : Ed) (st : List Ed × Bool) (x : Ed) : List Ed × Bool := (let n1 := if !st.2 && !ltStr x.key e.key then st.1 ++ [e] else st.1; if x.key = e.key then n1 else n1 ++ [x], st.2 || !ltStr x.key e.key)
def foldG (e : Ed) (st : List Ed × Bool) (l : List Ed) : List Ed × Bool := l.foldl (stepG e) st
theorem foldG_true (e : Ed) : ∀ (l acc : List Ed), foldG e (acc, true) l = (acc ++ l.filter (fun x => !decide (x.key = e.key)), true)
  | [], acc => by simp [foldG]
  | x :: l, acc => by
    have h1 : foldG e (acc, true) (x :: l) = foldG e (stepG e (acc, true) x) l := rfl
    have h2 : stepG e (acc, true) x = (if x.key = e.key then acc else acc ++ [x], true) := by simp [stepG]
    rw [h1, h2]
    by_cases h : x.key = e.key
    · rw [if_pos h, foldG_true e l acc, List.filter_cons, if_neg (by simp [h])]
    · rw [if_neg h, foldG_true e l (acc ++ [x]), List.filter_cons, if_pos (by simp [h])]; simp
theorem filter_gt {e : Ed} {l : List Ed} (h : ∀ x ∈ l, ltStr e.key x.key = true) : l.filter (fun x => !decide (x.key = e.key)) = l := by
  rw [List.filter_eq_self]
  intro x hx
  have := h x hx
  have : ¬ x.key = e.key := fun e' => by rw [e', lt_irr] at this; cases this
  simp [this]
theorem rises_tail {x : Ed} {l : List Ed} (h : Rises (x :: l)) : Rises l ∧ ∀ y ∈ l, ltStr x.key y.key = true :=
  ⟨⟨(List.pairwise_cons.1 h.1).2, fun y hy => h.2 y (List.mem_cons_of_mem _ hy)⟩, (List.pairwise_cons.1 h.1).1⟩
theorem rest_gt {x e : Ed} {l : List Ed} (h : ∀ y ∈ l, ltStr x.key y.key = true) (hx : ltStr x.key e.key = false) : ∀ y ∈ l, ltStr e.key y.key = true := fun y hy => by
  have h1 := h y hy
  by_cases he : x.key = e.key
  · rw [← he]; exact h1
  · exact lt_tr (lt_tot hx he) h1
theorem come1_gone {e : Ed} (hg : e.gone = true) : ∀ {l : List Ed}, Rises l → come1 l e = l.filter (fun x => !decide (x.key = e.key))
  | [], _ => by rw [come1, if_pos hg]; rfl
  | x :: l, h => by
    obtain ⟨h1, h2⟩ := rises_tail h
    rw [come1]
    by_cases hx : ltStr x.key e.key = true
    · have hne : ¬ x.key = e.key := fun e' => by rw [e', lt_irr] at hx; cases hx
      rw [if_pos hx, come1_gone hg h1, List.filter_cons, if_pos (by simp [hne])]
    · have hx : ltStr x.key e.key = false := by simpa using hx
      rw [if_neg (by rw [hx]; decide), if_pos hg, List.nil_append, List.filter_cons, filter_gt (rest_gt h2 hx)]
      by_cases he : x.key = e.key
      · rw [if_pos he, if_neg (by simp [he])]
      · rw [if_neg he, if_pos (by simp [he])]
theorem foldG_come {e : Ed} (hg : e.gone = false) : ∀ {l : List Ed} (acc : List Ed), Rises l → (if (foldG e (acc, false) l).2 then (foldG e (acc, false) l).1 else (foldG e (acc, false) l).1 ++ [e]) = acc ++ come1 l e
  | [], acc, _ => by
    have e0 : foldG e (acc, false) [] = (acc, false) := rfl
    rw [e0]; simp [come1, hg]
  | x :: l, acc, h => by
    obtain ⟨h1, h2⟩ := rises_tail h
    have e1 : foldG e (acc, false) (x :: l) = foldG e (stepG e (acc, false) x) l := rfl
    rw [e1, come1]
    by_cases hx : ltStr x.key e.key = true
    · have hne : ¬ x.key = e.key := fun e' => by rw [e', lt_irr] at hx; cases hx
      have e2 : stepG e (acc, false) x = (acc ++ [x], false) := by simp [stepG, hx, hne]
      rw [e2, foldG_come hg (acc ++ [x]) h1, if_pos hx]; simp
    · have hx : ltStr x.key e.key = false := by simpa using hx
      have e2 : stepG e (acc, false) x = (if x.key = e.key then acc ++ [e] else acc ++ [e] ++ [x], true) := by simp [stepG, hx]
      rw [e2, foldG_true, filter_gt (rest_gt h2 hx)]
      by_cases he : x.key = e.key
      · have he2 : ltStr e.key e.key = false := lt_irr _
        simp [he, he2, hg]
      · simp [he, hx, hg]
theorem goes_come {e : Ed} {l : List Ed} (h : Rises l) : (if (foldG e ([], e.gone) l).2 then (foldG e ([], e.gone) l).1 else (foldG e ([], e.gone) l).1 ++ [e]) = come1 l e := by
  cases hg : e.gone with
  | true => rw [foldG_true, if_pos rfl, List.nil_append, come1_gone hg h]
  | false => rw [foldG_come hg [] h, List.nil_append]
theorem foldG_take {e : Ed} {st : List Ed × Bool} {l : List Ed} {k : Nat} (h : k < l.length) : foldG e st (l.take (k + 1)) = stepG e (foldG e st (l.take k)) (l.getD k default) := by
  unfold foldG
  rw [take_snoc (d := default) h, List.foldl_append]; rfl
theorem foldG_len (e : Ed) : ∀ (l : List Ed) (st : List Ed × Bool), (foldG e st l).1.length ≤ st.1.length + 2 * l.length
  | [], st => Nat.le_add_right _ _
  | x :: l, st => by
    have h1 := foldG_len e l (stepG e st x)
    have h2 : (stepG e st x).1.length ≤ st.1.length + 2 := by
      unfold stepG
      dsimp only
      split <;> split <;> (try simp only [List.length_append, List.length_cons, List.length_nil]) <;> omega
    have e1 : foldG e st (x :: l) = foldG e (stepG e st x) l := rfl
    rw [e1, List.length_cons]; omega
theorem ltS_less (a b : Str) : Op.bytesLess a b = ltStr a b := by simp [Go.Proofs.bytesLess_eq, ltStr]
theorem row_edV {A : Nat → Prop} {w : World} {p : Option Addr} {row : Nat → List Value} {l : List Ed} (h : RecRow EdC 3 A w p row l) : ((List.range l.length).map row).flatten = (l.map edV).flatten := by
  congr 1
  refine List.ext_getElem (by simp) fun i h1 h2 => ?_
  have hi : i < l.length := by simpa using h1
  have := (h.each i hi).1
  rw [List.getD_eq_getElem?_getD, List.getElem?_eq_getElem hi] at this
  simpa using this
theorem eds_holdsN {A : Nat → Prop} {w : World} {p : Option Addr} {c : Nat} {l : List Ed} (h : EdsAt A w (.slice p l.length c) l) : HoldsN w (.slice p l.length c) l.length (l.map edV).flatten := by
  obtain ⟨p', c', row, e, h1, h2, h3, hR⟩ := h
  simp only [Value.slice.injEq] at e
  obtain ⟨rfl, -, rfl⟩ := e
  rw [← row_edV hR]; exact hR.holds
theorem edV_lens (l : List Ed) : ∀ r ∈ l.map edV, r.length = 3 := fun r hr => by
  obtain ⟨e, -, rfl⟩ := List.mem_map.1 hr
  rfl
theorem edV_get {l : List Ed} {i : Nat} (h : i < l.length) : (l.map edV).getD i [] = edV (l.getD i default) := by
  rw [List.getD_eq_getElem?_getD, List.getElem?_map, List.getD_eq_getElem?_getD, List.getElem?_eq_getElem h]; rfl
theorem edV_flat (l : List Ed) : ((l.map edV).flatten).length = l.length * 3 := by
  induction l with
  | nil => rfl
  | cons e l ih => simp only [List.map_cons, List.flatten_cons, List.length_append, ih, List.length_cons]; simp only [edV, List.length_cons, List.length_nil]; omega
theorem edV_ones (l : List Ed) : ∀ u ∈ (l.map edV).flatten, u.oneCell' = true := fun u hu => by
  obtain ⟨r, hr, hu⟩ := List.mem_flatten.1 hu
  obtain ⟨e, -, rfl⟩ := List.mem_map.1 hr
  exact edV_one e u hu
def AllE (n0 : Nat) (w : World) (v : Value) (l : List Ed) : Prop := EdsAt (DkB stTy n0 w) w v l
theorem AllE.dg {n0 : Nat} {w w' : World} {v : Value} {l : List Ed} (h : AllE n0 w v l) (g : Dg stTy n0 w w') : AllE n0 w' v l :=
  RecsAt.move (fun a v hA hv => ⟨g.cell hv hA, (g.same (World.block_lt_of_cell? w _ hv) hA).2⟩) h
theorem AllE.carry {n0 : Nat} {w w' : World} {v : Value} {l : List Ed} (h : AllE n0 w v l) (g : Bel w w') : AllE n0 w' v l := h.dg (Dg.of_bel g)
theorem AllE.eq {n0 : Nat} {w : World} {v : Value} {l m : List Ed} (h : AllE n0 w v l) (e : l = m) : AllE n0 w v m := e ▸ h
theorem own_allE {n0 base : Nat} {w : World} {p : Option Addr} {c : Nat} {l : List Ed} (h : Own w base 95 3 (.slice p l.length c) l.length (l.map edV).flatten) (hok : ∀ e ∈ l, EdOk e) (hl : l.length ≤ 1000000) : AllE n0 w (.slice p l.length c) l :=
  (rows_pureT (C := EdC) (A := fun _ => True) (w := w) (f := edV) l fun e he => ⟨rfl, hok e he⟩).doneB h (by omega) (fun _ _ => trivial) (fun j hj hA => DkB.no_own (ty := stTy) (n0 := n0) h (by kernel_rfl) j hj hA)
end Go.Gx
