/- Sessions, the reference: has an answer changed? Conditions: none. -/
import Derived.Test.YtnhbjfkeeegdgaaCeSesZ3
namespace Go.Gx
open Go.Proofs
theorem ksesz5_en77 : Go.Proofs.Enters Try.prog 77 := Go.Proofs.enters_of Try.func77 (by kernel_rfl) rfl
theorem ksesz5_fo144_3 : fieldOff Try.prog 144 3 = some 3 := by kernel_rfl
theorem ksesz5_fo144_4 : fieldOff Try.prog 144 4 = some 4 := by kernel_rfl
theorem ksesz5_fo144_5 : fieldOff Try.prog 144 5 = some 5 := by kernel_rfl
theorem ksesz5_fo34_0 : fieldOff Try.prog 34 0 = some 0 := by kernel_rfl
theorem ksesz5_fo93_1 : fieldOff Try.prog 93 1 = some 1 := by kernel_rfl
theorem ksesz5_oc22 : oneCellT Try.prog 22 = true := by kernel_rfl
theorem ksesz5_oc3 : oneCellT Try.prog 3 = true := by kernel_rfl
theorem ksesz5_oc30 : oneCellT Try.prog 30 = true := by kernel_rfl
theorem ksesz5_oc37 : oneCellT Try.prog 37 = true := by kernel_rfl
theorem ksesz5_oc9 : oneCellT Try.prog 9 = true := by kernel_rfl
theorem ksesz5_sz22 : (Try.prog.info? 22).map (·.size) = some 1 := by kernel_rfl
theorem ksesz5_sz34 : (Try.prog.info? 34).map (·.size) = some 3 := by kernel_rfl
theorem ksesz5_sz9 : (Try.prog.info? 9).map (·.size) = some 1 := by kernel_rfl
theorem changed_no {s : Bs} {x : Sx} (h : ∀ m, x.at_ ≤ m → m < s.log.length → (s.log.getD m default).any (hitE x) = false) : s.changed x = false := by
  rw [changed_hit, List.any_eq_false]
  intro e he
  obtain ⟨l, hl, hel⟩ := List.mem_flatten.1 he
  obtain ⟨m, hm, rfl⟩ := List.getElem_of_mem hl
  rw [List.getElem_drop] at hel
  rw [List.length_drop] at hm
  have h1 := h (x.at_ + m) (by omega) (by omega)
  rw [List.getD_eq_getElem?_getD, List.getElem?_eq_getElem (by omega)] at h1
  exact List.any_eq_false.1 h1 e hel
theorem changed_yes {s : Bs} {x : Sx} {m j : Nat} (h1 : x.at_ ≤ m) (h2 : m < s.log.length) (h3 : j < (s.log.getD m default).length) (h : hitE x ((s.log.getD m default).getD j default) = true) : s.changed x = true := by
  rw [changed_hit]
  have hd : (s.log.drop x.at_).getD (m - x.at_) default = s.log.getD m default := by
    simp only [List.getD_eq_getElem?_getD, List.getElem?_drop]
    rw [show x.at_ + (m - x.at_) = m by omega]
  exact hit_at (k := m - x.at_) (j := j) (by rw [List.length_drop]; omega) (by rw [hd]; exact h3) (by rw [hd]; exact h)
theorem changed_ref (ow : Labels) (t b : Nat) (s : Bs) (x : Sx) (vh vd va vs ve vg vx : Value) (rd ra : List (List Value)) (w : World) (h : RefAt ow t w b s vh vd va rd ra) (hat : x.at_ ≤ s.log.length) (hl : s.log.length ≤ 100000) (hone : ∀ u ∈ rowR x vs ve vg vx, u.oneCell' = true)
    (hG : Own w 0 9 1 vg x.gets.length (x.gets.map S)) (hX : Own w 0 9 1 vx x.heads.length (x.heads.map S)) (hq : x.gets.length ≤ 1000000 ∧ x.heads.length ≤ 1000000 ∧ ∀ l ∈ s.log, l.length ≤ 1000000) :
    Ret Try.prog 79 #[.pointer (some ⟨b, 0, none⟩), .agg (rowR x vs ve vg vx).toArray] w fun v w' => v = .bool (s.changed x) ∧ Bel w w' := by
  have hb := h.box
  have hR0 : RecsAt EsC 1 (fun _ => False) w vd s.log := h.rows.done (A' := fun _ => False) h.done.1 (by omega) (fun _ f => f.elim) (fun _ _ f => f)
  obtain ⟨pd, cd, rowd, rfl, hc1, hc2, hc3, hR⟩ := hR0
  obtain ⟨ag, cg, rfl, hcg⟩ := own_shape hG
  obtain ⟨ax, cx, rfl, hcx⟩ := own_shape hX
  refine ret_of_W Try.func79 rfl (Nat.le_of_ble_eq_true rfl) (res1 rfl) ?_
  have hB := Gr.refl (fun _ => False) w
  refine W.seq ?_
  refine W.region ?_
  refine L.box (cs := rowR x vs ve (.slice ag x.gets.length cg) (.slice ax x.heads.length cx)) rfl rfl (fun w3 bx3 hw hz3 => ?_)
  have hB := hB.carry hw; have hb := hb.carry hw; have hR := hR.carry hw; have hG := hG.carry hw; have hX := hX.carry hw
  refine L.val (x_as (v := .bool _) rfl) rfl ?_
  refine L.nil ?_
  refine thn_n ?_
  refine W.seq ?_
  refine W.seq ?_
  refine W.region ?_
  refine L.val (x_fa ksesz5_fo144_5 rfl) rfl ?_
  refine L.val (x_ld (v := .int _ _) ksesz5_oc3 rfl (bx3.cell0 rfl)) rfl ?_
  refine L.val (x_as (v := .int _ _) rfl) rfl ?_
  refine L.nil ?_
  refine thn_n ?_
  refine W.block ?_
  refine W.loop (fun m' E w' => ∃ (k : Nat), m' = s.log.length - k ∧ E 0 = .pointer (some ⟨b, 0, none⟩) ∧ E 3 = .pointer (some ⟨w.heap.size, 0, none⟩) ∧ E 5 = .int .i64 (k : Nat) ∧ (k ≤ s.log.length) ∧ (x.at_ ≤ k) ∧ (w' = w3) ∧ (∀ m, x.at_ ≤ m → m < k → (s.log.getD m default).any (hitE x) = false)) (s.log.length - x.at_) ?_ ?_
  ·exact ⟨x.at_, by omega, by first | rfl | exact vi (by omega), by first | rfl | exact vi (by omega), by first | rfl | exact vi (by omega), (by first | assumption | omega | rfl), (by first | assumption | omega | rfl), (by first | assumption | omega | rfl), (by exact fun m h1 h2 => absurd h2 (by omega))⟩
  ·rintro _ E wL12 ⟨k, em, e0, e3, e5, hk, hka, hw0, hany⟩
   rw [upd_self e0, upd_self e3, upd_self e5]
   refine W.seq ?_
   refine W.seq ?_
   refine W.region ?_
   rw [hw0]
   refine L.val (x_mv (v := .int _ _) rfl) rfl ?_
   refine L.val (x_mv (v := .pointer _) rfl) rfl ?_
   refine L.val (x_nil rfl) rfl ?_
   refine L.val (x_fa ksesz5_fo93_1 rfl) rfl ?_
   refine L.val (x_ld (v := .slice _ _ _) ksesz5_oc30 rfl (hb.cell0 rfl)) rfl ?_
   refine L.val (x_len_slice Try.underlying30 rfl) rfl ?_
   refine L.val (x_lss rfl rfl) rfl ?_
   refine L.nil ?_
   refine thn_n ?_
   refine W.cond (b := _) rfl (fun g18 => ?_) (fun g18 => ?_)
   ·have h18 := of_decide_eq_true g18
    have hlt : k < s.log.length := by omega
    obtain ⟨bm, om, epm, -, hcm⟩ := hR.elem hlt
    obtain ⟨vk, hvk, hEk⟩ := hR.each k hlt
    have hcm := hcm 0 (by omega)
    rw [hvk] at hcm
    obtain ⟨pk, ck, rfl, hck, -, -⟩ := eds_holds hEk
    have hcm : w3.cell? ⟨bm, om + k, none⟩ = some (.slice pk (s.log.getD k default).length ck) := by simpa using hcm
    have hlk := hq.2.2 (s.log.getD k default) (by rw [List.getD_eq_getElem?_getD, List.getElem?_eq_getElem hlt]; exact List.getElem_mem _)
    subst epm
    refine W.skip ?_
    refine thn_n ?_
    refine W.seq ?_
    refine W.block ?_
    refine W.seq ?_
    refine W.region ?_
    refine L.val (x_as (v := .int _ _) rfl) rfl ?_
    refine L.nil ?_
    refine thn_n ?_
    refine W.block ?_
    refine W.loop (fun m' E w' => ∃ (j : Nat), m' = (s.log.getD k default).length - j ∧ E 0 = .pointer (some ⟨b, 0, none⟩) ∧ E 3 = .pointer (some ⟨w.heap.size, 0, none⟩) ∧ E 5 = .int .i64 (k : Nat) ∧ E 6 = .int .i64 (j : Nat) ∧ (j ≤ (s.log.getD k default).length) ∧ (w' = w3) ∧ (((s.log.getD k default).take j).any (hitE x) = false)) ((s.log.getD k default).length) ?_ ?_
    ·exact ⟨0, by omega, by first | rfl | exact vi (by omega), by first | rfl | exact vi (by omega), by first | rfl | exact vi (by omega), by first | rfl | exact vi (by omega), (by first | assumption | omega | rfl), (by first | assumption | omega | rfl), (by rfl)⟩
    ·rintro _ E wL21 ⟨j, em, e0, e3, e5, e6, hj, hw1, hany2⟩
     rw [upd_self e0, upd_self e3, upd_self e5, upd_self e6]
     refine W.seq ?_
     refine W.seq ?_
     refine W.region ?_
     rw [hw1]
     refine L.val (x_mv (v := .int _ _) rfl) rfl ?_
     refine L.val (x_mv (v := .pointer _) rfl) rfl ?_
     refine L.val (x_nil rfl) rfl ?_
     refine L.val (x_fa ksesz5_fo93_1 rfl) rfl ?_
     refine L.val (x_ld (v := .slice _ _ _) ksesz5_oc30 rfl (hb.cell0 rfl)) rfl ?_
     refine L.val (x_mv (v := .int _ _) rfl) rfl ?_
     refine L.val (x_ia1 (j := k) Try.underlying30 ksesz5_sz22 rfl rfl (by omega) (by omega)) rfl ?_
     refine L.val (x_ld (v := .slice _ _ _) ksesz5_oc22 rfl hcm) rfl ?_
     refine L.val (x_len_slice Try.underlying22 rfl) rfl ?_
     refine L.val (x_lss rfl rfl) rfl ?_
     refine L.nil ?_
     refine thn_n ?_
     refine W.cond (b := _) rfl (fun g30 => ?_) (fun g30 => ?_)
     ·have h30 := of_decide_eq_true g30
      have hlt2 : j < (s.log.getD k default).length := by omega
      obtain ⟨bk, ok, rfl, hck2⟩ := eds_cell hEk hlt2
      obtain ⟨key, hkey⟩ : ∃ key, key = ((s.log.getD k default).getD j default).key := ⟨_, rfl⟩
      have hck2 := hck2 0 (by omega)
      have hck2 : w3.cell? ⟨bk, ok + j * 3 + 0, none⟩ = some (S key) := by rw [hkey]; exact hck2
      refine W.skip ?_
      refine thn_n ?_
      refine W.seq ?_
      refine W.block ?_
      refine W.seq ?_
      refine W.region ?_
      refine L.val (x_mv (v := .pointer _) rfl) rfl ?_
      refine L.val (x_nil rfl) rfl ?_
      refine L.val (x_fa ksesz5_fo93_1 rfl) rfl ?_
      refine L.val (x_ld (v := .slice _ _ _) ksesz5_oc30 rfl (hb.cell0 rfl)) rfl ?_
      refine L.val (x_mv (v := .int _ _) rfl) rfl ?_
      refine L.val (x_ia1 (j := k) Try.underlying30 ksesz5_sz22 rfl rfl (by omega) (by omega)) rfl ?_
      refine L.val (x_ld (v := .slice _ _ _) ksesz5_oc22 rfl hcm) rfl ?_
      refine L.val (x_mv (v := .int _ _) rfl) rfl ?_
      refine L.val (x_ia (j := j) Try.underlying22 ksesz5_sz34 rfl rfl (by omega) (by omega)) rfl ?_
      refine L.val (x_fa ksesz5_fo34_0 rfl) rfl ?_
      refine L.val (x_ld (v := S _) ksesz5_oc9 rfl hck2) rfl ?_
      refine L.val (x_as (v := S _) rfl) rfl ?_
      refine L.nil ?_
      refine thn_n ?_
      refine W.seq ?_
      refine W.seq ?_
      refine W.region ?_
      refine L.val (x_as (v := .int _ _) rfl) rfl ?_
      refine L.nil ?_
      refine thn_n ?_
      refine W.block ?_
      refine W.loop (fun m' E w' => ∃ (g : Nat), m' = x.gets.length - g ∧ E 0 = .pointer (some ⟨b, 0, none⟩) ∧ E 3 = .pointer (some ⟨w.heap.size, 0, none⟩) ∧ E 5 = .int .i64 (k : Nat) ∧ E 6 = .int .i64 (j : Nat) ∧ E 7 = S key ∧ E 8 = .int .i64 (g : Nat) ∧ (g ≤ x.gets.length) ∧ (w' = w3) ∧ (∀ m, m < g → x.gets.getD m [] ≠ key)) (x.gets.length) ?_ ?_
      ·exact ⟨0, by omega, by first | rfl | exact vi (by omega), by first | rfl | exact vi (by omega), by first | rfl | exact vi (by omega), by first | rfl | exact vi (by omega), by first | rfl | exact vi (by omega), by first | rfl | exact vi (by omega), (by first | assumption | omega | rfl), (by first | assumption | omega | rfl), (by exact fun m h => absurd h (by omega))⟩
      ·rintro _ E wL44 ⟨g, em, e0, e3, e5, e6, e7, e8, hg, hw2, hgn⟩
       rw [upd_self e0, upd_self e3, upd_self e5, upd_self e6, upd_self e7, upd_self e8]
       refine W.seq ?_
       refine W.seq ?_
       refine W.region ?_
       rw [hw2]
       refine L.val (x_mv (v := .int _ _) rfl) rfl ?_
       refine L.val (x_fa ksesz5_fo144_3 rfl) rfl ?_
       refine L.val (x_ld (v := .slice _ _ _) ksesz5_oc37 rfl (bx3.cell0 rfl)) rfl ?_
       refine L.val (x_len_slice Try.underlying37 rfl) rfl ?_
       refine L.val (x_lss rfl rfl) rfl ?_
       refine L.nil ?_
       refine thn_n ?_
       refine W.cond (b := _) rfl (fun g48 => ?_) (fun g48 => ?_)
       ·have h48 := of_decide_eq_true g48
        have hlg : g < x.gets.length := by omega
        obtain ⟨bg, rfl⟩ := own_pos hG (by omega)
        refine W.skip ?_
        refine thn_n ?_
        refine W.seq ?_
        refine W.block ?_
        refine W.seq ?_
        refine W.region ?_
        refine L.val (x_fa ksesz5_fo144_3 rfl) rfl ?_
        refine L.val (x_ld (v := .slice _ _ _) ksesz5_oc37 rfl (bx3.cell0 rfl)) rfl ?_
        refine L.val (x_mv (v := .int _ _) rfl) rfl ?_
        refine L.val (x_ia1 (j := g) Try.underlying37 ksesz5_sz9 rfl rfl (by omega) (by omega)) rfl ?_
        refine L.val (x_ld (v := S _) ksesz5_oc9 rfl (own_cell1 hG hlg)) rfl ?_
        refine L.val (x_mv (v := S _) rfl) rfl ?_
        refine L.val (x_eqs rfl rfl) rfl ?_
        refine L.nil ?_
        refine thn_n ?_
        refine W.cond (b := _) rfl (fun g57 => ?_) (fun g57 => ?_)
        ·have h57 := seq_t g57
         have hyes : s.changed x = true := changed_yes hka hlt hlt2 (by
           unfold hitE
           rw [← hkey, ← h57]
           rw [List.contains_iff_mem.2 (by rw [List.getD_eq_getElem?_getD, List.getElem?_eq_getElem hlg]; exact List.getElem_mem hlg)]; rfl)
         refine W.seq ?_
         refine W.region ?_
         refine L.val (x_as (v := .bool _) rfl) rfl ?_
         refine L.nil ?_
         refine thn_n ?_
         refine W.ret (blk_r (thn_r (thn_r (blk_r (thn_r (blk_r (thn_r (thn_r (blk_r (blk_r (thn_r (thn_r (blk_r (thn_r (fin_mk (.inr rfl) ?_)))))))))))))))
         rw [hyes]; exact ⟨rfl, hB⟩
        ·have h57 := seq_f g57
         refine W.skip ?_
         refine blk_n ?_
         refine thn_n ?_
         refine W.region ?_
         refine L.val (x_mv (v := .int _ _) rfl) rfl ?_
         refine L.val (x_add rfl rfl (wr64 (by omega))) rfl ?_
         refine L.val (x_as (v := .int _ _) rfl) rfl ?_
         refine L.nil ?_
         refine thn_n ⟨rfl, ?_⟩
         refine ⟨_, ?_, g + 1, rfl, by first | rfl | exact vi (by omega), by first | rfl | exact vi (by omega), by first | rfl | exact vi (by omega), by first | rfl | exact vi (by omega), by first | rfl | exact vi (by omega), by first | rfl | exact vi (by omega), (by first | assumption | omega | rfl), (by first | assumption | omega | rfl), (by exact fun m h2 => by rcases Nat.lt_succ_iff_lt_or_eq.1 h2 with h3 | rfl; exact hgn m h3; exact h57)⟩
         omega
       ·have h48 := dlt_f g48
        refine W.exit (thn_x (thn_x (blk_hit ?_)))
        refine thn_n ?_
        refine W.seq ?_
        refine W.region ?_
        refine L.val (x_as (v := .int _ _) rfl) rfl ?_
        refine L.nil ?_
        refine thn_n ?_
        refine W.block ?_
        refine W.loop (fun m' E w' => ∃ (d : Nat), m' = x.heads.length - d ∧ E 0 = .pointer (some ⟨b, 0, none⟩) ∧ E 3 = .pointer (some ⟨w.heap.size, 0, none⟩) ∧ E 5 = .int .i64 (k : Nat) ∧ E 6 = .int .i64 (j : Nat) ∧ E 7 = S key ∧ E 9 = .int .i64 (d : Nat) ∧ (d ≤ x.heads.length) ∧ (w' = w3) ∧ (∀ m, m < d → (x.heads.getD m []).isPrefixOf key = false)) (x.heads.length) ?_ ?_
        ·exact ⟨0, by omega, by first | rfl | exact vi (by omega), by first | rfl | exact vi (by omega), by first | rfl | exact vi (by omega), by first | rfl | exact vi (by omega), by first | rfl | exact vi (by omega), by first | rfl | exact vi (by omega), (by first | assumption | omega | rfl), (by first | assumption | omega | rfl), (by exact fun m h => absurd h (by omega))⟩
        ·rintro _ E wL58 ⟨d, em, e0, e3, e5, e6, e7, e9, hd, hw3, hdn⟩
         rw [upd_self e0, upd_self e3, upd_self e5, upd_self e6, upd_self e7, upd_self e9]
         refine W.seq ?_
         refine W.seq ?_
         refine W.region ?_
         rw [hw3]
         refine L.val (x_mv (v := .int _ _) rfl) rfl ?_
         refine L.val (x_fa ksesz5_fo144_4 rfl) rfl ?_
         refine L.val (x_ld (v := .slice _ _ _) ksesz5_oc37 rfl (bx3.cell0 rfl)) rfl ?_
         refine L.val (x_len_slice Try.underlying37 rfl) rfl ?_
         refine L.val (x_lss rfl rfl) rfl ?_
         refine L.nil ?_
         refine thn_n ?_
         refine W.cond (b := _) rfl (fun g62 => ?_) (fun g62 => ?_)
         ·have h62 := of_decide_eq_true g62
          have hld : d < x.heads.length := by omega
          obtain ⟨bd, rfl⟩ := own_pos hX (by omega)
          refine W.skip ?_
          refine thn_n ?_
          refine W.seq ?_
          refine W.block ?_
          refine W.seq ?_
          refine W.region ?_
          refine L.val (x_mv (v := S _) rfl) rfl ?_
          refine L.val (x_fa ksesz5_fo144_4 rfl) rfl ?_
          refine L.val (x_ld (v := .slice _ _ _) ksesz5_oc37 rfl (bx3.cell0 rfl)) rfl ?_
          refine L.val (x_mv (v := .int _ _) rfl) rfl ?_
          refine L.val (x_ia1 (j := d) Try.underlying37 ksesz5_sz9 rfl rfl (by omega) (by omega)) rfl ?_
          refine L.val (x_ld (v := S _) ksesz5_oc9 rfl (own_cell1 hX hld)) rfl ?_
          refine L.ret (x_call ksesz5_en77 rfl) rfl (begins_ref _ _ _) ?_
          rintro _ w71 ⟨rfl, hw71⟩
          rw [hw71]
          refine L.nil ?_
          refine thn_n ?_
          refine W.cond (b := _) rfl (fun g71 => ?_) (fun g71 => ?_)
          ·have h71 := g71
           have hyes : s.changed x = true := changed_yes hka hlt hlt2 (by
             unfold hitE
             rw [← hkey, Bool.or_eq_true]
             exact .inr (List.any_eq_true.2 ⟨_, by rw [List.getD_eq_getElem?_getD, List.getElem?_eq_getElem hld]; exact List.getElem_mem hld, g71⟩))
           refine W.seq ?_
           refine W.region ?_
           refine L.val (x_as (v := .bool _) rfl) rfl ?_
           refine L.nil ?_
           refine thn_n ?_
           refine W.ret (blk_r (thn_r (thn_r (blk_r (blk_r (thn_r (thn_r (blk_r (blk_r (thn_r (thn_r (blk_r (thn_r (fin_mk (.inr rfl) ?_))))))))))))))
           rw [hyes]; exact ⟨rfl, hB⟩
          ·have h71 := g71
           refine W.skip ?_
           refine blk_n ?_
           refine thn_n ?_
           refine W.region ?_
           refine L.val (x_mv (v := .int _ _) rfl) rfl ?_
           refine L.val (x_add rfl rfl (wr64 (by omega))) rfl ?_
           refine L.val (x_as (v := .int _ _) rfl) rfl ?_
           refine L.nil ?_
           refine thn_n ⟨rfl, ?_⟩
           refine ⟨_, ?_, d + 1, rfl, by first | rfl | exact vi (by omega), by first | rfl | exact vi (by omega), by first | rfl | exact vi (by omega), by first | rfl | exact vi (by omega), by first | rfl | exact vi (by omega), by first | rfl | exact vi (by omega), (by first | assumption | omega | rfl), (by first | assumption | omega | rfl), (by exact fun m h2 => by rcases Nat.lt_succ_iff_lt_or_eq.1 h2 with h3 | rfl; exact hdn m h3; simpa using g71)⟩
           omega
         ·have h62 := dlt_f g62
          have hmiss : hitE x ((s.log.getD k default).getD j default) = false := by
            unfold hitE
            rw [← hkey, Bool.or_eq_false_iff]
            refine ⟨?_, List.any_eq_false.2 fun y hy => ?_⟩
            · rw [Bool.eq_false_iff]
              intro hc
              obtain ⟨m, hm, e⟩ := List.getElem_of_mem (List.contains_iff_mem.1 hc)
              refine hgn m (by omega) ?_
              rw [List.getD_eq_getElem?_getD, List.getElem?_eq_getElem hm]; exact e
            · obtain ⟨m, hm, rfl⟩ := List.getElem_of_mem hy
              have := hdn m (by omega)
              rw [List.getD_eq_getElem?_getD, List.getElem?_eq_getElem hm] at this
              rw [Option.getD_some] at this
              rw [this]; decide
          refine W.exit (thn_x (thn_x (blk_hit ?_)))
          refine blk_n ?_
          refine thn_n ?_
          refine W.region ?_
          refine L.val (x_mv (v := .int _ _) rfl) rfl ?_
          refine L.val (x_add rfl rfl (wr64 (by omega))) rfl ?_
          refine L.val (x_as (v := .int _ _) rfl) rfl ?_
          refine L.nil ?_
          refine thn_n ⟨rfl, ?_⟩
          refine ⟨_, ?_, j + 1, rfl, by first | rfl | exact vi (by omega), by first | rfl | exact vi (by omega), by first | rfl | exact vi (by omega), by first | rfl | exact vi (by omega), (by first | assumption | omega | rfl), (by first | assumption | omega | rfl), (by rw [any_take hlt2 default, hany2]; exact hmiss)⟩
          omega
     ·have h30 := dlt_f g30
      have hlast : (s.log.getD k default).any (hitE x) = false := by rw [show j = (s.log.getD k default).length by omega, List.take_length] at hany2; exact hany2
      refine W.exit (thn_x (thn_x (blk_hit ?_)))
      refine blk_n ?_
      refine thn_n ?_
      refine W.region ?_
      refine L.val (x_mv (v := .int _ _) rfl) rfl ?_
      refine L.val (x_add rfl rfl (wr64 (by omega))) rfl ?_
      refine L.val (x_as (v := .int _ _) rfl) rfl ?_
      refine L.nil ?_
      refine thn_n ⟨rfl, ?_⟩
      refine ⟨_, ?_, k + 1, rfl, by first | rfl | exact vi (by omega), by first | rfl | exact vi (by omega), by first | rfl | exact vi (by omega), (by first | assumption | omega | rfl), (by first | assumption | omega | rfl), (by first | assumption | omega | rfl), (by exact fun m h1 h2 => by rcases Nat.lt_succ_iff_lt_or_eq.1 h2 with h3 | rfl; exact hany m h1 h3; exact hlast)⟩
      omega
   ·have h18 := dlt_f g18
    refine W.exit (thn_x (thn_x (blk_hit ?_)))
    refine thn_n ?_
    refine W.seq ?_
    refine W.region ?_
    refine L.val (x_as (v := .bool _) rfl) rfl ?_
    refine L.nil ?_
    refine thn_n ?_
    refine W.ret (fin_mk (.inr rfl) ?_)
    rw [changed_no fun m h1 h2 => hany m h1 (by omega)]; exact ⟨rfl, hB⟩
end Go.Gx
namespace Go.Gx
open Go.Proofs
theorem ksesz6_ag144 : aggT Try.prog 144 6 = true := by kernel_rfl
theorem ksesz6_el22 : elT Try.prog 22 1 = true := by kernel_rfl
theorem ksesz6_en75 : Go.Proofs.Enters Try.prog 75 := Go.Proofs.enters_of Try.func75 (by kernel_rfl) rfl
theorem ksesz6_en76 : Go.Proofs.Enters Try.prog 76 := Go.Proofs.enters_of Try.func76 (by kernel_rfl) rfl
theorem ksesz6_en79 : Go.Proofs.Enters Try.prog 79 := Go.Proofs.enters_of Try.func79 (by kernel_rfl) rfl
theorem ksesz6_fo144_0 : fieldOff Try.prog 144 0 = some 0 := by kernel_rfl
theorem ksesz6_fo144_2 : fieldOff Try.prog 144 2 = some 2 := by kernel_rfl
theorem ksesz6_fo93_0 : fieldOff Try.prog 93 0 = some 0 := by kernel_rfl
theorem ksesz6_fo93_1 : fieldOff Try.prog 93 1 = some 1 := by kernel_rfl
theorem ksesz6_fo93_2 : fieldOff Try.prog 93 2 = some 2 := by kernel_rfl
theorem ksesz6_mixed : Try.prog.follows .mixedOrders = true := by kernel_rfl
theorem ksesz6_oc22 : oneCellT Try.prog 22 = true := by kernel_rfl
theorem ksesz6_oc30 : oneCellT Try.prog 30 = true := by kernel_rfl
theorem ksesz6_oc91 : oneCellT Try.prog 91 = true := by kernel_rfl
theorem ksesz6_sz144 : (Try.prog.info? 144).map (·.size) = some 6 := by kernel_rfl
theorem ksesz6_sz22 : (Try.prog.info? 22).map (·.size) = some 1 := by kernel_rfl
theorem ksesz6_sz30 : (Try.prog.info? 30).map (·.size) = some 1 := by kernel_rfl
theorem ksesz6_sz4 : (Try.prog.info? 4).map (·.size) = some 1 := by kernel_rfl
theorem ksesz6_zr144 : (Try.prog.info? 144).bind (·.zero) = some (Value.agg [Value.bool false, Value.slice none 0 0, Value.slice none 0 0, Value.slice none 0 0, Value.slice none 0 0, Value.int .i64 0].toArray) := by kernel_rfl
section
variable {ow ow' ow1 : Labels} {t t' : Nat} {w w' w1 w2 : World} {b i : Nat} {s : Bs} {vh vd va : Value} {rd ra : List (List Value)}
theorem SxRef.shutAny {s' : Bs} {i' : Nat} {cs : List Value} {x : Sx} (h : SxRef ow t w s i cs x) (hc : x.opn = false) : SxRef ow' t' w' s' i' cs x := by
  obtain ⟨vs, ve, vg, vx, h1, h2, -⟩ := h
  exact ⟨vs, ve, vg, vx, h1, h2, fun e => by rw [hc] at e; cases e⟩
theorem hist_log (s : Bs) (l : List Ed) {n : Nat} (hn : n ≤ s.log.length) : ({ s with log := s.log ++ [l] } : Bs).hist n = s.hist n := by
  unfold Bs.hist
  dsimp only
  rw [List.take_append_of_le_length hn]
theorem SxRef.log {cs : List Value} {x : Sx} (h : SxRef ow t w s i cs x) (l : List Ed) : SxRef ow t w { s with log := s.log ++ [l] } i cs x := by
  obtain ⟨vs, ve, vg, vx, h1, h2, h3⟩ := h
  refine ⟨vs, ve, vg, vx, h1, h2, fun ho => ?_⟩
  obtain ⟨a1, a2, a3⟩ := h3 ho
  refine ⟨by show x.at_ ≤ (s.log ++ [l]).length; rw [List.length_append]; omega, ?_, a3⟩
  rw [hist_log s l a1]; exact a2
theorem state_log (s : Bs) (l : List Ed) : ({ s with log := s.log ++ [l] } : Bs).state = comes s.state l := by
  unfold Bs.state Bs.hist
  dsimp only
  rw [List.take_length, List.take_length, ← comes_append]
  simp
theorem commit_refdone {vh' v ve : Value} {eds : List Ed} (h : RefAt ow t w b s vh vd va rd ra) (hcl : (s.all.getD i default).opn = false) (hK : Keeps t (LogC i) w w1 ow ow1) (hv : Own w1 0 22 1 v (s.log.length + 1) (rd.flatten ++ [ve])) (hg3 : ∀ j, some j = v.ownBlock → ow1 j = some (t, .log))
    (hE : EdsAt (fun k => ow1 k ≠ none) w1 ve eds) (hbl : ow1 b = some (t, .base)) (hK2 : Keeps t (fun p => p = .base) w1 w2 ow1 ow1) (hb : Box w2 b 93 [vh', v, va]) (hh : EdsAt (fun k => ow1 k ≠ none) w2 vh' (comes s.state eds)) :
    RefAt ow1 t w2 b { s with log := s.log ++ [eds] } vh' v va (rd ++ [[ve]]) ra := by
  refine ⟨hbl, hb, by rw [state_log]; exact hh, ?_, ?_, (h.all.keep hK (by simp [LogC])).keep hK2 (by simp), h.len, fun k hk => ?_, hK2.end_⟩
  · have : OwnP ow1 t .log w1 22 1 v (s.log.length + 1) (rd.flatten ++ [ve]) := ⟨hv, hg3⟩
    have := this.keep hK2 (by simp)
    simpa using this
  · exact RowsC.append (rows_keep (rows_keep h.rows hK) hK2) (RowsC.one ⟨ve, rfl, eds_keep hE hK2⟩)
  · by_cases hki : k = i
    · subst hki; exact (h.each k hk).shutAny hcl
    · exact (((h.each k hk).keep hK ⟨by simp [LogC, hki], by simp [LogC], by simp [LogC]⟩).keep hK2 ⟨by simp, by simp, by simp⟩).log eds
end
theorem commit_ref (ow : Labels) (t b : Nat) (s : Bs) (vh vd va : Value) (rd ra : List (List Value)) (id : Int) (w : World) (h : RefAt ow t w b s vh vd va rd ra) (hn : s.all.length ≤ 1000000) (hq : ∀ x ∈ s.all, x.gets.length ≤ 1000000 ∧ x.heads.length ≤ 1000000 ∧ x.eds.length ≤ 10000) (hl : s.log.length ≤ 10000)
    (hql : ∀ l ∈ s.log, l.length ≤ 1000000) (hs : (s.first :: s.log).flatten.length ≤ 900000) :
    Ret Try.prog 43 #[.pointer (some ⟨b, 0, none⟩), .int .i64 id] w fun v w' => v = .int .i64 (if s.isOpen id then s.commitA id else 400) ∧
      ∃ ow' vh' vd' rd' ra', Goes t w w' ow ow' ∧ RefAt ow' t w' b (if s.isOpen id then s.commitS id else s) vh' vd' va rd' ra' := by
  have hb := h.box
  by_cases ho : s.isOpen id
  · rw [if_pos ho, if_pos ho]
    obtain ⟨i, rfl, hi, hop⟩ := open_id ho
    obtain ⟨ba, cap, tl, rfl, hbA, hlA⟩ := h.rowsAt hi
    obtain ⟨vs, ve, vg, vx, er, h1c, hx⟩ := h.each i hi
    obtain ⟨x1, x2, x3, x4, x5, x6⟩ := hx hop
    obtain ⟨ae, ce, rfl, hce⟩ := own_shape x3.1
    obtain ⟨ad, cd, rfl, hcd⟩ := own_shape h.done.1
    obtain ⟨ph, ch, rfl, hch, -⟩ := eds_holds h.held
    have hlen := hq (s.all.getD i default) (by rw [List.getD_eq_getElem?_getD, List.getElem?_eq_getElem hi]; exact List.getElem_mem _)
    obtain ⟨x, hxd⟩ : ∃ x, x = s.all.getD i default := ⟨_, rfl⟩
    refine ret_of_W Try.func43 rfl (Nat.le_of_ble_eq_true rfl) (res1 rfl) ?_
    refine W.seq ?_
    refine W.region ?_
    refine L.val (x_as (v := .int _ _) rfl) rfl ?_
    refine L.nil ?_
    refine thn_n ?_
    refine W.seq ?_
    refine W.seq ?_
    refine W.region ?_
    refine L.val (x_mv (v := .pointer _) rfl) rfl ?_
    refine L.val (x_mv (v := .int _ _) rfl) rfl ?_
    refine L.ret (x_call ksesz6_en76 rfl) rfl (open_ref ow t b s _ _ _ _ _ _ _ h hn) ?_
    rintro _ w8 ⟨rfl, rfl⟩
    refine L.val (x_not rfl) rfl ?_
    refine L.nil ?_
    refine thn_n ?_
    refine W.cond (b := _) rfl (fun g9 => ?_) (fun g9 => ?_)
    ·have h9 := (not_t g9)
     rw [decide_eq_true ho] at g9; cases g9
    ·have h9 := (not_f g9)
     refine W.skip ?_
     refine thn_n ?_
     refine W.seq ?_
     refine W.region ?_
     refine L.val (x_mv (v := .pointer _) rfl) rfl ?_
     refine L.val (x_nil rfl) rfl ?_
     refine L.val (x_fa ksesz6_fo93_2 rfl) rfl ?_
     refine L.val (x_ld (v := .slice _ _ _) ksesz6_oc91 rfl (hb.cell0 rfl)) rfl ?_
     refine L.val (x_mv (v := .int _ _) rfl) rfl ?_
     refine L.val (x_sub rfl rfl (wr64 (by omega))) rfl ?_
     refine L.val (x_ia (j := i) Try.underlying91 ksesz6_sz144 rfl rfl (by omega) (by omega)) rfl ?_
     refine L.val (x_fa ksesz6_fo144_0 rfl) rfl ?_
     refine L.set (v := .bool false) (i := 0 + i * 6 + 0) ksesz6_sz4 rfl rfl rfl hbA (h.blt hi (by omega)) (fun w15 hbN hw hz15 => ?_)
     rw [flat_set_tlk h.lens (by rw [h.len]; exact hi) (by omega)] at hbN
     have hK15 := keeps_lab hw hlA h.free
     have hN := h.row hi hK15 (fun p hp => .inl hp) hbA hbN hlA (h.each i hi).shut
     rw [← shut_succ] at hN
     have x3 := x3.keep hK15 (by simp)
     have x5 := x5.keep hK15 (by simp)
     have x6 := x6.keep hK15 (by simp)
     have hi2 : i < (s.shut ((i + 1 : Nat) : Int)).all.length := by rw [shut_len]; exact hi
     have hG := hK15.goes
     have hb := hN.box
     have hrow : (ra.set i ((ra.getD i []).set 0 (.bool false))).getD i [] = rowR { s.all.getD i default with opn := false } vs (.slice ae (s.all.getD i default).eds.length ce) vg vx := by rw [getD_set (by rw [h.len]; exact hi), if_pos rfl, er]; rfl
     have hone : ∀ u ∈ rowR { s.all.getD i default with opn := false } vs (.slice ae (s.all.getD i default).eds.length ce) vg vx, u.oneCell' = true := by
       obtain ⟨_, _, _, _, _, ho', _⟩ := hN.each i hi2
       rw [hrow] at ho'
       exact ho'
     have hbl := hb.lt
     have hB := Gr.refl (fun _ => False) w15
     have hlsh : (s.shut ((i + 1 : Nat) : Int)).log = s.log := by rw [shut_succ]
     have hcl := shutA hi
     refine L.nil ?_
     refine thn_n ?_
     refine W.seq ?_
     refine W.region ?_
     refine L.val (x_mv (v := .pointer _) rfl) rfl ?_
     refine L.val (x_nil rfl) rfl ?_
     refine L.val (x_fa ksesz6_fo93_2 rfl) rfl ?_
     refine L.val (x_ld (v := .slice _ _ _) ksesz6_oc91 rfl (hb.cell0 rfl)) rfl ?_
     refine L.val (x_mv (v := .int _ _) rfl) rfl ?_
     refine L.val (x_sub rfl rfl (wr64 (by omega))) rfl ?_
     refine L.val (x_ia (j := i) Try.underlying91 ksesz6_sz144 rfl rfl (by omega) (by omega)) rfl ?_
     refine L.val (x_ldn (vs := rowR { s.all.getD i default with opn := false } vs (.slice ae (s.all.getD i default).eds.length ce) vg vx) ksesz6_ag144 rfl rfl (fun j hj => by rw [hbN.cell (row_cellk (tl := tl) (j := j) hN.lens (by rw [hN.len]; exact hi2) hj (by rw [hrow]; exact List.getElem?_eq_getElem hj))]; exact (List.getElem?_eq_getElem hj).symm)) rfl ?_
     refine L.alloc (cs := [Value.bool false, Value.slice none 0 0, Value.slice none 0 0, Value.slice none 0 0, Value.slice none 0 0, Value.int .i64 0]) ksesz6_zr144 rfl rfl (fun w5 bx5 hw hz5 => ?_)
     have hB := hB.carry hw; have hb := hb.carry hw
     refine L.setRow ksesz6_ag144 rfl rfl bx5 rfl rfl hone (fun wl25 bx5 hw hzl25 => ?_)
     have hsz := hB.size
     have hB := hB.set hw (by omega); have hb := hb.carryR hw (by omega)
     refine L.nil ?_
     refine thn_n ?_
     refine W.seq ?_
     refine W.seq ?_
     refine W.region ?_
     refine L.val (x_fa ksesz6_fo144_2 rfl) rfl ?_
     refine L.val (x_ld (v := .slice _ _ _) ksesz6_oc22 rfl (bx5.cell0 rfl)) rfl ?_
     refine L.val (x_len_slice Try.underlying22 rfl) rfl ?_
     refine L.val (x_eql rfl rfl) rfl ?_
     refine L.nil ?_
     refine thn_n ?_
     refine W.cond (b := _) rfl (fun g29 => ?_) (fun g29 => ?_)
     ·have h29 := of_decide_eq_true g29
      have hnil : (s.all.getD i default).eds = [] := List.eq_nil_of_length_eq_zero (by omega)
      refine W.seq ?_
      refine W.region ?_
      refine L.val (x_as (v := .int _ _) rfl) rfl ?_
      refine L.nil ?_
      refine thn_n ?_
      refine W.ret (thn_r (fin_mk (.inr rfl) ?_))
      unfold Bs.commitA Bs.commitS
      rw [ses_succ, if_neg (fun hh => hh.1 hnil), if_pos (.inl hnil)]
      exact ⟨rfl, ow, _, _, _, _, hG.trans (Goes.bel hN.free hB), hN.bel hB⟩
     ·have h29 := of_decide_eq_false g29
      have hne : ¬ (s.all.getD i default).eds = [] := fun hh => by rw [hh] at h29; simp at h29
      refine W.skip ?_
      refine thn_n ?_
      refine W.seq ?_
      refine W.seq ?_
      refine W.region ?_
      refine L.val (x_mv (v := .pointer _) rfl) rfl ?_
      refine L.val (x_ldn (vs := _) ksesz6_ag144 rfl rfl (bx5.row rfl)) rfl ?_
      refine L.ret (x_call ksesz6_en79 rfl) rfl (changed_ref ow t b (s.shut ((i + 1 : Nat) : Int)) { s.all.getD i default with opn := false } _ _ _ _ _ _ _ _ _ _ (hN.bel hB) (by rw [hlsh]; exact x1) (by rw [hlsh]; omega) hone (x5.1.carry hB) (x6.1.carry hB) ⟨hlen.1, hlen.2.1, by rw [hlsh]; exact hql⟩) ?_
      rintro _ w32 ⟨rfl, hw⟩
      have hB := hB.carry hw; have hb := hb.carry hw; have bx5 := bx5.carry hw
      have hN32 := hN.bel hB
      have hB32 := hB
      have hch : (s.shut ((i + 1 : Nat) : Int)).changed { s.all.getD i default with opn := false } = s.changed (s.all.getD i default) := by rw [shut_succ]; rfl
      rw [hch]
      refine L.nil ?_
      refine thn_n ?_
      refine W.cond (b := _) rfl (fun g32 => ?_) (fun g32 => ?_)
      ·have h32 := g32
       have hcc : s.changed (s.all.getD i default) = true := g32
       refine W.seq ?_
       refine W.region ?_
       refine L.val (x_as (v := .int _ _) rfl) rfl ?_
       refine L.nil ?_
       refine thn_n ?_
       refine W.ret (thn_r (fin_mk (.inr rfl) ?_))
       unfold Bs.commitA Bs.commitS
       rw [ses_succ, if_pos ⟨hne, hcc⟩, if_pos (.inr hcc)]
       exact ⟨rfl, ow, _, _, _, _, hG.trans (Goes.bel hN.free hB), hN32⟩
      ·have h32 := g32
       have hcc : s.changed (s.all.getD i default) = false := g32
       have hE : Own w32 0 22 1 (.slice ad s.log.length cd) s.log.length rd.flatten := by have := hN32.done.1; rw [hlsh] at this; exact this
       have lL : ∀ j, some j = (Value.slice ad s.log.length cd).ownBlock → ow j = some (t, .log) := hN32.done.2
       have hbx5 := bx5.lt
       have hqd : ∀ j, some j = (Value.slice ad s.log.length cd).ownBlock → j ≠ w15.heap.size ∧ j ≠ b ∧ j < w32.heap.size := fun j hj => ⟨fun e => (by have := lL j hj; rw [e, hN.free _ (Nat.le_refl _)] at this; cases this), lab_part2 (lL j hj) hN.lab (by simp), (Own.lt hE hj).2⟩
       have hbn5 : b ≠ w15.heap.size := by omega
       have hbl32 := hb.lt
       refine W.skip ?_
       refine thn_n ?_
       refine W.seq ?_
       refine W.drawD (fun j => some j = (Value.slice ad s.log.length cd).ownBlock ∨ j = b) (fun j => some j = (Value.slice ad s.log.length cd).ownBlock) 11 ksesz6_mixed (fun wD33 hw => ?_)
       have hb := hb.carry hw; have hE := hE.carry hw; have bx5 := bx5.carry hw
       have hB0 := Gr.refl (fun j => some j = (Value.slice ad s.log.length cd).ownBlock) wD33; have hR0 := Gr.refl (fun j => some j = (Value.slice ad s.log.length cd).ownBlock ∨ j = b) wD33
       have hD := hw
       refine LAD.take0 (i := 0) rfl (by kernel_rfl) (by kernel_rfl) (by kernel_rfl) (by kernel_rfl) (fun w hw => x_mv (v := .pointer _) rfl) rfl ?_
       refine LAD.take0 (i := 1) rfl (by kernel_rfl) (by kernel_rfl) (by kernel_rfl) (by kernel_rfl) (fun w hw => x_mv (v := .pointer _) rfl) rfl ?_
       refine LAD.take0 (i := 2) rfl (by kernel_rfl) (by kernel_rfl) (by kernel_rfl) (by kernel_rfl) (fun w hw => x_nil rfl) rfl ?_
       refine LAD.take0 (i := 3) rfl (by kernel_rfl) (by kernel_rfl) (by kernel_rfl) (by kernel_rfl) (fun w hw => x_fa ksesz6_fo93_1 rfl) rfl ?_
       refine LAD.take1 (i := 4) rfl (by kernel_rfl) (by kernel_rfl) (by kernel_rfl) (by kernel_rfl) (by kernel_rfl) (by kernel_rfl) (fun w hw => x_ld (v := .slice _ _ _) ksesz6_oc30 rfl (hw.keepR (fun e => by have := hqd _ e; (try dsimp only at this); omega) (hb.cell0 rfl))) rfl ?_
       refine LAD.take0 (i := 5) rfl (by kernel_rfl) (by kernel_rfl) (by kernel_rfl) (by kernel_rfl) (fun w hw => x_fa ksesz6_fo144_2 rfl) rfl ?_
       refine LAD.take0 (i := 6) rfl (by kernel_rfl) (by kernel_rfl) (by kernel_rfl) (by kernel_rfl) (fun w hw => x_ld (v := .slice _ _ _) ksesz6_oc22 rfl (hw.keepR (fun e => by rcases e with e | e; (have := hqd _ e; (try dsimp only at this); omega); (have e : (_ : Nat) = _ := e; (try dsimp only at e); omega)) (bx5.cell0 rfl))) rfl ?_
       refine LAD.step (rs := [7]) hR0 (fun _ => hB0) (by kernel_rfl) (by simp) ⟨⟨_, rfl, ?_⟩, trivial⟩
       refine L.bs (sz := 1) (cells := [.slice ae (s.all.getD i default).eds.length ce]) Try.underlying30 ksesz6_el22 rfl rfl rfl rfl (fun w40 bx40 hw hz40 => ?_)
       have hB0 := hB0.carry hw; have hR0 := hR0.carry hw; have hb := hb.carry hw; have hE := hE.carry hw
       refine L.nil ?_
       refine thn_n ?_
       refine LAD.step (rs := [8]) hR0 (fun _ => hB0) (by kernel_rfl) (by simp) ⟨⟨_, rfl, ?_⟩, trivial⟩
       refine L.appendN (m := 1) Try.underlying30 ksesz6_el22 rfl rfl rfl hE rfl (holdsN_box bx40) (by intro u hu; rw [List.mem_singleton.1 hu]; rfl) (by omega) (by omega) (fun v41 w41 hO41 hg hob41 => ?_)
       have hB0 := hB0.intoR hg (fun k e => e)
       have hR0 := hR0.intoR hg (fun k e => .inl e)
       have hb := hb.carryR hg (fun e => (hqd _ e).2.1 rfl)
       obtain ⟨a41, c41, e41, -⟩ := own_shape hO41
       subst e41
       refine L.nil ?_
       refine thn_n ?_
       refine LAD.take0 (i := 9) rfl (by kernel_rfl) (by kernel_rfl) (by kernel_rfl) (by kernel_rfl) (fun w hw => x_nil rfl) rfl ?_
       refine LAD.take0 (i := 10) rfl (by kernel_rfl) (by kernel_rfl) (by kernel_rfl) (by kernel_rfl) (fun w hw => x_fa ksesz6_fo93_1 rfl) rfl ?_
       refine LAD.step (rs := [11]) hR0 (fun _ => hB0) (by kernel_rfl) (by simp) ⟨⟨_, rfl, ?_⟩, trivial⟩
       refine L.set (v := .slice _ _ _) ksesz6_sz30 rfl rfl rfl hb rfl (fun wl46 hb hw hzl46 => ?_)
       have hR0 := hR0.into hw (by first | exact .inl rfl | exact .inr rfl)
       have hobn : ∀ j, some j = (Value.slice a41 (s.log.length + 1) c41).ownBlock → j ≠ b := fun j hj => by
         rcases hob41 with e | e
         · rw [e] at hj; exact (hqd j hj).2.1
         · rw [e] at hj; cases hj; have := hD.size; omega
       have hO46 := Own.carryR hO41 hw (fun j hj e => hobn j hj e)
       refine L.nil ?_
       refine thn_n ?_
       refine LAD.done (by kernel_rfl) (by kernel_rfl) hR0 ?_
       have bx5 := bx5.carryR hR0 (fun e => by rcases e with e | e; exact (hqd _ e).1 rfl; exact hbn5 e.symm)
       have hall : Gr (fun j => some j = (Value.slice ad s.log.length cd).ownBlock ∨ j = b) w32 wl46 := ((Gr.refl _ _).carry hD).trans hR0
       have x332 : OwnP ow t (.eds i) w32 34 3 (.slice ae (s.all.getD i default).eds.length ce) (s.all.getD i default).eds.length ((s.all.getD i default).eds.map edV).flatten := ⟨Own.carry x3.1 hB, x3.2⟩
       have hnol : ∀ j, some j = (Value.slice ae (s.all.getD i default).eds.length ce).ownBlock → ¬ (some j = (Value.slice ad s.log.length cd).ownBlock ∨ j = b) := fun j hj e => by
         rcases e with e | e
         · exact lab_part2 (x3.2 j hj) (lL j e) (by simp) rfl
         · exact lab_part2 (x3.2 j hj) hN.lab (by simp) e
       have gE := Own.carryR x332.1 hall hnol
       obtain ⟨ow1, hK, hg1, hg2, hg3⟩ := keeps_commit (i := i) (v := .slice a41 (s.log.length + 1) c41) (v0 := .slice ad s.log.length cd) (ve := .slice ae (s.all.getD i default).eds.length ce) (hall.mono (fun k _ e => by
         rcases e with e | e
         · exact ⟨_, .inr (.inl rfl), lL k e⟩
         · exact ⟨_, .inl rfl, by rw [e]; exact hN.lab⟩)) hN32.free lL (hob41.imp id (fun e => ⟨_, e, by have := hD.size; omega⟩)) (fun j hj => (Own.lt hO46 hj).2) (fun j hj => ⟨x332.2 j hj, (Own.lt x332.1 hj).2⟩)
       have hbl1 : ow1 b = some (t, .base) := (hg1 b hbl32 (fun e => hnol b e (.inr rfl))).trans hN.lab
       have hlr : EdsAt (fun k => ow1 k ≠ none) wl46 (.slice ae (s.all.getD i default).eds.length ce) (s.all.getD i default).eds :=
         (rows_pure (C := EdC) (A := fun _ => True) (w := wl46) (f := edV) (s.all.getD i default).eds fun e he => ⟨rfl, x4 e he⟩).doneB gE (by omega) (fun _ _ => trivial) (fun j hj hn => hn (hg2 j hj))
       have hst : (s.shut ((i + 1 : Nat) : Int)).state = s.state := by rw [shut_succ]; rfl
       have hheld : EdsAt (fun k => ow1 k ≠ none) wl46 (.slice ph s.state.length ch) s.state := by have := eds_keep hN32.held hK; rw [hst] at this; exact this
       have hstl : s.state.length ≤ 900000 := Nat.le_trans comes_len (Nat.le_trans (hist_le _ _) hs)
       have hb46 := hb.lt
       have hb546 := bx5.lt
       refine thn_n ?_
       refine W.seq ?_
       refine W.drawD (fun j => j = b ∨ j = b) (fun _ => False) 10 ksesz6_mixed (fun wD44 hw => ?_)
       have hb := hb.carry hw; have bx5 := bx5.carry hw
       have hB0 := Gr.refl (fun _ => False) wD44; have hR0 := Gr.refl (fun j => j = b ∨ j = b) wD44
       have hD44 := hw
       refine LAD.take0 (i := 0) rfl (by kernel_rfl) (by kernel_rfl) (by kernel_rfl) (by kernel_rfl) (fun w hw => x_mv (v := .pointer _) rfl) rfl ?_
       refine LAD.take0 (i := 1) rfl (by kernel_rfl) (by kernel_rfl) (by kernel_rfl) (by kernel_rfl) (fun w hw => x_mv (v := .pointer _) rfl) rfl ?_
       refine LAD.take0 (i := 2) rfl (by kernel_rfl) (by kernel_rfl) (by kernel_rfl) (by kernel_rfl) (fun w hw => x_nil rfl) rfl ?_
       refine LAD.take0 (i := 3) rfl (by kernel_rfl) (by kernel_rfl) (by kernel_rfl) (by kernel_rfl) (fun w hw => x_fa ksesz6_fo93_0 rfl) rfl ?_
       refine LAD.take1 (i := 4) rfl (by kernel_rfl) (by kernel_rfl) (by kernel_rfl) (by kernel_rfl) (by kernel_rfl) (by kernel_rfl) (fun w hw => x_ld (v := .slice _ _ _) ksesz6_oc22 rfl (hw.keepR (fun e => e) (hb.cell0 rfl))) rfl ?_
       refine LAD.take0 (i := 5) rfl (by kernel_rfl) (by kernel_rfl) (by kernel_rfl) (by kernel_rfl) (fun w hw => x_fa ksesz6_fo144_2 rfl) rfl ?_
       refine LAD.take0 (i := 6) rfl (by kernel_rfl) (by kernel_rfl) (by kernel_rfl) (by kernel_rfl) (fun w hw => x_ld (v := .slice _ _ _) ksesz6_oc22 rfl (hw.keepR (fun e => by have e : (_ : Nat) = _ := e.elim id id; (try dsimp only at e); omega) (bx5.cell0 rfl))) rfl ?_
       refine LAD.step (rs := [7]) hR0 (fun _ => hB0) (by kernel_rfl) (by simp) ⟨⟨_, rfl, ?_⟩, trivial⟩
       refine L.ret (x_call ksesz6_en75 rfl) rfl (comes_ref _ _ _ _ s.state (s.all.getD i default).eds _ ((hheld.carry hD44).carry hB0) ((hlr.carry hD44).carry hB0) (by omega)) ?_
       rintro v51 w51 ⟨⟨hE51, h51⟩, hw⟩
       have hB0 := hB0.carry hw; have hR0 := hR0.carry hw; have hb := hb.carry hw
       obtain ⟨p51, c51, e51, -⟩ := eds_holds hE51
       subst e51
       have hE51 := RecsAt.mono (A' := fun k => ow1 k ≠ none) hE51 (fun k _ hk => Decidable.byContradiction fun hh => hk (hK.end_ k (by have := hD44.size; omega)))
       refine L.nil ?_
       refine thn_n ?_
       refine LAD.take0 (i := 8) rfl (by kernel_rfl) (by kernel_rfl) (by kernel_rfl) (by kernel_rfl) (fun w hw => x_nil rfl) rfl ?_
       refine LAD.take0 (i := 9) rfl (by kernel_rfl) (by kernel_rfl) (by kernel_rfl) (by kernel_rfl) (fun w hw => x_fa ksesz6_fo93_0 rfl) rfl ?_
       refine LAD.step (rs := [10]) hR0 (fun _ => hB0) (by kernel_rfl) (by simp) ⟨⟨_, rfl, ?_⟩, trivial⟩
       refine L.set (v := .slice _ _ _) ksesz6_sz22 rfl rfl rfl hb rfl (fun wl57 hb hw hzl57 => ?_)
       have hR0 := hR0.into hw (by first | exact .inl rfl | exact .inr rfl)
       have hE57 := RecsAt.carryR hE51 hw (fun j e => by have e : j = b := e; rw [e, hbl1]; simp)
       refine L.nil ?_
       refine thn_n ?_
       refine LAD.done (by kernel_rfl) (by kernel_rfl) hR0 ?_
       have bx5 := trivial
       refine thn_n ?_
       refine W.seq ?_
       refine W.region ?_
       refine L.val (x_as (v := .int _ _) rfl) rfl ?_
       refine L.nil ?_
       refine thn_n ?_
       refine W.ret (fin_mk (.inr rfl) ?_)
       have hRR : Gr (fun j => j = b) wl46 wl57 := ((Gr.refl _ _).carry hD44).trans (hR0.mono (fun _ _ e => e.elim id id))
       have hK2 := keeps_lab hRR hbl1 hK.end_
       have hfin := commit_refdone hN32 hcl hK (by rw [hlsh]; exact hO46) hg3 hlr hbl1 hK2 hb (by rw [hst]; exact hE57)
       have hcs : s.commitS ((i + 1 : Nat) : Int) = { s.shut ((i + 1 : Nat) : Int) with log := (s.shut ((i + 1 : Nat) : Int)).log ++ [(s.all.getD i default).eds] } := by
         unfold Bs.commitS
         rw [if_neg (fun hh => hh.elim (fun e => hne (by rw [ses_succ] at e; exact e)) (fun hc => by rw [ses_succ, hcc] at hc; cases hc)), ses_succ]
         rfl
       rw [hcs]
       unfold Bs.commitA
       rw [ses_succ, if_neg (fun hh => by rw [hcc] at hh; cases hh.2)]
       exact ⟨rfl, ow1, _, _, _, _, ((hG.trans (Goes.bel hG.end_ hB32)).trans hK.goes).trans hK2.goes, hfin⟩
  · rw [if_neg ho, if_neg ho]
    refine ret_of_W Try.func43 rfl (Nat.le_of_ble_eq_true rfl) (res1 rfl) ?_
    refine W.seq ?_
    refine W.region ?_
    refine L.val (x_as (v := .int _ _) rfl) rfl ?_
    refine L.nil ?_
    refine thn_n ?_
    refine W.seq ?_
    refine W.seq ?_
    refine W.region ?_
    refine L.val (x_mv (v := .pointer _) rfl) rfl ?_
    refine L.val (x_mv (v := .int _ _) rfl) rfl ?_
    refine L.ret (x_call ksesz6_en76 rfl) rfl (open_ref ow t b s _ _ _ _ _ _ _ h hn) ?_
    rintro _ w8 ⟨rfl, rfl⟩
    refine L.val (x_not rfl) rfl ?_
    refine L.nil ?_
    refine thn_n ?_
    refine W.cond (b := _) rfl (fun g9 => ?_) (fun g9 => ?_)
    ·have h9 := (not_t g9)
     refine W.seq ?_
     refine W.region ?_
     refine L.val (x_as (v := .int _ _) rfl) rfl ?_
     refine L.nil ?_
     refine thn_n ?_
     refine W.ret (thn_r (fin_mk (.inr rfl) ?_))
     exact ⟨rfl, ow, _, _, _, _, Goes.refl h.free, h⟩
    ·have h9 := (not_f g9)
     rw [decide_eq_false ho] at g9; cases g9
end Go.Gx
