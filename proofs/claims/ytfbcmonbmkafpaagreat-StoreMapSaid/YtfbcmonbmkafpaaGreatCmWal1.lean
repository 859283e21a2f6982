/- Numbers of a log's headers. Conditions: none. -/
import Derived.Test.YtfbcmonbmkafpaaGreatCmOct5
import Derived.Test.YtfbcmonbmkafpaaGreatCmDrawD
namespace Go.Gx
open Go.Proofs
theorem kwal1_el5 : elT Tryz.prog 5 1 = true := by kernel_rfl
theorem kwal1_oc5 : oneCellT Tryz.prog 5 = true := by kernel_rfl
theorem kwal1_sz5 : (Tryz.prog.info? 5).map (·.size) = some 1 := by kernel_rfl
theorem wnumber_ok (n k : Nat) (hn : n < 18446744073709551616) (hk : 1 ≤ k ∧ k ≤ 8) (w : World) : Ret Tryz.prog 137 #[.int .u64 (n : Nat), .int .i64 (k : Nat)] w fun v w' => v = S (beN k n) ∧ Bel w w' := by
  refine ret_of_W Tryz.func137 rfl (Nat.le_of_ble_eq_true rfl) (res1 rfl) ?_
  have hB := Gr.refl (fun _ => False) w
  refine W.seq ?_
  refine W.region ?_
  refine L.val (x_as (v := S _) rfl) rfl ?_
  refine L.nil ?_
  refine thn_n ?_
  refine W.seq ?_
  refine W.region ?_
  refine L.val (x_mv (v := .int _ _) rfl) rfl ?_
  refine L.mk1 (z := .int .u8 0) k Tryz.underlying77 kwal1_el5 (by kernel_rfl) rfl rfl rfl (by omega) rfl (fun w8 bx8 hw hz8 => ?_)
  have hB := hB.carry hw
  refine L.val (x_as (v := .slice _ _ _) rfl) rfl ?_
  refine L.nil ?_
  refine thn_n ?_
  refine W.seq ?_
  refine W.seq ?_
  refine W.region ?_
  refine L.val (x_mv (v := .slice _ _ _) rfl) rfl ?_
  refine L.val (x_len_slice Tryz.underlying77 rfl) rfl ?_
  refine L.val (x_mv (v := .int _ _) rfl) rfl ?_
  refine L.nil ?_
  refine thn_n ?_
  refine W.block ?_
  refine W.loop (fun m' E w' => ∃ (j : Nat), m' = k - j ∧ E 0 = .int .u64 (n : Nat) ∧ E 1 = .int .i64 (k : Nat) ∧ E 5 = .slice (some ⟨w.heap.size, 0, none⟩) k k ∧ E 10 = .int .i64 (k : Nat) ∧ E 11 = .int .i64 (j : Nat) ∧ (j ≤ k) ∧ (Bel w w') ∧ (Box w' w.heap.size 5 (((beN k n).take j).map B8 ++ List.replicate (k - j) (.int .u8 0)))) (k) ?_ ?_
  ·exact ⟨0, by omega, by first | rfl | exact vi (by omega), by first | rfl | exact vi (by omega), by first | rfl | exact vi (by omega), by first | rfl | exact vi (by omega), by first | rfl | exact vi (by omega), (by first | assumption | omega | rfl), (by first | assumption | omega | rfl), (by simpa using bx8)⟩
  ·rintro _ E wL12 ⟨j, em, e0, e1, e5, e10, e11, hj, hB, bx⟩
   rw [upd_self e0, upd_self e1, upd_self e5, upd_self e10, upd_self e11]
   refine W.seq ?_
   refine W.region ?_
   refine L.val (x_lss rfl rfl) rfl ?_
   refine L.nil ?_
   refine thn_n ?_
   refine W.seq ?_
   refine W.cond (b := _) rfl (fun g12 => ?_) (fun g12 => ?_)
   ·have h12 := of_decide_eq_true g12
    have hlt : j < k := by omega
    have eS : (8 * ((k : Int) - 1 - (j : Nat))).toNat = 8 * (k - 1 - j) := by omega
    have hsk := hB.size
    refine W.skip ?_
    refine thn_n ?_
    refine W.seq ?_
    refine W.block ?_
    refine W.seq ?_
    refine W.region ?_
    refine L.val (x_mv (v := .int _ _) rfl) rfl ?_
    refine L.val (x_as (v := .int _ _) rfl) rfl ?_
    refine L.nil ?_
    refine thn_n ?_
    refine W.region ?_
    refine L.val (x_mv (v := .slice _ _ _) rfl) rfl ?_
    refine L.val (x_mv (v := .int _ _) rfl) rfl ?_
    refine L.val (x_mv (v := .int _ _) rfl) rfl ?_
    refine L.val (x_mv (v := .int _ _) rfl) rfl ?_
    refine L.val (x_sub rfl rfl (wr64 (by omega))) rfl ?_
    refine L.val (x_mv (v := .int _ _) rfl) rfl ?_
    refine L.val (x_sub rfl rfl (wr64 (by omega))) rfl ?_
    refine L.val (x_mul rfl rfl (wr64 (by omega))) rfl ?_
    refine L.val (x_conv (k' := .u64) (by rw [Tryz.underlying3]; rfl) Tryz.underlying192 rfl (wru64 (by omega))) rfl ?_
    refine L.val (x_shr rfl rfl (by omega) (by show _ ≤ ((64 : Nat) : Int); omega)) rfl ?_
    refine L.val (x_convB (by rw [Tryz.underlying103]; rfl) Tryz.underlying5 rfl) rfl ?_
    refine L.val (x_ia1 (j := j) Tryz.underlying77 kwal1_sz5 rfl rfl (by omega) (by omega)) rfl ?_
    refine L.set (v := B8 (lowB ((n : Int) / 2 ^ (8 * ((k : Int) - 1 - (j : Nat))).toNat))) (i := 0 + j) kwal1_sz5 rfl rfl rfl bx (by rw [Nat.blt_eq]; simp [beN_len]; omega) (fun wl23 bxN hw hzl23 => ?_)
    have hB := hB.set hw (by omega)
    have bx2 : Box wl23 w.heap.size 5 (((beN k n).take (j + 1)).map B8 ++ List.replicate (k - (j + 1)) (.int .u8 0)) := by
      have e1 : (((beN k n).take j).map B8 ++ List.replicate (k - j) (Value.int .u8 0)).set (0 + j) (B8 (lowB ((n : Int) / 2 ^ (8 * ((k : Int) - 1 - (j : Nat))).toNat))) = ((beN k n).take (j + 1)).map B8 ++ List.replicate (k - (j + 1)) (.int .u8 0) := by
        rw [beN_take hlt, ← eS, Nat.zero_add, show k - j = k - (j + 1) + 1 by omega, List.replicate_succ, List.set_append, if_neg (by simp [beN_len]; omega)]
        have : j - (((beN k n).take j).map B8).length = 0 := by simp [beN_len]; omega
        rw [this, List.set_cons_zero, List.map_append, List.append_assoc]
        rfl
      rw [← e1]; exact bxN
    refine L.nil ?_
    refine blk_n ?_
    refine thn_n ?_
    refine W.region ?_
    refine L.val (x_add rfl rfl (wr64 (by omega))) rfl ?_
    refine L.val (x_mv (v := .int _ _) rfl) rfl ?_
    refine L.nil ?_
    refine thn_n ⟨rfl, ?_⟩
    refine ⟨_, ?_, j + 1, rfl, by first | rfl | exact vi (by omega), by first | rfl | exact vi (by omega), by first | rfl | exact vi (by omega), by first | rfl | exact vi (by omega), by first | rfl | exact vi (by omega), (by first | assumption | omega | rfl), (by first | assumption | omega | rfl), (by exact bx2)⟩
    omega
   ·have h12 := dlt_f g12
    have hjk : j = k := by omega
    subst hjk
    rw [Nat.sub_self, List.replicate_zero, List.append_nil, List.take_of_length_le (by rw [beN_len]; exact Nat.le_refl _)] at bx
    refine W.exit (thn_x (thn_x (blk_hit ?_)))
    refine thn_n ?_
    refine W.seq ?_
    refine W.region ?_
    refine L.val (x_mv (v := .slice _ _ _) rfl) rfl ?_
    refine L.val (x_b2s (l := beN j n) Tryz.underlying77 Tryz.underlying5 Tryz.underlying9 rfl (by rw [beN_len]) (fun i hi => bx.row (k := j) (by simp [beN_len]) i (by rwa [beN_len] at hi))) rfl ?_
    refine L.val (x_as (v := S _) rfl) rfl ?_
    refine L.nil ?_
    refine thn_n ?_
    refine W.ret (fin_mk (.inr rfl) ?_)
    exact ⟨rfl, hB⟩
theorem beV_take {s : Str} {j : Nat} (hj : j < s.length) : beV (s.take (j + 1)) = beV (s.take j) * 256 + (s.getD j 0).toNat := by
  rw [take_snoc (d := 0) hj, beV_snoc]
theorem wvalue_ok (s : Str) (hs : s.length ≤ 8) (w : World) : Ret Tryz.prog 118 #[S s] w fun v w' => v = .int .u64 (beV s : Nat) ∧ w' = w := by
  refine ret_of_W Tryz.func118 rfl (Nat.le_of_ble_eq_true rfl) (res1 rfl) ?_
  refine W.seq ?_
  refine W.region ?_
  refine L.val (x_as (v := .int _ _) rfl) rfl ?_
  refine L.nil ?_
  refine thn_n ?_
  refine W.seq ?_
  refine W.region ?_
  refine L.val (x_as (v := .int _ _) rfl) rfl ?_
  refine L.nil ?_
  refine thn_n ?_
  refine W.seq ?_
  refine W.seq ?_
  refine W.region ?_
  refine L.val (x_mv (v := S _) rfl) rfl ?_
  refine L.val (x_len_str Tryz.underlying9 rfl) rfl ?_
  refine L.val (x_mv (v := .int _ _) rfl) rfl ?_
  refine L.nil ?_
  refine thn_n ?_
  refine W.block ?_
  refine W.loop (fun m' E w' => ∃ (j : Nat), m' = s.length - j ∧ E 0 = S s ∧ E 3 = .int .u64 (beV (s.take j) : Nat) ∧ E 6 = .int .i64 (s.length : Nat) ∧ E 7 = .int .i64 (j : Nat) ∧ (j ≤ s.length) ∧ (w' = w)) (s.length) ?_ ?_
  ·exact ⟨0, by omega, by first | rfl | exact vi (by omega) | exact vs (by first | assumption | (rw [hst]; done) | (rw [hst]; simp only [List.append_assoc])), by first | rfl | exact vi (by omega) | exact vs (by first | assumption | (rw [hst]; done) | (rw [hst]; simp only [List.append_assoc])), by first | rfl | exact vi (by omega) | exact vs (by first | assumption | (rw [hst]; done) | (rw [hst]; simp only [List.append_assoc])), by first | rfl | exact vi (by omega) | exact vs (by first | assumption | (rw [hst]; done) | (rw [hst]; simp only [List.append_assoc])), (by first | assumption | omega | rfl), (by first | assumption | omega | rfl)⟩
  ·rintro _ E wL8 ⟨j, em, e0, e3, e6, e7, hj, hw0⟩
   rw [upd_self e0, upd_self e3, upd_self e6, upd_self e7]
   refine W.seq ?_
   refine W.region ?_
   refine L.val (x_lss rfl rfl) rfl ?_
   refine L.nil ?_
   refine thn_n ?_
   refine W.seq ?_
   refine W.cond (b := _) rfl (fun g8 => ?_) (fun g8 => ?_)
   ·have h8 := of_decide_eq_true g8
    have hlt : j < s.length := by omega
    have hb8 := b8_lt (s.getD j 0)
    have hst := beV_take hlt
    have hn7 : beV (s.take j) < 72057594037927936 := by
      have h1 : beV (s.take j) < 256 ^ 7 := Nat.lt_of_lt_of_le (beV_lt _) (Nat.pow_le_pow_right (by omega) (by rw [List.length_take]; omega))
      have h3 : (256 : Nat) ^ 7 = 72057594037927936 := by decide
      rw [h3] at h1
      exact h1
    refine W.skip ?_
    refine thn_n ?_
    refine W.seq ?_
    refine W.block ?_
    refine W.seq ?_
    refine W.region ?_
    refine L.val (x_mv (v := .int _ _) rfl) rfl ?_
    refine L.val (x_as (v := .int _ _) rfl) rfl ?_
    refine L.nil ?_
    refine thn_n ?_
    refine W.region ?_
    refine L.val (x_mv (v := .int _ _) rfl) rfl ?_
    refine L.val (x_shl8 rfl rfl hn7) rfl ?_
    refine L.val (x_mv (v := S _) rfl) rfl ?_
    refine L.val (x_mv (v := .int _ _) rfl) rfl ?_
    refine L.val (x_ixs (j := j) Tryz.underlying9 rfl rfl (by omega) (by omega)) rfl ?_
    refine L.val (x_conv (k' := .u64) (by rw [Tryz.underlying5]; rfl) Tryz.underlying103 rfl (wru64 (by omega))) rfl ?_
    refine L.val (x_orB (n := beV (s.take j)) (b := (s.getD j 0).toNat) rfl rfl hn7 (by omega)) rfl ?_
    rw [← hst]
    refine L.val (x_as (v := .int _ _) rfl) rfl ?_
    refine L.nil ?_
    refine blk_n ?_
    refine thn_n ?_
    refine W.region ?_
    refine L.val (x_add rfl rfl (wr64 (by omega))) rfl ?_
    refine L.val (x_mv (v := .int _ _) rfl) rfl ?_
    refine L.nil ?_
    refine thn_n ⟨rfl, ?_⟩
    refine ⟨_, ?_, j + 1, rfl, by first | rfl | exact vi (by omega) | exact vs (by first | assumption | (rw [hst]; done) | (rw [hst]; simp only [List.append_assoc])), by first | rfl | exact vi (by omega) | exact vs (by first | assumption | (rw [hst]; done) | (rw [hst]; simp only [List.append_assoc])), by first | rfl | exact vi (by omega) | exact vs (by first | assumption | (rw [hst]; done) | (rw [hst]; simp only [List.append_assoc])), by first | rfl | exact vi (by omega) | exact vs (by first | assumption | (rw [hst]; done) | (rw [hst]; simp only [List.append_assoc])), (by first | assumption | omega | rfl), (by first | assumption | omega | rfl)⟩
    omega
   ·have h8 := dlt_f g8
    refine W.exit (thn_x (thn_x (blk_hit ?_)))
    refine thn_n ?_
    refine W.seq ?_
    refine W.region ?_
    refine L.val (x_mv (v := .int _ _) rfl) rfl ?_
    refine L.val (x_as (v := .int _ _) rfl) rfl ?_
    refine L.nil ?_
    refine thn_n ?_
    refine W.ret (fin_mk (.inr rfl) ?_)
    have : j = s.length := by omega
    subst this
    rw [List.take_length]
    exact ⟨rfl, hw0⟩
def turnB (b : UInt8) : UInt8 := UInt8.ofNat (255 - b.toNat)
theorem turn_bits : ∀ b : Fin 256, bits .xor .u8 IntKind.u8.max (b.val : Int) = ((255 - b.val : Nat) : Int) := by decide +kernel
theorem turn_val (b : UInt8) : Value.int .u8 (bits .xor .u8 IntKind.u8.max (b.toNat : Nat)) = B8 (turnB b) := by
  have hb := b.toNat_lt
  have h := turn_bits ⟨b.toNat, hb⟩
  unfold B8 turnB
  rw [show (bits .xor .u8 IntKind.u8.max ((b.toNat : Nat) : Int)) = ((255 - b.toNat : Nat) : Int) from h, UInt8.toNat_ofNat']
  congr 2
  exact (Nat.mod_eq_of_lt (by omega)).symm
def turnS (s : Str) : Str := s.map turnB
theorem turned_ok (s : Str) (h1 : 1 ≤ s.length) (hs : s.length ≤ 1000) (w : World) : Ret Tryz.prog 119 #[S s] w fun v w' => v = S (turnS s) ∧ Bel w w' := by
  refine ret_of_W Tryz.func119 rfl (Nat.le_of_ble_eq_true rfl) (res1 rfl) ?_
  have hB := Gr.refl (fun _ => False) w
  refine W.seq ?_
  refine W.region ?_
  refine L.val (x_as (v := S _) rfl) rfl ?_
  refine L.nil ?_
  refine thn_n ?_
  refine W.seq ?_
  refine W.region ?_
  refine L.val (x_mv (v := S _) rfl) rfl ?_
  refine L.s2b Tryz.underlying9 Tryz.underlying77 Tryz.underlying5 rfl rfl (fun w6 cap tl bx6 hw hz6 hcap => ?_)
  have hB := hB.carry hw
  refine L.val (x_as (v := .slice _ _ _) rfl) rfl ?_
  refine L.nil ?_
  refine thn_n ?_
  refine W.seq ?_
  refine W.seq ?_
  refine W.region ?_
  refine L.val (x_mv (v := .slice _ _ _) rfl) rfl ?_
  refine L.val (x_len_slice Tryz.underlying77 rfl) rfl ?_
  refine L.val (x_mv (v := .int _ _) rfl) rfl ?_
  refine L.nil ?_
  refine thn_n ?_
  refine W.block ?_
  refine W.loop (fun m' E w' => ∃ (j : Nat), m' = s.length - j ∧ E 3 = .slice (some ⟨w.heap.size, 0, none⟩) s.length cap ∧ E 8 = .int .i64 (s.length : Nat) ∧ E 9 = .int .i64 (j : Nat) ∧ (j ≤ s.length) ∧ (Bel w w') ∧ (BoxM w' w.heap.size 5 ((turnS (s.take j) ++ s.drop j).map B8 ++ tl))) (s.length) ?_ ?_
  ·exact ⟨0, by omega, by first | rfl | exact vi (by omega), by first | rfl | exact vi (by omega), by first | rfl | exact vi (by omega), (by first | assumption | omega | rfl), (by first | assumption | omega | rfl), (by simpa [turnS] using bx6)⟩
  ·rintro _ E wL10 ⟨j, em, e3, e8, e9, hj, hB, bx⟩
   rw [upd_self e3, upd_self e8, upd_self e9]
   refine W.seq ?_
   refine W.region ?_
   refine L.val (x_lss rfl rfl) rfl ?_
   refine L.nil ?_
   refine thn_n ?_
   refine W.seq ?_
   refine W.cond (b := _) rfl (fun g10 => ?_) (fun g10 => ?_)
   ·have h10 := of_decide_eq_true g10
    have hlt : j < s.length := by omega
    have hsk := hB.size
    have hlen : (turnS (s.take j)).length = j := by simp [turnS]; omega
    have hget : ((turnS (s.take j) ++ s.drop j).map B8 ++ tl)[j]? = some (B8 (s.getD j 0)) := by
      rw [List.getElem?_append_left (by simp [hlen]; omega), List.getElem?_map, List.getElem?_append_right (by omega), hlen, Nat.sub_self, List.getElem?_drop, Nat.add_zero, List.getElem?_eq_getElem hlt, List.getD_eq_getElem?_getD, List.getElem?_eq_getElem hlt]
      rfl
    refine W.skip ?_
    refine thn_n ?_
    refine W.seq ?_
    refine W.block ?_
    refine W.seq ?_
    refine W.region ?_
    refine L.val (x_mv (v := .int _ _) rfl) rfl ?_
    refine L.val (x_as (v := .int _ _) rfl) rfl ?_
    refine L.nil ?_
    refine thn_n ?_
    refine W.region ?_
    refine L.val (x_mv (v := .slice _ _ _) rfl) rfl ?_
    refine L.val (x_mv (v := .int _ _) rfl) rfl ?_
    refine L.val (x_mv (v := .slice _ _ _) rfl) rfl ?_
    refine L.val (x_mv (v := .int _ _) rfl) rfl ?_
    refine L.val (x_ia1 (j := j) Tryz.underlying77 kwal1_sz5 rfl rfl (by omega) (by omega)) rfl ?_
    refine L.val (x_ld (v := .int _ _) kwal1_oc5 rfl (bx.cell0 hget)) rfl ?_
    refine L.val (x_cpl rfl rfl) rfl ?_
    refine L.val (x_ia1 (j := j) Tryz.underlying77 kwal1_sz5 rfl rfl (by omega) (by omega)) rfl ?_
    refine L.setM (v := B8 (turnB (s.getD j 0))) (i := 0 + j) kwal1_sz5 rfl (turn_val _) rfl bx (by simp [hlen]; omega) (fun wl19 bxN hw hzl19 => ?_)
    have hB := hB.set hw (by omega)
    have bx2 : BoxM wl19 w.heap.size 5 ((turnS (s.take (j + 1)) ++ s.drop (j + 1)).map B8 ++ tl) := by
      have e1 : ((turnS (s.take j) ++ s.drop j).map B8 ++ tl).set (0 + j) (B8 (turnB (s.getD j 0))) = (turnS (s.take (j + 1)) ++ s.drop (j + 1)).map B8 ++ tl := by
        rw [Nat.zero_add, List.set_append, if_pos (by simp [hlen]; omega), ← List.map_set, List.set_append, if_neg (by omega), hlen, Nat.sub_self, drop_cons hlt, List.set_cons_zero, take_snoc (d := 0) hlt]
        simp [turnS]
      rw [← e1]; exact bxN
    refine L.nil ?_
    refine blk_n ?_
    refine thn_n ?_
    refine W.region ?_
    refine L.val (x_add rfl rfl (wr64 (by omega))) rfl ?_
    refine L.val (x_mv (v := .int _ _) rfl) rfl ?_
    refine L.nil ?_
    refine thn_n ⟨rfl, ?_⟩
    refine ⟨_, ?_, j + 1, rfl, by first | rfl | exact vi (by omega), by first | rfl | exact vi (by omega), by first | rfl | exact vi (by omega), (by first | assumption | omega | rfl), (by first | assumption | omega | rfl), (by exact bx2)⟩
    omega
   ·have h10 := dlt_f g10
    have hjk : j = s.length := by omega
    subst hjk
    rw [List.take_length, List.drop_length, List.append_nil] at bx
    refine W.exit (thn_x (thn_x (blk_hit ?_)))
    refine thn_n ?_
    refine W.seq ?_
    refine W.region ?_
    refine L.val (x_mv (v := .slice _ _ _) rfl) rfl ?_
    refine L.val (x_b2s (l := turnS s) Tryz.underlying77 Tryz.underlying5 Tryz.underlying9 rfl (by simp [turnS]) (fun i hi => by rw [List.getElem?_eq_getElem (by simpa using hi)]; exact bx.cell0 (by rw [List.getElem?_append_left (by simpa using hi), List.getElem?_eq_getElem (by simpa using hi)]))) rfl ?_
    refine L.val (x_as (v := S _) rfl) rfl ?_
    refine L.nil ?_
    refine thn_n ?_
    refine W.ret (fin_mk (.inr rfl) ?_)
    exact ⟨rfl, hB⟩
end Go.Gx
namespace Go.Gx
open Go.Proofs
theorem kwal2_en119 : Go.Proofs.Enters Tryz.prog 119 := Go.Proofs.enters_of Tryz.func119 (by kernel_rfl) rfl
theorem kwal2_en137 : Go.Proofs.Enters Tryz.prog 137 := Go.Proofs.enters_of Tryz.func137 (by kernel_rfl) rfl
theorem kwal2_en89 : Go.Proofs.Enters Tryz.prog 89 := Go.Proofs.enters_of Tryz.func89 (by kernel_rfl) rfl
theorem kwal2_fo132_0 : fieldOff Tryz.prog 132 0 = some 0 := by kernel_rfl
theorem kwal2_fo132_1 : fieldOff Tryz.prog 132 1 = some 1 := by kernel_rfl
theorem kwal2_fo132_2 : fieldOff Tryz.prog 132 2 = some 2 := by kernel_rfl
theorem kwal2_fo132_3 : fieldOff Tryz.prog 132 3 = some 3 := by kernel_rfl
theorem kwal2_mixed : Tryz.prog.follows .mixedOrders = true := by kernel_rfl
theorem kwal2_oc103 : oneCellT Tryz.prog 103 = true := by kernel_rfl
theorem kwal2_oc3 : oneCellT Tryz.prog 3 = true := by kernel_rfl
structure Pt where
  ep : Nat
  half : Nat
  tail : Nat
  cnt : Nat
deriving DecidableEq
def ptV (p : Pt) : List Value := [.int .u64 (p.ep : Nat), .int .i64 (p.half : Nat), .int .i64 (p.tail : Nat), .int .i64 (p.cnt : Nat)]
theorem ptV_one (p : Pt) : ∀ v ∈ ptV p, v.oneCell' = true := fun v hv => by
  simp only [ptV, List.mem_cons, List.not_mem_nil, or_false] at hv
  rcases hv with rfl | rfl | rfl | rfl <;> rfl
def PtOk (p : Pt) : Prop := p.ep < 18446744073709551616 ∧ p.half < 4294967296 ∧ p.tail < 4294967296 ∧ p.cnt < 4294967296
def ptS (p : Pt) : Str := beN 8 p.ep ++ beN 1 p.half ++ beN 4 p.tail ++ beN 4 p.cnt
def hdrS (p : Pt) : Str := ptS p ++ turnS (ptS p) ++ zeros 30
theorem ptS_len (p : Pt) : (ptS p).length = 17 := by simp [ptS, beN_len]
theorem header_ok (p : Pt) (hp : PtOk p) (w : World) : Ret Tryz.prog 115 #[.agg (ptV p).toArray] w fun v w' => v = S (hdrS p) ∧ Bel w w' := by
  obtain ⟨h1, h2, h3, h4⟩ := hp
  have hl := ptS_len p
  refine ret_of_W Tryz.func115 rfl (Nat.le_of_ble_eq_true rfl) (res1 rfl) ?_
  have hB := Gr.refl (fun _ => False) w
  refine W.seq ?_
  refine W.region ?_
  refine L.box (cs := ptV p) rfl rfl (fun w1 bx1 hw hz1 => ?_)
  have hB := hB.carry hw
  refine L.val (x_as (v := S _) rfl) rfl ?_
  refine L.nil ?_
  refine thn_n ?_
  refine W.cut (fun D' E' w' => D' = [] ∧ E' 3 = S (ptS p) ∧ Bel w w') ?_ ?_
  ·refine W.drawF 19 kwal2_mixed (fun wF4 hB0 => ?_)
   refine LAC.takeN (i := 0) rfl (by kernel_rfl) (by kernel_rfl) (by kernel_rfl) (by kernel_rfl) (fun w hw => x_fa kwal2_fo132_0 rfl) rfl ?_
   refine LAC.takeN (i := 1) rfl (by kernel_rfl) (by kernel_rfl) (by kernel_rfl) (by kernel_rfl) (fun w hw => x_ld (v := .int _ _) kwal2_oc103 rfl (hw.keep (bx1.cell0 rfl))) rfl ?_
   refine LAC.takeN (i := 3) rfl (by kernel_rfl) (by kernel_rfl) (by kernel_rfl) (by kernel_rfl) (fun w hw => x_fa kwal2_fo132_1 rfl) rfl ?_
   refine LAC.takeN (i := 4) rfl (by kernel_rfl) (by kernel_rfl) (by kernel_rfl) (by kernel_rfl) (fun w hw => x_ld (v := .int _ _) kwal2_oc3 rfl (hw.keep (bx1.cell0 rfl))) rfl ?_
   refine LAC.takeN (i := 5) rfl (by kernel_rfl) (by kernel_rfl) (by kernel_rfl) (by kernel_rfl) (fun w hw => x_conv (k' := .u64) (by rw [Tryz.underlying3]; rfl) Tryz.underlying103 rfl (wru64 (by omega))) rfl ?_
   refine LAC.takeN (i := 8) rfl (by kernel_rfl) (by kernel_rfl) (by kernel_rfl) (by kernel_rfl) (fun w hw => x_fa kwal2_fo132_2 rfl) rfl ?_
   refine LAC.takeN (i := 9) rfl (by kernel_rfl) (by kernel_rfl) (by kernel_rfl) (by kernel_rfl) (fun w hw => x_ld (v := .int _ _) kwal2_oc3 rfl (hw.keep (bx1.cell0 rfl))) rfl ?_
   refine LAC.takeN (i := 10) rfl (by kernel_rfl) (by kernel_rfl) (by kernel_rfl) (by kernel_rfl) (fun w hw => x_conv (k' := .u64) (by rw [Tryz.underlying3]; rfl) Tryz.underlying103 rfl (wru64 (by omega))) rfl ?_
   refine LAC.takeN (i := 13) rfl (by kernel_rfl) (by kernel_rfl) (by kernel_rfl) (by kernel_rfl) (fun w hw => x_fa kwal2_fo132_3 rfl) rfl ?_
   refine LAC.takeN (i := 14) rfl (by kernel_rfl) (by kernel_rfl) (by kernel_rfl) (by kernel_rfl) (fun w hw => x_ld (v := .int _ _) kwal2_oc3 rfl (hw.keep (bx1.cell0 rfl))) rfl ?_
   refine LAC.takeN (i := 15) rfl (by kernel_rfl) (by kernel_rfl) (by kernel_rfl) (by kernel_rfl) (fun w hw => x_conv (k' := .u64) (by rw [Tryz.underlying3]; rfl) Tryz.underlying103 rfl (wru64 (by omega))) rfl ?_
   refine LAC.step (rs := [2]) (fun _ => hB0) (by kernel_rfl) (by simp) ⟨⟨_, rfl, ?_⟩, trivial⟩
   refine L.ret (x_call kwal2_en137 rfl) rfl (wnumber_ok p.ep 8 h1 (by omega) _) ?_
   rintro _ w6 ⟨rfl, hw⟩
   have hB0 := hB0.carry hw
   refine L.nil ?_
   refine thn_n ?_
   refine LAC.step (rs := [6]) (fun _ => hB0) (by kernel_rfl) (by simp) ⟨⟨_, rfl, ?_⟩, trivial⟩
   refine L.ret (x_call kwal2_en137 rfl) rfl (wnumber_ok p.half 1 (by omega) (by omega) _) ?_
   rintro _ w10 ⟨rfl, hw⟩
   have hB0 := hB0.carry hw
   refine L.nil ?_
   refine thn_n ?_
   refine LAC.takeN (i := 7) rfl (by kernel_rfl) (by kernel_rfl) (by kernel_rfl) (by kernel_rfl) (fun w hw => x_cat rfl rfl (by simp [beN_len])) rfl ?_
   refine LAC.step (rs := [11]) (fun _ => hB0) (by kernel_rfl) (by simp) ⟨⟨_, rfl, ?_⟩, trivial⟩
   refine L.ret (x_call kwal2_en137 rfl) rfl (wnumber_ok p.tail 4 (by omega) (by omega) _) ?_
   rintro _ w15 ⟨rfl, hw⟩
   have hB0 := hB0.carry hw
   refine L.nil ?_
   refine thn_n ?_
   refine LAC.takeN (i := 12) rfl (by kernel_rfl) (by kernel_rfl) (by kernel_rfl) (by kernel_rfl) (fun w hw => x_cat rfl rfl (by simp [beN_len])) rfl ?_
   refine LAC.step (rs := [16]) (fun _ => hB0) (by kernel_rfl) (by simp) ⟨⟨_, rfl, ?_⟩, trivial⟩
   refine L.ret (x_call kwal2_en137 rfl) rfl (wnumber_ok p.cnt 4 (by omega) (by omega) _) ?_
   rintro _ w20 ⟨rfl, hw⟩
   have hB0 := hB0.carry hw
   refine L.nil ?_
   refine thn_n ?_
   refine LAC.takeN (i := 17) rfl (by kernel_rfl) (by kernel_rfl) (by kernel_rfl) (by kernel_rfl) (fun w hw => x_cat rfl rfl (by simp [beN_len])) rfl ?_
   refine LAC.takeN (i := 18) rfl (by kernel_rfl) (by kernel_rfl) (by kernel_rfl) (by kernel_rfl) (fun w hw => x_as (v := S _) rfl) rfl ?_
   refine LAC.doneF (by kernel_rfl) hB0 ?_
   have hB := hB.carry hB0; have bx1 := bx1.carry hB0
   refine thn_n ?_
   exact ⟨rfl, rfl, hB⟩
  ·rintro D E w22 ⟨rfl, e3, hB⟩
   rw [upd_self e3]
   refine W.seq ?_
   refine W.region ?_
   refine L.val (x_mv (v := S _) rfl) rfl ?_
   refine L.val (x_mv (v := S _) rfl) rfl ?_
   refine L.ret (x_call kwal2_en119 rfl) rfl (turned_ok _ (by omega) (by omega) _) ?_
   rintro _ w24 ⟨rfl, hw⟩
   have hB := hB.carry hw
   refine L.val (x_cat rfl rfl (by simp [turnS, hl])) rfl ?_
   refine L.ret (x_call kwal2_en89 rfl) rfl (padded_ok _ (by simp [turnS, hl]) _) ?_
   rintro _ w26 ⟨rfl, hw⟩
   have hB := hB.carry hw
   refine L.val (x_as (v := S _) rfl) rfl ?_
   refine L.nil ?_
   refine thn_n ?_
   refine W.ret (fin_mk (.inr rfl) ?_)
   refine ⟨?_, hB⟩
   unfold hdrS
   have e : 64 - (ptS p ++ turnS (ptS p)).length = 30 := by simp [turnS, hl]
   rw [e]; rfl
theorem left_ok (p : Pt) (room : Nat) (hr : room ≤ 1000000 ∧ p.tail ≤ 4294967296) (w : World) : Ret Tryz.prog 81 #[.agg (ptV p).toArray, .int .i64 (room : Nat)] w fun v w' => v = .int .i64 ((room : Nat) - (p.tail : Nat)) ∧ Bel w w' := by
  refine ret_of_W Tryz.func81 rfl (Nat.le_of_ble_eq_true rfl) (res1 rfl) ?_
  have hB := Gr.refl (fun _ => False) w
  refine W.seq ?_
  refine W.region ?_
  refine L.box (cs := ptV p) rfl rfl (fun w2 bx2 hw hz2 => ?_)
  have hB := hB.carry hw
  refine L.val (x_as (v := .int _ _) rfl) rfl ?_
  refine L.nil ?_
  refine thn_n ?_
  refine W.seq ?_
  refine W.region ?_
  refine L.val (x_mv (v := .int _ _) rfl) rfl ?_
  refine L.val (x_fa kwal2_fo132_2 rfl) rfl ?_
  refine L.val (x_ld (v := .int _ _) kwal2_oc3 rfl (bx2.cell0 rfl)) rfl ?_
  refine L.val (x_sub rfl rfl (wr64 (by omega))) rfl ?_
  refine L.val (x_as (v := .int _ _) rfl) rfl ?_
  refine L.nil ?_
  refine thn_n ?_
  refine W.ret (fin_mk (.inr rfl) ?_)
  exact ⟨rfl, hB⟩
end Go.Gx
namespace Go.Gx
variable {P : Program} {ops : Array Oper} {C0 C1 : World → Prop}
section
variable {n st : Nat} {K : List Deferred → Env → World → Prop} {D : List Deferred} {E : Env} {w : World}
theorem LAD.takeY {fuel : Nat} {listed : Array Bool} {i d : Nat} {o : Oper} {v : Value}
    (ho : ops[i]? = some o) (hod : o.dst = some d) (hs : Region.noSelect ops = true) (hf : Region.free .any ops listed i = true) (hr : (Region.ready .any ops listed).contains i = true) (hne : Nat.beq st i = false)
    (hx : ∀ a, Fr D n a E → YF P ops C0 o v a) (hd : Nat.blt d n = true) (k : LAD P n ops C0 C1 st K fuel (listed.setIfInBounds i true) D (upd E d v) w) : LAD P n ops C0 C1 st K (fuel + 1) listed D E w := by
  intro a ha
  refine wpAnyD.take0 ho (Region.noSelect_spec hs) ?_ (fun h => by subst h; simp at hne) fuel listed a w (Region.free_spec ho hf) (by simpa using hr) (hx a ha) ?_
  · rintro c a w ⟨_, E, _, h, _⟩; cases h
  · rw [hod]; exact k _ (ha.put v hd)
theorem LAD.takeG {fuel : Nat} {listed : Array Bool} {i d j dj : Nat} {op : Op} {t : TypeId} {p : String} {af : Array Edge} {v : Value} {want b : Bool}
    (ho : ops[i]? = some ⟨some d, op, t, p, af, some (j, want)⟩) (hs : Region.noSelect ops = true) (hf : Region.free .any ops listed i = true) (hr : (Region.ready .any ops listed).contains i = true) (hne : Nat.beq st i = false)
    (hj : (ops[j]?).bind (·.dst) = some dj) (hE : E dj = .bool b) (hb : b = want)
    (hx : ∀ w, C0 w → X P op t E w v w) (hd : Nat.blt d n = true) (k : LAD P n ops C0 C1 st K fuel (listed.setIfInBounds i true) D (upd E d v) w) : LAD P n ops C0 C1 st K (fuel + 1) listed D E w :=
  LAD.takeY ho rfl hs hf hr hne (fun a ha => .inl ⟨wanted_yes rfl hj ha (hb ▸ hE), fun w hw => by
    have := hx w hw
    unfold X at this
    rw [execOp_bare, ha.eval]; exact this⟩) hd k
theorem LAD.takeU {fuel : Nat} {listed : Array Bool} {i d j dj : Nat} {op : Op} {t : TypeId} {p : String} {af : Array Edge} {want b : Bool}
    (ho : ops[i]? = some ⟨some d, op, t, p, af, some (j, want)⟩) (hs : Region.noSelect ops = true) (hf : Region.free .any ops listed i = true) (hr : (Region.ready .any ops listed).contains i = true) (hne : Nat.beq st i = false)
    (hj : (ops[j]?).bind (·.dst) = some dj) (hE : E dj = .bool b) (hb : b = !want)
    (hd : Nat.blt d n = true) (k : LAD P n ops C0 C1 st K fuel (listed.setIfInBounds i true) D (upd E d undef) w) : LAD P n ops C0 C1 st K (fuel + 1) listed D E w :=
  LAD.takeY ho rfl hs hf hr hne (fun _ ha => .inr ⟨wanted_no rfl hj ha hE hb, rfl⟩) hd k
theorem LAD.takeUU {fuel : Nat} {listed : Array Bool} {i d j dj : Nat} {op : Op} {t : TypeId} {p : String} {af : Array Edge} {want : Bool}
    (ho : ops[i]? = some ⟨some d, op, t, p, af, some (j, want)⟩) (hs : Region.noSelect ops = true) (hf : Region.free .any ops listed i = true) (hr : (Region.ready .any ops listed).contains i = true) (hne : Nat.beq st i = false)
    (hj : (ops[j]?).bind (·.dst) = some dj) (hE : E dj = undef)
    (hd : Nat.blt d n = true) (k : LAD P n ops C0 C1 st K fuel (listed.setIfInBounds i true) D (upd E d undef) w) : LAD P n ops C0 C1 st K (fuel + 1) listed D E w :=
  LAD.takeY ho rfl hs hf hr hne (fun _ ha => .inr ⟨wanted_undef rfl hj ha hE, rfl⟩) hd k
theorem LAD.split {fuel : Nat} {listed : Array Bool} {dj : Nat} {b : Bool} (_hE : E dj = .bool b) (ht : b = true → LAD P n ops C0 C1 st K fuel listed D E w) (hf : b = false → LAD P n ops C0 C1 st K fuel listed D E w) : LAD P n ops C0 C1 st K fuel listed D E w := by
  cases b
  · exact hf rfl
  · exact ht rfl
end
end Go.Gx
