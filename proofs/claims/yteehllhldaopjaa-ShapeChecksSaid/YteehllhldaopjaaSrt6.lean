/- The library's sort of strings, from its top: a sorted permutation. Conditions: none. -/
import Derived.Test.YteehllhldaopjaaSrt5
namespace Go.Gx
open Go.Proofs Go.Sort
theorem ksrt6_en124 : Go.Proofs.Enters Try.prog 124 := Go.Proofs.enters_of Try.func124 (by kernel_rfl) rfl
theorem ksrt6_en152 : Go.Proofs.Enters Try.prog 152 := Go.Proofs.enters_of Try.func152 (by kernel_rfl) rfl
theorem ksrt6_en164 : Go.Proofs.Enters Try.prog 164 := Go.Proofs.enters_of Try.func164 (by kernel_rfl) rfl
theorem ksrt6_en177 : Go.Proofs.Enters Try.prog 177 := Go.Proofs.enters_of Try.func177 (by kernel_rfl) rfl

theorem ins_nil (cap : Nat) (w : World) : Ret Try.prog 177 #[.slice none 0 cap, .int .i64 0, .int .i64 0] w fun v w' => v = .tuple #[] ∧ Bel w w' := by
  refine ret_of_W Try.func177 rfl (Nat.le_of_ble_eq_true rfl) (res0 rfl) ?_
  have hB := Gr.refl (fun _ => False) w
  refine W.seq ?_
  refine W.region ?_
  refine L.val (x_mv (v := .int _ _) rfl) rfl ?_
  refine L.val (x_add rfl rfl (wr64 (by omega))) rfl ?_
  refine L.val (x_as (v := .int _ _) rfl) rfl ?_
  refine L.nil ?_
  refine thn_n ?_
  refine W.block ?_
  refine W.loop (fun m' E w' => m' = 0 ∧ E 2 = .int .i64 0 ∧ E 6 = .int .i64 1 ∧ (Bel w w')) (0) ?_ ?_
  ·exact ⟨by omega, by first | rfl | exact vi (by omega) | exact vs (by first | assumption | (rw [hst]; done) | (rw [hst]; simp only [List.append_assoc])), by first | rfl | exact vi (by omega) | exact vs (by first | assumption | (rw [hst]; done) | (rw [hst]; simp only [List.append_assoc])), (by first | assumption | omega | rfl)⟩
  ·rintro _ E wL10 ⟨em, e2, e6, hB⟩
   rw [upd_self e2, upd_self e6]
   refine W.seq ?_
   refine W.seq ?_
   refine W.region ?_
   refine L.val (x_mv (v := .int _ _) rfl) rfl ?_
   refine L.val (x_mv (v := .int _ _) rfl) rfl ?_
   refine L.val (x_lss rfl rfl) rfl ?_
   refine L.nil ?_
   refine thn_n ?_
   refine W.cond (b := _) rfl (fun g12 => ?_) (fun g12 => ?_)
   ·have h12 := of_decide_eq_true g12
    omega
   ·have h12 := dlt_f g12
    refine W.exit (thn_x (thn_x (blk_hit ?_)))
    refine fin_mk (.inl rfl) ?_
    exact ⟨rfl, hB⟩
theorem pdq_nil (cap : Nat) (l : Int) (w : World) : Ret Try.prog 164 #[.slice none 0 cap, .int .i64 0, .int .i64 0, .int .i64 l] w fun v w' => v = .tuple #[] ∧ Bel w w' := by
  refine ret_of_W Try.func164 rfl (Nat.le_of_ble_eq_true rfl) (res0 rfl) ?_
  have hB := Gr.refl (fun _ => False) w
  refine W.seq ?_
  refine W.region ?_
  refine L.val (x_as (v := .bool _) rfl) rfl ?_
  refine L.nil ?_
  refine thn_n ?_
  refine W.seq ?_
  refine W.region ?_
  refine L.val (x_as (v := .bool _) rfl) rfl ?_
  refine L.nil ?_
  refine thn_n ?_
  refine W.block ?_
  refine W.loop (fun m' E w' => m' = 0 ∧ E 0 = .slice none 0 cap ∧ E 1 = .int .i64 0 ∧ E 2 = .int .i64 0 ∧ (Bel w w')) (0) ?_ ?_
  ·exact ⟨by omega, by first | rfl | exact vi (by omega) | exact vs (by first | assumption | (rw [hst]; done) | (rw [hst]; simp only [List.append_assoc])), by first | rfl | exact vi (by omega) | exact vs (by first | assumption | (rw [hst]; done) | (rw [hst]; simp only [List.append_assoc])), by first | rfl | exact vi (by omega) | exact vs (by first | assumption | (rw [hst]; done) | (rw [hst]; simp only [List.append_assoc])), (by first | assumption | omega | rfl)⟩
  ·rintro _ E wL19 ⟨em, e0, e1, e2, hB⟩
   rw [upd_self e0, upd_self e1, upd_self e2]
   refine W.block ?_
   refine W.seq ?_
   refine W.region ?_
   refine L.val (x_mv (v := .int _ _) rfl) rfl ?_
   refine L.val (x_mv (v := .int _ _) rfl) rfl ?_
   refine L.val (x_sub rfl rfl (wr64 (by omega))) rfl ?_
   refine L.val (x_as (v := .int _ _) rfl) rfl ?_
   refine L.nil ?_
   refine thn_n ?_
   refine W.seq ?_
   refine W.seq ?_
   refine W.region ?_
   refine L.val (x_mv (v := .int _ _) rfl) rfl ?_
   refine L.val (x_leq rfl rfl) rfl ?_
   refine L.nil ?_
   refine thn_n ?_
   refine W.cond (b := _) rfl (fun g23 => ?_) (fun g23 => ?_)
   ·have h23 := of_decide_eq_true g23
    refine W.seq ?_
    refine W.region ?_
    refine L.val (x_mv (v := .slice _ _ _) rfl) rfl ?_
    refine L.val (x_mv (v := .int _ _) rfl) rfl ?_
    refine L.val (x_mv (v := .int _ _) rfl) rfl ?_
    refine L.ret (x_call ksrt6_en177 rfl) rfl (ins_nil cap _) ?_
    rintro _ w27 ⟨rfl, hw⟩
    have hB := hB.carry hw
    refine L.nil ?_
    refine thn_n ?_
    refine W.ret (thn_r (blk_r (thn_r (blk_r (fin_mk (.inr rfl) ?_)))))
    exact ⟨rfl, hB⟩
   ·have h23 := dle_f g23
    omega
set_option maxRecDepth 100000 in
theorem len0_ok (w : World) : Ret Try.prog 152 #[.int .u64 0] w fun v w' => v = .int .i64 0 ∧ Bel w w' := by
  refine ret_of_W Try.func152 rfl (Nat.le_of_ble_eq_true rfl) (res1 rfl) ?_
  have hB := Gr.refl (fun _ => False) w
  refine W.seq ?_
  refine W.region ?_
  refine L.val (x_as (v := .int _ _) rfl) rfl ?_
  refine L.nil ?_
  refine thn_n ?_
  refine W.seq ?_
  refine W.seq ?_
  refine W.region ?_
  refine L.val (x_mv (v := .int _ _) rfl) rfl ?_
  refine L.val (x_geq rfl rfl) rfl ?_
  refine L.nil ?_
  refine thn_n ?_
  refine W.cond (b := _) rfl (fun g4 => ?_) (fun g4 => ?_)
  ·have h4 := of_decide_eq_true g4
   omega
  ·have h4 := dle_f g4
   refine W.skip ?_
   refine thn_n ?_
   refine W.seq ?_
   refine W.seq ?_
   refine W.region ?_
   refine L.val (x_mv (v := .int _ _) rfl) rfl ?_
   refine L.val (x_geq rfl rfl) rfl ?_
   refine L.nil ?_
   refine thn_n ?_
   refine W.cond (b := _) rfl (fun g8 => ?_) (fun g8 => ?_)
   ·have h8 := of_decide_eq_true g8
    omega
   ·have h8 := dle_f g8
    refine W.skip ?_
    refine thn_n ?_
    refine W.seq ?_
    refine W.seq ?_
    refine W.region ?_
    refine L.val (x_mv (v := .int _ _) rfl) rfl ?_
    refine L.val (x_geq rfl rfl) rfl ?_
    refine L.nil ?_
    refine thn_n ?_
    refine W.cond (b := _) rfl (fun g14 => ?_) (fun g14 => ?_)
    ·have h14 := of_decide_eq_true g14
     omega
    ·have h14 := dle_f g14
     refine W.skip ?_
     refine thn_n ?_
     refine W.seq ?_
     refine W.region ?_
     refine L.val (x_mv (v := .int _ _) rfl) rfl ?_
     refine L.val (x_mv (v := .int _ _) rfl) rfl ?_
     refine L.val (x_conv (k' := .u8) (by rw [Try.underlying152]; rfl) Try.underlying5 rfl (wru8 (by omega))) rfl ?_
     refine L.val (x_ixs (j := 0) Try.underlying9 rfl rfl rfl (Nat.le_of_ble_eq_true (by kernel_rfl))) rfl ?_
     rw [show (List.getD _ 0 (0 : UInt8)).toNat = 0 from rfl]
     refine L.val (x_conv (k' := .i64) (by rw [Try.underlying5]; rfl) Try.underlying3 rfl (wr64 (by omega))) rfl ?_
     refine L.val (x_add rfl rfl (wr64 (by omega))) rfl ?_
     refine L.val (x_as (v := .int _ _) rfl) rfl ?_
     refine L.nil ?_
     refine thn_n ?_
     refine W.ret (fin_mk (.inr rfl) ?_)
     exact ⟨rfl, hB⟩
theorem lenz_ok (w : World) : Ret Try.prog 124 #[.int .u64 0] w fun v w' => v = .int .i64 0 ∧ Bel w w' := by
  refine ret_of_W Try.func124 rfl (Nat.le_of_ble_eq_true rfl) (res1 rfl) ?_
  have hB := Gr.refl (fun _ => False) w
  refine W.seq ?_
  refine W.region ?_
  refine L.val (x_as (v := .int _ _) rfl) rfl ?_
  refine L.nil ?_
  refine thn_n ?_
  refine W.seq ?_
  refine W.cond (b := false) rfl (fun h => nomatch h) (fun _ => ?_)
  refine W.skip ?_
  refine thn_n ?_
  refine W.seq ?_
  refine W.region ?_
  refine L.val (x_mv (v := .int _ _) rfl) rfl ?_
  refine L.ret (x_call ksrt6_en152 rfl) rfl (len0_ok _) ?_
  rintro _ w7 ⟨rfl, hw⟩
  have hB := hB.carry hw
  refine L.val (x_as (v := .int _ _) rfl) rfl ?_
  refine L.nil ?_
  refine thn_n ?_
  refine W.ret (fin_mk (.inr rfl) ?_)
  exact ⟨rfl, hB⟩
theorem sort_nil (cap : Nat) (w : World) : Ret Try.prog 140 #[.slice none 0 cap] w fun v w' => v = .tuple #[] ∧ Bel w w' := by
  refine ret_of_W Try.func140 rfl (Nat.le_of_ble_eq_true rfl) (res0 rfl) ?_
  have hB := Gr.refl (fun _ => False) w
  refine W.seq ?_
  refine W.region ?_
  refine L.val (x_mv (v := .slice _ _ _) rfl) rfl ?_
  refine L.val (x_len_slice Try.underlying22 rfl) rfl ?_
  refine L.val (x_as (v := .int _ _) rfl) rfl ?_
  refine L.nil ?_
  refine thn_n ?_
  refine W.region ?_
  refine L.val (x_mv (v := .slice _ _ _) rfl) rfl ?_
  refine L.val (x_mv (v := .int _ _) rfl) rfl ?_
  refine L.val (x_mv (v := .int _ _) rfl) rfl ?_
  refine L.val (x_conv (k' := .u64) (by rw [Try.underlying3]; rfl) Try.underlying121 rfl (wru64 (by omega))) rfl ?_
  refine L.ret (x_call ksrt6_en124 rfl) rfl (lenz_ok _) ?_
  rintro _ w9 ⟨rfl, hw⟩
  have hB := hB.carry hw
  refine L.ret (x_call ksrt6_en164 rfl) rfl (pdq_nil cap _ _) ?_
  rintro _ w10 ⟨rfl, hw⟩
  have hB := hB.carry hw
  refine L.nil ?_
  refine fin_mk (.inl rfl) ?_
  exact ⟨rfl, hB⟩
theorem sort_ok (b o cap n : Nat) (T : TypeId) (hd tl : List Value) (d : Array Str) (w : World) (hR : Row S w b o T hd d tl) (hn : d.size = n) (h1 : 1 ≤ n) (hc : n ≤ 2000000000000000000) :
    Ret Try.prog 140 #[.slice (some ⟨b, o, none⟩) n cap] w fun v w' => v = .tuple #[] ∧ Gr (· = b) w w' ∧ ∃ d', Row S w' b o T hd d' tl ∧ PermIn 0 n d d' ∧ SortedIn ltStr 0 n d' := by
  refine ret_of_W Try.func140 rfl (Nat.le_of_ble_eq_true rfl) (res0 rfl) ?_
  have hB := Gr.refl (fun _ => False) w
  refine W.seq ?_
  refine W.region ?_
  refine L.val (x_mv (v := .slice _ _ _) rfl) rfl ?_
  refine L.val (x_len_slice Try.underlying22 rfl) rfl ?_
  refine L.val (x_as (v := .int _ _) rfl) rfl ?_
  refine L.nil ?_
  refine thn_n ?_
  refine W.region ?_
  refine L.val (x_mv (v := .slice _ _ _) rfl) rfl ?_
  refine L.val (x_mv (v := .int _ _) rfl) rfl ?_
  refine L.val (x_mv (v := .int _ _) rfl) rfl ?_
  refine L.val (x_conv (k' := .u64) (by rw [Try.underlying3]; rfl) Try.underlying121 rfl (wru64 (by omega))) rfl ?_
  refine L.ret (x_call ksrt6_en124 rfl) rfl (len_ok n _ h1 (by omega)) ?_
  rintro _ w9 ⟨k, rfl, k1, k2, k3, k4, hw⟩
  have hB := hB.carry hw; have hR := hR.carry hw
  refine L.ret (x_call ksrt6_en164 rfl) rfl (pdq_ok b o cap n T hd tl hc (n + 1) 0 n k d _ (by omega) hR hn (by omega) (Nat.le_refl _) (by omega) (.inl rfl)) ?_
  rintro _ w10 ⟨rfl, hg, d', hR', p1, p2⟩
  refine L.nil ?_
  refine fin_mk (.inl rfl) ?_
  exact ⟨rfl, (hB.mono fun _ _ h => h.elim).trans hg, d', hR', p1, p2⟩
end Go.Gx

