/- Texts and frames taken off bytes. Conditions: none. -/
import Derived.Test.YtfbcmonbmkafpaaGreatCmOct4
import Derived.Test.YtfbcmonbmkafpaaGreatCmRowG
namespace Go.Gx
open Go.Proofs
theorem koct5_en112 : Go.Proofs.Enters Tryz.prog 112 := Go.Proofs.enters_of Tryz.func112 (by kernel_rfl) rfl
theorem koct5_en123 : Go.Proofs.Enters Tryz.prog 123 := Go.Proofs.enters_of Tryz.func123 (by kernel_rfl) rfl
theorem koct5_en124 : Go.Proofs.Enters Tryz.prog 124 := Go.Proofs.enters_of Tryz.func124 (by kernel_rfl) rfl
theorem koct5_en145 : Go.Proofs.Enters Tryz.prog 145 := Go.Proofs.enters_of Tryz.func145 (by kernel_rfl) rfl
theorem koct5_mixed : Tryz.prog.follows .mixedOrders = true := by kernel_rfl
theorem koct5_oc9 : oneCellT Tryz.prog 9 = true := by kernel_rfl
theorem takeNum_le {s : Str} {k : Nat} (h : (takeNum s k).2.2 = 0) : k < (takeNum s k).2.1 ∧ (takeNum s k).2.1 ≤ s.length ∧ k < s.length := by
  by_cases hk : k < s.length
  · rw [takeNum_at hk] at h ⊢
    split at h
    · rename_i h1; rw [if_pos h1]; exact ⟨by show k < k + 1; omega, by show k + 1 ≤ _; omega, hk⟩
    · rename_i h1
      rw [if_neg h1]
      split at h
      · cases h
      · rename_i h2
        rw [if_neg h2]
        split at h
        · cases h
        · rename_i h3
          rw [if_neg h3]
          exact ⟨by show k < k + 1 + _; omega, by show k + 1 + _ ≤ _; omega, hk⟩
  · rw [takeNum_end (by omega)] at h; cases h
theorem takeNum_lt (s : Str) (k : Nat) : (takeNum s k).1 < 18446744073709551616 := by
  by_cases hk : k < s.length
  · rw [takeNum_at hk]
    have hb := b8_lt (s.getD k 0)
    split
    · show (s.getD k 0).toNat < _; omega
    · split
      · exact (by omega : (0 : Nat) < 18446744073709551616)
      · split
        · exact (by omega : (0 : Nat) < 18446744073709551616)
        · have h1 : beV ((s.drop (k + 1)).take ((s.getD k 0).toNat - 247)) < 256 ^ 8 := Nat.lt_of_lt_of_le (beV_lt _) (Nat.pow_le_pow_right (by omega) (by rw [List.length_take]; omega))
          have h3 : (256 : Nat) ^ 8 = 18446744073709551616 := by decide
          rw [h3] at h1
          dsimp only
          exact h1
  · have h0 : (takeNum s k).1 = 0 := by rw [takeNum_end (by omega)]
    rw [h0]; omega
theorem takeText_eq (s : Str) (k : Nat) : takeText s k = if (takeNum s k).2.2 ≠ 0 then ([], 0, (takeNum s k).2.2) else if s.length - (takeNum s k).2.1 < (takeNum s k).1 then ([], 0, 10) else ((s.drop (takeNum s k).2.1).take (takeNum s k).1, (takeNum s k).2.1 + (takeNum s k).1, 0) := rfl
theorem takeText_ok (s : Str) (at_ : Nat) (hat : at_ ≤ s.length) (hs : s.length ≤ 1000000000) (w : World) :
    Ret Tryz.prog 124 #[S s, .int .i64 (at_ : Nat)] w fun v w' => v = .tuple #[S (takeText s at_).1, .int .i64 ((takeText s at_).2.1 : Nat), .int .i64 (takeText s at_).2.2] ∧ Bel w w' := by
  have hlt := takeNum_lt s at_
  rw [takeText_eq]
  refine ret_of_W Tryz.func124 rfl (Nat.le_of_ble_eq_true rfl) (res3 rfl) ?_
  have hB := Gr.refl (fun _ => False) w
  refine W.seq ?_
  refine W.region ?_
  refine L.val (x_as (v := S _) rfl) rfl ?_
  refine L.val (x_as (v := .int _ _) rfl) rfl ?_
  refine L.val (x_as (v := .int _ _) rfl) rfl ?_
  refine L.nil ?_
  refine thn_n ?_
  refine W.seq ?_
  refine W.region ?_
  refine L.val (x_mv (v := S _) rfl) rfl ?_
  refine L.val (x_mv (v := .int _ _) rfl) rfl ?_
  refine L.ret (x_call koct5_en123 rfl) rfl (takeNum_ok s at_ hat hs _) ?_
  rintro _ w14 ⟨rfl, hw⟩
  have hB := hB.carry hw
  refine L.val (x_mv (v := _) rfl) rfl ?_
  refine L.val (x_ext (v := .int _ _) rfl rfl) rfl ?_
  refine L.val (x_ext (v := .int _ _) rfl rfl) rfl ?_
  refine L.val (x_ext (v := .int _ _) rfl rfl) rfl ?_
  refine L.val (x_as (v := .int _ _) rfl) rfl ?_
  refine L.val (x_as (v := .int _ _) rfl) rfl ?_
  refine L.val (x_as (v := .int _ _) rfl) rfl ?_
  refine L.nil ?_
  refine thn_n ?_
  refine W.seq ?_
  refine W.seq ?_
  refine W.region ?_
  refine L.val (x_mv (v := .int _ _) rfl) rfl ?_
  refine L.val (x_neq rfl rfl) rfl ?_
  refine L.nil ?_
  refine thn_n ?_
  refine W.cond (b := _) rfl (fun g19 => ?_) (fun g19 => ?_)
  ·have h19 := dne_t g19
   have he : (takeNum s at_).2.2 ≠ 0 := h19
   refine W.seq ?_
   refine W.region ?_
   refine L.val (x_mv (v := .int _ _) rfl) rfl ?_
   refine L.val (x_as (v := S _) rfl) rfl ?_
   refine L.val (x_as (v := .int _ _) rfl) rfl ?_
   refine L.val (x_as (v := .int _ _) rfl) rfl ?_
   refine L.nil ?_
   refine thn_n ?_
   refine W.ret (thn_r (fin_mk (.inr rfl) ?_))
   rw [if_pos he]; exact ⟨rfl, hB⟩
  ·have h19 := dne_f g19
   have he : (takeNum s at_).2.2 = 0 := by simpa using h19
   obtain ⟨l1, l2, l3⟩ := takeNum_le he
   rw [if_neg (by rw [he]; decide)]
   refine W.skip ?_
   refine thn_n ?_
   refine W.seq ?_
   refine W.seq ?_
   refine W.region ?_
   refine L.val (x_mv (v := .int _ _) rfl) rfl ?_
   refine L.val (x_mv (v := S _) rfl) rfl ?_
   refine L.val (x_len_str Tryz.underlying9 rfl) rfl ?_
   refine L.val (x_mv (v := .int _ _) rfl) rfl ?_
   refine L.val (x_sub rfl rfl (wr64 (by omega))) rfl ?_
   refine L.val (x_conv (k' := .u64) (by rw [Tryz.underlying3]; rfl) Tryz.underlying103 rfl (wru64 (by omega))) rfl ?_
   refine L.val (x_gtr rfl rfl) rfl ?_
   refine L.nil ?_
   refine thn_n ?_
   refine W.cond (b := _) rfl (fun g27 => ?_) (fun g27 => ?_)
   ·have h27 := of_decide_eq_true g27
    have h2 : s.length - (takeNum s at_).2.1 < (takeNum s at_).1 := by omega
    refine W.seq ?_
    refine W.region ?_
    refine L.val (x_as (v := S _) rfl) rfl ?_
    refine L.val (x_as (v := .int _ _) rfl) rfl ?_
    refine L.val (x_as (v := .int _ _) rfl) rfl ?_
    refine L.nil ?_
    refine thn_n ?_
    refine W.ret (thn_r (fin_mk (.inr rfl) ?_))
    rw [if_pos h2]; exact ⟨rfl, hB⟩
   ·have h27 := dlt_f g27
    have h2 : ¬ s.length - (takeNum s at_).2.1 < (takeNum s at_).1 := by omega
    rw [if_neg h2]
    refine W.skip ?_
    refine thn_n ?_
    refine W.seq ?_
    refine W.region ?_
    refine L.val (x_mv (v := .int _ _) rfl) rfl ?_
    refine L.val (x_mv (v := .int _ _) rfl) rfl ?_
    refine L.val (x_conv (k' := .i64) (by rw [Tryz.underlying103]; rfl) Tryz.underlying3 rfl (wr64 (by omega))) rfl ?_
    refine L.val (x_add rfl rfl (wr64 (by omega))) rfl ?_
    refine L.val (x_as (v := .int _ _) rfl) rfl ?_
    refine L.nil ?_
    refine thn_n ?_
    refine W.seq ?_
    refine W.region ?_
    refine L.val (x_mv (v := S _) rfl) rfl ?_
    refine L.val (x_mv (v := .int _ _) rfl) rfl ?_
    refine L.val (x_mv (v := .int _ _) rfl) rfl ?_
    refine L.val (x_slAB (j := (takeNum s at_).2.1) (j' := (takeNum s at_).2.1 + (takeNum s at_).1) Tryz.underlying9 rfl rfl rfl rfl (by omega) (by omega) (by omega)) rfl ?_
    refine L.val (x_mv (v := .int _ _) rfl) rfl ?_
    refine L.val (x_as (v := S _) rfl) rfl ?_
    refine L.val (x_as (v := .int _ _) rfl) rfl ?_
    refine L.val (x_as (v := .int _ _) rfl) rfl ?_
    refine L.nil ?_
    refine thn_n ?_
    refine W.ret (fin_mk (.inr rfl) ?_)
    rw [show (takeNum s at_).2.1 + (takeNum s at_).1 - (takeNum s at_).2.1 = (takeNum s at_).1 by omega]; exact ⟨by rw [Int.natCast_add]; rfl, hB⟩
def takeF (s : Str) (k : Nat) : Str × Nat × Int :=
  if (takeText s k).2.2 ≠ 0 then ([], 0, (takeText s k).2.2)
  else if 20000 < (takeText s k).1.length then ([], 0, 3)
  else if s.length - (takeText s k).2.1 < 4 then ([], 0, 10)
  else if sumB ((s.drop k).take ((takeText s k).2.1 - k)) ≠ (s.drop (takeText s k).2.1).take 4 then ([], 0, 200)
  else ((takeText s k).1, (takeText s k).2.1 + 4, 0)
theorem takeText_le {s : Str} {k : Nat} (h : (takeText s k).2.2 = 0) : k < (takeText s k).2.1 ∧ (takeText s k).2.1 ≤ s.length ∧ k < s.length := by
  rw [takeText_eq] at h ⊢
  split at h
  · rename_i h1; exact absurd h h1
  · rename_i h1
    rw [if_neg h1]
    obtain ⟨l1, l2, l3⟩ := takeNum_le (by simpa using h1)
    split at h
    · cases h
    · rename_i h2
      rw [if_neg h2]
      exact ⟨by show k < _ + _; omega, by show _ + _ ≤ _; omega, l3⟩
theorem takeText_len (s : Str) (k : Nat) : (takeText s k).1.length ≤ s.length := by
  rw [takeText_eq]
  split
  · simp
  · split
    · simp
    · rw [List.length_take, List.length_drop]; omega
theorem takeF_le {s : Str} {k : Nat} (h : (takeF s k).2.2 = 0) : k + 4 < (takeF s k).2.1 ∧ (takeF s k).2.1 ≤ s.length ∧ k < s.length := by
  unfold takeF at h ⊢
  split at h
  · rename_i h1; exact absurd h h1
  · rename_i h1
    rw [if_neg h1]
    obtain ⟨l1, l2, l3⟩ := takeText_le (by simpa using h1)
    split at h
    · cases h
    · rename_i h2
      rw [if_neg h2]
      split at h
      · cases h
      · rename_i h3
        rw [if_neg h3]
        split at h
        · cases h
        · rename_i h4
          rw [if_neg h4]
          exact ⟨by show k + 4 < _ + 4; omega, by show _ + 4 ≤ _; omega, l3⟩
theorem take_ok (s : Str) (at_ : Nat) (hat : at_ ≤ s.length) (hs : s.length ≤ 1000000000) (w : World) :
    Ret Tryz.prog 145 #[S s, .int .i64 (at_ : Nat)] w fun v w' => v = .tuple #[S (takeF s at_).1, .int .i64 ((takeF s at_).2.1 : Nat), .int .i64 (takeF s at_).2.2] ∧ Bel w w' := by
  have hlen := takeText_len s at_
  unfold takeF
  refine ret_of_W Tryz.func145 rfl (Nat.le_of_ble_eq_true rfl) (res3 rfl) ?_
  have hB := Gr.refl (fun _ => False) w
  refine W.seq ?_
  refine W.region ?_
  refine L.val (x_as (v := S _) rfl) rfl ?_
  refine L.val (x_as (v := .int _ _) rfl) rfl ?_
  refine L.val (x_as (v := .int _ _) rfl) rfl ?_
  refine L.nil ?_
  refine thn_n ?_
  refine W.seq ?_
  refine W.region ?_
  refine L.val (x_mv (v := S _) rfl) rfl ?_
  refine L.val (x_mv (v := .int _ _) rfl) rfl ?_
  refine L.ret (x_call koct5_en124 rfl) rfl (takeText_ok s at_ hat hs _) ?_
  rintro _ w13 ⟨rfl, hw⟩
  have hB := hB.carry hw
  refine L.val (x_mv (v := _) rfl) rfl ?_
  refine L.val (x_ext (v := S _) rfl rfl) rfl ?_
  refine L.val (x_ext (v := .int _ _) rfl rfl) rfl ?_
  refine L.val (x_ext (v := .int _ _) rfl rfl) rfl ?_
  refine L.val (x_as (v := S _) rfl) rfl ?_
  refine L.val (x_as (v := .int _ _) rfl) rfl ?_
  refine L.val (x_as (v := .int _ _) rfl) rfl ?_
  refine L.nil ?_
  refine thn_n ?_
  refine W.seq ?_
  refine W.block ?_
  refine W.seq ?_
  refine W.region ?_
  refine L.val (x_mv (v := .int _ _) rfl) rfl ?_
  refine L.val (x_neq rfl rfl) rfl ?_
  refine L.val (x_as (v := .bool _) rfl) rfl ?_
  refine L.nil ?_
  refine thn_n ?_
  refine W.cond (b := _) rfl (fun g19 => ?_) (fun g19 => ?_)
  ·have h19 := dne_t g19
   have he : (takeText s at_).2.2 ≠ 0 := h19
   refine W.seq ?_
   refine W.region ?_
   refine L.val (x_mv (v := .int _ _) rfl) rfl ?_
   refine L.val (x_as (v := S _) rfl) rfl ?_
   refine L.val (x_as (v := .int _ _) rfl) rfl ?_
   refine L.val (x_as (v := .int _ _) rfl) rfl ?_
   refine L.nil ?_
   refine thn_n ?_
   refine W.ret (blk_r (thn_r (fin_mk (.inr rfl) ?_)))
   rw [if_pos he]; exact ⟨rfl, hB⟩
  ·have h19 := dne_f g19
   have he : (takeText s at_).2.2 = 0 := by simpa using h19
   obtain ⟨l1, l2, l3⟩ := takeText_le he
   rw [if_neg (by rw [he]; decide)]
   refine W.seq ?_
   refine W.region ?_
   refine L.val (x_mv (v := S _) rfl) rfl ?_
   refine L.val (x_len_str Tryz.underlying9 rfl) rfl ?_
   refine L.val (x_gtr rfl rfl) rfl ?_
   refine L.val (x_as (v := .bool _) rfl) rfl ?_
   refine L.nil ?_
   refine thn_n ?_
   refine W.cond (b := _) rfl (fun g24 => ?_) (fun g24 => ?_)
   ·have h24 := of_decide_eq_true g24
    rw [if_pos (show 20000 < (takeText s at_).1.length by omega)]
    refine W.seq ?_
    refine W.region ?_
    refine L.val (x_as (v := S _) rfl) rfl ?_
    refine L.val (x_as (v := .int _ _) rfl) rfl ?_
    refine L.val (x_as (v := .int _ _) rfl) rfl ?_
    refine L.nil ?_
    refine thn_n ?_
    refine W.ret (blk_r (thn_r (fin_mk (.inr rfl) ?_)))
    exact ⟨rfl, hB⟩
   ·have h24 := dlt_f g24
    rw [if_neg (show ¬ 20000 < (takeText s at_).1.length by omega)]
    refine W.seq ?_
    refine W.region ?_
    refine L.val (x_mv (v := S _) rfl) rfl ?_
    refine L.val (x_len_str Tryz.underlying9 rfl) rfl ?_
    refine L.val (x_mv (v := .int _ _) rfl) rfl ?_
    refine L.val (x_sub rfl rfl (wr64 (by omega))) rfl ?_
    refine L.val (x_lss rfl rfl) rfl ?_
    refine L.val (x_as (v := .bool _) rfl) rfl ?_
    refine L.nil ?_
    refine thn_n ?_
    refine W.cond (b := _) rfl (fun g30 => ?_) (fun g30 => ?_)
    ·have h30 := of_decide_eq_true g30
     rw [if_pos (show s.length - (takeText s at_).2.1 < 4 by omega)]
     refine W.seq ?_
     refine W.region ?_
     refine L.val (x_as (v := S _) rfl) rfl ?_
     refine L.val (x_as (v := .int _ _) rfl) rfl ?_
     refine L.val (x_as (v := .int _ _) rfl) rfl ?_
     refine L.nil ?_
     refine thn_n ?_
     refine W.ret (blk_r (thn_r (fin_mk (.inr rfl) ?_)))
     exact ⟨rfl, hB⟩
    ·have h30 := dlt_f g30
     have hroom : ¬ s.length - (takeText s at_).2.1 < 4 := by omega
     rw [if_neg hroom]
     refine W.seq ?_
     refine W.drawB koct5_mixed (by kernel_rfl) ?_
     refine LQ.val (fun w hw => x_mv (v := S _) rfl) rfl ?_
     refine LQ.val (fun w hw => x_mv (v := .int _ _) rfl) rfl ?_
     refine LQ.val (fun w hw => x_mv (v := .int _ _) rfl) rfl ?_
     refine LQ.val (fun w hw => x_slAB (j := at_) (j' := (takeText s at_).2.1) Tryz.underlying9 rfl rfl rfl rfl rfl (by omega) (by omega)) rfl ?_
     refine LQ.ret (fun w => x_call koct5_en112 rfl) (fun w hw => Ret.mono (fsum_ok _ (by rw [List.length_take, List.length_drop]; omega) _) (fun _ _ h => ⟨h.1, Gr.trans hw h.2⟩)) rfl ?_
     refine LQ.val (fun w hw => x_mv (v := S _) rfl) rfl ?_
     refine LQ.val (fun w hw => x_mv (v := .int _ _) rfl) rfl ?_
     refine LQ.val (fun w hw => x_mv (v := .int _ _) rfl) rfl ?_
     refine LQ.val (fun w hw => x_add rfl rfl (wr64 (by omega))) rfl ?_
     refine LQ.val (fun w hw => x_slAB (j := (takeText s at_).2.1) (j' := (takeText s at_).2.1 + 4) Tryz.underlying9 rfl rfl rfl rfl (by omega) (by omega) (by omega)) rfl ?_
     refine LQ.val (fun w hw => x_nes rfl rfl) rfl ?_
     refine LQ.val (fun w hw => x_as (v := .bool _) rfl) rfl ?_
     refine LQ.nil ?_
     intro w32 hw
     have hB := hB.carry hw
     refine thn_n ?_
     refine W.cond (b := _) rfl (fun g42 => ?_) (fun g42 => ?_)
     ·have h42 := sne_t g42
      have hne : sumB ((s.drop at_).take ((takeText s at_).2.1 - at_)) ≠ (s.drop (takeText s at_).2.1).take 4 := by
        rw [show (takeText s at_).2.1 + 4 - (takeText s at_).2.1 = 4 by omega] at h42
        exact h42
      refine W.seq ?_
      refine W.region ?_
      refine L.val (x_as (v := S _) rfl) rfl ?_
      refine L.val (x_as (v := .int _ _) rfl) rfl ?_
      refine L.val (x_as (v := .int _ _) rfl) rfl ?_
      refine L.nil ?_
      refine thn_n ?_
      refine W.ret (blk_r (thn_r (fin_mk (.inr rfl) ?_)))
      rw [if_pos hne]; exact ⟨rfl, hB⟩
     ·have h42 := sne_f g42
      have hne : ¬ sumB ((s.drop at_).take ((takeText s at_).2.1 - at_)) ≠ (s.drop (takeText s at_).2.1).take 4 := by
        rw [show (takeText s at_).2.1 + 4 - (takeText s at_).2.1 = 4 by omega] at h42
        exact fun hh => hh h42
      refine W.skip ?_
      refine blk_n ?_
      refine thn_n ?_
      refine W.seq ?_
      refine W.region ?_
      refine L.val (x_mv (v := S _) rfl) rfl ?_
      refine L.val (x_mv (v := .int _ _) rfl) rfl ?_
      refine L.val (x_add rfl rfl (wr64 (by omega))) rfl ?_
      refine L.val (x_as (v := S _) rfl) rfl ?_
      refine L.val (x_as (v := .int _ _) rfl) rfl ?_
      refine L.val (x_as (v := .int _ _) rfl) rfl ?_
      refine L.nil ?_
      refine thn_n ?_
      refine W.ret (fin_mk (.inr rfl) ?_)
      rw [if_neg hne]; exact ⟨by rw [Int.natCast_add]; rfl, hB⟩
section
variable {P : Program} {n m : Nat} {Q : Post} {D : List Deferred} {E : Env} {w : World} {F : Fence}
theorem LI.gyes {ops : Array Oper} {r : List Oper} {dst : Option Tmp} {op : Op} {t : TypeId} {p : String} {af : Array Edge} {j dj : Nat} {want b : Bool}
    (hj : (ops[j]?).bind (·.dst) = some dj) (hw : E dj = .bool b) (hb : b = want) (k : LI F m P n ops Q (⟨dst, op, t, p, af, none⟩ :: r) D E w) :
    LI F m P n ops Q (⟨dst, op, t, p, af, some (j, want)⟩ :: r) D E w := by
  subst hb
  intro a ha
  have h := k a ha
  unfold wpListIn at h ⊢
  rw [if_pos (wanted_yes rfl hj ha hw)]
  rw [if_pos (by simp [Region.wanted])] at h
  exact h
theorem LI.gno {ops : Array Oper} {r : List Oper} {d : Nat} {op : Op} {t : TypeId} {p : String} {af : Array Edge} {j dj : Nat} {want b : Bool}
    (hj : (ops[j]?).bind (·.dst) = some dj) (hw : E dj = .bool b) (hb : b = !want) (hF : ∀ f, F.fn f) (hd : Nat.blt d n = true) (k : LI F m P n ops Q r D (upd E d undef) w) :
    LI F m P n ops Q (⟨some d, op, t, p, af, some (j, want)⟩ :: r) D E w := by
  intro a ha
  unfold wpListIn
  rw [if_neg (by rw [wanted_no rfl hj ha hw hb]; simp)]
  exact ⟨fun f _ => hF f, k _ (ha.put _ hd)⟩
end
def scanF : Nat → Str → Nat → List (Str × Nat)
  | 0, _, _ => []
  | f + 1, s, k => if (takeF s k).2.2 ≠ 0 then [] else ((takeF s k).1, (takeF s k).2.1) :: scanF f s (takeF s k).2.1
theorem scanF_more {s : Str} : ∀ {f g k : Nat}, s.length < f + k → s.length < g + k → scanF f s k = scanF g s k
  | 0, 0, _, _, _ => rfl
  | 0, g + 1, k, h1, _ => by
    have : (takeF s k).2.2 ≠ 0 := fun e => by have := (takeF_le e).2.2; omega
    rw [scanF, scanF, if_pos this]
  | f + 1, 0, k, _, h2 => by
    have : (takeF s k).2.2 ≠ 0 := fun e => by have := (takeF_le e).2.2; omega
    rw [scanF, scanF, if_pos this]
  | f + 1, g + 1, k, h1, h2 => by
    rw [scanF, scanF]
    split
    · rfl
    · rename_i h
      have := takeF_le (by simpa using h)
      rw [scanF_more (f := f) (g := g) (by omega) (by omega)]
def frames (s : Str) : List (Str × Nat) := scanF (s.length + 1) s 0
theorem scanF_len {s : Str} : ∀ {f k : Nat}, k ≤ s.length → (scanF f s k).length + k ≤ s.length
  | 0, k, h => by simpa [scanF] using h
  | f + 1, k, h => by
    rw [scanF]
    split
    · simpa using h
    · rename_i h1
      have h2 := takeF_le (by simpa using h1)
      have := scanF_len (f := f) h2.2.1
      rw [List.length_cons]; omega
def encFr (x : Str × Nat) : Array Value := #[S x.1, .int .i64 (x.2 : Nat)]
theorem frames_seq_ok (Kp : World → World → Prop) (l Bs : Nat) (s : Str) (hs : s.length ≤ 1000000000) (hkb : ∀ W W', Kp W W' → W.cell? ⟨Bs, 0, none⟩ = some (S s) → W'.cell? ⟨Bs, 0, none⟩ = some (S s)) (J Jx : List (Str × Nat) → World → Prop)
    (hY : ∀ pre x W, J pre W → pre.length < (frames s).length → YieldAt Fence.wide 0 Tryz.prog l (encFr x) W fun e W' =>
      (e = .returned (.bool true) ∧ J (pre ++ [x]) W' ∧ Kp W W') ∨ (e = .returned (.bool false) ∧ Jx (pre ++ [x]) W'))
    (hJB : ∀ pre W W', J pre W → Bel W W' → J pre W')
    (w : World) (hBs : w.cell? ⟨Bs, 0, none⟩ = some (S s)) (h0 : J [] w) :
    Ret Tryz.prog 144 #[.func (.yield l) #[] #[], .pointer (some ⟨Bs, 0, none⟩)] w fun _ W' => (∃ xs, xs = frames s ∧ J xs W') ∨ (∃ pre, True ∧ Jx pre W') := by
  refine ret_of_W Tryz.func144 rfl (Nat.le_of_ble_eq_true rfl) (res0 rfl) ?_
  refine W.seq ?_
  refine W.region ?_
  refine L.val (x_as (v := .int _ _) rfl) rfl ?_
  refine L.nil ?_
  refine thn_n ?_
  refine W.block ?_
  refine W.loop (fun m' E w' => ∃ (k at_ : Nat), m' = (frames s).length - k ∧ E 0 = .func (.yield l) #[] #[] ∧ E 1 = .pointer (some ⟨Bs, 0, none⟩) ∧ E 3 = .int .i64 (at_ : Nat) ∧ (k ≤ (frames s).length) ∧ (at_ ≤ s.length) ∧ (J ((frames s).take k) w') ∧ (scanF (s.length + 1) s at_ = (frames s).drop k) ∧ (w'.cell? ⟨Bs, 0, none⟩ = some (S s))) ((frames s).length) ?_ ?_
  ·exact ⟨0, 0, by omega, by first | rfl | exact vi (by omega) | exact vs (by first | assumption | (rw [hst]; done) | (rw [hst]; simp only [List.append_assoc])), by first | rfl | exact vi (by omega) | exact vs (by first | assumption | (rw [hst]; done) | (rw [hst]; simp only [List.append_assoc])), by first | rfl | exact vi (by omega) | exact vs (by first | assumption | (rw [hst]; done) | (rw [hst]; simp only [List.append_assoc])), (by first | assumption | omega | rfl), (by first | assumption | omega | rfl), (by simpa using h0), (by rfl), (by first | assumption | omega | rfl)⟩
  ·rintro _ E wL8 ⟨k, at_, em, e0, e1, e3, hk, hat, hJ, hrest, hBs⟩
   rw [upd_self e0, upd_self e1, upd_self e3]
   refine W.block ?_
   refine W.seq ?_
   refine W.region ?_
   refine L.val (x_ld (v := S _) koct5_oc9 rfl hBs) rfl ?_
   refine L.val (x_mv (v := .int _ _) rfl) rfl ?_
   refine L.ret (x_call koct5_en145 rfl) rfl (take_ok s at_ hat hs _) ?_
   rintro _ w10 ⟨rfl, hw⟩
   have hBs := hw.keep hBs
   have hJ := hJB _ _ _ hJ hw
   refine L.val (x_mv (v := _) rfl) rfl ?_
   refine L.val (x_ext (v := S _) rfl rfl) rfl ?_
   refine L.val (x_ext (v := .int _ _) rfl rfl) rfl ?_
   refine L.val (x_ext (v := .int _ _) rfl rfl) rfl ?_
   refine L.val (x_as (v := S _) rfl) rfl ?_
   refine L.val (x_as (v := .int _ _) rfl) rfl ?_
   refine L.val (x_as (v := .int _ _) rfl) rfl ?_
   refine L.nil ?_
   refine thn_n ?_
   refine W.seq ?_
   refine W.seq ?_
   refine W.mono (Q := fun e D' E' w' => e = .normal ∧ D' = [] ∧ ∃ z : Bool, E' 0 = .func (.yield l) #[] #[] ∧ E' 1 = .pointer (some ⟨Bs, 0, none⟩) ∧ E' 5 = .int .i64 ((takeF s at_).2.1 : Nat) ∧ E' 22 = .bool z ∧ (z = true → (∃ xs, xs = frames s ∧ J xs w') ∨ (∃ pre, True ∧ Jx pre w')) ∧
       (z = false → (takeF s at_).2.2 = 0 ∧ k < (frames s).length ∧ J ((frames s).take (k + 1)) w' ∧ scanF (s.length + 1) s (takeF s at_).2.1 = (frames s).drop (k + 1) ∧ w'.cell? ⟨Bs, 0, none⟩ = some (S s))) ?_ ?_
   · by_cases he : (takeF s at_).2.2 = 0
     · have hl := takeF_le he
       have hst : scanF (s.length + 1) s at_ = ((takeF s at_).1, (takeF s at_).2.1) :: scanF (s.length + 1) s (takeF s at_).2.1 := by
         conv => lhs; rw [scanF]
         rw [if_neg (by rw [he]; decide), scanF_more (f := s.length) (g := s.length + 1) (by omega) (by omega)]
       rw [hst] at hrest
       have hklt : k < (frames s).length := by
         refine Decidable.byContradiction fun hh => ?_
         rw [List.drop_of_length_le (by omega)] at hrest; cases hrest
       have hdk := List.drop_eq_getElem_cons hklt
       rw [← hrest] at hdk
       simp only [List.cons.injEq] at hdk
       have htk : (frames s).take (k + 1) = (frames s).take k ++ [((takeF s at_).1, (takeF s at_).2.1)] := by
         rw [List.take_add_one, List.getElem?_eq_getElem hklt, ← hdk.1]; rfl
       refine W.wide (m := 1) (WI.region ?_)
       refine LI.val (fun _ => trivial) (fun _ h => by cases h) (x_mv (v := .int _ _) rfl) rfl ?_
       refine LI.val (fun _ => trivial) (fun _ h => by cases h) (x_neq rfl rfl) rfl ?_
       refine LI.val (fun _ => trivial) (fun _ h => by cases h) (x_mv (v := .bool _) rfl) rfl ?_
       refine LI.gyes (dj := 16) (b := _) rfl rfl (by simp [he]) (LI.val (fun _ => trivial) (fun _ h => by cases h) (x_mv (v := .func _ _ _) rfl) rfl ?_)
       refine LI.gyes (dj := 16) (b := _) rfl rfl (by simp [he]) (LI.val (fun _ => trivial) (fun _ h => by cases h) (x_mv (v := S _) rfl) rfl ?_)
       refine LI.gyes (dj := 16) (b := _) rfl rfl (by simp [he]) (LI.val (fun _ => trivial) (fun _ h => by cases h) (x_mv (v := .int _ _) rfl) rfl ?_)
       refine LI.gyes (dj := 16) (b := _) rfl rfl (by simp [he]) ?_
       refine LI.yieldN (vs := (encFr ((takeF s at_).1, (takeF s at_).2.1)).toList) (R := fun e W' => ∃ z, e = .returned (.bool z) ∧ (z = true → J ((frames s).take (k + 1)) W' ∧ Kp w10 W') ∧ (z = false → Jx ((frames s).take (k + 1)) W')) (fun _ => trivial) rfl rfl rfl rfl ((hY ((frames s).take k) ((takeF s at_).1, (takeF s at_).2.1) w10 hJ (by rw [List.length_take]; omega)).mono ?_) (fun e w' ⟨z, h, _⟩ => ⟨_, h⟩) ?_
       · rintro e W' (⟨rfl, a1, a2⟩ | ⟨rfl, a1⟩)
         · exact ⟨true, rfl, fun _ => ⟨by rw [htk]; exact a1, a2⟩, fun h => by cases h⟩
         · exact ⟨false, rfl, fun h => (by cases h), fun _ => by rw [htk]; exact a1⟩
       rintro u w13 ⟨z, hz, r1, r2⟩
       cases hz
       refine LI.gyes (dj := 16) (b := _) rfl rfl (by simp [he]) (LI.val (fun _ => trivial) (fun _ h => by cases h) (x_not rfl) rfl ?_)
       refine LI.val (fun _ => trivial) (fun _ h => by cases h) (x_pick_f (v := .bool _) (congrArg Value.bool (by simp [he])) rfl) rfl ?_
       refine LI.nil ⟨rfl, rfl, !z, rfl, rfl, rfl, rfl, fun h => .inr ⟨_, trivial, r2 (by simpa using h)⟩, fun h => ?_⟩
       have hz : z = true := by simpa using h
       obtain ⟨j1, j2⟩ := r1 hz
       exact ⟨he, hklt, j1, hdk.2, hkb _ _ j2 hBs⟩
     · have hst : scanF (s.length + 1) s at_ = [] := by rw [scanF, if_pos he]
       rw [hst] at hrest
       have hkl : (frames s).length ≤ k := List.drop_eq_nil_iff.1 hrest.symm
       refine W.wide (m := 1) (WI.region ?_)
       refine LI.val (fun _ => trivial) (fun _ h => by cases h) (x_mv (v := .int _ _) rfl) rfl ?_
       refine LI.val (fun _ => trivial) (fun _ h => by cases h) (x_neq rfl rfl) rfl ?_
       refine LI.val (fun _ => trivial) (fun _ h => by cases h) (x_mv (v := .bool _) rfl) rfl ?_
       refine LI.gno (dj := 16) (b := _) rfl rfl (by simp [he]) (fun _ => trivial) rfl ?_
       refine LI.gno (dj := 16) (b := _) rfl rfl (by simp [he]) (fun _ => trivial) rfl ?_
       refine LI.gno (dj := 16) (b := _) rfl rfl (by simp [he]) (fun _ => trivial) rfl ?_
       refine LI.gno (dj := 16) (b := _) rfl rfl (by simp [he]) (fun _ => trivial) rfl ?_
       refine LI.gno (dj := 16) (b := _) rfl rfl (by simp [he]) (fun _ => trivial) rfl ?_
       refine LI.val (fun _ => trivial) (fun _ h => by cases h) (x_pick_t (v := .bool true) (congrArg Value.bool (by simp [he])) rfl) rfl ?_
       refine LI.nil ⟨rfl, rfl, true, rfl, rfl, rfl, rfl, fun _ => .inl ⟨_, rfl, by rw [List.take_of_length_le hkl] at hJ; exact hJ⟩, fun h => by cases h⟩
   rintro e D E w14 ⟨rfl, rfl, z, e0, e1, e5, e22, hz1, hz0⟩
   rw [upd_self e0, upd_self e1, upd_self e5, upd_self e22]
   refine thn_n ?_
   refine W.cond (b := _) rfl (fun g22 => ?_) (fun g22 => ?_)
   ·have h22 := g22
    refine W.ret (thn_r (blk_r (thn_r (blk_r (fin_mk (.inr rfl) ?_)))))
    exact hz1 g22
   ·have h22 := g22
    obtain ⟨he, hklt, hJ2, hrest2, hBs⟩ := hz0 g22
    have hl := takeF_le he
    refine W.skip ?_
    refine thn_n ?_
    refine W.region ?_
    refine L.val (x_mv (v := .int _ _) rfl) rfl ?_
    refine L.val (x_as (v := .int _ _) rfl) rfl ?_
    refine L.nil ?_
    refine blk_n ?_
    refine thn_n ⟨rfl, ?_⟩
    refine ⟨_, ?_, k + 1, _, rfl, by first | rfl | exact vi (by omega) | exact vs (by first | assumption | (rw [hst]; done) | (rw [hst]; simp only [List.append_assoc])), by first | rfl | exact vi (by omega) | exact vs (by first | assumption | (rw [hst]; done) | (rw [hst]; simp only [List.append_assoc])), by first | rfl | exact vi (by omega) | exact vs (by first | assumption | (rw [hst]; done) | (rw [hst]; simp only [List.append_assoc])), (by first | assumption | omega | rfl), (by first | assumption | omega | rfl), (by exact hJ2), (by exact hrest2), (by first | assumption | omega | rfl)⟩
    omega
end Go.Gx
namespace Go.Gx
variable {P : Program} {n m : Nat} {Q : Post} {D : List Deferred} {E : Env} {w : World} {F : Fence}
def rndK {α : Type} (B : Nat) (Kp : World → World → Prop) (I : List α → World → Prop) (Ix : Code → List α → World → Prop) (xs : List α) (W : World) : Post := fun e _ _ W' => match e with
  | .normal => KeepsFrom B W W' ∧ Kp W W' ∧ I xs W'
  | .ret => KeepsFrom B W W' ∧ Ix .ret xs W'
  | .exit id => KeepsFrom B W W' ∧ Ix (.exit id) xs W'
  | _ => False
theorem W.rangeFk {α : Type} (Kp : World → World → Prop) (hKt : ∀ {A B C : World}, Kp A B → Kp B C → Kp A C) {g : Operand} {ps : Array Tmp} {assign body : Code} {gf : Nat} {lb : Array Value} {encs : α → Array Value} {N : Nat} {So Sp : List α → Prop} {w0 : World}
    (hg : ev E g = .func (.func gf) #[] lb) (eg : Go.Proofs.Enters P gf) (hseq : SeqStopsK Fence.wide 1 P gf lb encs Kp So Sp N w0) (hb0 : RowKit.Below w0.heap.size w0 w) (hKb : ∀ (W : World) (l : Nat) (o o' : Obj), w.heap.size ≤ l → W.heap[l]? = some o → o.isCells = false → o.isWalk = false → Kp W (W.putObj l o'))
    (hps : ∀ x, (encs x).size = ps.size) (hpn : ps.toList.all (fun p => Nat.blt p n) = true)
    (I : List α → World → Prop) (Ix : Code → List α → World → Prop) (hI : OwnFrom w.heap.size I) (hIx : ∀ c, OwnFrom w.heap.size (Ix c)) (h0 : I [] w)
    (Ax : α → Env → World → Prop) (hAx : ∀ x a', OwnFrom w.heap.size (fun (_ : Unit) W => Ax x a' W))
    (hassign : ∀ (l : Nat) (pre : List α) (x : α) (W : World), I pre W → WI (Fence.wide.inRound l) 0 P n assign (fun e D' E' W' => e = .normal ∧ D' = [] ∧ KeepsFrom w.heap.size W W' ∧ Kp W W' ∧ I pre W' ∧ Ax x E' W') [] (updN E (ps.toList.zip (encs x).toList)) W)
    (hbody : ∀ (l : Nat) (pre : List α) (x : α) (E' : Env) (W : World), I pre W → Ax x E' W → pre.length < N → WI (Fence.wide.inRound l) 0 P n body (rndK w.heap.size Kp I Ix (pre ++ [x]) W) [] E' W)
    (hdone : ∀ (Db : Nat) (xs : List α) (w' : World), w.heap.size ≤ Db → So xs → I xs w' → w'.heap[Db]? = some (.deferred (some [])) → Q .normal ({ target := .collected Db, args := #[] } :: D) E w')
    (hstop : ∀ (Db : Nat) (c : Code) (pre : List α) (w' : World), w.heap.size ≤ Db → Sp pre → Ix c pre w' → w'.heap[Db]? = some (.deferred (some [])) → W P n c Q ({ target := .collected Db, args := #[] } :: D) E w') :
    W P n (.rangeFunc g ps assign body) Q D E w := by
  refine W.wide (m := 2) ?_
  intro a ha
  have h1 : Fr [] n ({ tmps := a.tmps, defers := [] } : Act) E := ⟨rfl, ha.size, ha.get⟩
  refine wpIn_rangeFunc_ownH rfl (by decide) (by rw [ha.eval]; exact hg) trivial eg hseq hKt hKb hb0 hps I Ix hI hIx h0
    (fun x a' W => ∃ E', Fr [] n a' E' ∧ Ax x E' W) (fun x a' s X Y row hs hg hr => ?_) ?_ ?_ ?_ ?_
  · obtain ⟨E', h1, h2⟩ := hs
    exact ⟨E', h1, hAx x E' () X Y row h2 hg hr⟩
  · intro l pre x W' K hi hK
    have hz : (ps.zip (encs x)).foldl (fun t (p, v) => t.setIfInBounds p v) a.tmps = (ps.toList.zip (encs x).toList).foldl (fun t x => t.setIfInBounds x.1 x.2) a.tmps := by
      rw [← Array.foldl_toList, Array.toList_zip]
    have hall : (ps.toList.zip (encs x).toList).all (fun x => Nat.blt x.1 n) = true := by
      rw [List.all_eq_true] at hpn ⊢
      intro y hy
      obtain ⟨p, v⟩ := y
      exact hpn p (List.of_mem_zip hy).1
    have hfr := fr_updN (tmps := a.tmps) (l := ps.toList.zip (encs x).toList) h1 hall
    rw [hz]
    refine wpIn_mono (hassign l pre x W' hi _ hfr) ?_
    rintro e a' w'' ⟨_, E', hE, rfl, hD, k1, k2, k3, k4⟩
    rw [hD] at hE
    exact hK a' w'' k1 k2 k3 ⟨E', hE, k4⟩
  · rintro l pre x a' W' _ _ hi ⟨E', hE, hA⟩ hlen
    refine wpIn_mono (hbody l pre x E' W' hi hA hlen a' hE) ?_
    rintro e a3 w3 ⟨h1, E3, hE3, hq⟩
    cases e <;> simp only [rndK, ownPostG] at hq ⊢ <;> exact hq
  · intro Db xs w' hD hS hi hK
    exact lift_mk (by simp) ⟨by rw [← ha.defers], ha.size, ha.get⟩ (hdone Db xs w' hD hS hi hK)
  · intro Db c pre w' hD hS hi hK
    exact wpIn_wide.2 (hstop Db c pre w' hD hS hi hK _ ⟨by rw [← ha.defers], ha.size, ha.get⟩)
def KpG (R : Nat → Prop) (A B : World) : Prop := Gr R A B ∧ KeepsWalks A B
theorem KpG.trans {R : Nat → Prop} {A B C : World} (h : KpG R A B) (k : KpG R B C) : KpG R A C := ⟨h.1.trans k.1, h.2.trans k.2⟩
theorem KpG.put {R : Nat → Prop} {w : World} (hR : ∀ k, w.heap.size ≤ k → R k) (W : World) (l : Nat) (o o' : Obj) (hl : w.heap.size ≤ l) (h : W.heap[l]? = some o) (_ : o.isCells = false) (hw : o.isWalk = false) : KpG R W (W.putObj l o') :=
  ⟨(gr_putObj W l o').mono (fun k _ e => by have e : k = l := e; rw [e]; exact hR l hl), KeepsWalks.putObj _ h hw⟩
theorem kpg_of {R : Nat → Prop} {w' : World} (B : Nat) (h : Gr R w w') (hc : ∀ k o, R k → w.heap[k]? = some o → o.isCells = true) : KeepsFrom B w w' ∧ KeepsWalks w w' := ⟨(keeps_of_gr h hc).from B, (keeps_of_gr h hc).walks⟩
end Go.Gx
namespace Go.Gx
open Go.Proofs
theorem koct6_el9 : elT Tryz.prog 9 1 = true := by kernel_rfl
theorem koct6_en122 : Go.Proofs.Enters Tryz.prog 122 := Go.Proofs.enters_of Tryz.func122 (by kernel_rfl) rfl
theorem koct6_en144 : Go.Proofs.Enters Tryz.prog 144 := Go.Proofs.enters_of Tryz.func144 (by kernel_rfl) rfl
theorem koct6_mixed : Tryz.prog.follows .mixedOrders = true := by kernel_rfl
theorem koct6_oc3 : oneCellT Tryz.prog 3 = true := by kernel_rfl
theorem koct6_oc33 : oneCellT Tryz.prog 33 = true := by kernel_rfl
theorem koct6_sz3 : (Tryz.prog.info? 3).map (·.size) = some 1 := by kernel_rfl
theorem koct6_sz33 : (Tryz.prog.info? 33).map (·.size) = some 1 := by kernel_rfl
theorem koct6_zr3 : (Tryz.prog.info? 3).bind (·.zero) = some (Value.int .i64 0) := by kernel_rfl
theorem koct6_zr33 : (Tryz.prog.info? 33).bind (·.zero) = some (Value.slice none 0 0) := by kernel_rfl
theorem frames_ok (s : Str) (w : World) : Ret Tryz.prog 122 #[S s] w fun r w' => r = .func (.func 144) #[] #[.pointer (some ⟨w.heap.size, 0, none⟩)] ∧ Box w' w.heap.size 9 [S s] ∧ Bel w w' := by
  refine ret_of_W Tryz.func122 rfl (Nat.le_of_ble_eq_true rfl) (res1 rfl) ?_
  have hB := Gr.refl (fun _ => False) w
  refine W.seq ?_
  refine W.region ?_
  refine L.box (cs := [S s]) rfl rfl (fun w1 bx1 hw hz1 => ?_)
  have hB := hB.carry hw
  refine L.val (x_as (v := _) rfl) rfl ?_
  refine L.nil ?_
  refine thn_n ?_
  refine W.seq ?_
  refine W.region ?_
  refine L.val (x_mkfn rfl rfl) rfl ?_
  refine L.val (x_as (v := _) rfl) rfl ?_
  refine L.nil ?_
  refine thn_n ?_
  refine W.ret (fin_mk (.inr rfl) ?_)
  exact ⟨rfl, bx1, hB⟩
theorem frames_seq (R : Nat → Prop) (Bs : Nat) (s : Str) (hs : s.length ≤ 1000000000) (w : World) (hR : ¬ R Bs) (hBs : Bs < w.heap.size) (hc : w.cell? ⟨Bs, 0, none⟩ = some (S s)) :
    SeqStopsK Fence.wide 1 Tryz.prog 144 #[.pointer (some ⟨Bs, 0, none⟩)] encFr (KpG R) (fun xs => xs = frames s) (fun _ => True) (frames s).length w := by
  intro l J Jx w1 hW hJ _ hY h0
  have hc1 := (hW.cell (p := ⟨Bs, 0, none⟩) hBs).trans hc
  rw [show (#[Value.func (.yield l) #[] #[]] ++ #[Value.pointer (some ⟨Bs, 0, none⟩)] : Array Value) = #[.func (.yield l) #[] #[], .pointer (some ⟨Bs, 0, none⟩)] from rfl]
  refine callsIn_wide.2 (Calls.mono (frames_seq_ok (KpG R) l Bs s hs (fun W W' h hv => h.1.cell hv hR) J Jx hY (fun pre W W' h g => hJ pre W W' none h ⟨g.os, g.tape, g.output, g.size, fun k hk _ => g.block k hk (fun f => f)⟩ (fun r e => by cases e)) w1 hc1 h0) ?_)
  rintro e w2 ⟨u, rfl, h⟩
  exact ⟨⟨u, rfl⟩, h⟩
theorem takeF_body {s : Str} {k : Nat} : (takeF s k).1.length ≤ 20000 := by
  unfold takeF
  split
  · simp
  · split
    · simp
    · split
      · simp
      · split
        · simp
        · show (takeText s k).1.length ≤ _; omega
theorem scanF_body {s : Str} : ∀ {f k : Nat} {x : Str × Nat}, x ∈ scanF f s k → x.1.length ≤ 20000
  | 0, _, _, h => by cases h
  | f + 1, k, x, h => by
    rw [scanF] at h
    split at h
    · cases h
    · rcases List.mem_cons.1 h with rfl | h
      · exact takeF_body
      · exact scanF_body h
def scanS (s : Str) : List Str × Nat := ((frames s).map (·.1), ((frames s).getLast?.map (·.2)).getD 0)
theorem scan_ok (s : Str) (hs : s.length ≤ 1000000000) (w : World) : Ret Tryz.prog 93 #[S s] w fun r w' => (∃ u, r = .tuple #[u, .int .i64 ((scanS s).2 : Nat)] ∧ StrsAt (fun k => k < w.heap.size) w' u (scanS s).1 ∧ ∃ base, Own w' base 9 1 u (scanS s).1.length ((scanS s).1.map S)) ∧ Bel w w' := by
  refine ret_of_W_marks Tryz.func93 rfl (Nat.le_of_ble_eq_true rfl) (res2 rfl) ?_
  have hB := Gr.refl (fun _ => False) w
  refine W.seq ?_
  refine W.region ?_
  refine L.val (x_as (v := .slice _ _ _) rfl) rfl ?_
  refine L.val (x_as (v := .int _ _) rfl) rfl ?_
  refine L.nil ?_
  refine thn_n ?_
  refine W.seq ?_
  refine W.region ?_
  refine L.alloc (cs := [Value.slice none 0 0]) koct6_zr33 rfl rfl (fun w4 bx4 hw hz4 => ?_)
  have hB := hB.carry hw
  refine L.nil ?_
  refine thn_n ?_
  refine W.seq ?_
  refine W.region ?_
  refine L.alloc (cs := [Value.int .i64 0]) koct6_zr3 rfl rfl (fun w5 bx5 hw hz5 => ?_)
  have hB := hB.carry hw; have bx4 := bx4.carry hw
  refine L.set (v := .int _ _) koct6_sz3 rfl rfl rfl bx5 rfl (fun wl5 bx5 hw hzl5 => ?_)
  have hsz := hB.size
  have hB := hB.set hw (by omega); have bx4 := bx4.carryR hw (by omega)
  refine L.nil ?_
  refine thn_n ?_
  refine W.seq ?_
  refine W.seq ?_
  refine W.region ?_
  refine L.val (x_mv (v := S _) rfl) rfl ?_
  refine L.ret (x_call koct6_en122 rfl) rfl (frames_ok s _) ?_
  rintro _ w9 ⟨rfl, bx9, hw⟩
  have hB := hB.carry hw; have bx4 := bx4.carry hw; have bx5 := bx5.carry hw
  have hsz := hB.size
  have z9 := hw.size
  have hl9 := bx9.lt
  have hl4 := bx4.lt; have hl5 := bx5.lt
  refine L.nil ?_
  refine thn_n ?_
  refine W.block ?_
  refine W.rangeFk (α := Str × Nat) (KpG (fun k => w.heap.size ≤ k ∧ k ≠ wl5.heap.size)) (fun h k => h.trans k) (w0 := w9) (N := (frames s).length) rfl koct6_en144 (frames_seq _ _ s hs w9 (fun h => h.2 rfl) hl9 (bx9.cell (i := 0) rfl)) (RowKit.Below.refl _ _) (KpG.put (fun k hk => ⟨by omega, by omega⟩)) (fun _ => rfl) rfl
    (fun pre W => ∃ v, Box W w.heap.size 33 [v] ∧ Own W (wl5.heap.size + 1) 9 1 v pre.length (pre.map fun x => S x.1) ∧ Box W w4.heap.size 3 [.int .i64 (((pre.getLast?.map (·.2)).getD 0 : Nat) : Int)] ∧ Bel w W ∧ w9.heap.size ≤ W.heap.size)
    (fun _ _ _ => False)
    ?_ (fun c pre X Y row h => h.elim) ⟨_, bx4, own_nil, bx5, hB, Nat.le_refl _⟩
    (fun x E' W => E' 4 = .pointer (some ⟨w.heap.size, 0, none⟩) ∧ E' 5 = .pointer (some ⟨w4.heap.size, 0, none⟩) ∧ E' 6 = S x.1 ∧ E' 7 = .int .i64 (x.2 : Nat))
    (fun x a' s X Y row h hg hr => h)
    ?_ ?_ ?_ ?_
  · rintro pre X Y row ⟨v, a1, a2, a3, a4, a5⟩ hg hr
    refine ⟨v, a1.from hg (fun r e => (hr r e).2), a2.carryR (gr_of_grown hg) (fun j hj e => ?_), a3.from hg (fun r e => (hr r e).2), a4.from hg (fun r e => by have := (hr r e).1; omega), Nat.le_trans a5 hg.size⟩
    obtain ⟨_, o, ho, hn⟩ := hr _ e.symm
    rw [Own.cells a2 hj ho] at hn; cases hn
  ·rintro l pre x W ⟨v, bx4, hO, bx5, hB, hle⟩
   have hV := Gr.refl (fun _ => False) W
   refine WI.seq ?_
   refine WI.reg rfl ?_
   refine L.val (x_as (v := S _) rfl) rfl ?_
   refine L.nil ?_
   refine thn_n ?_
   refine WI.reg rfl ?_
   refine L.val (x_as (v := .int _ _) rfl) rfl ?_
   refine L.nil ?_
   have hk := kpg_of w9.heap.size hV (fun _ _ f _ => f.elim)
   exact ⟨rfl, rfl, hk.1, ⟨hV.mono (fun _ _ f => f.elim), hk.2⟩, ⟨v, bx4, hO, bx5, hB, hle⟩, rfl, rfl, rfl, rfl⟩
  ·rintro l pre x E W ⟨v, bx4, hO, bx5, hB, hle⟩ ⟨e4, e5, e6, e7⟩ hlen
   rw [upd_self e4, upd_self e5, upd_self e6, upd_self e7]
   obtain ⟨av, cv, ev, -⟩ := own_shape hO
   subst ev
   have hflen : (frames s).length ≤ s.length := by have := scanF_len (f := s.length + 1) (s := s) (k := 0) (by omega); unfold frames; omega
   have hq : ∀ j, some j = (Value.slice av pre.length cv).ownBlock → wl5.heap.size + 1 ≤ j ∧ j < W.heap.size := fun j hj => Own.lt hO hj
   have hcO : ∀ j, some j = (Value.slice av pre.length cv).ownBlock → ∀ o, W.heap[j]? = some o → o.isCells = true := fun j hj o ho => Own.cells hO hj ho
   have hG := Gr.refl (fun k => k = w.heap.size ∨ k = w4.heap.size ∨ some k = (Value.slice av pre.length cv).ownBlock) W
   have bxo4 := bx4; have bxo5 := bx5
   have hsW := hB.size
   refine WI.block ?_
   refine WI.reg rfl ?_
   refine L.val (x_ld (v := .slice _ _ _) koct6_oc33 rfl (bx4.cell (i := 0) rfl)) rfl ?_
   refine L.val (x_mv (v := S _) rfl) rfl ?_
   refine L.bs (sz := 1) (cells := [S x.1]) Tryz.underlying33 koct6_el9 rfl rfl rfl rfl (fun w14 bx14 hw hz14 => ?_)
   have hB := hB.carry hw; have bx4 := bx4.carry hw; have bx5 := bx5.carry hw; have hO := hO.carry hw; have hG := hG.carry hw
   refine L.appendN (m := 1) Tryz.underlying33 koct6_el9 rfl rfl rfl hO rfl (holdsN_box bx14) (by simp [Value.oneCell', S]) (by omega) (by omega) (fun v15 w15 hO15 hg hob15 => ?_)
   have hB := hB.step hg (fun i hi e => by have := hq i e; omega)
   have bx4 := bx4.carryR hg (fun e => by have := hq _ e; omega)
   have bx5 := bx5.carryR hg (fun e => by have := hq _ e; omega)
   have hG := hG.trans (hg.mono (fun k _ e => .inr (.inr e)))
   have hq15 : ∀ j, some j = v15.ownBlock → wl5.heap.size + 1 ≤ j := fun j hj => by
     rcases hob15 with e | e
     · rw [e] at hj; exact (hq j hj).1
     · rw [e] at hj; cases hj; omega
   obtain ⟨a15, c15, e15, -⟩ := own_shape hO15
   subst e15
   refine L.val (x_mv (v := .int _ _) rfl) rfl ?_
   refine L.set (v := .slice _ _ _) koct6_sz33 rfl rfl rfl bx4 rfl (fun wl15 bx4 hw hzl15 => ?_)
   have hsz := hB.size
   have hB := hB.set hw (by omega); have bx5 := bx5.carryR hw (by omega); have hG := hG.trans (hw.mono (fun k _ e => by first | exact .inl e | exact .inr (.inl e)))
   have hO15 := Own.carryR hO15 hw (fun j hj e => by have e : j = w.heap.size := e; have := hq15 j hj; omega)
   refine L.set (v := .int _ _) koct6_sz3 rfl rfl rfl bx5 rfl (fun wl16 bx5 hw hzl16 => ?_)
   have hsz := hB.size
   have hB := hB.set hw (by omega); have bx4 := bx4.carryR hw (by omega); have hG := hG.trans (hw.mono (fun k _ e => by first | exact .inl e | exact .inr (.inl e)))
   have hO15 := Own.carryR hO15 hw (fun j hj e => by have e : j = w4.heap.size := e; have := hq15 j hj; omega)
   refine L.nil ?_
   refine blk_n ?_
   have hk := kpg_of w9.heap.size hG (fun k o e ho => by
     rcases e with rfl | rfl | e
     · exact bxo4.cells ho
     · exact bxo5.cells ho
     · exact hcO k e o ho)
   refine ⟨hk.1, ⟨hG.mono (fun k _ e => ?_), hk.2⟩, _, bx4, ?_, ?_, hB, ?_⟩
   · rcases e with rfl | rfl | e
     · exact ⟨by omega, by omega⟩
     · exact ⟨by omega, by omega⟩
     · have := hq k e; exact ⟨by omega, by omega⟩
   · have e1 : (pre ++ [x]).length = pre.length + 1 := by simp
     rw [e1, List.map_append]
     exact hO15
   · rw [List.getLast?_concat]
     exact bx5
   · have := hG.size; omega
  rotate_left 1
  ·rintro Db c pre Wd hD hpk h
   exact h.elim
  rintro Db xs w8 hD rfl ⟨v, bx4, hO, bx5, hB, hle⟩ hK
  obtain ⟨av, cv, ev, -⟩ := own_shape hO
  subst ev
  refine blk_n ?_
  refine thn_n ?_
  refine W.seq ?_
  refine W.drawB koct6_mixed (by kernel_rfl) ?_
  refine LQ.val (fun w hw => x_ld (v := .slice _ _ _) koct6_oc33 rfl (hw.keep (bx4.cell (i := 0) rfl))) rfl ?_
  refine LQ.val (fun w hw => x_ld (v := .int _ _) koct6_oc3 rfl (hw.keep (bx5.cell (i := 0) rfl))) rfl ?_
  refine LQ.val (fun w hw => x_as (v := .slice _ _ _) rfl) rfl ?_
  refine LQ.val (fun w hw => x_as (v := .int _ _) rfl) rfl ?_
  refine LQ.nil ?_
  intro w17 hw
  have hB := hB.carry hw; have bx4 := bx4.carry hw; have bx5 := bx5.carry hw; have hO := hO.carry hw
  refine thn_n ?_
  refine W.ret (finM_mk (.inr rfl) ?_)
  have hK := defk hw hK (fun f => f)
  have hlD : Db < w.heap.size → False := fun h => by omega
  refine ⟨Db, rfl, hK, ⟨_, rfl, ?_⟩, hB.set (gr_putObj _ _ _) (by omega)⟩
  have hO := Own.carryR hO (gr_putObj _ Db (.deferred none)) (fun j hj e => by have e : j = Db := e; subst e; have := Own.cells hO hj hK; cases this)
  have e1 : (frames s).map (fun x => S x.1) = (scanS s).1.map S := by unfold scanS; rw [List.map_map]; rfl
  rw [e1] at hO
  have e2 : (frames s).length = (scanS s).1.length := by unfold scanS; simp
  rw [e2] at hO ⊢
  have hfl : (frames s).length ≤ s.length := by have := scanF_len (f := s.length + 1) (s := s) (k := 0) (by omega); unfold frames; omega
  exact ⟨strs_done hO (by rw [← e2]; omega) (fun x hx => by
    obtain ⟨y, hy, rfl⟩ := List.mem_map.1 hx
    have := scanF_body hy; omega) (fun j hj => by omega), _, hO⟩
end Go.Gx
