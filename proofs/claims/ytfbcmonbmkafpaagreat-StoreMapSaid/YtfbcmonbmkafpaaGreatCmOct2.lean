/- Numbers and texts as bytes; sums; frames made. Conditions: none. -/
import Derived.Test.YtfbcmonbmkafpaaGreatCmDrawD
namespace Go.Gx
open Go.Proofs
theorem koct2_el5 : elT Tryz.prog 5 1 = true := by kernel_rfl
theorem koct2_en116 : Go.Proofs.Enters Tryz.prog 116 := Go.Proofs.enters_of Tryz.func116 (by kernel_rfl) rfl
theorem koct2_en138 : Go.Proofs.Enters Tryz.prog 138 := Go.Proofs.enters_of Tryz.func138 (by kernel_rfl) rfl
theorem koct2_en158 : Go.Proofs.Enters Tryz.prog 158 := Go.Proofs.enters_of Tryz.func158 (by kernel_rfl) rfl
theorem koct2_en159 : Go.Proofs.Enters Tryz.prog 159 := Go.Proofs.enters_of Tryz.func159 (by kernel_rfl) rfl
theorem koct2_en169 : Go.Proofs.Enters Tryz.prog 169 := Go.Proofs.enters_of Tryz.func169 (by kernel_rfl) rfl
theorem koct2_oc9 : oneCellT Tryz.prog 9 = true := by kernel_rfl
theorem koct2_sz5 : (Tryz.prog.info? 5).map (·.size) = some 1 := by kernel_rfl
theorem koct2_sz9 : (Tryz.prog.info? 9).map (·.size) = some 1 := by kernel_rfl
def widN (n : Nat) : Nat := (Lib.bitLen n + 7) / 8
def beN (k n : Nat) : Str := (List.range k).map fun i => lowB ((n : Int) / 2 ^ (8 * (k - 1 - i)))
def numB (n : Nat) : Str := if n < 248 then [lowB (n : Nat)] else lowB (247 + (widN n : Nat)) :: beN (widN n) n
def textB (s : Str) : Str := numB s.length ++ s
theorem beN_len (k n : Nat) : (beN k n).length = k := by simp [beN]
theorem beN_take {k n j : Nat} (hj : j < k) : (beN k n).take (j + 1) = (beN k n).take j ++ [lowB ((n : Int) / 2 ^ (8 * (k - 1 - j)))] := by
  rw [List.take_add_one, List.getElem?_eq_getElem (by rw [beN_len]; exact hj)]
  simp [beN]
theorem width_ok (n : Nat) (hn : n < 18446744073709551616) (w : World) : Ret Tryz.prog 138 #[.int .u64 (n : Nat)] w fun v w' => v = .int .i64 (widN n : Nat) ∧ w' = w := by
  have hL : Ret Tryz.prog 158 #[.int .u64 (n : Nat)] w fun v w' => v = .int .i64 (Lib.bitLen n : Nat) ∧ w' = w :=
    Calls.mono (Tryz.bits_Len64 (n : Nat) w (by omega) (by omega)) fun e w' ⟨he, hw⟩ => ⟨_, he, by simp, hw⟩
  have hb := Lib.bitLen_le n 64 (by omega) hn
  refine ret_of_W Tryz.func138 rfl (Nat.le_of_ble_eq_true rfl) (res1 rfl) ?_
  refine W.seq ?_
  refine W.region ?_
  refine L.val (x_as (v := .int _ _) rfl) rfl ?_
  refine L.nil ?_
  refine thn_n ?_
  refine W.seq ?_
  refine W.region ?_
  refine L.val (x_mv (v := .int _ _) rfl) rfl ?_
  refine L.ret (x_call koct2_en158 rfl) rfl (hL) ?_
  rintro _ w4 ⟨rfl, rfl⟩
  refine L.val (x_add rfl rfl (wr64 (by omega))) rfl ?_
  refine L.val (x_quo rfl rfl (by decide) (wq64 (by omega) (by decide))) rfl ?_
  refine L.val (x_as (v := .int _ _) rfl) rfl ?_
  refine L.nil ?_
  refine thn_n ?_
  refine W.ret (fin_mk (.inr rfl) ?_)
  refine ⟨?_, rfl⟩
  unfold widN
  show Value.int .i64 _ = _
  congr 1
theorem widN_le {n : Nat} (hn : n < 18446744073709551616) : widN n ≤ 8 := by
  have hb := Lib.bitLen_le n 64 (by omega) hn
  unfold widN; omega
theorem own_of_boxT {w : World} {b k cap : Nat} {e : TypeId} {cs xs : List Value} (h : Box w b e cs) (hl : cs.length = cap) (hx : cs.take k = xs) (hk : k ≤ cap) (hm : cap ≤ 9223372036854775807) : Own w b e 1 (.slice (some ⟨b, 0, none⟩) k cap) k xs := by
  refine ⟨?_, .inr ⟨b, cap, cs.toArray, rfl, Nat.le_refl _, h, hk, by simp only [maxLen]; omega, by simpa using hl, by simpa using hx⟩⟩
  rw [← hx, List.length_take]; omega
theorem own_cells {w : World} {base b k c : Nat} {e : TypeId} {l : Str} (h : Own w base e 1 (.slice (some ⟨b, 0, none⟩) k c) k (l.map B8)) : ∀ j, j < l.length → w.cell? ⟨b, 0 + j, none⟩ = (l.map B8)[j]? := fun j hj => by
  rcases Own.open h with ⟨e1, -⟩ | ⟨b', cap, tl, e1, -, -, -, hb⟩
  · cases e1
  · cases e1
    have hj' : j < (l.map B8).length := by simpa using hj
    rw [List.getElem?_eq_getElem hj']
    exact hb.cell0 (by rw [List.getElem?_append_left hj', List.getElem?_eq_getElem hj'])
theorem number_ok (n : Nat) (hn : n < 18446744073709551616) (w : World) : Ret Tryz.prog 116 #[.int .u64 (n : Nat)] w fun v w' => v = S (numB n) ∧ Bel w w' := by
  have hw8 := widN_le hn
  refine ret_of_W Tryz.func116 rfl (Nat.le_of_ble_eq_true rfl) (res1 rfl) ?_
  have hB := Gr.refl (fun _ => False) w
  refine W.seq ?_
  refine W.region ?_
  refine L.val (x_as (v := S _) rfl) rfl ?_
  refine L.nil ?_
  refine thn_n ?_
  refine W.seq ?_
  refine W.seq ?_
  refine W.region ?_
  refine L.val (x_mv (v := .int _ _) rfl) rfl ?_
  refine L.val (x_lss rfl rfl) rfl ?_
  refine L.nil ?_
  refine thn_n ?_
  refine W.cond (b := _) rfl (fun g7 => ?_) (fun g7 => ?_)
  ·have h7 := of_decide_eq_true g7
   have hlt : n < 248 := by omega
   refine W.seq ?_
   refine W.region ?_
   refine L.val (x_mv (v := .int _ _) rfl) rfl ?_
   refine L.val (x_convB (by rw [Tryz.underlying103]; rfl) Tryz.underlying5 rfl) rfl ?_
   refine L.bs (sz := 1) (cells := [B8 (lowB (n : Nat))]) Tryz.underlying77 koct2_el5 rfl rfl rfl rfl (fun w10 bx10 hw hz10 => ?_)
   have hB := hB.carry hw
   refine L.val (x_b2s (l := [lowB (n : Nat)]) Tryz.underlying77 Tryz.underlying5 Tryz.underlying9 rfl rfl (fun j hj => bx10.row rfl j hj)) rfl ?_
   refine L.val (x_as (v := S _) rfl) rfl ?_
   refine L.nil ?_
   refine thn_n ?_
   refine W.ret (thn_r (fin_mk (.inr rfl) ?_))
   unfold numB
   rw [if_pos hlt]
   exact ⟨rfl, hB⟩
  ·have h7 := dlt_f g7
   have hge : ¬ n < 248 := by omega
   refine W.skip ?_
   refine thn_n ?_
   refine W.seq ?_
   refine W.region ?_
   refine L.val (x_mv (v := .int _ _) rfl) rfl ?_
   refine L.ret (x_call koct2_en138 rfl) rfl (width_ok n hn _) ?_
   rintro _ w13 ⟨rfl, hq13⟩
   rw [hq13]
   refine L.val (x_as (v := .int _ _) rfl) rfl ?_
   refine L.nil ?_
   refine thn_n ?_
   refine W.seq ?_
   refine W.region ?_
   refine L.mkkc (z := .int .u8 0) 1 9 Tryz.underlying77 koct2_el5 (by kernel_rfl) rfl rfl rfl (by omega) (by omega) rfl (fun w14 bx14 _ hw hz14 => ?_)
   have hB := hB.carry hw
   refine L.val (x_as (v := .slice _ _ _) rfl) rfl ?_
   refine L.nil ?_
   refine thn_n ?_
   refine W.seq ?_
   refine W.region ?_
   refine L.val (x_mv (v := .slice _ _ _) rfl) rfl ?_
   refine L.val (x_mv (v := .int _ _) rfl) rfl ?_
   refine L.val (x_add rfl rfl (wr64 (by omega))) rfl ?_
   refine L.val (x_convB (by rw [Tryz.underlying3]; rfl) Tryz.underlying5 rfl) rfl ?_
   refine L.val (x_ia1 (j := 0) Tryz.underlying77 koct2_sz5 rfl rfl rfl (by omega)) rfl ?_
   refine L.set (v := B8 (lowB (247 + (widN n : Nat)))) (i := 0 + 0) koct2_sz5 rfl rfl rfl bx14 rfl (fun wl19 bxN hw hzl19 => ?_)
   have hsB := hB.size
   have hB := hB.set hw (by omega)
   have hO0 := own_of_boxT (k := 1) (cap := 9) bxN rfl rfl (by omega) (by omega)
   refine L.nil ?_
   refine thn_n ?_
   refine W.seq ?_
   refine W.seq ?_
   refine W.region ?_
   refine L.val (x_mv (v := .int _ _) rfl) rfl ?_
   refine L.val (x_sub rfl rfl (wr64 (by omega))) rfl ?_
   refine L.val (x_as (v := .int _ _) rfl) rfl ?_
   refine L.nil ?_
   refine thn_n ?_
   refine W.block ?_
   refine W.loop (fun m' E w' => ∃ (j : Nat) (v4 : Value), m' = j ∧ E 0 = .int .u64 (n : Nat) ∧ E 4 = v4 ∧ E 5 = .int .i64 ((j : Nat) - 1) ∧ (j ≤ widN n) ∧ (Bel w w') ∧ (Own w' w.heap.size 5 1 v4 (1 + (widN n - j)) ((lowB (247 + (widN n : Nat)) :: (beN (widN n) n).take (widN n - j)).map B8))) (widN n) ?_ ?_
   ·exact ⟨widN n, _, by omega, by first | rfl | exact vi (by omega), by first | rfl | exact vi (by omega), by first | rfl | exact vi (by omega), (by first | assumption | omega | rfl), (by first | assumption | omega | rfl), (by rw [Nat.sub_self]; exact hO0)⟩
   ·rintro _ E wL22 ⟨j, v4, em, e0, e4, e5, hj, hB, hO⟩
    rw [upd_self e0, upd_self e4, upd_self e5]
    refine W.seq ?_
    refine W.seq ?_
    refine W.region ?_
    refine L.val (x_mv (v := .int _ _) rfl) rfl ?_
    refine L.val (x_geq rfl rfl) rfl ?_
    refine L.nil ?_
    refine thn_n ?_
    refine W.cond (b := _) rfl (fun g23 => ?_) (fun g23 => ?_)
    ·have h23 := of_decide_eq_true g23
     have hj1 : 1 ≤ j := by omega
     obtain ⟨a4, c4, e4, -⟩ := own_shape hO
     subst e4
     have hsk := hB.size
     have hlt := fun i (e : some i = _) => (Own.lt hO (j := i) e).1
     have eS : (8 * ((j : Int) - 1)).toNat = 8 * (widN n - 1 - (widN n - j)) := by omega
     refine W.skip ?_
     refine thn_n ?_
     refine W.seq ?_
     refine W.block ?_
     refine W.region ?_
     refine L.val (x_mv (v := .slice _ _ _) rfl) rfl ?_
     refine L.val (x_mv (v := .int _ _) rfl) rfl ?_
     refine L.val (x_mv (v := .int _ _) rfl) rfl ?_
     refine L.val (x_mul rfl rfl (wr64 (by omega))) rfl ?_
     refine L.val (x_conv (k' := .u64) (by rw [Tryz.underlying3]; rfl) Tryz.underlying192 rfl (wru64 (by omega))) rfl ?_
     refine L.val (x_shr rfl rfl (by omega) (by show _ ≤ ((64 : Nat) : Int); omega)) rfl ?_
     refine L.val (x_convB (by rw [Tryz.underlying103]; rfl) Tryz.underlying5 rfl) rfl ?_
     refine L.bs (sz := 1) (cells := [B8 (lowB ((n : Int) / 2 ^ (8 * ((j : Int) - 1)).toNat))]) Tryz.underlying77 koct2_el5 rfl rfl rfl rfl (fun w33 bx33 hw hz33 => ?_)
     have hB := hB.carry hw; have hO := hO.carry hw
     refine L.appendN (m := 1) Tryz.underlying77 koct2_el5 rfl rfl rfl hO rfl (holdsN_box bx33) (B8_one [_]) (by omega) (by have := hB.size; omega) (fun v34 w34 hO34 hg hob34 => ?_)
     have hB := hB.step hg (fun i hi e => by have := hlt i e; omega)
     have hO2 : Own w34 w.heap.size 5 1 v34 (1 + (widN n - (j - 1))) ((lowB (247 + (widN n : Nat)) :: (beN (widN n) n).take (widN n - (j - 1))).map B8) := by
       have e1 : widN n - (j - 1) = widN n - j + 1 := by omega
       rw [e1, beN_take (by omega), ← eS]
       simpa [Nat.add_assoc] using hO34
     obtain ⟨a34, c34, e34, -⟩ := own_shape hO34
     subst e34
     refine L.val (x_as (v := .slice _ _ _) rfl) rfl ?_
     refine L.nil ?_
     refine blk_n ?_
     refine thn_n ?_
     refine W.region ?_
     refine L.val (x_mv (v := .int _ _) rfl) rfl ?_
     refine L.val (x_sub rfl rfl (wr64 (by omega))) rfl ?_
     refine L.val (x_as (v := .int _ _) rfl) rfl ?_
     refine L.nil ?_
     refine thn_n ⟨rfl, ?_⟩
     refine ⟨_, ?_, j - 1, _, rfl, by first | rfl | exact vi (by omega), by first | rfl | exact vi (by omega), by first | rfl | exact vi (by omega), (by first | assumption | omega | rfl), (by first | assumption | omega | rfl), (by exact hO2)⟩
     omega
    ·have h23 := dle_f g23
     have hj0 : j = 0 := by omega
     subst hj0
     rw [Nat.sub_zero, List.take_of_length_le (by rw [beN_len]; exact Nat.le_refl _)] at hO
     rw [Nat.add_comm 1 (widN n)] at hO
     obtain ⟨b4, c4, e4⟩ := own_form hO
     subst e4
     refine W.exit (thn_x (thn_x (blk_hit ?_)))
     refine thn_n ?_
     refine W.seq ?_
     refine W.region ?_
     refine L.val (x_mv (v := .slice _ _ _) rfl) rfl ?_
     refine L.val (x_b2s (l := lowB (247 + (widN n : Nat)) :: beN (widN n) n) Tryz.underlying77 Tryz.underlying5 Tryz.underlying9 rfl (by simp [beN_len]) (own_cells hO)) rfl ?_
     refine L.val (x_as (v := S _) rfl) rfl ?_
     refine L.nil ?_
     refine thn_n ?_
     refine W.ret (fin_mk (.inr rfl) ?_)
     unfold numB
     rw [if_neg hge]
     exact ⟨rfl, hB⟩
theorem numB_len {n : Nat} (hn : n < 18446744073709551616) : (numB n).length ≤ 9 := by
  unfold numB
  have := widN_le hn
  split <;> simp [beN_len]; omega
theorem text_ok (s : Str) (hs : s.length ≤ 100000000) (w : World) : Ret Tryz.prog 111 #[S s] w fun v w' => v = S (textB s) ∧ Bel w w' := by
  have hl := numB_len (n := s.length) (by omega)
  refine ret_of_W Tryz.func111 rfl (Nat.le_of_ble_eq_true rfl) (res1 rfl) ?_
  refine W.seq ?_
  refine W.region ?_
  refine L.val (x_as (v := S _) rfl) rfl ?_
  refine L.nil ?_
  refine thn_n ?_
  refine W.seq ?_
  refine W.region ?_
  refine L.val (x_mv (v := S _) rfl) rfl ?_
  refine L.val (x_len_str Tryz.underlying9 rfl) rfl ?_
  refine L.val (x_conv (k' := .u64) (by rw [Tryz.underlying3]; rfl) Tryz.underlying103 rfl (wru64 (by omega))) rfl ?_
  refine L.ret (x_call koct2_en116 rfl) rfl (number_ok s.length (by omega) _) ?_
  rintro _ w6 ⟨rfl, hB⟩
  refine L.val (x_mv (v := S _) rfl) rfl ?_
  refine L.val (x_cat rfl rfl (by first | omega | (simp only [List.length_append, List.length_cons, List.length_nil]; omega))) rfl ?_
  refine L.val (x_as (v := S _) rfl) rfl ?_
  refine L.nil ?_
  refine thn_n ?_
  refine W.ret (fin_mk (.inr rfl) ?_)
  exact ⟨rfl, hB⟩
def stepC1 (r : Int) : Int := bits .xor .u32 (r / 2 ^ (1 : Int).toNat) (bits .and .u32 2197175160 (IntKind.u32.wrap (0 - bits .and .u32 r 1)))
def stepC : Nat → Int → Int
  | 0, r => r
  | k + 1, r => stepC1 (stepC k r)
def cplC (r : Int) : Int := bits .xor .u32 IntKind.u32.max r
def moreR (r : Int) (s : Str) : Int := s.foldl (fun r b => stepC 8 (bits .xor .u32 r (b.toNat : Nat))) r
def moreC (sum : Int) (s : Str) : Int := cplC (moreR (cplC sum) s)
theorem step_crc (r : Int) (w : World) : Ret Tryz.prog 169 #[.int .u32 r] w fun v w' => v = .int .u32 (stepC 8 r) ∧ w' = w := by
  refine ret_of_W Tryz.func169 rfl (Nat.le_of_ble_eq_true rfl) (res1 rfl) ?_
  refine W.seq ?_
  refine W.region ?_
  refine L.val (x_as (v := .int _ _) rfl) rfl ?_
  refine L.nil ?_
  refine thn_n ?_
  refine W.seq ?_
  refine W.seq ?_
  refine W.region ?_
  refine L.val (x_mv (v := .int _ _) rfl) rfl ?_
  refine L.nil ?_
  refine thn_n ?_
  refine W.block ?_
  refine W.loop (fun m' E w' => ∃ (k : Nat), m' = 8 - k ∧ E 0 = .int .u32 (stepC k r) ∧ E 4 = .int .i64 (k : Nat) ∧ (k ≤ 8) ∧ (w' = w)) (8) ?_ ?_
  ·exact ⟨0, by omega, by first | rfl | exact vi (by omega), by first | rfl | exact vi (by omega), (by first | assumption | omega | rfl), (by first | assumption | omega | rfl)⟩
  ·rintro _ E wL5 ⟨k, em, e0, e4, hk, hw0⟩
   rw [upd_self e0, upd_self e4]
   refine W.seq ?_
   refine W.region ?_
   refine L.val (x_lss rfl rfl) rfl ?_
   refine L.nil ?_
   refine thn_n ?_
   refine W.seq ?_
   refine W.cond (b := _) rfl (fun g5 => ?_) (fun g5 => ?_)
   ·have h5 := of_decide_eq_true g5
    refine W.skip ?_
    refine thn_n ?_
    refine W.seq ?_
    refine W.block ?_
    refine W.seq ?_
    refine W.region ?_
    refine L.val (x_mv (v := .int _ _) rfl) rfl ?_
    refine L.val (x_band rfl rfl) rfl ?_
    refine L.val (x_as (v := .int _ _) rfl) rfl ?_
    refine L.nil ?_
    refine thn_n ?_
    refine W.region ?_
    refine L.val (x_mv (v := .int _ _) rfl) rfl ?_
    refine L.val (x_shr rfl rfl (by omega) (by show _ ≤ ((32 : Nat) : Int); omega)) rfl ?_
    refine L.val (x_mv (v := .int _ _) rfl) rfl ?_
    refine L.val (x_neg rfl rfl) rfl ?_
    refine L.val (x_band rfl rfl) rfl ?_
    refine L.val (x_bxor rfl rfl) rfl ?_
    refine L.val (x_as (v := .int _ _) rfl) rfl ?_
    refine L.nil ?_
    refine blk_n ?_
    refine thn_n ?_
    refine W.region ?_
    refine L.val (x_add rfl rfl (wr64 (by omega))) rfl ?_
    refine L.val (x_mv (v := .int _ _) rfl) rfl ?_
    refine L.nil ?_
    refine thn_n ⟨rfl, ?_⟩
    refine ⟨_, ?_, k + 1, rfl, by first | rfl | exact vi (by omega), by first | rfl | exact vi (by omega), (by first | assumption | omega | rfl), (by first | assumption | omega | rfl)⟩
    omega
   ·have h5 := dlt_f g5
    refine W.exit (thn_x (thn_x (blk_hit ?_)))
    refine thn_n ?_
    refine W.seq ?_
    refine W.region ?_
    refine L.val (x_mv (v := .int _ _) rfl) rfl ?_
    refine L.val (x_as (v := .int _ _) rfl) rfl ?_
    refine L.nil ?_
    refine thn_n ?_
    refine W.ret (fin_mk (.inr rfl) ?_)
    have : k = 8 := by omega
    subst this
    exact ⟨rfl, hw0⟩
theorem moreR_take {r : Int} {s : Str} {k : Nat} (hk : k < s.length) : moreR r (s.take (k + 1)) = stepC 8 (bits .xor .u32 (moreR r (s.take k)) ((s.getD k 0).toNat : Nat)) := by
  unfold moreR
  rw [take_snoc (d := 0) hk, List.foldl_append]
  rfl
theorem more_crc (r : Int) (s : Str) (hs : s.length ≤ 9223372036854775807) (w : World) : Ret Tryz.prog 159 #[.int .u32 r, S s] w fun v w' => v = .int .u32 (moreC r s) ∧ w' = w := by
  refine ret_of_W Tryz.func159 rfl (Nat.le_of_ble_eq_true rfl) (res1 rfl) ?_
  refine W.seq ?_
  refine W.region ?_
  refine L.val (x_as (v := .int _ _) rfl) rfl ?_
  refine L.nil ?_
  refine thn_n ?_
  refine W.seq ?_
  refine W.region ?_
  refine L.val (x_mv (v := .int _ _) rfl) rfl ?_
  refine L.val (x_cpl rfl rfl) rfl ?_
  refine L.val (x_as (v := .int _ _) rfl) rfl ?_
  refine L.nil ?_
  refine thn_n ?_
  refine W.seq ?_
  refine W.seq ?_
  refine W.region ?_
  refine L.val (x_mv (v := S _) rfl) rfl ?_
  refine L.val (x_len_str Tryz.underlying9 rfl) rfl ?_
  refine L.val (x_mv (v := .int _ _) rfl) rfl ?_
  refine L.nil ?_
  refine thn_n ?_
  refine W.block ?_
  refine W.loop (fun m' E w' => ∃ (k : Nat), m' = s.length - k ∧ E 1 = S s ∧ E 5 = .int .u32 (moreR (cplC r) (s.take k)) ∧ E 10 = .int .i64 (s.length : Nat) ∧ E 11 = .int .i64 (k : Nat) ∧ (k ≤ s.length) ∧ (w' = w)) (s.length) ?_ ?_
  ·exact ⟨0, by omega, by first | rfl | exact vi (by omega) | exact vs (by first | assumption | (rw [hst]; done) | (rw [hst]; simp only [List.append_assoc])), by first | rfl | exact vi (by omega) | exact vs (by first | assumption | (rw [hst]; done) | (rw [hst]; simp only [List.append_assoc])), by first | rfl | exact vi (by omega) | exact vs (by first | assumption | (rw [hst]; done) | (rw [hst]; simp only [List.append_assoc])), by first | rfl | exact vi (by omega) | exact vs (by first | assumption | (rw [hst]; done) | (rw [hst]; simp only [List.append_assoc])), (by first | assumption | omega | rfl), (by first | assumption | omega | rfl)⟩
  ·rintro _ E wL12 ⟨k, em, e1, e5, e10, e11, hk, hw0⟩
   rw [upd_self e1, upd_self e5, upd_self e10, upd_self e11]
   refine W.seq ?_
   refine W.region ?_
   refine L.val (x_lss rfl rfl) rfl ?_
   refine L.nil ?_
   refine thn_n ?_
   refine W.seq ?_
   refine W.cond (b := _) rfl (fun g12 => ?_) (fun g12 => ?_)
   ·have h12 := of_decide_eq_true g12
    have hlt : k < s.length := by omega
    rw [hw0]
    have hb8 := b8_lt (s.getD k 0)
    have hst := moreR_take (r := cplC r) hlt
    refine W.skip ?_
    refine thn_n ?_
    refine W.seq ?_
    refine W.block ?_
    refine W.seq ?_
    refine W.region ?_
    refine L.val (x_mv (v := .int _ _) rfl) rfl ?_
    refine L.val (x_as (v := .int _ _) rfl) rfl ?_
    refine L.nil ?_
    refine thn_n ?_
    refine W.region ?_
    refine L.val (x_mv (v := .int _ _) rfl) rfl ?_
    refine L.val (x_mv (v := S _) rfl) rfl ?_
    refine L.val (x_mv (v := .int _ _) rfl) rfl ?_
    refine L.val (x_ixs (j := k) Tryz.underlying9 rfl rfl (by omega) (by omega)) rfl ?_
    refine L.val (x_conv (k' := .u32) (by rw [Tryz.underlying5]; rfl) Tryz.underlying187 rfl (wru32 (by omega))) rfl ?_
    refine L.val (x_bxor rfl rfl) rfl ?_
    refine L.ret (x_call koct2_en169 rfl) rfl (step_crc _ _) ?_
    rintro _ w20 ⟨rfl, hq⟩
    rw [hq, ← hst]
    refine L.val (x_as (v := .int _ _) rfl) rfl ?_
    refine L.nil ?_
    refine blk_n ?_
    refine thn_n ?_
    refine W.region ?_
    refine L.val (x_add rfl rfl (wr64 (by omega))) rfl ?_
    refine L.val (x_mv (v := .int _ _) rfl) rfl ?_
    refine L.nil ?_
    refine thn_n ⟨rfl, ?_⟩
    refine ⟨_, ?_, k + 1, rfl, by first | rfl | exact vi (by omega) | exact vs (by first | assumption | (rw [hst]; done) | (rw [hst]; simp only [List.append_assoc])), by first | rfl | exact vi (by omega) | exact vs (by first | assumption | (rw [hst]; done) | (rw [hst]; simp only [List.append_assoc])), by first | rfl | exact vi (by omega) | exact vs (by first | assumption | (rw [hst]; done) | (rw [hst]; simp only [List.append_assoc])), by first | rfl | exact vi (by omega) | exact vs (by first | assumption | (rw [hst]; done) | (rw [hst]; simp only [List.append_assoc])), (by first | assumption | omega | rfl), (by first | assumption | omega | rfl)⟩
    omega
   ·have h12 := dlt_f g12
    refine W.exit (thn_x (thn_x (blk_hit ?_)))
    refine thn_n ?_
    refine W.seq ?_
    refine W.region ?_
    refine L.val (x_mv (v := .int _ _) rfl) rfl ?_
    refine L.val (x_cpl rfl rfl) rfl ?_
    refine L.val (x_as (v := .int _ _) rfl) rfl ?_
    refine L.nil ?_
    refine thn_n ?_
    refine W.ret (fin_mk (.inr rfl) ?_)
    have : k = s.length := by omega
    subst this
    rw [List.take_length]
    exact ⟨rfl, hw0⟩
def crcS (s : Str) : Int := moreC 0 s
theorem sum_crc (A : Nat → Prop) (v : Value) (s : Str) (w : World) (h : StrsAt A w v [s]) : Ret Tryz.prog 136 #[v] w fun r w' => r = .int .u32 (crcS s) ∧ w' = w := by
  obtain ⟨p, c, rfl, h1, h2, h3, h4, -⟩ := id h
  have hs : s.length ≤ 9223372036854775807 := h4 s (by simp)
  obtain ⟨b, o, rfl, hc⟩ := h.elem (i := 0) (by simp)
  refine ret_of_W Tryz.func136 rfl (Nat.le_of_ble_eq_true rfl) (res1 rfl) ?_
  refine W.seq ?_
  refine W.region ?_
  refine L.val (x_as (v := .int _ _) rfl) rfl ?_
  refine L.nil ?_
  refine thn_n ?_
  refine W.seq ?_
  refine W.region ?_
  refine L.val (x_as (v := .int _ _) rfl) rfl ?_
  refine L.nil ?_
  refine thn_n ?_
  refine W.seq ?_
  refine W.seq ?_
  refine W.region ?_
  refine L.val (x_mv (v := .slice _ _ _) rfl) rfl ?_
  refine L.val (x_len_slice Tryz.underlying33 rfl) rfl ?_
  refine L.val (x_mv (v := .int _ _) rfl) rfl ?_
  refine L.nil ?_
  refine thn_n ?_
  refine W.block ?_
  refine W.loop (fun m' E w' => ∃ (k : Nat), m' = 1 - k ∧ E 3 = .int .u32 (if k = 0 then 0 else crcS s) ∧ E 6 = .slice (some ⟨b, o, none⟩) 1 c ∧ E 7 = .int .i64 1 ∧ E 8 = .int .i64 (k : Nat) ∧ (k ≤ 1) ∧ (w' = w)) (1) ?_ ?_
  ·exact ⟨0, by omega, by first | rfl | exact vi (by omega), by first | rfl | exact vi (by omega), by first | rfl | exact vi (by omega), by first | rfl | exact vi (by omega), (by first | assumption | omega | rfl), (by first | assumption | omega | rfl)⟩
  ·rintro _ E wL9 ⟨k, em, e3, e6, e7, e8, hk, hw0⟩
   rw [upd_self e3, upd_self e6, upd_self e7, upd_self e8]
   refine W.seq ?_
   refine W.region ?_
   refine L.val (x_lss rfl rfl) rfl ?_
   refine L.nil ?_
   refine thn_n ?_
   refine W.seq ?_
   refine W.cond (b := _) rfl (fun g9 => ?_) (fun g9 => ?_)
   ·have h9 := of_decide_eq_true g9
    have h0 : k = 0 := by omega
    subst h0
    rw [hw0]
    refine W.skip ?_
    refine thn_n ?_
    refine W.seq ?_
    refine W.block ?_
    refine W.seq ?_
    refine W.region ?_
    refine L.val (x_ia1 (j := 0) Tryz.underlying33 koct2_sz9 rfl rfl (by omega) (by omega)) rfl ?_
    refine L.val (x_ld (v := S _) koct2_oc9 rfl hc) rfl ?_
    refine L.val (x_as (v := S _) rfl) rfl ?_
    refine L.nil ?_
    refine thn_n ?_
    refine W.region ?_
    refine L.val (x_mv (v := .int _ _) rfl) rfl ?_
    refine L.val (x_mv (v := S _) rfl) rfl ?_
    refine L.ret (x_call koct2_en159 rfl) rfl (more_crc _ _ hs _) ?_
    rintro _ w14 ⟨rfl, hq⟩
    rw [hq]
    refine L.val (x_as (v := .int _ _) rfl) rfl ?_
    refine L.nil ?_
    refine blk_n ?_
    refine thn_n ?_
    refine W.region ?_
    refine L.val (x_add rfl rfl (wr64 (by omega))) rfl ?_
    refine L.val (x_mv (v := .int _ _) rfl) rfl ?_
    refine L.nil ?_
    refine thn_n ⟨rfl, ?_⟩
    refine ⟨_, ?_, 1, rfl, by first | rfl | exact vi (by omega), by first | rfl | exact vi (by omega), by first | rfl | exact vi (by omega), by first | rfl | exact vi (by omega), (by first | assumption | omega | rfl), (by first | assumption | omega | rfl)⟩
    omega
   ·have h9 := dlt_f g9
    refine W.exit (thn_x (thn_x (blk_hit ?_)))
    refine thn_n ?_
    refine W.seq ?_
    refine W.region ?_
    refine L.val (x_mv (v := .int _ _) rfl) rfl ?_
    refine L.val (x_as (v := .int _ _) rfl) rfl ?_
    refine L.nil ?_
    refine thn_n ?_
    refine W.ret (fin_mk (.inr rfl) ?_)
    have : k = 1 := by omega
    subst this
    exact ⟨rfl, hw0⟩
end Go.Gx
namespace Go.Gx
open Go.Proofs
theorem koct3_el5 : elT Tryz.prog 5 1 = true := by kernel_rfl
theorem koct3_el9 : elT Tryz.prog 9 1 = true := by kernel_rfl
theorem koct3_en111 : Go.Proofs.Enters Tryz.prog 111 := Go.Proofs.enters_of Tryz.func111 (by kernel_rfl) rfl
theorem koct3_en112 : Go.Proofs.Enters Tryz.prog 112 := Go.Proofs.enters_of Tryz.func112 (by kernel_rfl) rfl
theorem koct3_en136 : Go.Proofs.Enters Tryz.prog 136 := Go.Proofs.enters_of Tryz.func136 (by kernel_rfl) rfl
theorem koct3_en91 : Go.Proofs.Enters Tryz.prog 91 := Go.Proofs.enters_of Tryz.func91 (by kernel_rfl) rfl
theorem koct3_en92 : Go.Proofs.Enters Tryz.prog 92 := Go.Proofs.enters_of Tryz.func92 (by kernel_rfl) rfl
theorem koct3_oc9 : oneCellT Tryz.prog 9 = true := by kernel_rfl
theorem koct3_sz9 : (Tryz.prog.info? 9).map (·.size) = some 1 := by kernel_rfl
theorem koct3_zr145 : (Tryz.prog.info? 145).bind (·.zero) = some (Value.agg [Value.pointer none, Value.slice none 0 0].toArray) := by kernel_rfl
def sumB (s : Str) : Str := [lowB (crcS s / 2 ^ (24 : Int).toNat), lowB (crcS s / 2 ^ (16 : Int).toNat), lowB (crcS s / 2 ^ (8 : Int).toNat), lowB (crcS s)]
def frm (s : Str) : Str := textB s ++ sumB (textB s)
def tooBig (l : List Str) : Bool := l.any fun s => decide (20000 < s.length)
def makeS (l : List Str) : Str × Int := if tooBig l then ([], 3) else ((l.map frm).flatten, 0)
theorem anyW_take {α : Type} {l : List α} {p : α → Bool} {k : Nat} (h : k < l.length) (d : α) : (l.take (k + 1)).any p = ((l.take k).any p || p (l.getD k d)) := by
  rw [List.take_add_one, List.getElem?_eq_getElem h, List.any_append, List.getD_eq_getElem?_getD, List.getElem?_eq_getElem h]; simp
theorem anyW_of {α : Type} {l : List α} {p : α → Bool} {k : Nat} (h : (l.take k).any p = true) : l.any p = true := by
  rw [List.any_eq_true] at h ⊢
  obtain ⟨x, hx, hp⟩ := h
  exact ⟨x, List.mem_of_mem_take hx, hp⟩
theorem fsum_ok (s : Str) (hs : s.length ≤ 9223372036854775807) (w : World) : Ret Tryz.prog 112 #[S s] w fun v w' => v = S (sumB s) ∧ Bel w w' := by
  refine ret_of_W Tryz.func112 rfl (Nat.le_of_ble_eq_true rfl) (res1 rfl) ?_
  have hB := Gr.refl (fun _ => False) w
  refine W.seq ?_
  refine W.region ?_
  refine L.val (x_as (v := S _) rfl) rfl ?_
  refine L.nil ?_
  refine thn_n ?_
  refine W.seq ?_
  refine W.region ?_
  refine L.val (x_mv (v := S _) rfl) rfl ?_
  refine L.bs (sz := 1) (cells := [S s]) Tryz.underlying33 koct3_el9 rfl rfl rfl rfl (fun w5 bx5 hw hz5 => ?_)
  have hB := hB.carry hw
  refine L.ret (x_call koct3_en136 rfl) rfl (sum_crc _ _ s _ (strs_of_box (A := fun _ => False) [s] bx5 (fun f => f) (by simp) (by simpa using hs))) ?_
  rintro _ w6 ⟨rfl, hq⟩
  rw [hq]
  refine L.val (x_as (v := .int _ _) rfl) rfl ?_
  refine L.nil ?_
  refine thn_n ?_
  refine W.seq ?_
  refine W.region ?_
  refine L.val (x_mv (v := .int _ _) rfl) rfl ?_
  refine L.val (x_shr rfl rfl (by omega) (by show _ ≤ ((32 : Nat) : Int); omega)) rfl ?_
  refine L.val (x_convB (by rw [Tryz.underlying187]; rfl) Tryz.underlying5 rfl) rfl ?_
  refine L.val (x_mv (v := .int _ _) rfl) rfl ?_
  refine L.val (x_shr rfl rfl (by omega) (by show _ ≤ ((32 : Nat) : Int); omega)) rfl ?_
  refine L.val (x_convB (by rw [Tryz.underlying187]; rfl) Tryz.underlying5 rfl) rfl ?_
  refine L.val (x_mv (v := .int _ _) rfl) rfl ?_
  refine L.val (x_shr rfl rfl (by omega) (by show _ ≤ ((32 : Nat) : Int); omega)) rfl ?_
  refine L.val (x_convB (by rw [Tryz.underlying187]; rfl) Tryz.underlying5 rfl) rfl ?_
  refine L.val (x_mv (v := .int _ _) rfl) rfl ?_
  refine L.val (x_convB (by rw [Tryz.underlying187]; rfl) Tryz.underlying5 rfl) rfl ?_
  refine L.bs (sz := 1) (cells := (sumB s).map B8) Tryz.underlying77 koct3_el5 rfl rfl rfl rfl (fun w18 bx18 hw hz18 => ?_)
  have hB := hB.carry hw; have bx5 := bx5.carry hw
  refine L.val (x_b2s (l := sumB s) Tryz.underlying77 Tryz.underlying5 Tryz.underlying9 rfl rfl (fun j hj => bx18.row rfl j hj)) rfl ?_
  refine L.val (x_as (v := S _) rfl) rfl ?_
  refine L.nil ?_
  refine thn_n ?_
  refine W.ret (fin_mk (.inr rfl) ?_)
  exact ⟨rfl, hB⟩
theorem sumB_len (s : Str) : (sumB s).length = 4 := rfl
theorem frm_len {s : Str} (h : s.length ≤ 20000) : (frm s).length ≤ s.length + 13 := by
  unfold frm textB
  have := numB_len (n := s.length) (by omega)
  simp only [List.length_append, sumB_len]; omega
theorem flat_frm {l : List Str} (h : tooBig l = false) : (l.map frm).flatten.length ≤ (l.map fun s => min s.length 30000 + 13).sum := by
  induction l with
  | nil => simp
  | cons s l ih =>
    unfold tooBig at h ih
    rw [List.any_cons, Bool.or_eq_false_iff] at h
    have := ih h.2
    have h1 := h.1
    simp only [decide_eq_false_iff_not] at h1
    have := frm_len (s := s) (by omega)
    simp only [List.map_cons, List.flatten_cons, List.length_append, List.sum_cons]
    omega
theorem sum_take_le (l : List Str) (k : Nat) : ((l.take k).map fun s => min s.length 30000 + 13).sum ≤ (l.map fun s => min s.length 30000 + 13).sum := by
  conv => rhs; rw [← List.take_append_drop k l, List.map_append, List.sum_append]
  omega
theorem make_ok (A : Nat → Prop) (v : Value) (l : List Str) (w : World) (h0 : StrsAt A w v l) (hl : (l.map fun s => min s.length 30000 + 13).sum ≤ 10000000) :
    Ret Tryz.prog 80 #[v] w fun r w' => r = .tuple #[S (makeS l).1, .int .i64 (makeS l).2] ∧ Bel w w' := by
  have h := (h0.up).mono (A' := fun k => w.heap.size ≤ k) (fun _ _ hk => .inr hk)
  obtain ⟨p, c, rfl, h1, h2, h3, h4, -⟩ := id h
  refine ret_of_W Tryz.func80 rfl (Nat.le_of_ble_eq_true rfl) (res2 rfl) ?_
  have hB := Gr.refl (fun _ => False) w
  refine W.seq ?_
  refine W.region ?_
  refine L.val (x_as (v := S _) rfl) rfl ?_
  refine L.val (x_as (v := .int _ _) rfl) rfl ?_
  refine L.nil ?_
  refine thn_n ?_
  refine W.seq ?_
  refine W.region ?_
  refine L.alloc (cs := [Value.pointer none, Value.slice none 0 0]) koct3_zr145 rfl rfl (fun w4 bx4 hw hz4 => ?_)
  have hB := hB.carry hw; have h := h.carry hw
  refine L.nil ?_
  refine thn_n ?_
  refine W.seq ?_
  refine W.seq ?_
  refine W.region ?_
  refine L.val (x_mv (v := .slice _ _ _) rfl) rfl ?_
  refine L.val (x_len_slice Tryz.underlying33 rfl) rfl ?_
  refine L.val (x_mv (v := .int _ _) rfl) rfl ?_
  refine L.nil ?_
  refine thn_n ?_
  refine W.block ?_
  refine W.loop (fun m' E w' => ∃ (k : Nat), m' = l.length - k ∧ E 4 = .pointer (some ⟨w.heap.size, 0, none⟩) ∧ E 8 = .slice p l.length c ∧ E 9 = .int .i64 (l.length : Nat) ∧ E 10 = .int .i64 (k : Nat) ∧ (k ≤ l.length) ∧ (Bel w w') ∧ (StrsAt (fun k => w.heap.size ≤ k) w' (.slice p l.length c) l) ∧ (BuilderIs w' w.heap.size ((l.take k).map frm).flatten) ∧ (tooBig (l.take k) = false)) (l.length) ?_ ?_
  ·exact ⟨0, by omega, by first | rfl | exact vi (by omega) | exact vs (by first | assumption | (rw [hst]; done) | (rw [hst]; simp only [List.append_assoc])), by first | rfl | exact vi (by omega) | exact vs (by first | assumption | (rw [hst]; done) | (rw [hst]; simp only [List.append_assoc])), by first | rfl | exact vi (by omega) | exact vs (by first | assumption | (rw [hst]; done) | (rw [hst]; simp only [List.append_assoc])), by first | rfl | exact vi (by omega) | exact vs (by first | assumption | (rw [hst]; done) | (rw [hst]; simp only [List.append_assoc])), (by first | assumption | omega | rfl), (by first | assumption | omega | rfl), (by first | assumption | omega | rfl), (by exact builder_new bx4), (by rfl)⟩
  ·rintro _ E wL11 ⟨k, em, e4, e8, e9, e10, hk, hB, h, hD, hall⟩
   rw [upd_self e4, upd_self e8, upd_self e9, upd_self e10]
   refine W.seq ?_
   refine W.region ?_
   refine L.val (x_lss rfl rfl) rfl ?_
   refine L.nil ?_
   refine thn_n ?_
   refine W.seq ?_
   refine W.cond (b := _) rfl (fun g11 => ?_) (fun g11 => ?_)
   ·have h11 := of_decide_eq_true g11
    have hlt : k < l.length := by omega
    obtain ⟨bl, ol, rfl, hc⟩ := h.elem hlt
    have hsl : (l.getD k []).length ≤ 9223372036854775807 := h4 _ (by rw [List.getD_eq_getElem?_getD, List.getElem?_eq_getElem hlt]; exact List.getElem_mem hlt)
    have hfl := Nat.le_trans (flat_frm hall) (Nat.le_trans (sum_take_le l k) hl)
    have hstep : tooBig (l.take (k + 1)) = (tooBig (l.take k) || decide (20000 < (l.getD k []).length)) := anyW_take hlt []
    refine W.skip ?_
    refine thn_n ?_
    refine W.seq ?_
    refine W.block ?_
    refine W.seq ?_
    refine W.region ?_
    refine L.val (x_ia1 (j := k) Tryz.underlying33 koct3_sz9 rfl rfl (by omega) (by omega)) rfl ?_
    refine L.val (x_ld (v := S _) koct3_oc9 rfl hc) rfl ?_
    refine L.val (x_as (v := S _) rfl) rfl ?_
    refine L.nil ?_
    refine thn_n ?_
    refine W.seq ?_
    refine W.seq ?_
    refine W.region ?_
    refine L.val (x_mv (v := S _) rfl) rfl ?_
    refine L.val (x_len_str Tryz.underlying9 rfl) rfl ?_
    refine L.val (x_gtr rfl rfl) rfl ?_
    refine L.nil ?_
    refine thn_n ?_
    refine W.cond (b := _) rfl (fun g16 => ?_) (fun g16 => ?_)
    ·have h16 := of_decide_eq_true g16
     have hbig : tooBig l = true := anyW_of (k := k + 1) (by show tooBig _ = true; rw [hstep, decide_eq_true (by omega), Bool.or_true])
     refine W.seq ?_
     refine W.region ?_
     refine L.val (x_as (v := S _) rfl) rfl ?_
     refine L.val (x_as (v := .int _ _) rfl) rfl ?_
     refine L.nil ?_
     refine thn_n ?_
     refine W.ret (thn_r (blk_r (thn_r (thn_r (blk_r (thn_r (fin_mk (.inr rfl) ?_)))))))
     unfold makeS
     rw [if_pos hbig]
     exact ⟨rfl, hB⟩
    ·have h16 := dlt_f g16
     have hsm : (l.getD k []).length ≤ 20000 := by omega
     have hall2 : tooBig (l.take (k + 1)) = false := by rw [hstep, hall, decide_eq_false (by omega)]; rfl
     have hfl2 := frm_len hsm
     have hfx : (frm (l.getD k [])).length = (textB (l.getD k [])).length + 4 := by unfold frm; rw [List.length_append, sumB_len]
     refine W.skip ?_
     refine thn_n ?_
     refine W.seq ?_
     refine W.region ?_
     refine L.val (x_mv (v := S _) rfl) rfl ?_
     refine L.ret (x_call koct3_en111 rfl) rfl (text_ok _ (by omega) _) ?_
     rintro _ w18 ⟨rfl, hw⟩
     have hB := hB.carry hw; have h := h.carry hw; have hD := hD.carry hw
     refine L.val (x_as (v := S _) rfl) rfl ?_
     refine L.nil ?_
     refine thn_n ?_
     refine W.seq ?_
     refine W.region ?_
     refine L.val (x_mv (v := S _) rfl) rfl ?_
     refine L.ret (x_call koct3_en91 rfl) rfl (wstr_ok _ _ _ _ hD (by omega)) ?_
     rintro _ w20 ⟨hD20, hG20⟩
     refine L.nil ?_
     refine thn_n ?_
     refine W.region ?_
     have hB := hB.step hG20 (fun i hi e => by omega)
     have h := h.carryR hG20 (fun _ e => e)
     refine L.val (x_mv (v := S _) rfl) rfl ?_
     refine L.ret (x_call koct3_en112 rfl) rfl (fsum_ok _ (by omega) _) ?_
     rintro _ w22 ⟨rfl, hw⟩
     have hB := hB.carry hw; have h := h.carry hw; have hD20 := hD20.carry hw
     refine L.ret (x_call koct3_en91 rfl) rfl (wstr_ok _ _ _ _ hD20 (by rw [List.length_append, sumB_len]; omega)) ?_
     rintro _ w23 ⟨hD23, hG23⟩
     refine L.nil ?_
     refine blk_n ?_
     refine thn_n ?_
     refine W.region ?_
     have hB := hB.step hG23 (fun i hi e => by omega)
     have h := h.carryR hG23 (fun _ e => e)
     have hD2 : BuilderIs w23 w.heap.size ((l.take (k + 1)).map frm).flatten := by
       rw [take_snoc (d := []) hlt, List.map_append, List.flatten_append]
       simpa [frm] using hD23
     refine L.val (x_add rfl rfl (wr64 (by omega))) rfl ?_
     refine L.val (x_mv (v := .int _ _) rfl) rfl ?_
     refine L.nil ?_
     refine thn_n ⟨rfl, ?_⟩
     refine ⟨_, ?_, k + 1, rfl, by first | rfl | exact vi (by omega) | exact vs (by first | assumption | (rw [hst]; done) | (rw [hst]; simp only [List.append_assoc])), by first | rfl | exact vi (by omega) | exact vs (by first | assumption | (rw [hst]; done) | (rw [hst]; simp only [List.append_assoc])), by first | rfl | exact vi (by omega) | exact vs (by first | assumption | (rw [hst]; done) | (rw [hst]; simp only [List.append_assoc])), by first | rfl | exact vi (by omega) | exact vs (by first | assumption | (rw [hst]; done) | (rw [hst]; simp only [List.append_assoc])), (by first | assumption | omega | rfl), (by first | assumption | omega | rfl), (by first | assumption | omega | rfl), (by exact hD2), (by exact hall2)⟩
     omega
   ·have h11 := dlt_f g11
    refine W.exit (thn_x (thn_x (blk_hit ?_)))
    refine thn_n ?_
    refine W.seq ?_
    refine W.region ?_
    refine L.ret (x_call koct3_en92 rfl) rfl (bstr_ok _ _ _ hD) ?_
    rintro _ w25 ⟨rfl, hG25⟩
    have hk2 : k = l.length := by omega
    subst hk2
    rw [List.take_length] at hall ⊢
    refine L.val (x_as (v := S _) rfl) rfl ?_
    refine L.val (x_as (v := .int _ _) rfl) rfl ?_
    refine L.nil ?_
    refine thn_n ?_
    refine W.ret (fin_mk (.inr rfl) ?_)
    unfold makeS
    rw [hall]
    exact ⟨rfl, hB.step hG25 (fun i hi e => by omega)⟩
end Go.Gx
