/- The library's sort of strings: patterns broken, the recursion, the whole. Conditions: none. -/
import Derived.Sort.LotD3
import Derived.Test.YteehllhldaopjaaSrt3
namespace Go.Gx
open Go.Proofs Go.Sort
theorem ksrt4_en124 : Go.Proofs.Enters Try.prog 124 := Go.Proofs.enters_of Try.func124 (by kernel_rfl) rfl
theorem ksrt4_en152 : Go.Proofs.Enters Try.prog 152 := Go.Proofs.enters_of Try.func152 (by kernel_rfl) rfl
theorem ksrt4_en167 : Go.Proofs.Enters Try.prog 167 := Go.Proofs.enters_of Try.func167 (by kernel_rfl) rfl
theorem ksrt4_en168 : Go.Proofs.Enters Try.prog 168 := Go.Proofs.enters_of Try.func168 (by kernel_rfl) rfl
theorem ksrt4_mixed : Try.prog.follows .mixedOrders = true := by kernel_rfl
theorem ksrt4_oc160 : oneCellT Try.prog 160 = true := by kernel_rfl
theorem ksrt4_oc9 : oneCellT Try.prog 9 = true := by kernel_rfl
theorem ksrt4_sz160 : (Try.prog.info? 160).map (·.size) = some 1 := by kernel_rfl
theorem ksrt4_sz9 : (Try.prog.info? 9).map (·.size) = some 1 := by kernel_rfl
theorem ksrt4_zr160 : (Try.prog.info? 160).bind (·.zero) = some (Value.int .u64 0) := by kernel_rfl

/-- What the table of lengths must say. -/
def lenTab (l : List UInt8) : Bool := (List.range 256).all fun y => decide (y = 0) || (Nat.ble 1 (l.getD y 0).toNat && Nat.ble (l.getD y 0).toNat 8 && Nat.ble (2 ^ ((l.getD y 0).toNat - 1)) y && Nat.blt y (2 ^ (l.getD y 0).toNat))
theorem lenTab_at {l : List UInt8} (h : lenTab l = true) {y : Nat} (h1 : 1 ≤ y) (h2 : y < 256) : 1 ≤ (l.getD y 0).toNat ∧ (l.getD y 0).toNat ≤ 8 ∧ 2 ^ ((l.getD y 0).toNat - 1) ≤ y ∧ y < 2 ^ (l.getD y 0).toNat := by
  have := List.all_eq_true.1 h y (List.mem_range.2 h2)
  simp only [Bool.or_eq_true, Bool.and_eq_true, decide_eq_true_eq, Nat.ble_eq, Nat.blt_eq] at this
  rcases this with h | ⟨⟨⟨a, b⟩, c⟩, d⟩
  · omega
  · exact ⟨a, b, c, d⟩
theorem len_end {x k t : Nat} (h1 : 1 ≤ t) (h2 : 2 ^ (t - 1) ≤ x / 2 ^ k) (h3 : x / 2 ^ k < 2 ^ t) : 2 ^ (k + t - 1) ≤ x ∧ x < 2 ^ (k + t) := by
  have hp : 0 < 2 ^ k := Nat.two_pow_pos k
  constructor
  · have := (Nat.le_div_iff_mul_le hp).1 h2
    rw [show k + t - 1 = (t - 1) + k by omega, Nat.pow_add]; exact this
  · have := (Nat.div_lt_iff_lt_mul hp).1 h3
    rw [Nat.add_comm, Nat.pow_add]; exact this
theorem shr_q {x k s : Nat} (c : Nat) (hc : c = 2 ^ s) : (x / 2 ^ k) / c = x / 2 ^ (k + s) := by
  rw [hc, Nat.div_div_eq_div_mul, Nat.pow_add]

theorem L.tab {P : Program} {n : Nat} {Q : Post} {D : List Deferred} {E : Env} {w : World} {ops : Array Oper} {r : List Oper} {d : Nat} {x y : Operand} {t s : TypeId} {p : String} {af : Array Edge} {a : Str} {k : IntKind} {i : Int} (j : Nat) (hu : P.underlying s = some .string) (hx : ev E x = S a) (hy : ev E y = .int k i) (hi : i = (j : Nat))
    (ht : lenTab a = true) (hl : Nat.ble 256 a.length = true) (h1 : 1 ≤ j) (h2 : j < 256) (hd : Nat.blt d n = true) (kk : ∀ m : Nat, 1 ≤ m → m ≤ 8 → 2 ^ (m - 1) ≤ j → j < 2 ^ m → L P n ops Q r D (upd E d (.int .u8 (m : Nat))) w) : L P n ops Q (⟨some d, .index s x y, t, p, af, none⟩ :: r) D E w := by
  have h := lenTab_at ht h1 h2
  exact L.val (x_ixs hu hx hy hi (Nat.lt_of_lt_of_le h2 (Nat.le_of_ble_eq_true hl))) hd (kk _ h.1 h.2.1 h.2.2.1 h.2.2.2)

set_option maxRecDepth 100000 in
theorem len64_ok (x : Nat) (w : World) (h1 : 1 ≤ x) (h2 : x < 18446744073709551616) : Ret Try.prog 152 #[.int .u64 (x : Nat)] w fun v w' => ∃ k : Nat, v = .int .i64 (k : Nat) ∧ 2 ^ (k - 1) ≤ x ∧ x < 2 ^ k ∧ 1 ≤ k ∧ k ≤ 100 ∧ Bel w w' := by
  refine ret_of_W Try.func152 rfl (Nat.le_of_ble_eq_true rfl) (res1 rfl) ?_
  have hB := Gr.refl (fun _ => False) w
  refine W.seq ?_
  refine W.region ?_
  refine L.val (x_as (v := .int _ _) rfl) rfl ?_
  refine L.nil ?_
  refine thn_n ?_
  refine W.cut (fun D' E' w' => D' = [] ∧ ∃ k : Nat, E' 0 = .int .u64 (x / 2 ^ k : Nat) ∧ E' 2 = .int .i64 (k : Nat) ∧ 1 ≤ x / 2 ^ k ∧ x / 2 ^ k < 4294967296 ∧ k ≤ 32 ∧ Bel w w') ?_ ?_
  ·refine W.seq ?_
   refine W.region ?_
   refine L.val (x_mv (v := .int _ _) rfl) rfl ?_
   refine L.val (x_geq rfl rfl) rfl ?_
   refine L.nil ?_
   refine thn_n ?_
   refine W.cond (b := _) rfl (fun g4 => ?_) (fun g4 => ?_)
   ·have h4 := of_decide_eq_true g4
    refine W.seq ?_
    refine W.region ?_
    refine L.val (x_mv (v := .int _ _) rfl) rfl ?_
    refine L.val (x_shr rfl rfl (by omega) (by show _ ≤ ((64 : Nat) : Int); omega)) rfl ?_
    refine L.val (x_as (v := .int _ _) rfl) rfl ?_
    refine L.nil ?_
    refine thn_n ?_
    refine W.region ?_
    refine L.val (x_as (v := .int _ _) rfl) rfl ?_
    refine L.nil ?_
    refine thn_n ?_
    first
      | (refine ⟨rfl, 0, ?_, rfl, ?_, ?_, by omega, hB⟩ <;> simp <;> first | rfl | omega)
      | (refine ⟨rfl, 32, ?_, rfl, ?_, ?_, by omega, hB⟩ <;> simp <;> first | rfl | omega)
   ·have h4 := dle_f g4
    refine W.skip ?_
    refine thn_n ?_
    first
      | (refine ⟨rfl, 0, ?_, rfl, ?_, ?_, by omega, hB⟩ <;> simp <;> first | rfl | omega)
      | (refine ⟨rfl, 32, ?_, rfl, ?_, ?_, by omega, hB⟩ <;> simp <;> first | rfl | omega)
  ·rintro D E w7 ⟨rfl, k, e0, e2, a1, a2, a3, hB⟩
   rw [upd_self e0, upd_self e2]
   have hq := shr_q (x := x) (k := k) (s := 16) 65536 rfl
   refine W.cut (fun D' E' w' => D' = [] ∧ ∃ k : Nat, E' 0 = .int .u64 (x / 2 ^ k : Nat) ∧ E' 2 = .int .i64 (k : Nat) ∧ 1 ≤ x / 2 ^ k ∧ x / 2 ^ k < 65536 ∧ k ≤ 48 ∧ Bel w w') ?_ ?_
   ·refine W.seq ?_
    refine W.region ?_
    refine L.val (x_mv (v := .int _ _) rfl) rfl ?_
    refine L.val (x_geq rfl rfl) rfl ?_
    refine L.nil ?_
    refine thn_n ?_
    refine W.cond (b := _) rfl (fun g8 => ?_) (fun g8 => ?_)
    ·have h8 := of_decide_eq_true g8
     refine W.seq ?_
     refine W.region ?_
     refine L.val (x_mv (v := .int _ _) rfl) rfl ?_
     refine L.val (x_shr rfl rfl (by omega) (by show _ ≤ ((64 : Nat) : Int); omega)) rfl ?_
     refine L.val (x_as (v := .int _ _) rfl) rfl ?_
     refine L.nil ?_
     refine thn_n ?_
     refine W.region ?_
     refine L.val (x_mv (v := .int _ _) rfl) rfl ?_
     refine L.val (x_add rfl rfl (wr64 (by omega))) rfl ?_
     refine L.val (x_as (v := .int _ _) rfl) rfl ?_
     refine L.nil ?_
     refine thn_n ?_
     first
       | exact ⟨rfl, k, rfl, rfl, a1, by omega, by omega, hB⟩
       | exact ⟨rfl, k + 16, by rw [← hq]; rfl, rfl, by rw [← hq]; omega, by rw [← hq]; omega, by omega, hB⟩
    ·have h8 := dle_f g8
     refine W.skip ?_
     refine thn_n ?_
     first
       | exact ⟨rfl, k, rfl, rfl, a1, by omega, by omega, hB⟩
       | exact ⟨rfl, k + 16, by rw [← hq]; rfl, rfl, by rw [← hq]; omega, by rw [← hq]; omega, by omega, hB⟩
   ·rintro D E w13 ⟨rfl, k, e0, e2, a1, a2, a3, hB⟩
    rw [upd_self e0, upd_self e2]
    have hq := shr_q (x := x) (k := k) (s := 8) 256 rfl
    refine W.cut (fun D' E' w' => D' = [] ∧ ∃ k : Nat, E' 0 = .int .u64 (x / 2 ^ k : Nat) ∧ E' 2 = .int .i64 (k : Nat) ∧ 1 ≤ x / 2 ^ k ∧ x / 2 ^ k < 256 ∧ k ≤ 56 ∧ Bel w w') ?_ ?_
    ·refine W.seq ?_
     refine W.region ?_
     refine L.val (x_mv (v := .int _ _) rfl) rfl ?_
     refine L.val (x_geq rfl rfl) rfl ?_
     refine L.nil ?_
     refine thn_n ?_
     refine W.cond (b := _) rfl (fun g14 => ?_) (fun g14 => ?_)
     ·have h14 := of_decide_eq_true g14
      refine W.seq ?_
      refine W.region ?_
      refine L.val (x_mv (v := .int _ _) rfl) rfl ?_
      refine L.val (x_shr rfl rfl (by omega) (by show _ ≤ ((64 : Nat) : Int); omega)) rfl ?_
      refine L.val (x_as (v := .int _ _) rfl) rfl ?_
      refine L.nil ?_
      refine thn_n ?_
      refine W.region ?_
      refine L.val (x_mv (v := .int _ _) rfl) rfl ?_
      refine L.val (x_add rfl rfl (wr64 (by omega))) rfl ?_
      refine L.val (x_as (v := .int _ _) rfl) rfl ?_
      refine L.nil ?_
      refine thn_n ?_
      first
        | exact ⟨rfl, k, rfl, rfl, a1, by omega, by omega, hB⟩
        | exact ⟨rfl, k + 8, by rw [← hq]; rfl, rfl, by rw [← hq]; omega, by rw [← hq]; omega, by omega, hB⟩
     ·have h14 := dle_f g14
      refine W.skip ?_
      refine thn_n ?_
      first
        | exact ⟨rfl, k, rfl, rfl, a1, by omega, by omega, hB⟩
        | exact ⟨rfl, k + 8, by rw [← hq]; rfl, rfl, by rw [← hq]; omega, by rw [← hq]; omega, by omega, hB⟩
    ·rintro D E w19 ⟨rfl, k, e0, e2, a1, a2, a3, hB⟩
     rw [upd_self e0, upd_self e2]
     refine W.seq ?_
     refine W.region ?_
     refine L.val (x_mv (v := .int _ _) rfl) rfl ?_
     refine L.val (x_mv (v := .int _ _) rfl) rfl ?_
     refine L.val (x_conv (k' := .u8) (by rw [Try.underlying152]; rfl) Try.underlying5 rfl (wru8 (by omega))) rfl ?_
     refine L.tab (x / 2 ^ k) Try.underlying9 rfl rfl (by omega) (by kernel_rfl) (by kernel_rfl) a1 a2 rfl (fun m m1 m2 m3 m4 => ?_)
     refine L.val (x_conv (k' := .i64) (by rw [Try.underlying5]; rfl) Try.underlying3 rfl (wr64 (by omega))) rfl ?_
     refine L.val (x_add rfl rfl (wr64 (by omega))) rfl ?_
     refine L.val (x_as (v := .int _ _) rfl) rfl ?_
     refine L.nil ?_
     refine thn_n ?_
     refine W.ret (fin_mk (.inr rfl) ?_)
     have he := len_end m1 m3 m4
     exact ⟨_, vi (Int.natCast_add _ _).symm, he.1, he.2, by omega, by omega, hB⟩
theorem len_ok (x : Nat) (w : World) (h1 : 1 ≤ x) (h2 : x < 18446744073709551616) : Ret Try.prog 124 #[.int .u64 (x : Nat)] w fun v w' => ∃ k : Nat, v = .int .i64 (k : Nat) ∧ 2 ^ (k - 1) ≤ x ∧ x < 2 ^ k ∧ 1 ≤ k ∧ k ≤ 100 ∧ Bel w w' := by
  refine ret_of_W Try.func124 rfl (Nat.le_of_ble_eq_true rfl) (res1 rfl) ?_
  have hB := Gr.refl (fun _ => False) w
  refine W.seq ?_
  refine W.region ?_
  refine L.val (x_as (v := .int _ _) rfl) rfl ?_
  refine L.nil ?_
  refine thn_n ?_
  refine W.seq ?_
  refine W.cond (b := false) rfl (fun h => nomatch h) (fun _ => ?_)
  refine W.skip ?_
  refine thn_n ?_
  refine W.seq ?_
  refine W.region ?_
  refine L.val (x_mv (v := .int _ _) rfl) rfl ?_
  refine L.ret (x_call ksrt4_en152 rfl) rfl (len64_ok x _ h1 h2) ?_
  rintro _ w7 ⟨k, rfl, a1, a2, a3, a4, hw⟩
  have hB := hB.carry hw
  refine L.val (x_as (v := .int _ _) rfl) rfl ?_
  refine L.nil ?_
  refine thn_n ?_
  refine W.ret (fin_mk (.inr rfl) ?_)
  exact ⟨k, rfl, a1, a2, a3, a4, hB⟩
theorem pow_ok (x : Nat) (w : World) (h1 : 1 ≤ x) (h2 : x ≤ 2000000000000000000) : Ret Try.prog 167 #[.int .i64 (x : Nat)] w fun v w' => ∃ m : Nat, v = .int .u64 (m : Nat) ∧ x < m ∧ m ≤ 2 * x ∧ Bel w w' := by
  refine ret_of_W Try.func167 rfl (Nat.le_of_ble_eq_true rfl) (res1 rfl) ?_
  have hB := Gr.refl (fun _ => False) w
  refine W.seq ?_
  refine W.region ?_
  refine L.val (x_as (v := .int _ _) rfl) rfl ?_
  refine L.nil ?_
  refine thn_n ?_
  refine W.seq ?_
  refine W.region ?_
  refine L.val (x_mv (v := .int _ _) rfl) rfl ?_
  refine L.val (x_conv (k' := .u64) (by rw [Try.underlying3]; rfl) Try.underlying121 rfl (wru64 (by omega))) rfl ?_
  refine L.ret (x_call ksrt4_en124 rfl) rfl (len_ok x _ h1 (by omega)) ?_
  rintro _ w5 ⟨k, rfl, a1, a2, a3, a4, hw⟩
  have hB := hB.carry hw
  have h3 : 2 ^ k = 2 * 2 ^ (k - 1) := by
    rw [show k = k - 1 + 1 by omega, Nat.pow_succ]; simp; omega
  have h5 : k ≤ 64 := by
    refine Nat.le_of_lt ((Nat.pow_lt_pow_iff_right (a := 2) (by omega)).1 ?_)
    omega
  refine L.val (x_shl rfl rfl (by omega) (by show _ ≤ ((64 : Nat) : Int); omega)) rfl ?_
  refine L.val (x_as (v := .int _ _) rfl) rfl ?_
  refine L.nil ?_
  refine thn_n ?_
  refine W.ret (fin_mk (.inr rfl) ?_)
  refine ⟨2 ^ k, ?_, a2, by omega, hB⟩
  refine vi ?_
  rw [Int.one_mul, show ((k : Nat) : Int).toNat = k by simp, show (2 : Int) ^ k = ((2 ^ k : Nat) : Int) by simp]
  exact wru64 (by omega)
theorem next_ok (p : Nat) (r : Int) (w : World) (hp : Box w p 160 [.int .u64 r]) : Ret Try.prog 168 #[.pointer (some ⟨p, 0, none⟩)] w fun v w' => ∃ r' : Int, v = .int .u64 r' ∧ Gr (· = p) w w' ∧ Box w' p 160 [.int .u64 r'] := by
  refine ret_of_W Try.func168 rfl (Nat.le_of_ble_eq_true rfl) (res1 rfl) ?_
  have hB := Gr.refl (· = p) w
  refine W.seq ?_
  refine W.region ?_
  refine L.val (x_as (v := .int _ _) rfl) rfl ?_
  refine L.nil ?_
  refine thn_n ?_
  refine W.seq ?_
  refine W.drawS ksrt4_mixed ?_
  have hB := hB.carry (bel_drew _); have hp := hp.carry (bel_drew _)
  refine LA.take (i := 0) rfl (by kernel_rfl) (by kernel_rfl) (by kernel_rfl) (fun w => x_mv (v := .pointer _) rfl) rfl ?_
  refine LA.take (i := 1) rfl (by kernel_rfl) (by kernel_rfl) (by kernel_rfl) (fun w => x_nil rfl) rfl ?_
  refine LA.take (i := 3) rfl (by kernel_rfl) (by kernel_rfl) (by kernel_rfl) (fun w => x_mv (v := .pointer _) rfl) rfl ?_
  refine LA.take (i := 4) rfl (by kernel_rfl) (by kernel_rfl) (by kernel_rfl) (fun w => x_nil rfl) rfl ?_
  refine LA.step (rs := [2, 5]) (by kernel_rfl) (by simp) ⟨⟨_, rfl, ?_⟩, ⟨_, rfl, ?_⟩, trivial⟩
  ·refine L.val (x_ld (v := .int _ _) ksrt4_oc160 rfl (hp.cell (i := 0) rfl)) rfl ?_
   refine L.nil ?_
   refine thn_n ?_
   refine LA.step (rs := [5]) (by kernel_rfl) (by simp) ⟨⟨_, rfl, ?_⟩, trivial⟩
   refine L.val (x_ld (v := .int _ _) ksrt4_oc160 rfl (hp.cell (i := 0) rfl)) rfl ?_
   refine L.nil ?_
   refine thn_n ?_
   refine LA.take (i := 6) rfl (by kernel_rfl) (by kernel_rfl) (by kernel_rfl) (fun w => x_shl rfl rfl (by omega) (by show _ ≤ ((64 : Nat) : Int); omega)) rfl ?_
   refine LA.take (i := 7) rfl (by kernel_rfl) (by kernel_rfl) (by kernel_rfl) (fun w => x_bxor rfl rfl) rfl ?_
   refine LA.take (i := 8) rfl (by kernel_rfl) (by kernel_rfl) (by kernel_rfl) (fun w => x_nil rfl) rfl ?_
   refine LA.step (rs := [9]) (by kernel_rfl) (by simp) ⟨⟨_, rfl, ?_⟩, trivial⟩
   refine L.set (v := .int _ _) ksrt4_sz160 rfl rfl rfl hp rfl (fun wl11 hp hw hzl11 => ?_)
   have hB := hB.trans hw
   refine L.nil ?_
   refine thn_n ?_
   refine LA.done (by kernel_rfl) ?_
   refine nrm_n ?_
   refine thn_n ?_
   refine W.seq ?_
   refine W.drawS ksrt4_mixed ?_
   have hB := hB.carry (bel_drew _); have hp := hp.carry (bel_drew _)
   refine LA.take (i := 0) rfl (by kernel_rfl) (by kernel_rfl) (by kernel_rfl) (fun w => x_mv (v := .pointer _) rfl) rfl ?_
   refine LA.take (i := 1) rfl (by kernel_rfl) (by kernel_rfl) (by kernel_rfl) (fun w => x_nil rfl) rfl ?_
   refine LA.take (i := 3) rfl (by kernel_rfl) (by kernel_rfl) (by kernel_rfl) (fun w => x_mv (v := .pointer _) rfl) rfl ?_
   refine LA.take (i := 4) rfl (by kernel_rfl) (by kernel_rfl) (by kernel_rfl) (fun w => x_nil rfl) rfl ?_
   refine LA.step (rs := [2, 5]) (by kernel_rfl) (by simp) ⟨⟨_, rfl, ?_⟩, ⟨_, rfl, ?_⟩, trivial⟩
   ·refine L.val (x_ld (v := .int _ _) ksrt4_oc160 rfl (hp.cell (i := 0) rfl)) rfl ?_
    refine L.nil ?_
    refine thn_n ?_
    refine LA.step (rs := [5]) (by kernel_rfl) (by simp) ⟨⟨_, rfl, ?_⟩, trivial⟩
    refine L.val (x_ld (v := .int _ _) ksrt4_oc160 rfl (hp.cell (i := 0) rfl)) rfl ?_
    refine L.nil ?_
    refine thn_n ?_
    refine LA.take (i := 6) rfl (by kernel_rfl) (by kernel_rfl) (by kernel_rfl) (fun w => x_shr rfl rfl (by omega) (by show _ ≤ ((64 : Nat) : Int); omega)) rfl ?_
    refine LA.take (i := 7) rfl (by kernel_rfl) (by kernel_rfl) (by kernel_rfl) (fun w => x_bxor rfl rfl) rfl ?_
    refine LA.take (i := 8) rfl (by kernel_rfl) (by kernel_rfl) (by kernel_rfl) (fun w => x_nil rfl) rfl ?_
    refine LA.step (rs := [9]) (by kernel_rfl) (by simp) ⟨⟨_, rfl, ?_⟩, trivial⟩
    refine L.set (v := .int _ _) ksrt4_sz160 rfl rfl rfl hp rfl (fun wl21 hp hw hzl21 => ?_)
    have hB := hB.trans hw
    refine L.nil ?_
    refine thn_n ?_
    refine LA.done (by kernel_rfl) ?_
    refine nrm_n ?_
    refine thn_n ?_
    refine W.seq ?_
    refine W.drawS ksrt4_mixed ?_
    have hB := hB.carry (bel_drew _); have hp := hp.carry (bel_drew _)
    refine LA.take (i := 0) rfl (by kernel_rfl) (by kernel_rfl) (by kernel_rfl) (fun w => x_mv (v := .pointer _) rfl) rfl ?_
    refine LA.take (i := 1) rfl (by kernel_rfl) (by kernel_rfl) (by kernel_rfl) (fun w => x_nil rfl) rfl ?_
    refine LA.take (i := 3) rfl (by kernel_rfl) (by kernel_rfl) (by kernel_rfl) (fun w => x_mv (v := .pointer _) rfl) rfl ?_
    refine LA.take (i := 4) rfl (by kernel_rfl) (by kernel_rfl) (by kernel_rfl) (fun w => x_nil rfl) rfl ?_
    refine LA.step (rs := [2, 5]) (by kernel_rfl) (by simp) ⟨⟨_, rfl, ?_⟩, ⟨_, rfl, ?_⟩, trivial⟩
    ·refine L.val (x_ld (v := .int _ _) ksrt4_oc160 rfl (hp.cell (i := 0) rfl)) rfl ?_
     refine L.nil ?_
     refine thn_n ?_
     refine LA.step (rs := [5]) (by kernel_rfl) (by simp) ⟨⟨_, rfl, ?_⟩, trivial⟩
     refine L.val (x_ld (v := .int _ _) ksrt4_oc160 rfl (hp.cell (i := 0) rfl)) rfl ?_
     refine L.nil ?_
     refine thn_n ?_
     refine LA.take (i := 6) rfl (by kernel_rfl) (by kernel_rfl) (by kernel_rfl) (fun w => x_shl rfl rfl (by omega) (by show _ ≤ ((64 : Nat) : Int); omega)) rfl ?_
     refine LA.take (i := 7) rfl (by kernel_rfl) (by kernel_rfl) (by kernel_rfl) (fun w => x_bxor rfl rfl) rfl ?_
     refine LA.take (i := 8) rfl (by kernel_rfl) (by kernel_rfl) (by kernel_rfl) (fun w => x_nil rfl) rfl ?_
     refine LA.step (rs := [9]) (by kernel_rfl) (by simp) ⟨⟨_, rfl, ?_⟩, trivial⟩
     refine L.set (v := .int _ _) ksrt4_sz160 rfl rfl rfl hp rfl (fun wl31 hp hw hzl31 => ?_)
     have hB := hB.trans hw
     refine L.nil ?_
     refine thn_n ?_
     refine LA.done (by kernel_rfl) ?_
     refine nrm_n ?_
     refine thn_n ?_
     refine W.seq ?_
     refine W.region ?_
     refine L.val (x_mv (v := .pointer _) rfl) rfl ?_
     refine L.val (x_nil rfl) rfl ?_
     refine L.val (x_ld (v := .int _ _) ksrt4_oc160 rfl (hp.cell (i := 0) rfl)) rfl ?_
     refine L.val (x_as (v := .int _ _) rfl) rfl ?_
     refine L.nil ?_
     refine thn_n ?_
     refine W.ret (fin_mk (.inr rfl) ?_)
     exact ⟨_, rfl, hB, hp⟩
    ·refine L.val (x_ld (v := .int _ _) ksrt4_oc160 rfl (hp.cell (i := 0) rfl)) rfl ?_
     refine L.nil ?_
     refine thn_n ?_
     refine LA.take (i := 6) rfl (by kernel_rfl) (by kernel_rfl) (by kernel_rfl) (fun w => x_shl rfl rfl (by omega) (by show _ ≤ ((64 : Nat) : Int); omega)) rfl ?_
     refine LA.step (rs := [2]) (by kernel_rfl) (by simp) ⟨⟨_, rfl, ?_⟩, trivial⟩
     refine L.val (x_ld (v := .int _ _) ksrt4_oc160 rfl (hp.cell (i := 0) rfl)) rfl ?_
     refine L.nil ?_
     refine thn_n ?_
     refine LA.take (i := 7) rfl (by kernel_rfl) (by kernel_rfl) (by kernel_rfl) (fun w => x_bxor rfl rfl) rfl ?_
     refine LA.take (i := 8) rfl (by kernel_rfl) (by kernel_rfl) (by kernel_rfl) (fun w => x_nil rfl) rfl ?_
     refine LA.step (rs := [9]) (by kernel_rfl) (by simp) ⟨⟨_, rfl, ?_⟩, trivial⟩
     refine L.set (v := .int _ _) ksrt4_sz160 rfl rfl rfl hp rfl (fun wl31 hp hw hzl31 => ?_)
     have hB := hB.trans hw
     refine L.nil ?_
     refine thn_n ?_
     refine LA.done (by kernel_rfl) ?_
     refine nrm_n ?_
     refine thn_n ?_
     refine W.seq ?_
     refine W.region ?_
     refine L.val (x_mv (v := .pointer _) rfl) rfl ?_
     refine L.val (x_nil rfl) rfl ?_
     refine L.val (x_ld (v := .int _ _) ksrt4_oc160 rfl (hp.cell (i := 0) rfl)) rfl ?_
     refine L.val (x_as (v := .int _ _) rfl) rfl ?_
     refine L.nil ?_
     refine thn_n ?_
     refine W.ret (fin_mk (.inr rfl) ?_)
     exact ⟨_, rfl, hB, hp⟩
   ·refine L.val (x_ld (v := .int _ _) ksrt4_oc160 rfl (hp.cell (i := 0) rfl)) rfl ?_
    refine L.nil ?_
    refine thn_n ?_
    refine LA.take (i := 6) rfl (by kernel_rfl) (by kernel_rfl) (by kernel_rfl) (fun w => x_shr rfl rfl (by omega) (by show _ ≤ ((64 : Nat) : Int); omega)) rfl ?_
    refine LA.step (rs := [2]) (by kernel_rfl) (by simp) ⟨⟨_, rfl, ?_⟩, trivial⟩
    refine L.val (x_ld (v := .int _ _) ksrt4_oc160 rfl (hp.cell (i := 0) rfl)) rfl ?_
    refine L.nil ?_
    refine thn_n ?_
    refine LA.take (i := 7) rfl (by kernel_rfl) (by kernel_rfl) (by kernel_rfl) (fun w => x_bxor rfl rfl) rfl ?_
    refine LA.take (i := 8) rfl (by kernel_rfl) (by kernel_rfl) (by kernel_rfl) (fun w => x_nil rfl) rfl ?_
    refine LA.step (rs := [9]) (by kernel_rfl) (by simp) ⟨⟨_, rfl, ?_⟩, trivial⟩
    refine L.set (v := .int _ _) ksrt4_sz160 rfl rfl rfl hp rfl (fun wl21 hp hw hzl21 => ?_)
    have hB := hB.trans hw
    refine L.nil ?_
    refine thn_n ?_
    refine LA.done (by kernel_rfl) ?_
    refine nrm_n ?_
    refine thn_n ?_
    refine W.seq ?_
    refine W.drawS ksrt4_mixed ?_
    have hB := hB.carry (bel_drew _); have hp := hp.carry (bel_drew _)
    refine LA.take (i := 0) rfl (by kernel_rfl) (by kernel_rfl) (by kernel_rfl) (fun w => x_mv (v := .pointer _) rfl) rfl ?_
    refine LA.take (i := 1) rfl (by kernel_rfl) (by kernel_rfl) (by kernel_rfl) (fun w => x_nil rfl) rfl ?_
    refine LA.take (i := 3) rfl (by kernel_rfl) (by kernel_rfl) (by kernel_rfl) (fun w => x_mv (v := .pointer _) rfl) rfl ?_
    refine LA.take (i := 4) rfl (by kernel_rfl) (by kernel_rfl) (by kernel_rfl) (fun w => x_nil rfl) rfl ?_
    refine LA.step (rs := [2, 5]) (by kernel_rfl) (by simp) ⟨⟨_, rfl, ?_⟩, ⟨_, rfl, ?_⟩, trivial⟩
    ·refine L.val (x_ld (v := .int _ _) ksrt4_oc160 rfl (hp.cell (i := 0) rfl)) rfl ?_
     refine L.nil ?_
     refine thn_n ?_
     refine LA.step (rs := [5]) (by kernel_rfl) (by simp) ⟨⟨_, rfl, ?_⟩, trivial⟩
     refine L.val (x_ld (v := .int _ _) ksrt4_oc160 rfl (hp.cell (i := 0) rfl)) rfl ?_
     refine L.nil ?_
     refine thn_n ?_
     refine LA.take (i := 6) rfl (by kernel_rfl) (by kernel_rfl) (by kernel_rfl) (fun w => x_shl rfl rfl (by omega) (by show _ ≤ ((64 : Nat) : Int); omega)) rfl ?_
     refine LA.take (i := 7) rfl (by kernel_rfl) (by kernel_rfl) (by kernel_rfl) (fun w => x_bxor rfl rfl) rfl ?_
     refine LA.take (i := 8) rfl (by kernel_rfl) (by kernel_rfl) (by kernel_rfl) (fun w => x_nil rfl) rfl ?_
     refine LA.step (rs := [9]) (by kernel_rfl) (by simp) ⟨⟨_, rfl, ?_⟩, trivial⟩
     refine L.set (v := .int _ _) ksrt4_sz160 rfl rfl rfl hp rfl (fun wl31 hp hw hzl31 => ?_)
     have hB := hB.trans hw
     refine L.nil ?_
     refine thn_n ?_
     refine LA.done (by kernel_rfl) ?_
     refine nrm_n ?_
     refine thn_n ?_
     refine W.seq ?_
     refine W.region ?_
     refine L.val (x_mv (v := .pointer _) rfl) rfl ?_
     refine L.val (x_nil rfl) rfl ?_
     refine L.val (x_ld (v := .int _ _) ksrt4_oc160 rfl (hp.cell (i := 0) rfl)) rfl ?_
     refine L.val (x_as (v := .int _ _) rfl) rfl ?_
     refine L.nil ?_
     refine thn_n ?_
     refine W.ret (fin_mk (.inr rfl) ?_)
     exact ⟨_, rfl, hB, hp⟩
    ·refine L.val (x_ld (v := .int _ _) ksrt4_oc160 rfl (hp.cell (i := 0) rfl)) rfl ?_
     refine L.nil ?_
     refine thn_n ?_
     refine LA.take (i := 6) rfl (by kernel_rfl) (by kernel_rfl) (by kernel_rfl) (fun w => x_shl rfl rfl (by omega) (by show _ ≤ ((64 : Nat) : Int); omega)) rfl ?_
     refine LA.step (rs := [2]) (by kernel_rfl) (by simp) ⟨⟨_, rfl, ?_⟩, trivial⟩
     refine L.val (x_ld (v := .int _ _) ksrt4_oc160 rfl (hp.cell (i := 0) rfl)) rfl ?_
     refine L.nil ?_
     refine thn_n ?_
     refine LA.take (i := 7) rfl (by kernel_rfl) (by kernel_rfl) (by kernel_rfl) (fun w => x_bxor rfl rfl) rfl ?_
     refine LA.take (i := 8) rfl (by kernel_rfl) (by kernel_rfl) (by kernel_rfl) (fun w => x_nil rfl) rfl ?_
     refine LA.step (rs := [9]) (by kernel_rfl) (by simp) ⟨⟨_, rfl, ?_⟩, trivial⟩
     refine L.set (v := .int _ _) ksrt4_sz160 rfl rfl rfl hp rfl (fun wl31 hp hw hzl31 => ?_)
     have hB := hB.trans hw
     refine L.nil ?_
     refine thn_n ?_
     refine LA.done (by kernel_rfl) ?_
     refine nrm_n ?_
     refine thn_n ?_
     refine W.seq ?_
     refine W.region ?_
     refine L.val (x_mv (v := .pointer _) rfl) rfl ?_
     refine L.val (x_nil rfl) rfl ?_
     refine L.val (x_ld (v := .int _ _) ksrt4_oc160 rfl (hp.cell (i := 0) rfl)) rfl ?_
     refine L.val (x_as (v := .int _ _) rfl) rfl ?_
     refine L.nil ?_
     refine thn_n ?_
     refine W.ret (fin_mk (.inr rfl) ?_)
     exact ⟨_, rfl, hB, hp⟩
  ·refine L.val (x_ld (v := .int _ _) ksrt4_oc160 rfl (hp.cell (i := 0) rfl)) rfl ?_
   refine L.nil ?_
   refine thn_n ?_
   refine LA.take (i := 6) rfl (by kernel_rfl) (by kernel_rfl) (by kernel_rfl) (fun w => x_shl rfl rfl (by omega) (by show _ ≤ ((64 : Nat) : Int); omega)) rfl ?_
   refine LA.step (rs := [2]) (by kernel_rfl) (by simp) ⟨⟨_, rfl, ?_⟩, trivial⟩
   refine L.val (x_ld (v := .int _ _) ksrt4_oc160 rfl (hp.cell (i := 0) rfl)) rfl ?_
   refine L.nil ?_
   refine thn_n ?_
   refine LA.take (i := 7) rfl (by kernel_rfl) (by kernel_rfl) (by kernel_rfl) (fun w => x_bxor rfl rfl) rfl ?_
   refine LA.take (i := 8) rfl (by kernel_rfl) (by kernel_rfl) (by kernel_rfl) (fun w => x_nil rfl) rfl ?_
   refine LA.step (rs := [9]) (by kernel_rfl) (by simp) ⟨⟨_, rfl, ?_⟩, trivial⟩
   refine L.set (v := .int _ _) ksrt4_sz160 rfl rfl rfl hp rfl (fun wl11 hp hw hzl11 => ?_)
   have hB := hB.trans hw
   refine L.nil ?_
   refine thn_n ?_
   refine LA.done (by kernel_rfl) ?_
   refine nrm_n ?_
   refine thn_n ?_
   refine W.seq ?_
   refine W.drawS ksrt4_mixed ?_
   have hB := hB.carry (bel_drew _); have hp := hp.carry (bel_drew _)
   refine LA.take (i := 0) rfl (by kernel_rfl) (by kernel_rfl) (by kernel_rfl) (fun w => x_mv (v := .pointer _) rfl) rfl ?_
   refine LA.take (i := 1) rfl (by kernel_rfl) (by kernel_rfl) (by kernel_rfl) (fun w => x_nil rfl) rfl ?_
   refine LA.take (i := 3) rfl (by kernel_rfl) (by kernel_rfl) (by kernel_rfl) (fun w => x_mv (v := .pointer _) rfl) rfl ?_
   refine LA.take (i := 4) rfl (by kernel_rfl) (by kernel_rfl) (by kernel_rfl) (fun w => x_nil rfl) rfl ?_
   refine LA.step (rs := [2, 5]) (by kernel_rfl) (by simp) ⟨⟨_, rfl, ?_⟩, ⟨_, rfl, ?_⟩, trivial⟩
   ·refine L.val (x_ld (v := .int _ _) ksrt4_oc160 rfl (hp.cell (i := 0) rfl)) rfl ?_
    refine L.nil ?_
    refine thn_n ?_
    refine LA.step (rs := [5]) (by kernel_rfl) (by simp) ⟨⟨_, rfl, ?_⟩, trivial⟩
    refine L.val (x_ld (v := .int _ _) ksrt4_oc160 rfl (hp.cell (i := 0) rfl)) rfl ?_
    refine L.nil ?_
    refine thn_n ?_
    refine LA.take (i := 6) rfl (by kernel_rfl) (by kernel_rfl) (by kernel_rfl) (fun w => x_shr rfl rfl (by omega) (by show _ ≤ ((64 : Nat) : Int); omega)) rfl ?_
    refine LA.take (i := 7) rfl (by kernel_rfl) (by kernel_rfl) (by kernel_rfl) (fun w => x_bxor rfl rfl) rfl ?_
    refine LA.take (i := 8) rfl (by kernel_rfl) (by kernel_rfl) (by kernel_rfl) (fun w => x_nil rfl) rfl ?_
    refine LA.step (rs := [9]) (by kernel_rfl) (by simp) ⟨⟨_, rfl, ?_⟩, trivial⟩
    refine L.set (v := .int _ _) ksrt4_sz160 rfl rfl rfl hp rfl (fun wl21 hp hw hzl21 => ?_)
    have hB := hB.trans hw
    refine L.nil ?_
    refine thn_n ?_
    refine LA.done (by kernel_rfl) ?_
    refine nrm_n ?_
    refine thn_n ?_
    refine W.seq ?_
    refine W.drawS ksrt4_mixed ?_
    have hB := hB.carry (bel_drew _); have hp := hp.carry (bel_drew _)
    refine LA.take (i := 0) rfl (by kernel_rfl) (by kernel_rfl) (by kernel_rfl) (fun w => x_mv (v := .pointer _) rfl) rfl ?_
    refine LA.take (i := 1) rfl (by kernel_rfl) (by kernel_rfl) (by kernel_rfl) (fun w => x_nil rfl) rfl ?_
    refine LA.take (i := 3) rfl (by kernel_rfl) (by kernel_rfl) (by kernel_rfl) (fun w => x_mv (v := .pointer _) rfl) rfl ?_
    refine LA.take (i := 4) rfl (by kernel_rfl) (by kernel_rfl) (by kernel_rfl) (fun w => x_nil rfl) rfl ?_
    refine LA.step (rs := [2, 5]) (by kernel_rfl) (by simp) ⟨⟨_, rfl, ?_⟩, ⟨_, rfl, ?_⟩, trivial⟩
    ·refine L.val (x_ld (v := .int _ _) ksrt4_oc160 rfl (hp.cell (i := 0) rfl)) rfl ?_
     refine L.nil ?_
     refine thn_n ?_
     refine LA.step (rs := [5]) (by kernel_rfl) (by simp) ⟨⟨_, rfl, ?_⟩, trivial⟩
     refine L.val (x_ld (v := .int _ _) ksrt4_oc160 rfl (hp.cell (i := 0) rfl)) rfl ?_
     refine L.nil ?_
     refine thn_n ?_
     refine LA.take (i := 6) rfl (by kernel_rfl) (by kernel_rfl) (by kernel_rfl) (fun w => x_shl rfl rfl (by omega) (by show _ ≤ ((64 : Nat) : Int); omega)) rfl ?_
     refine LA.take (i := 7) rfl (by kernel_rfl) (by kernel_rfl) (by kernel_rfl) (fun w => x_bxor rfl rfl) rfl ?_
     refine LA.take (i := 8) rfl (by kernel_rfl) (by kernel_rfl) (by kernel_rfl) (fun w => x_nil rfl) rfl ?_
     refine LA.step (rs := [9]) (by kernel_rfl) (by simp) ⟨⟨_, rfl, ?_⟩, trivial⟩
     refine L.set (v := .int _ _) ksrt4_sz160 rfl rfl rfl hp rfl (fun wl31 hp hw hzl31 => ?_)
     have hB := hB.trans hw
     refine L.nil ?_
     refine thn_n ?_
     refine LA.done (by kernel_rfl) ?_
     refine nrm_n ?_
     refine thn_n ?_
     refine W.seq ?_
     refine W.region ?_
     refine L.val (x_mv (v := .pointer _) rfl) rfl ?_
     refine L.val (x_nil rfl) rfl ?_
     refine L.val (x_ld (v := .int _ _) ksrt4_oc160 rfl (hp.cell (i := 0) rfl)) rfl ?_
     refine L.val (x_as (v := .int _ _) rfl) rfl ?_
     refine L.nil ?_
     refine thn_n ?_
     refine W.ret (fin_mk (.inr rfl) ?_)
     exact ⟨_, rfl, hB, hp⟩
    ·refine L.val (x_ld (v := .int _ _) ksrt4_oc160 rfl (hp.cell (i := 0) rfl)) rfl ?_
     refine L.nil ?_
     refine thn_n ?_
     refine LA.take (i := 6) rfl (by kernel_rfl) (by kernel_rfl) (by kernel_rfl) (fun w => x_shl rfl rfl (by omega) (by show _ ≤ ((64 : Nat) : Int); omega)) rfl ?_
     refine LA.step (rs := [2]) (by kernel_rfl) (by simp) ⟨⟨_, rfl, ?_⟩, trivial⟩
     refine L.val (x_ld (v := .int _ _) ksrt4_oc160 rfl (hp.cell (i := 0) rfl)) rfl ?_
     refine L.nil ?_
     refine thn_n ?_
     refine LA.take (i := 7) rfl (by kernel_rfl) (by kernel_rfl) (by kernel_rfl) (fun w => x_bxor rfl rfl) rfl ?_
     refine LA.take (i := 8) rfl (by kernel_rfl) (by kernel_rfl) (by kernel_rfl) (fun w => x_nil rfl) rfl ?_
     refine LA.step (rs := [9]) (by kernel_rfl) (by simp) ⟨⟨_, rfl, ?_⟩, trivial⟩
     refine L.set (v := .int _ _) ksrt4_sz160 rfl rfl rfl hp rfl (fun wl31 hp hw hzl31 => ?_)
     have hB := hB.trans hw
     refine L.nil ?_
     refine thn_n ?_
     refine LA.done (by kernel_rfl) ?_
     refine nrm_n ?_
     refine thn_n ?_
     refine W.seq ?_
     refine W.region ?_
     refine L.val (x_mv (v := .pointer _) rfl) rfl ?_
     refine L.val (x_nil rfl) rfl ?_
     refine L.val (x_ld (v := .int _ _) ksrt4_oc160 rfl (hp.cell (i := 0) rfl)) rfl ?_
     refine L.val (x_as (v := .int _ _) rfl) rfl ?_
     refine L.nil ?_
     refine thn_n ?_
     refine W.ret (fin_mk (.inr rfl) ?_)
     exact ⟨_, rfl, hB, hp⟩
   ·refine L.val (x_ld (v := .int _ _) ksrt4_oc160 rfl (hp.cell (i := 0) rfl)) rfl ?_
    refine L.nil ?_
    refine thn_n ?_
    refine LA.take (i := 6) rfl (by kernel_rfl) (by kernel_rfl) (by kernel_rfl) (fun w => x_shr rfl rfl (by omega) (by show _ ≤ ((64 : Nat) : Int); omega)) rfl ?_
    refine LA.step (rs := [2]) (by kernel_rfl) (by simp) ⟨⟨_, rfl, ?_⟩, trivial⟩
    refine L.val (x_ld (v := .int _ _) ksrt4_oc160 rfl (hp.cell (i := 0) rfl)) rfl ?_
    refine L.nil ?_
    refine thn_n ?_
    refine LA.take (i := 7) rfl (by kernel_rfl) (by kernel_rfl) (by kernel_rfl) (fun w => x_bxor rfl rfl) rfl ?_
    refine LA.take (i := 8) rfl (by kernel_rfl) (by kernel_rfl) (by kernel_rfl) (fun w => x_nil rfl) rfl ?_
    refine LA.step (rs := [9]) (by kernel_rfl) (by simp) ⟨⟨_, rfl, ?_⟩, trivial⟩
    refine L.set (v := .int _ _) ksrt4_sz160 rfl rfl rfl hp rfl (fun wl21 hp hw hzl21 => ?_)
    have hB := hB.trans hw
    refine L.nil ?_
    refine thn_n ?_
    refine LA.done (by kernel_rfl) ?_
    refine nrm_n ?_
    refine thn_n ?_
    refine W.seq ?_
    refine W.drawS ksrt4_mixed ?_
    have hB := hB.carry (bel_drew _); have hp := hp.carry (bel_drew _)
    refine LA.take (i := 0) rfl (by kernel_rfl) (by kernel_rfl) (by kernel_rfl) (fun w => x_mv (v := .pointer _) rfl) rfl ?_
    refine LA.take (i := 1) rfl (by kernel_rfl) (by kernel_rfl) (by kernel_rfl) (fun w => x_nil rfl) rfl ?_
    refine LA.take (i := 3) rfl (by kernel_rfl) (by kernel_rfl) (by kernel_rfl) (fun w => x_mv (v := .pointer _) rfl) rfl ?_
    refine LA.take (i := 4) rfl (by kernel_rfl) (by kernel_rfl) (by kernel_rfl) (fun w => x_nil rfl) rfl ?_
    refine LA.step (rs := [2, 5]) (by kernel_rfl) (by simp) ⟨⟨_, rfl, ?_⟩, ⟨_, rfl, ?_⟩, trivial⟩
    ·refine L.val (x_ld (v := .int _ _) ksrt4_oc160 rfl (hp.cell (i := 0) rfl)) rfl ?_
     refine L.nil ?_
     refine thn_n ?_
     refine LA.step (rs := [5]) (by kernel_rfl) (by simp) ⟨⟨_, rfl, ?_⟩, trivial⟩
     refine L.val (x_ld (v := .int _ _) ksrt4_oc160 rfl (hp.cell (i := 0) rfl)) rfl ?_
     refine L.nil ?_
     refine thn_n ?_
     refine LA.take (i := 6) rfl (by kernel_rfl) (by kernel_rfl) (by kernel_rfl) (fun w => x_shl rfl rfl (by omega) (by show _ ≤ ((64 : Nat) : Int); omega)) rfl ?_
     refine LA.take (i := 7) rfl (by kernel_rfl) (by kernel_rfl) (by kernel_rfl) (fun w => x_bxor rfl rfl) rfl ?_
     refine LA.take (i := 8) rfl (by kernel_rfl) (by kernel_rfl) (by kernel_rfl) (fun w => x_nil rfl) rfl ?_
     refine LA.step (rs := [9]) (by kernel_rfl) (by simp) ⟨⟨_, rfl, ?_⟩, trivial⟩
     refine L.set (v := .int _ _) ksrt4_sz160 rfl rfl rfl hp rfl (fun wl31 hp hw hzl31 => ?_)
     have hB := hB.trans hw
     refine L.nil ?_
     refine thn_n ?_
     refine LA.done (by kernel_rfl) ?_
     refine nrm_n ?_
     refine thn_n ?_
     refine W.seq ?_
     refine W.region ?_
     refine L.val (x_mv (v := .pointer _) rfl) rfl ?_
     refine L.val (x_nil rfl) rfl ?_
     refine L.val (x_ld (v := .int _ _) ksrt4_oc160 rfl (hp.cell (i := 0) rfl)) rfl ?_
     refine L.val (x_as (v := .int _ _) rfl) rfl ?_
     refine L.nil ?_
     refine thn_n ?_
     refine W.ret (fin_mk (.inr rfl) ?_)
     exact ⟨_, rfl, hB, hp⟩
    ·refine L.val (x_ld (v := .int _ _) ksrt4_oc160 rfl (hp.cell (i := 0) rfl)) rfl ?_
     refine L.nil ?_
     refine thn_n ?_
     refine LA.take (i := 6) rfl (by kernel_rfl) (by kernel_rfl) (by kernel_rfl) (fun w => x_shl rfl rfl (by omega) (by show _ ≤ ((64 : Nat) : Int); omega)) rfl ?_
     refine LA.step (rs := [2]) (by kernel_rfl) (by simp) ⟨⟨_, rfl, ?_⟩, trivial⟩
     refine L.val (x_ld (v := .int _ _) ksrt4_oc160 rfl (hp.cell (i := 0) rfl)) rfl ?_
     refine L.nil ?_
     refine thn_n ?_
     refine LA.take (i := 7) rfl (by kernel_rfl) (by kernel_rfl) (by kernel_rfl) (fun w => x_bxor rfl rfl) rfl ?_
     refine LA.take (i := 8) rfl (by kernel_rfl) (by kernel_rfl) (by kernel_rfl) (fun w => x_nil rfl) rfl ?_
     refine LA.step (rs := [9]) (by kernel_rfl) (by simp) ⟨⟨_, rfl, ?_⟩, trivial⟩
     refine L.set (v := .int _ _) ksrt4_sz160 rfl rfl rfl hp rfl (fun wl31 hp hw hzl31 => ?_)
     have hB := hB.trans hw
     refine L.nil ?_
     refine thn_n ?_
     refine LA.done (by kernel_rfl) ?_
     refine nrm_n ?_
     refine thn_n ?_
     refine W.seq ?_
     refine W.region ?_
     refine L.val (x_mv (v := .pointer _) rfl) rfl ?_
     refine L.val (x_nil rfl) rfl ?_
     refine L.val (x_ld (v := .int _ _) ksrt4_oc160 rfl (hp.cell (i := 0) rfl)) rfl ?_
     refine L.val (x_as (v := .int _ _) rfl) rfl ?_
     refine L.nil ?_
     refine thn_n ?_
     refine W.ret (fin_mk (.inr rfl) ?_)
     exact ⟨_, rfl, hB, hp⟩

theorem break_ok (b o a e cap n : Nat) (T : TypeId) (hd tl : List Value) (d : Array Str) (w : World) (hR : Row S w b o T hd d tl) (hn : d.size = n) (hc : n ≤ 2000000000000000000) (hae : a ≤ e) (he : e ≤ n) :
    Ret Try.prog 179 #[.slice (some ⟨b, o, none⟩) n cap, .int .i64 a, .int .i64 e] w fun v w' => v = .tuple #[] ∧ Gr (· = b) w w' ∧ ∃ d', Row S w' b o T hd d' tl ∧ PermIn a e d d' := by
  refine ret_of_W Try.func179 rfl (Nat.le_of_ble_eq_true rfl) (res0 rfl) ?_
  have hB := Gr.refl (· = b) w
  have hbl := hR.lt
  obtain ⟨l, hl⟩ : ∃ l, l = e - a := ⟨_, rfl⟩
  refine W.seq ?_
  refine W.region ?_
  refine L.val (x_mv (v := .int _ _) rfl) rfl ?_
  refine L.val (x_mv (v := .int _ _) rfl) rfl ?_
  refine L.val (x_sub rfl rfl (wr64 (by omega))) rfl ?_
  refine L.val (x_as (v := .int _ _) rfl) rfl ?_
  refine L.nil ?_
  refine thn_n ?_
  refine W.seq ?_
  refine W.region ?_
  refine L.val (x_mv (v := .int _ _) rfl) rfl ?_
  refine L.val (x_geq rfl rfl) rfl ?_
  refine L.nil ?_
  refine thn_n ?_
  refine W.cond (b := _) rfl (fun g15 => ?_) (fun g15 => ?_)
  ·have h15 := of_decide_eq_true g15
   refine W.seq ?_
   refine W.region ?_
   refine L.val (x_mv (v := .int _ _) rfl) rfl ?_
   refine L.val (x_conv (k' := .u64) (by rw [Try.underlying3]; rfl) Try.underlying160 rfl (wru64 (by omega))) rfl ?_
   refine L.alloc (cs := [Value.int .u64 0]) ksrt4_zr160 rfl rfl (fun w7 bx7 hw hz7 => ?_)
   have hB := hB.carry hw; have hR := hR.carry hw
   refine L.set (v := .int _ _) ksrt4_sz160 rfl rfl rfl bx7 rfl (fun wl10 bx7 hw hzl10 => ?_)
   have hB := hB.set hw (by omega); have hR := hR.carryR hw (by omega)
   refine L.nil ?_
   refine thn_n ?_
   refine W.seq ?_
   refine W.region ?_
   refine L.val (x_mv (v := .int _ _) rfl) rfl ?_
   have hle : ((e : Nat) : Int) - (a : Nat) = ((l : Nat) : Int) := by omega
   rw [hle]
   refine L.ret (x_call ksrt4_en167 rfl) rfl (pow_ok l _ (by omega) (by omega)) ?_
   rintro _ w19 ⟨m, rfl, hm1, hm2, hw⟩
   have hB := hB.carry hw; have hR := hR.carry hw; have bx7 := bx7.carry hw
   refine L.val (x_as (v := .int _ _) rfl) rfl ?_
   refine L.nil ?_
   refine thn_n ?_
   refine W.seq ?_
   refine W.region ?_
   refine L.val (x_mv (v := .int _ _) rfl) rfl ?_
   refine L.val (x_mv (v := .int _ _) rfl) rfl ?_
   refine L.val (x_quo rfl rfl (by decide) (wq64 (by omega) (by decide))) rfl ?_
   refine L.val (x_mul rfl rfl (wr64 (by omega))) rfl ?_
   refine L.val (x_add rfl rfl (wr64 (by omega))) rfl ?_
   refine L.val (x_sub rfl rfl (wr64 (by omega))) rfl ?_
   refine L.val (x_as (v := .int _ _) rfl) rfl ?_
   refine L.nil ?_
   refine thn_n ?_
   refine W.block ?_
   refine W.loop (fun m' E w' => ∃ (i : Nat) (g : Array Str) (r : Int), m' = a + l / 4 * 2 + 2 - i ∧ E 0 = .slice (some ⟨b, o, none⟩) n cap ∧ E 1 = .int .i64 (a : Nat) ∧ E 6 = .int .i64 ((e : Nat) - (a : Nat)) ∧ E 7 = .pointer (some ⟨w.heap.size, 0, none⟩) ∧ E 8 = .int .u64 (m : Nat) ∧ E 9 = .int .i64 (i : Nat) ∧ (Gr (· = b) w w') ∧ (Row S w' b o T hd g tl) ∧ (Box w' w.heap.size 160 [.int .u64 r]) ∧ (PermIn a e d g) ∧ (a + l / 4 * 2 ≤ i + 1)) (a + l / 4 * 2 + 2 - (a + l / 4 * 2 - 1)) ?_ ?_
   ·exact ⟨a + l / 4 * 2 - 1, d, _, by omega, by first | rfl | exact vi (by omega) | exact vs (by first | assumption | (rw [hst]; done) | (rw [hst]; simp only [List.append_assoc])), by first | rfl | exact vi (by omega) | exact vs (by first | assumption | (rw [hst]; done) | (rw [hst]; simp only [List.append_assoc])), by first | rfl | exact vi (by omega) | exact vs (by first | assumption | (rw [hst]; done) | (rw [hst]; simp only [List.append_assoc])), by first | rfl | exact vi (by omega) | exact vs (by first | assumption | (rw [hst]; done) | (rw [hst]; simp only [List.append_assoc])), by first | rfl | exact vi (by omega) | exact vs (by first | assumption | (rw [hst]; done) | (rw [hst]; simp only [List.append_assoc])), by first | rfl | exact vi (by omega) | exact vs (by first | assumption | (rw [hst]; done) | (rw [hst]; simp only [List.append_assoc])), (by first | assumption | omega | rfl), (by first | assumption | omega | rfl), (by exact bx7), (by exact permIn_refl _ _ _), (by first | assumption | omega | rfl)⟩
   ·rintro _ E wL26 ⟨i, g, r, em, e0, e1, e6, e7, e8, e9, hB, hR, bx7, hP, hi⟩
    rw [upd_self e0, upd_self e1, upd_self e6, upd_self e7, upd_self e8, upd_self e9]
    refine W.seq ?_
    refine W.seq ?_
    refine W.region ?_
    refine L.val (x_mv (v := .int _ _) rfl) rfl ?_
    refine L.val (x_mv (v := .int _ _) rfl) rfl ?_
    refine L.val (x_mv (v := .int _ _) rfl) rfl ?_
    refine L.val (x_quo rfl rfl (by decide) (wq64 (by omega) (by decide))) rfl ?_
    refine L.val (x_mul rfl rfl (wr64 (by omega))) rfl ?_
    refine L.val (x_add rfl rfl (wr64 (by omega))) rfl ?_
    refine L.val (x_add rfl rfl (wr64 (by omega))) rfl ?_
    refine L.val (x_leq rfl rfl) rfl ?_
    refine L.nil ?_
    refine thn_n ?_
    refine W.cond (b := _) rfl (fun g33 => ?_) (fun g33 => ?_)
    ·have h33 := of_decide_eq_true g33
     refine W.skip ?_
     refine thn_n ?_
     refine W.seq ?_
     refine W.block ?_
     refine W.seq ?_
     refine W.region ?_
     refine L.ret (x_call ksrt4_en168 rfl) rfl (next_ok w.heap.size r _ bx7) ?_
     rintro _ w36 ⟨r2, rfl, hg, bx7⟩
     have hB := hB.set hg (by omega)
     have hR := hR.carryR hg (by omega)
     have hsz := hP.1
     refine L.val (x_mv (v := .int _ _) rfl) rfl ?_
     refine L.val (x_sub rfl rfl (wru64 (by omega))) rfl ?_
     have hx := and_le (a := r2) (b := (m : Int) - 1) (by omega)
     refine L.val (x_band rfl rfl) rfl ?_
     refine L.val (x_conv (k' := .i64) (by rw [Try.underlying121]; rfl) Try.underlying3 rfl (wr64 (by omega))) rfl ?_
     refine L.val (x_as (v := .int _ _) rfl) rfl ?_
     refine L.nil ?_
     refine thn_n ?_
     refine W.seq ?_
     refine W.seq ?_
     refine W.region ?_
     refine L.val (x_mv (v := .int _ _) rfl) rfl ?_
     refine L.val (x_mv (v := .int _ _) rfl) rfl ?_
     refine L.val (x_geq rfl rfl) rfl ?_
     refine L.nil ?_
     refine thn_n ?_
     refine W.cond (b := _) rfl (fun g43 => ?_) (fun g43 => ?_)
     ·have h43 := of_decide_eq_true g43
      obtain ⟨ot, hot⟩ : ∃ ot : Nat, (ot : Int) = bits .and .u64 r2 ((m : Int) - 1) - ((e : Nat) - (a : Nat)) := ⟨_, Int.toNat_of_nonneg (by omega)⟩
      refine W.region ?_
      refine L.val (x_mv (v := .int _ _) rfl) rfl ?_
      refine L.val (x_mv (v := .int _ _) rfl) rfl ?_
      refine L.val (x_sub rfl rfl (wr64 (by omega))) rfl ?_
      refine L.val (x_as (v := .int _ _) rfl) rfl ?_
      refine L.nil ?_
      refine thn_n ?_
      refine W.drawS ksrt4_mixed ?_
      have hB := hB.carry (bel_drew _); have hR := hR.carry (bel_drew _); have bx7 := bx7.carry (bel_drew _)
      refine LA.take (i := 0) rfl (by kernel_rfl) (by kernel_rfl) (by kernel_rfl) (fun w => x_mv (v := .slice _ _ _) rfl) rfl ?_
      refine LA.take (i := 1) rfl (by kernel_rfl) (by kernel_rfl) (by kernel_rfl) (fun w => x_mv (v := .int _ _) rfl) rfl ?_
      refine LA.take (i := 2) rfl (by kernel_rfl) (by kernel_rfl) (by kernel_rfl) (fun w => x_mv (v := .slice _ _ _) rfl) rfl ?_
      refine LA.take (i := 3) rfl (by kernel_rfl) (by kernel_rfl) (by kernel_rfl) (fun w => x_mv (v := .int _ _) rfl) rfl ?_
      refine LA.take (i := 4) rfl (by kernel_rfl) (by kernel_rfl) (by kernel_rfl) (fun w => x_mv (v := .int _ _) rfl) rfl ?_
      refine LA.take (i := 5) rfl (by kernel_rfl) (by kernel_rfl) (by kernel_rfl) (fun w => x_add rfl rfl (wr64 (by omega))) rfl ?_
      refine LA.take (i := 6) rfl (by kernel_rfl) (by kernel_rfl) (by kernel_rfl) (fun w => x_mv (v := .slice _ _ _) rfl) rfl ?_
      refine LA.take (i := 7) rfl (by kernel_rfl) (by kernel_rfl) (by kernel_rfl) (fun w => x_mv (v := .int _ _) rfl) rfl ?_
      refine LA.take (i := 8) rfl (by kernel_rfl) (by kernel_rfl) (by kernel_rfl) (fun w => x_mv (v := .int _ _) rfl) rfl ?_
      refine LA.take (i := 9) rfl (by kernel_rfl) (by kernel_rfl) (by kernel_rfl) (fun w => x_add rfl rfl (wr64 (by omega))) rfl ?_
      refine LA.take (i := 10) rfl (by kernel_rfl) (by kernel_rfl) (by kernel_rfl) (fun w => x_ia1 (j := a + ot) Try.underlying22 ksrt4_sz9 rfl rfl (by omega) (by omega)) rfl ?_
      refine LA.take (i := 12) rfl (by kernel_rfl) (by kernel_rfl) (by kernel_rfl) (fun w => x_mv (v := .slice _ _ _) rfl) rfl ?_
      refine LA.take (i := 13) rfl (by kernel_rfl) (by kernel_rfl) (by kernel_rfl) (fun w => x_mv (v := .int _ _) rfl) rfl ?_
      refine LA.take (i := 14) rfl (by kernel_rfl) (by kernel_rfl) (by kernel_rfl) (fun w => x_ia1 (j := i) Try.underlying22 ksrt4_sz9 rfl rfl (by omega) (by omega)) rfl ?_
      refine LA.pair (i := 11) (j := 15) rfl rfl (by kernel_rfl) (by kernel_rfl) (by kernel_rfl) rfl rfl (x_ld (v := S _) ksrt4_oc9 rfl (hR.at (i := a + ot) (by omega))) (x_ld (v := S _) ksrt4_oc9 rfl (hR.at (i := i) (by omega))) (x_ld (v := S _) ksrt4_oc9 rfl (hR.at (i := i) (by omega))) (x_ld (v := S _) ksrt4_oc9 rfl (hR.at (i := a + ot) (by omega))) rfl rfl ?_
      refine LA.take (i := 16) rfl (by kernel_rfl) (by kernel_rfl) (by kernel_rfl) (fun w => x_ia1 (j := i) Try.underlying22 ksrt4_sz9 rfl rfl (by omega) (by omega)) rfl ?_
      refine LA.step (rs := [17]) (by kernel_rfl) (by simp) ⟨⟨_, rfl, ?_⟩, trivial⟩
      refine L.setAt (enc := S) (j := i) ksrt4_sz9 rfl rfl rfl hR (by omega) (fun wl59 hR hsl59 hw hzl59 => ?_)
      have hB := hB.trans hw; have bx7 := bx7.carryR hw (by omega)
      refine L.nil ?_
      refine thn_n ?_
      refine LA.take (i := 18) rfl (by kernel_rfl) (by kernel_rfl) (by kernel_rfl) (fun w => x_ia1 (j := a + ot) Try.underlying22 ksrt4_sz9 rfl rfl (by omega) (by omega)) rfl ?_
      refine LA.step (rs := [19]) (by kernel_rfl) (by simp) ⟨⟨_, rfl, ?_⟩, trivial⟩
      refine L.setAt (enc := S) (j := a + ot) ksrt4_sz9 rfl rfl rfl hR (by omega) (fun wl61 hR hsl61 hw hzl61 => ?_)
      have hB := hB.trans hw; have bx7 := bx7.carryR hw (by omega)
      refine L.nil ?_
      refine thn_n ?_
      refine LA.done (by kernel_rfl) ?_
      refine nrm_n ?_
      refine blk_n ?_
      refine thn_n ?_
      refine W.region ?_
      refine L.val (x_mv (v := .int _ _) rfl) rfl ?_
      refine L.val (x_add rfl rfl (wr64 (by omega))) rfl ?_
      refine L.val (x_as (v := .int _ _) rfl) rfl ?_
      refine L.nil ?_
      refine thn_n ⟨rfl, ?_⟩
      refine ⟨_, ?_, i + 1, swp g i (a + ot), _, rfl, by first | rfl | exact vi (by omega) | exact vs (by first | assumption | (rw [hst]; done) | (rw [hst]; simp only [List.append_assoc])), by first | rfl | exact vi (by omega) | exact vs (by first | assumption | (rw [hst]; done) | (rw [hst]; simp only [List.append_assoc])), by first | rfl | exact vi (by omega) | exact vs (by first | assumption | (rw [hst]; done) | (rw [hst]; simp only [List.append_assoc])), by first | rfl | exact vi (by omega) | exact vs (by first | assumption | (rw [hst]; done) | (rw [hst]; simp only [List.append_assoc])), by first | rfl | exact vi (by omega) | exact vs (by first | assumption | (rw [hst]; done) | (rw [hst]; simp only [List.append_assoc])), by first | rfl | exact vi (by omega) | exact vs (by first | assumption | (rw [hst]; done) | (rw [hst]; simp only [List.append_assoc])), (by first | assumption | omega | rfl), (by first | assumption | omega | rfl), (by exact bx7), (by exact permIn_trans _ _ _ _ _ hP (swp_permIn _ _ _ _ _ (by omega) (by omega) (by omega) (by omega) (by omega))), (by first | assumption | omega | rfl)⟩
      omega
     ·have h43 := dle_f g43
      obtain ⟨ot, hot⟩ : ∃ ot : Nat, (ot : Int) = bits .and .u64 r2 ((m : Int) - 1) := ⟨_, Int.toNat_of_nonneg (by omega)⟩
      refine W.skip ?_
      refine thn_n ?_
      refine W.drawS ksrt4_mixed ?_
      have hB := hB.carry (bel_drew _); have hR := hR.carry (bel_drew _); have bx7 := bx7.carry (bel_drew _)
      refine LA.take (i := 0) rfl (by kernel_rfl) (by kernel_rfl) (by kernel_rfl) (fun w => x_mv (v := .slice _ _ _) rfl) rfl ?_
      refine LA.take (i := 1) rfl (by kernel_rfl) (by kernel_rfl) (by kernel_rfl) (fun w => x_mv (v := .int _ _) rfl) rfl ?_
      refine LA.take (i := 2) rfl (by kernel_rfl) (by kernel_rfl) (by kernel_rfl) (fun w => x_mv (v := .slice _ _ _) rfl) rfl ?_
      refine LA.take (i := 3) rfl (by kernel_rfl) (by kernel_rfl) (by kernel_rfl) (fun w => x_mv (v := .int _ _) rfl) rfl ?_
      refine LA.take (i := 4) rfl (by kernel_rfl) (by kernel_rfl) (by kernel_rfl) (fun w => x_mv (v := .int _ _) rfl) rfl ?_
      refine LA.take (i := 5) rfl (by kernel_rfl) (by kernel_rfl) (by kernel_rfl) (fun w => x_add rfl rfl (wr64 (by omega))) rfl ?_
      refine LA.take (i := 6) rfl (by kernel_rfl) (by kernel_rfl) (by kernel_rfl) (fun w => x_mv (v := .slice _ _ _) rfl) rfl ?_
      refine LA.take (i := 7) rfl (by kernel_rfl) (by kernel_rfl) (by kernel_rfl) (fun w => x_mv (v := .int _ _) rfl) rfl ?_
      refine LA.take (i := 8) rfl (by kernel_rfl) (by kernel_rfl) (by kernel_rfl) (fun w => x_mv (v := .int _ _) rfl) rfl ?_
      refine LA.take (i := 9) rfl (by kernel_rfl) (by kernel_rfl) (by kernel_rfl) (fun w => x_add rfl rfl (wr64 (by omega))) rfl ?_
      refine LA.take (i := 10) rfl (by kernel_rfl) (by kernel_rfl) (by kernel_rfl) (fun w => x_ia1 (j := a + ot) Try.underlying22 ksrt4_sz9 rfl rfl (by omega) (by omega)) rfl ?_
      refine LA.take (i := 12) rfl (by kernel_rfl) (by kernel_rfl) (by kernel_rfl) (fun w => x_mv (v := .slice _ _ _) rfl) rfl ?_
      refine LA.take (i := 13) rfl (by kernel_rfl) (by kernel_rfl) (by kernel_rfl) (fun w => x_mv (v := .int _ _) rfl) rfl ?_
      refine LA.take (i := 14) rfl (by kernel_rfl) (by kernel_rfl) (by kernel_rfl) (fun w => x_ia1 (j := i) Try.underlying22 ksrt4_sz9 rfl rfl (by omega) (by omega)) rfl ?_
      refine LA.pair (i := 11) (j := 15) rfl rfl (by kernel_rfl) (by kernel_rfl) (by kernel_rfl) rfl rfl (x_ld (v := S _) ksrt4_oc9 rfl (hR.at (i := a + ot) (by omega))) (x_ld (v := S _) ksrt4_oc9 rfl (hR.at (i := i) (by omega))) (x_ld (v := S _) ksrt4_oc9 rfl (hR.at (i := i) (by omega))) (x_ld (v := S _) ksrt4_oc9 rfl (hR.at (i := a + ot) (by omega))) rfl rfl ?_
      refine LA.take (i := 16) rfl (by kernel_rfl) (by kernel_rfl) (by kernel_rfl) (fun w => x_ia1 (j := i) Try.underlying22 ksrt4_sz9 rfl rfl (by omega) (by omega)) rfl ?_
      refine LA.step (rs := [17]) (by kernel_rfl) (by simp) ⟨⟨_, rfl, ?_⟩, trivial⟩
      refine L.setAt (enc := S) (j := i) ksrt4_sz9 rfl rfl rfl hR (by omega) (fun wl59 hR hsl59 hw hzl59 => ?_)
      have hB := hB.trans hw; have bx7 := bx7.carryR hw (by omega)
      refine L.nil ?_
      refine thn_n ?_
      refine LA.take (i := 18) rfl (by kernel_rfl) (by kernel_rfl) (by kernel_rfl) (fun w => x_ia1 (j := a + ot) Try.underlying22 ksrt4_sz9 rfl rfl (by omega) (by omega)) rfl ?_
      refine LA.step (rs := [19]) (by kernel_rfl) (by simp) ⟨⟨_, rfl, ?_⟩, trivial⟩
      refine L.setAt (enc := S) (j := a + ot) ksrt4_sz9 rfl rfl rfl hR (by omega) (fun wl61 hR hsl61 hw hzl61 => ?_)
      have hB := hB.trans hw; have bx7 := bx7.carryR hw (by omega)
      refine L.nil ?_
      refine thn_n ?_
      refine LA.done (by kernel_rfl) ?_
      refine nrm_n ?_
      refine blk_n ?_
      refine thn_n ?_
      refine W.region ?_
      refine L.val (x_mv (v := .int _ _) rfl) rfl ?_
      refine L.val (x_add rfl rfl (wr64 (by omega))) rfl ?_
      refine L.val (x_as (v := .int _ _) rfl) rfl ?_
      refine L.nil ?_
      refine thn_n ⟨rfl, ?_⟩
      refine ⟨_, ?_, i + 1, swp g i (a + ot), _, rfl, by first | rfl | exact vi (by omega) | exact vs (by first | assumption | (rw [hst]; done) | (rw [hst]; simp only [List.append_assoc])), by first | rfl | exact vi (by omega) | exact vs (by first | assumption | (rw [hst]; done) | (rw [hst]; simp only [List.append_assoc])), by first | rfl | exact vi (by omega) | exact vs (by first | assumption | (rw [hst]; done) | (rw [hst]; simp only [List.append_assoc])), by first | rfl | exact vi (by omega) | exact vs (by first | assumption | (rw [hst]; done) | (rw [hst]; simp only [List.append_assoc])), by first | rfl | exact vi (by omega) | exact vs (by first | assumption | (rw [hst]; done) | (rw [hst]; simp only [List.append_assoc])), by first | rfl | exact vi (by omega) | exact vs (by first | assumption | (rw [hst]; done) | (rw [hst]; simp only [List.append_assoc])), (by first | assumption | omega | rfl), (by first | assumption | omega | rfl), (by exact bx7), (by exact permIn_trans _ _ _ _ _ hP (swp_permIn _ _ _ _ _ (by omega) (by omega) (by omega) (by omega) (by omega))), (by first | assumption | omega | rfl)⟩
      omega
    ·have h33 := dle_f g33
     refine W.exit (thn_x (thn_x (blk_hit ?_)))
     refine fin_mk (.inl rfl) ?_
     first
     | exact ⟨rfl, hB, g, hR, hP⟩
     | exact ⟨rfl, hB, d, hR, permIn_refl _ _ _⟩
  ·have h15 := dle_f g15
   refine W.skip ?_
   refine fin_mk (.inl rfl) ?_
   first
   | exact ⟨rfl, hB, g, hR, hP⟩
   | exact ⟨rfl, hB, d, hR, permIn_refl _ _ _⟩
end Go.Gx

