/- The library's sort of strings: the pivot and the partitions. Conditions: none. -/
import Derived.Test.YteehllhldaopjaaSrt
namespace Go.Gx
open Go.Proofs Go.Sort
theorem ksrt2_en183 : Go.Proofs.Enters Try.prog 183 := Go.Proofs.enters_of Try.func183 (by kernel_rfl) rfl
theorem ksrt2_en188 : Go.Proofs.Enters Try.prog 188 := Go.Proofs.enters_of Try.func188 (by kernel_rfl) rfl
theorem ksrt2_en189 : Go.Proofs.Enters Try.prog 189 := Go.Proofs.enters_of Try.func189 (by kernel_rfl) rfl
theorem ksrt2_en191 : Go.Proofs.Enters Try.prog 191 := Go.Proofs.enters_of Try.func191 (by kernel_rfl) rfl
theorem ksrt2_mixed : Try.prog.follows .mixedOrders = true := by kernel_rfl
theorem ksrt2_oc3 : oneCellT Try.prog 3 = true := by kernel_rfl
theorem ksrt2_oc9 : oneCellT Try.prog 9 = true := by kernel_rfl
theorem ksrt2_sz3 : (Try.prog.info? 3).map (·.size) = some 1 := by kernel_rfl
theorem ksrt2_sz9 : (Try.prog.info? 9).map (·.size) = some 1 := by kernel_rfl
theorem ksrt2_zr3 : (Try.prog.info? 3).bind (·.zero) = some (Value.int .i64 0) := by kernel_rfl

theorem order2_ok (b o a e p s cap n : Nat) (T : TypeId) (hd tl : List Value) (d : Array Str) (w : World) (hR : Row S w b o T hd d tl) (hn : d.size = n) (_hc : n ≤ 2000000000000000000) (ha : a < n) (he : e < n)
    (hs : s ≤ 100) (hp : Box w p 3 [.int .i64 (s : Nat)]) (hne : b ≠ p) :
    Ret Try.prog 191 #[.slice (some ⟨b, o, none⟩) n cap, .int .i64 a, .int .i64 e, .pointer (some ⟨p, 0, none⟩)] w fun v w' => ∃ x y s' : Nat, v = .tuple #[.int .i64 x, .int .i64 y] ∧ ((x = a ∧ y = e) ∨ (x = e ∧ y = a)) ∧ s' ≤ s + 1 ∧ Gr (· = p) w w' ∧ Box w' p 3 [.int .i64 (s' : Nat)] := by
  refine ret_of_W Try.func191 rfl (Nat.le_of_ble_eq_true rfl) (res2 rfl) ?_
  have hB := Gr.refl (· = p) w
  refine W.seq ?_
  refine W.region ?_
  refine L.val (x_as (v := .int _ _) rfl) rfl ?_
  refine L.val (x_as (v := .int _ _) rfl) rfl ?_
  refine L.nil ?_
  refine thn_n ?_
  refine W.seq ?_
  refine W.seq ?_
  refine W.drawB ksrt2_mixed (by kernel_rfl) ?_
  refine LQ.val (fun w hw => x_mv (v := .slice _ _ _) rfl) rfl ?_
  refine LQ.val (fun w hw => x_mv (v := .int _ _) rfl) rfl ?_
  refine LQ.val (fun w hw => x_ia1 (j := e) Try.underlying22 ksrt2_sz9 rfl rfl (by omega) (by omega)) rfl ?_
  refine LQ.val (fun w hw => x_ld (v := S _) ksrt2_oc9 rfl (hw.keep (hR.at (i := e) (by omega)))) rfl ?_
  refine LQ.val (fun w hw => x_mv (v := .slice _ _ _) rfl) rfl ?_
  refine LQ.val (fun w hw => x_mv (v := .int _ _) rfl) rfl ?_
  refine LQ.val (fun w hw => x_ia1 (j := a) Try.underlying22 ksrt2_sz9 rfl rfl (by omega) (by omega)) rfl ?_
  refine LQ.val (fun w hw => x_ld (v := S _) ksrt2_oc9 rfl (hw.keep (hR.at (i := a) (by omega)))) rfl ?_
  refine LQ.ret (fun w => x_call ksrt2_en183 rfl) (fun w hw => Ret.mono (less_ok _ _ _) (fun _ _ h => ⟨h.1, Gr.trans hw h.2⟩)) rfl ?_
  refine LQ.nil ?_
  intro w10 hw
  have hB := hB.carry hw; have hR := hR.carry hw; have hp := hp.carry hw
  refine thn_n ?_
  refine W.cond (b := _) rfl (fun g18 => ?_) (fun g18 => ?_)
  ·have h18 := g18
   refine W.seq ?_
   refine W.region ?_
   refine L.val (x_mv (v := .pointer _) rfl) rfl ?_
   refine L.val (x_nil rfl) rfl ?_
   refine L.val (x_ld (v := .int _ _) ksrt2_oc3 rfl (hp.cell (i := 0) rfl)) rfl ?_
   refine L.val (x_add rfl rfl (wr64 (by omega))) rfl ?_
   refine L.val (x_nil rfl) rfl ?_
   refine L.set (v := .int _ _) ksrt2_sz3 rfl rfl rfl hp rfl (fun wl17 hp hw hzl17 => ?_)
   have hB := hB.trans hw; have hR := hR.carryR hw (by omega)
   refine L.nil ?_
   refine thn_n ?_
   refine W.seq ?_
   refine W.region ?_
   refine L.val (x_mv (v := .int _ _) rfl) rfl ?_
   refine L.val (x_mv (v := .int _ _) rfl) rfl ?_
   refine L.val (x_as (v := .int _ _) rfl) rfl ?_
   refine L.val (x_as (v := .int _ _) rfl) rfl ?_
   refine L.nil ?_
   refine thn_n ?_
   refine W.ret (thn_r (fin_mk (.inr rfl) ?_))
   exact ⟨e, a, s + 1, rfl, .inr ⟨rfl, rfl⟩, Nat.le_refl _, hB, hp⟩
  ·have h18 := g18
   refine W.skip ?_
   refine thn_n ?_
   refine W.seq ?_
   refine W.region ?_
   refine L.val (x_mv (v := .int _ _) rfl) rfl ?_
   refine L.val (x_mv (v := .int _ _) rfl) rfl ?_
   refine L.val (x_as (v := .int _ _) rfl) rfl ?_
   refine L.val (x_as (v := .int _ _) rfl) rfl ?_
   refine L.nil ?_
   refine thn_n ?_
   refine W.ret (fin_mk (.inr rfl) ?_)
   exact ⟨a, e, s, rfl, .inl ⟨rfl, rfl⟩, by omega, hB, hp⟩

theorem median_ok (b o x y z p s cap n : Nat) (T : TypeId) (hd tl : List Value) (d : Array Str) (w : World) (hR : Row S w b o T hd d tl) (hn : d.size = n) (hc : n ≤ 2000000000000000000) (hx : x < n) (hy : y < n) (hz : z < n)
    (hs : s ≤ 90) (hp : Box w p 3 [.int .i64 (s : Nat)]) (hne : b ≠ p) :
    Ret Try.prog 189 #[.slice (some ⟨b, o, none⟩) n cap, .int .i64 x, .int .i64 y, .int .i64 z, .pointer (some ⟨p, 0, none⟩)] w fun v w' => ∃ m s' : Nat, v = .int .i64 m ∧ (m = x ∨ m = y ∨ m = z) ∧ s' ≤ s + 3 ∧ Gr (· = p) w w' ∧ Box w' p 3 [.int .i64 (s' : Nat)] := by
  refine ret_of_W Try.func189 rfl (Nat.le_of_ble_eq_true rfl) (res1 rfl) ?_
  have hB := Gr.refl (· = p) w
  refine W.seq ?_
  refine W.region ?_
  refine L.val (x_as (v := .int _ _) rfl) rfl ?_
  refine L.nil ?_
  refine thn_n ?_
  refine W.seq ?_
  refine W.region ?_
  refine L.val (x_mv (v := .slice _ _ _) rfl) rfl ?_
  refine L.val (x_mv (v := .int _ _) rfl) rfl ?_
  refine L.val (x_mv (v := .int _ _) rfl) rfl ?_
  refine L.val (x_mv (v := .pointer _) rfl) rfl ?_
  refine L.ret (x_call ksrt2_en191 rfl) rfl (order2_ok b o x y p s cap n T hd tl d _ hR hn hc hx hy (by omega) hp hne) ?_
  rintro _ w16 ⟨x1, y1, s1, rfl, h1, k1, hg, hp⟩
  have hB := hB.trans hg
  have hR := hR.carryR hg hne
  refine L.val (x_mv (v := _) rfl) rfl ?_
  refine L.val (x_ext (v := .int _ _) rfl rfl) rfl ?_
  refine L.val (x_ext (v := .int _ _) rfl rfl) rfl ?_
  refine L.val (x_as (v := .int _ _) rfl) rfl ?_
  refine L.val (x_as (v := .int _ _) rfl) rfl ?_
  refine L.nil ?_
  refine thn_n ?_
  refine W.seq ?_
  refine W.region ?_
  refine L.val (x_mv (v := .slice _ _ _) rfl) rfl ?_
  refine L.val (x_mv (v := .int _ _) rfl) rfl ?_
  refine L.val (x_mv (v := .int _ _) rfl) rfl ?_
  refine L.val (x_mv (v := .pointer _) rfl) rfl ?_
  refine L.ret (x_call ksrt2_en191 rfl) rfl (order2_ok b o y1 z p s1 cap n T hd tl d _ hR hn hc (by omega) hz (by omega) hp hne) ?_
  rintro _ w24 ⟨y2, z2, s2, rfl, h2, k2, hg, hp⟩
  have hB := hB.trans hg
  have hR := hR.carryR hg hne
  refine L.val (x_mv (v := _) rfl) rfl ?_
  refine L.val (x_ext (v := .int _ _) rfl rfl) rfl ?_
  refine L.val (x_ext (v := .int _ _) rfl rfl) rfl ?_
  refine L.val (x_as (v := .int _ _) rfl) rfl ?_
  refine L.val (x_as (v := .int _ _) rfl) rfl ?_
  refine L.nil ?_
  refine thn_n ?_
  refine W.seq ?_
  refine W.region ?_
  refine L.val (x_mv (v := .slice _ _ _) rfl) rfl ?_
  refine L.val (x_mv (v := .int _ _) rfl) rfl ?_
  refine L.val (x_mv (v := .int _ _) rfl) rfl ?_
  refine L.val (x_mv (v := .pointer _) rfl) rfl ?_
  refine L.ret (x_call ksrt2_en191 rfl) rfl (order2_ok b o x1 y2 p s2 cap n T hd tl d _ hR hn hc (by omega) (by omega) (by omega) hp hne) ?_
  rintro _ w32 ⟨x3, y3, s3, rfl, h3, k3, hg, hp⟩
  have hB := hB.trans hg
  refine L.val (x_mv (v := _) rfl) rfl ?_
  refine L.val (x_ext (v := .int _ _) rfl rfl) rfl ?_
  refine L.val (x_ext (v := .int _ _) rfl rfl) rfl ?_
  refine L.val (x_as (v := .int _ _) rfl) rfl ?_
  refine L.val (x_as (v := .int _ _) rfl) rfl ?_
  refine L.nil ?_
  refine thn_n ?_
  refine W.seq ?_
  refine W.region ?_
  refine L.val (x_mv (v := .int _ _) rfl) rfl ?_
  refine L.val (x_as (v := .int _ _) rfl) rfl ?_
  refine L.nil ?_
  refine thn_n ?_
  refine W.ret (fin_mk (.inr rfl) ?_)
  exact ⟨y3, s3, rfl, by omega, by omega, hB, hp⟩

theorem medadj_ok (b o x p s cap n : Nat) (T : TypeId) (hd tl : List Value) (d : Array Str) (w : World) (hR : Row S w b o T hd d tl) (hn : d.size = n) (hc : n ≤ 2000000000000000000) (h0 : 1 ≤ x) (hx : x + 1 < n)
    (hs : s ≤ 90) (hp : Box w p 3 [.int .i64 (s : Nat)]) (hne : b ≠ p) :
    Ret Try.prog 188 #[.slice (some ⟨b, o, none⟩) n cap, .int .i64 x, .pointer (some ⟨p, 0, none⟩)] w fun v w' => ∃ m s' : Nat, v = .int .i64 m ∧ (x ≤ m + 1 ∧ m ≤ x + 1) ∧ s' ≤ s + 3 ∧ Gr (· = p) w w' ∧ Box w' p 3 [.int .i64 (s' : Nat)] := by
  refine ret_of_W Try.func188 rfl (Nat.le_of_ble_eq_true rfl) (res1 rfl) ?_
  have hB := Gr.refl (· = p) w
  refine W.seq ?_
  refine W.region ?_
  refine L.val (x_as (v := .int _ _) rfl) rfl ?_
  refine L.nil ?_
  refine thn_n ?_
  refine W.seq ?_
  refine W.region ?_
  refine L.val (x_mv (v := .slice _ _ _) rfl) rfl ?_
  refine L.val (x_mv (v := .int _ _) rfl) rfl ?_
  refine L.val (x_sub rfl rfl (wr64 (by omega))) rfl ?_
  refine L.val (x_mv (v := .int _ _) rfl) rfl ?_
  refine L.val (x_mv (v := .int _ _) rfl) rfl ?_
  refine L.val (x_add rfl rfl (wr64 (by omega))) rfl ?_
  refine L.val (x_mv (v := .pointer _) rfl) rfl ?_
  have e1 : (x : Int) - 1 = ((x - 1 : Nat) : Int) := by omega
  have e2 : (x : Int) + 1 = ((x + 1 : Nat) : Int) := by omega
  rw [e1, e2]
  refine L.ret (x_call ksrt2_en189 rfl) rfl (median_ok b o (x - 1) x (x + 1) p s cap n T hd tl d _ hR hn hc (by omega) (by omega) (by omega) hs hp hne) ?_
  rintro _ w14 ⟨m, s1, rfl, h1, k1, hg, hp⟩
  have hB := hB.trans hg
  refine L.val (x_as (v := .int _ _) rfl) rfl ?_
  refine L.nil ?_
  refine thn_n ?_
  refine W.ret (fin_mk (.inr rfl) ?_)
  exact ⟨m, s1, rfl, by omega, by omega, hB, hp⟩

theorem pivot_ok (b o a e cap n : Nat) (T : TypeId) (hd tl : List Value) (d : Array Str) (w : World) (hR : Row S w b o T hd d tl) (hn : d.size = n) (hc : n ≤ 2000000000000000000) (hae : a < e) (he : e ≤ n) :
    Ret Try.prog 180 #[.slice (some ⟨b, o, none⟩) n cap, .int .i64 a, .int .i64 e] w fun v w' => ∃ m h : Nat, v = .tuple #[.int .i64 m, .int .i64 h] ∧ a ≤ m ∧ m < e ∧ Bel w w' := by
  refine ret_of_W Try.func180 rfl (Nat.le_of_ble_eq_true rfl) (res2 rfl) ?_
  have hB := Gr.refl (fun _ => False) w
  have hbl := hR.lt
  obtain ⟨l, hl⟩ : ∃ l, l = e - a := ⟨_, rfl⟩
  refine W.seq ?_
  refine W.region ?_
  refine L.val (x_as (v := .int _ _) rfl) rfl ?_
  refine L.val (x_as (v := .int _ _) rfl) rfl ?_
  refine L.nil ?_
  refine thn_n ?_
  refine W.seq ?_
  refine W.region ?_
  refine L.val (x_mv (v := .int _ _) rfl) rfl ?_
  refine L.val (x_mv (v := .int _ _) rfl) rfl ?_
  refine L.val (x_sub rfl rfl (wr64 (by omega))) rfl ?_
  refine L.val (x_as (v := .int _ _) rfl) rfl ?_
  refine L.nil ?_
  refine thn_n ?_
  refine W.seq ?_
  refine W.region ?_
  refine L.alloc (cs := [Value.int .i64 0]) ksrt2_zr3 rfl rfl (fun w9 bx9 hw hz9 => ?_)
  have hB := hB.carry hw; have hR := hR.carry hw
  refine L.nil ?_
  refine thn_n ?_
  refine W.seq ?_
  refine W.region ?_
  refine L.val (x_mv (v := .int _ _) rfl) rfl ?_
  refine L.val (x_mv (v := .int _ _) rfl) rfl ?_
  refine L.val (x_quo rfl rfl (by decide) (wq64 (by omega) (by decide))) rfl ?_
  refine L.val (x_mul rfl rfl (wr64 (by omega))) rfl ?_
  refine L.val (x_add rfl rfl (wr64 (by omega))) rfl ?_
  refine L.val (x_as (v := .int _ _) rfl) rfl ?_
  refine L.nil ?_
  refine thn_n ?_
  refine W.seq ?_
  refine W.region ?_
  refine L.val (x_mv (v := .int _ _) rfl) rfl ?_
  refine L.val (x_mv (v := .int _ _) rfl) rfl ?_
  refine L.val (x_quo rfl rfl (by decide) (wq64 (by omega) (by decide))) rfl ?_
  refine L.val (x_mul rfl rfl (wr64 (by omega))) rfl ?_
  refine L.val (x_add rfl rfl (wr64 (by omega))) rfl ?_
  refine L.val (x_as (v := .int _ _) rfl) rfl ?_
  refine L.nil ?_
  refine thn_n ?_
  refine W.seq ?_
  refine W.region ?_
  refine L.val (x_mv (v := .int _ _) rfl) rfl ?_
  refine L.val (x_mv (v := .int _ _) rfl) rfl ?_
  refine L.val (x_quo rfl rfl (by decide) (wq64 (by omega) (by decide))) rfl ?_
  refine L.val (x_mul rfl rfl (wr64 (by omega))) rfl ?_
  refine L.val (x_add rfl rfl (wr64 (by omega))) rfl ?_
  refine L.val (x_as (v := .int _ _) rfl) rfl ?_
  refine L.nil ?_
  refine thn_n ?_
  refine W.cut (fun D' E' w' => D' = [] ∧ ∃ m s : Nat, E' 9 = .pointer (some ⟨w.heap.size, 0, none⟩) ∧ E' 11 = .int .i64 m ∧ a ≤ m ∧ m < e ∧ Bel w w' ∧ Box w' w.heap.size 3 [.int .i64 (s : Nat)]) ?_ ?_
  ·refine W.seq ?_
   refine W.region ?_
   refine L.val (x_mv (v := .int _ _) rfl) rfl ?_
   refine L.val (x_geq rfl rfl) rfl ?_
   refine L.nil ?_
   refine thn_n ?_
   refine W.cond (b := _) rfl (fun g32 => ?_) (fun g32 => ?_)
   ·have h32 := of_decide_eq_true g32
    refine W.cut (fun D' E' w' => D' = [] ∧ ∃ m1 m2 m3 s3 : Nat, E' 0 = .slice (some ⟨b, o, none⟩) n cap ∧ E' 9 = .pointer (some ⟨w.heap.size, 0, none⟩) ∧ E' 10 = .int .i64 m1 ∧ E' 11 = .int .i64 m2 ∧ E' 12 = .int .i64 m3 ∧ a ≤ m1 ∧ m1 < e ∧ a ≤ m2 ∧ m2 < e ∧ a ≤ m3 ∧ m3 < e ∧ s3 ≤ 9 ∧ Bel w w' ∧ Row S w' b o T hd d tl ∧ Box w' w.heap.size 3 [.int .i64 (s3 : Nat)]) ?_ ?_
    ·refine W.seq ?_
     refine W.region ?_
     refine L.val (x_mv (v := .int _ _) rfl) rfl ?_
     refine L.val (x_geq rfl rfl) rfl ?_
     refine L.nil ?_
     refine thn_n ?_
     refine W.cond (b := _) rfl (fun g34 => ?_) (fun g34 => ?_)
     ·have h34 := of_decide_eq_true g34
      refine W.seq ?_
      refine W.region ?_
      refine L.val (x_mv (v := .slice _ _ _) rfl) rfl ?_
      refine L.val (x_mv (v := .int _ _) rfl) rfl ?_
      have e1 : (a : Int) + ((e : Int) - a) / 4 * 1 = ((a + l / 4 * 1 : Nat) : Int) := by omega
      rw [e1]
      refine L.ret (x_call ksrt2_en188 rfl) rfl (medadj_ok b o (a + l / 4 * 1) w.heap.size 0 cap n T hd tl d _ hR hn hc (by omega) (by omega) (by omega) bx9 (by omega)) ?_
      rintro _ w37 ⟨m1, s1, rfl, h1, k1, hg, bx9⟩
      have hB := hB.set hg (by omega)
      have hR := hR.carryR hg (by omega)
      refine L.val (x_as (v := .int _ _) rfl) rfl ?_
      refine L.nil ?_
      refine thn_n ?_
      refine W.seq ?_
      refine W.region ?_
      refine L.val (x_mv (v := .slice _ _ _) rfl) rfl ?_
      refine L.val (x_mv (v := .int _ _) rfl) rfl ?_
      have e1 : (a : Int) + ((e : Int) - a) / 4 * 2 = ((a + l / 4 * 2 : Nat) : Int) := by omega
      rw [e1]
      refine L.ret (x_call ksrt2_en188 rfl) rfl (medadj_ok b o (a + l / 4 * 2) w.heap.size s1 cap n T hd tl d _ hR hn hc (by omega) (by omega) (by omega) bx9 (by omega)) ?_
      rintro _ w40 ⟨m2, s2, rfl, h2, k2, hg, bx9⟩
      have hB := hB.set hg (by omega)
      have hR := hR.carryR hg (by omega)
      refine L.val (x_as (v := .int _ _) rfl) rfl ?_
      refine L.nil ?_
      refine thn_n ?_
      refine W.region ?_
      refine L.val (x_mv (v := .slice _ _ _) rfl) rfl ?_
      refine L.val (x_mv (v := .int _ _) rfl) rfl ?_
      have e1 : (a : Int) + ((e : Int) - a) / 4 * 3 = ((a + l / 4 * 3 : Nat) : Int) := by omega
      rw [e1]
      refine L.ret (x_call ksrt2_en188 rfl) rfl (medadj_ok b o (a + l / 4 * 3) w.heap.size s2 cap n T hd tl d _ hR hn hc (by omega) (by omega) (by omega) bx9 (by omega)) ?_
      rintro _ w43 ⟨m3, s3, rfl, h3, k3, hg, bx9⟩
      have hB := hB.set hg (by omega)
      have hR := hR.carryR hg (by omega)
      refine L.val (x_as (v := .int _ _) rfl) rfl ?_
      refine L.nil ?_
      refine thn_n ?_
      first
        | exact ⟨rfl, m1, m2, m3, s3, rfl, rfl, rfl, rfl, rfl, by omega, by omega, by omega, by omega, by omega, by omega, by omega, hB, hR, bx9⟩
        | exact ⟨rfl, a + l / 4 * 1, a + l / 4 * 2, a + l / 4 * 3, 0, rfl, rfl, vi (by omega), vi (by omega), vi (by omega), by omega, by omega, by omega, by omega, by omega, by omega, by omega, hB, hR, bx9⟩
     ·have h34 := dle_f g34
      refine W.skip ?_
      refine thn_n ?_
      first
        | exact ⟨rfl, m1, m2, m3, s3, rfl, rfl, rfl, rfl, rfl, by omega, by omega, by omega, by omega, by omega, by omega, by omega, hB, hR, bx9⟩
        | exact ⟨rfl, a + l / 4 * 1, a + l / 4 * 2, a + l / 4 * 3, 0, rfl, rfl, vi (by omega), vi (by omega), vi (by omega), by omega, by omega, by omega, by omega, by omega, by omega, by omega, hB, hR, bx9⟩
    ·rintro D E w44 ⟨rfl, m1, m2, m3, s3, e0, e9, e10, e11, e12, a1, a2, a3, a4, a5, a6, a7, hB, hR, bx9⟩
     rw [upd_self e0, upd_self e9, upd_self e10, upd_self e11, upd_self e12]
     refine W.region ?_
     refine L.val (x_mv (v := .slice _ _ _) rfl) rfl ?_
     refine L.val (x_mv (v := .int _ _) rfl) rfl ?_
     refine L.val (x_mv (v := .int _ _) rfl) rfl ?_
     refine L.val (x_mv (v := .int _ _) rfl) rfl ?_
     refine L.ret (x_call ksrt2_en189 rfl) rfl (median_ok b o m1 m2 m3 w.heap.size s3 cap n T hd tl d _ hR hn hc (by omega) (by omega) (by omega) (by omega) bx9 (by omega)) ?_
     rintro _ w48 ⟨m4, s4, rfl, h4, k4, hg, bx9⟩
     have hB := hB.set hg (by omega)
     have hR := hR.carryR hg (by omega)
     refine L.val (x_as (v := .int _ _) rfl) rfl ?_
     refine L.nil ?_
     refine thn_n ?_
     first
       | exact ⟨rfl, m4, s4, rfl, rfl, by omega, by omega, hB, bx9⟩
       | exact ⟨rfl, a + l / 4 * 2, 0, rfl, vi (by omega), by omega, by omega, hB, bx9⟩
   ·have h32 := dle_f g32
    refine W.skip ?_
    refine thn_n ?_
    first
      | exact ⟨rfl, m4, s4, rfl, rfl, by omega, by omega, hB, bx9⟩
      | exact ⟨rfl, a + l / 4 * 2, 0, rfl, vi (by omega), by omega, by omega, hB, bx9⟩
  ·rintro D E w49 ⟨rfl, m, s, e9, e11, a1, a2, hB, bx9⟩
   rw [upd_self e9, upd_self e11]
   refine W.seq ?_
   refine W.region ?_
   refine L.val (x_ld (v := .int _ _) ksrt2_oc3 rfl (bx9.cell (i := 0) rfl)) rfl ?_
   refine L.nil ?_
   refine thn_n ?_
   refine W.block ?_
   refine W.seq ?_
   refine W.region ?_
   refine L.val (x_eql rfl rfl) rfl ?_
   refine L.val (x_as (v := .bool _) rfl) rfl ?_
   refine L.nil ?_
   refine thn_n ?_
   refine W.cond (b := _) rfl (fun g52 => ?_) (fun g52 => ?_)
   ·have h52 := of_decide_eq_true g52
    refine W.seq ?_
    refine W.region ?_
    refine L.val (x_mv (v := .int _ _) rfl) rfl ?_
    refine L.val (x_as (v := .int _ _) rfl) rfl ?_
    refine L.val (x_as (v := .int _ _) rfl) rfl ?_
    refine L.nil ?_
    refine thn_n ?_
    refine W.ret (blk_r (fin_mk (.inr rfl) ?_))
    exact ⟨m, 1, rfl, a1, a2, hB⟩
   ·have h52 := of_decide_eq_false g52
    refine W.seq ?_
    refine W.region ?_
    refine L.val (x_eql rfl rfl) rfl ?_
    refine L.val (x_as (v := .bool _) rfl) rfl ?_
    refine L.nil ?_
    refine thn_n ?_
    refine W.cond (b := _) rfl (fun g55 => ?_) (fun g55 => ?_)
    ·have h55 := of_decide_eq_true g55
     refine W.seq ?_
     refine W.region ?_
     refine L.val (x_mv (v := .int _ _) rfl) rfl ?_
     refine L.val (x_as (v := .int _ _) rfl) rfl ?_
     refine L.val (x_as (v := .int _ _) rfl) rfl ?_
     refine L.nil ?_
     refine thn_n ?_
     refine W.ret (blk_r (fin_mk (.inr rfl) ?_))
     exact ⟨m, 2, rfl, a1, a2, hB⟩
    ·have h55 := of_decide_eq_false g55
     refine W.seq ?_
     refine W.region ?_
     refine L.val (x_mv (v := .int _ _) rfl) rfl ?_
     refine L.val (x_as (v := .int _ _) rfl) rfl ?_
     refine L.val (x_as (v := .int _ _) rfl) rfl ?_
     refine L.nil ?_
     refine thn_n ?_
     refine W.ret (blk_r (fin_mk (.inr rfl) ?_))
     exact ⟨m, 0, rfl, a1, a2, hB⟩
end Go.Gx

