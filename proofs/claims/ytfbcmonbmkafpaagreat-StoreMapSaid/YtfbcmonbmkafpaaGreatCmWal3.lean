/- A log's headers, read. Conditions: none. -/
import Derived.Test.YtfbcmonbmkafpaaGreatCmWal1
namespace Go.Gx
open Go.Proofs
theorem kwal3_ag132 : aggT Tryz.prog 132 4 = true := by kernel_rfl
theorem kwal3_en118 : Go.Proofs.Enters Tryz.prog 118 := Go.Proofs.enters_of Tryz.func118 (by kernel_rfl) rfl
theorem kwal3_en119 : Go.Proofs.Enters Tryz.prog 119 := Go.Proofs.enters_of Tryz.func119 (by kernel_rfl) rfl
theorem kwal3_fo132_1 : fieldOff Tryz.prog 132 1 = some 1 := by kernel_rfl
theorem kwal3_fo132_2 : fieldOff Tryz.prog 132 2 = some 2 := by kernel_rfl
theorem kwal3_mixed : Tryz.prog.follows .mixedOrders = true := by kernel_rfl
theorem kwal3_oc3 : oneCellT Tryz.prog 3 = true := by kernel_rfl
theorem kwal3_si132 : structInfo Tryz.prog 132 = some ([(0, 1), (1, 1), (2, 1), (3, 1)], [Value.int .u64 0, Value.int .i64 0, Value.int .i64 0, Value.int .i64 0]) := by kernel_rfl
theorem kwal3_zr132 : (Tryz.prog.info? 132).bind (·.zero) = some (Value.agg [Value.int .u64 0, Value.int .i64 0, Value.int .i64 0, Value.int .i64 0].toArray) := by kernel_rfl
def rdPt (s : Str) : Pt := ⟨beV (s.take 8), (s.getD 8 0).toNat, beV ((s.drop 9).take 4), beV ((s.drop 13).take 4)⟩
def rdOk (s : Str) (room : Nat) : Bool := (s.drop 17).take 17 == turnS (s.take 17) && decide ((rdPt s).half ≤ 1) && decide ((rdPt s).tail ≤ room)
theorem resCT {P : Program} {fn : Func} {t t2 : Tmp} {T : TypeId} {E : Env} {w : World} {b n : Nat} {T' : TypeId} {cs : List Value} {v : Value} (hr : fn.results = #[.cell t T, .tmp t2]) (ht : aggT P T n = true) (hE : E t = .pointer (some ⟨b, 0, none⟩)) (hE2 : E t2 = v) (hb : Box w b T' cs) (hl : cs.length = n) :
    ∀ a : Array Value, (∀ t, a.getD t undef = E t) → (results fn a).run P w = .ok (.tuple #[.agg cs.toArray, v]) w := by
  intro a ha
  have hg : a.getD t undef = .pointer (some ⟨b, 0, none⟩) := by rw [ha, hE]
  have hg2 : a.getD t2 undef = v := by rw [ha, hE2]
  have hload : (loadVar T ⟨b, 0, none⟩).run P w = .ok (.agg cs.toArray) w := by
    unfold aggT at ht
    simp only [Bool.and_eq_true, beq_iff_eq] at ht
    obtain ⟨h1, h2⟩ := ht
    cases hu : P.underlying T with
    | none => simp [hu] at h1
    | some d =>
      rw [hu] at h1
      exact run_loadVar_row w b T' T cs.toArray (0, 0) d hb hu (by cases d <;> simp_all) (by rw [h2]; simp [hl])
  rw [Array.getD_eq_getD_getElem?] at hg hg2
  simp [results, hr, hg, hg2, asAddr, hload]
theorem beV4 (s : Str) : beV (s.take 4) < 4294967296 := by
  have h1 : beV (s.take 4) < 256 ^ 4 := Nat.lt_of_lt_of_le (beV_lt _) (Nat.pow_le_pow_right (by omega) (by rw [List.length_take]; omega))
  have h3 : (256 : Nat) ^ 4 = 4294967296 := by decide
  rw [h3] at h1
  exact h1
theorem beV8 (s : Str) : beV (s.take 8) < 18446744073709551616 := by
  have h1 : beV (s.take 8) < 256 ^ 8 := Nat.lt_of_lt_of_le (beV_lt _) (Nat.pow_le_pow_right (by omega) (by rw [List.length_take]; omega))
  have h3 : (256 : Nat) ^ 8 = 18446744073709551616 := by decide
  rw [h3] at h1
  exact h1
theorem rdPt_ok (s : Str) : PtOk (rdPt s) := ⟨beV8 s, by have := b8_lt (s.getD 8 0); show (s.getD 8 0).toNat < _; omega, beV4 _, beV4 _⟩
theorem read_ok (s : Str) (room : Nat) (hs : s.length = 64) (hr : room ≤ 1000000) (w : World) : Ret Tryz.prog 88 #[S s, .int .i64 (room : Nat)] w fun v w' => v = .tuple #[.agg (ptV (rdPt s)).toArray, .bool (rdOk s room)] ∧ Bel w w' := by
  have k2 : (s.getD 8 0).toNat < 4294967296 := by have := b8_lt (s.getD 8 0); omega
  have k3 : beV ((s.drop 9).take (13 - 9)) < 4294967296 := beV4 _
  have k4 : beV ((s.drop 13).take (17 - 13)) < 4294967296 := beV4 _
  refine ret_of_W_R Tryz.func88 rfl (Nat.le_of_ble_eq_true rfl) ?_
  have hB := Gr.refl (fun _ => False) w
  refine W.seq ?_
  refine W.region ?_
  refine L.alloc (cs := [Value.int .u64 0, Value.int .i64 0, Value.int .i64 0, Value.int .i64 0]) kwal3_zr132 rfl rfl (fun w4 bx4 hw hz4 => ?_)
  have hB := hB.carry hw
  refine L.val (x_as (v := .bool _) rfl) rfl ?_
  refine L.nil ?_
  refine thn_n ?_
  refine W.cut (fun D' E' w' => D' = [] ∧ ∃ b6 cs4, E' 0 = S s ∧ E' 1 = .int .i64 (room : Nat) ∧ E' 4 = .pointer (some ⟨w.heap.size, 0, none⟩) ∧ E' 6 = .pointer (some ⟨b6, 0, none⟩) ∧ b6 ≠ w.heap.size ∧ cs4.length = 4 ∧ Box w' b6 132 (ptV (rdPt s)) ∧ Box w' w.heap.size 132 cs4 ∧ Bel w w') ?_ ?_
  ·refine W.drawF 17 kwal3_mixed (fun wF7 hB0 => ?_)
   refine LAC.takeN (i := 0) rfl (by kernel_rfl) (by kernel_rfl) (by kernel_rfl) (by kernel_rfl) (fun w hw => x_mv (v := S _) rfl) rfl ?_
   refine LAC.takeN (i := 1) rfl (by kernel_rfl) (by kernel_rfl) (by kernel_rfl) (by kernel_rfl) (fun w hw => x_slS (j := 8) Tryz.underlying9 rfl rfl rfl (by omega)) rfl ?_
   refine LAC.takeN (i := 3) rfl (by kernel_rfl) (by kernel_rfl) (by kernel_rfl) (by kernel_rfl) (fun w hw => x_mv (v := S _) rfl) rfl ?_
   refine LAC.takeN (i := 6) rfl (by kernel_rfl) (by kernel_rfl) (by kernel_rfl) (by kernel_rfl) (fun w hw => x_mv (v := S _) rfl) rfl ?_
   refine LAC.takeN (i := 7) rfl (by kernel_rfl) (by kernel_rfl) (by kernel_rfl) (by kernel_rfl) (fun w hw => x_slAB (j := 9) (j' := 13) Tryz.underlying9 rfl rfl rfl rfl rfl (by omega) (by omega)) rfl ?_
   refine LAC.takeN (i := 10) rfl (by kernel_rfl) (by kernel_rfl) (by kernel_rfl) (by kernel_rfl) (fun w hw => x_mv (v := S _) rfl) rfl ?_
   refine LAC.takeN (i := 11) rfl (by kernel_rfl) (by kernel_rfl) (by kernel_rfl) (by kernel_rfl) (fun w hw => x_slAB (j := 13) (j' := 17) Tryz.underlying9 rfl rfl rfl rfl rfl (by omega) (by omega)) rfl ?_
   refine LAC.step (rs := [2, 4, 15]) (fun _ => hB0) (by kernel_rfl) (by simp) ⟨⟨_, rfl, ?_⟩, ⟨_, rfl, ?_⟩, ⟨_, rfl, ?_⟩, trivial⟩
   ·refine L.ret (x_call kwal3_en118 rfl) rfl (wvalue_ok _ (by rw [List.length_take]; omega) _) ?_
    rintro _ w9 ⟨rfl, hq9⟩
    rw [hq9]
    refine L.nil ?_
    refine thn_n ?_
    refine LAC.step (rs := [4, 8, 15]) (fun _ => hB0) (by kernel_rfl) (by simp) ⟨⟨_, rfl, ?_⟩, ⟨_, rfl, ?_⟩, ⟨_, rfl, ?_⟩, trivial⟩
    ·refine L.val (x_ixs (j := 8) Tryz.underlying9 rfl rfl (by omega) (by omega)) rfl ?_
     refine L.nil ?_
     refine thn_n ?_
     refine LAC.takeN (i := 5) rfl (by kernel_rfl) (by kernel_rfl) (by kernel_rfl) (by kernel_rfl) (fun w hw => x_conv (k' := .i64) (by rw [Tryz.underlying5]; rfl) Tryz.underlying3 rfl (wr64 (by omega))) rfl ?_
     refine LAC.step (rs := [8, 15]) (fun _ => hB0) (by kernel_rfl) (by simp) ⟨⟨_, rfl, ?_⟩, ⟨_, rfl, ?_⟩, trivial⟩
     ·refine L.ret (x_call kwal3_en118 rfl) rfl (wvalue_ok _ (by rw [List.length_take]; omega) _) ?_
      rintro _ w15 ⟨rfl, hq15⟩
      rw [hq15]
      refine L.nil ?_
      refine thn_n ?_
      refine LAC.takeN (i := 9) rfl (by kernel_rfl) (by kernel_rfl) (by kernel_rfl) (by kernel_rfl) (fun w hw => x_conv (k' := .i64) (by rw [Tryz.underlying103]; rfl) Tryz.underlying3 rfl (wr64 (by omega))) rfl ?_
      refine LAC.step (rs := [12, 15]) (fun _ => hB0) (by kernel_rfl) (by simp) ⟨⟨_, rfl, ?_⟩, ⟨_, rfl, ?_⟩, trivial⟩
      ·refine L.ret (x_call kwal3_en118 rfl) rfl (wvalue_ok _ (by rw [List.length_take]; omega) _) ?_
       rintro _ w19 ⟨rfl, hq19⟩
       rw [hq19]
       refine L.nil ?_
       refine thn_n ?_
       refine LAC.takeN (i := 13) rfl (by kernel_rfl) (by kernel_rfl) (by kernel_rfl) (by kernel_rfl) (fun w hw => x_conv (k' := .i64) (by rw [Tryz.underlying103]; rfl) Tryz.underlying3 rfl (wr64 (by omega))) rfl ?_
       refine LAC.takeN (i := 14) rfl (by kernel_rfl) (by kernel_rfl) (by kernel_rfl) (by kernel_rfl) (fun w hw => x_build (cells := [.int _ _, .int _ _, .int _ _, .int _ _]) kwal3_si132 rfl rfl) rfl ?_
       refine LAC.step (rs := [15]) (fun _ => hB0) (by kernel_rfl) (by simp) ⟨⟨_, rfl, ?_⟩, trivial⟩
       have hs6 := hB0.size
       have hlx4 := bx4.lt
       refine L.alloc (cs := [Value.int .u64 0, Value.int .i64 0, Value.int .i64 0, Value.int .i64 0]) kwal3_zr132 rfl rfl (fun w6 bx6 hw hz6 => ?_)
       have hB0 := hB0.carry hw
       refine L.nil ?_
       refine thn_n ?_
       refine LAC.step (rs := [16]) (fun _ => hB0) (by kernel_rfl) (by simp) ⟨⟨_, rfl, ?_⟩, trivial⟩
       refine L.setRow kwal3_ag132 rfl rfl bx6 rfl rfl (ptV_one (rdPt s)) (fun wl19 bx6 hw hzl19 => ?_)
       have hB0 := hB0.set hw (by omega)
       refine L.nil ?_
       refine thn_n ?_
       refine LAC.doneF (by kernel_rfl) hB0 ?_
       have hB := hB.carry hB0; have bx4 := bx4.carry hB0
       refine thn_n ?_
       exact ⟨rfl, _, _, rfl, rfl, rfl, rfl, by omega, rfl, bx6, bx4, hB⟩
      ·have hs6 := hB0.size
       have hlx4 := bx4.lt
       refine L.alloc (cs := [Value.int .u64 0, Value.int .i64 0, Value.int .i64 0, Value.int .i64 0]) kwal3_zr132 rfl rfl (fun w6 bx6 hw hz6 => ?_)
       have hB0 := hB0.carry hw
       refine L.nil ?_
       refine thn_n ?_
       refine LAC.step (rs := [12]) (fun _ => hB0) (by kernel_rfl) (by simp) ⟨⟨_, rfl, ?_⟩, trivial⟩
       refine L.ret (x_call kwal3_en118 rfl) rfl (wvalue_ok _ (by rw [List.length_take]; omega) _) ?_
       rintro _ w19 ⟨rfl, hq19⟩
       rw [hq19]
       refine L.nil ?_
       refine thn_n ?_
       refine LAC.takeN (i := 13) rfl (by kernel_rfl) (by kernel_rfl) (by kernel_rfl) (by kernel_rfl) (fun w hw => x_conv (k' := .i64) (by rw [Tryz.underlying103]; rfl) Tryz.underlying3 rfl (wr64 (by omega))) rfl ?_
       refine LAC.takeN (i := 14) rfl (by kernel_rfl) (by kernel_rfl) (by kernel_rfl) (by kernel_rfl) (fun w hw => x_build (cells := [.int _ _, .int _ _, .int _ _, .int _ _]) kwal3_si132 rfl rfl) rfl ?_
       refine LAC.step (rs := [16]) (fun _ => hB0) (by kernel_rfl) (by simp) ⟨⟨_, rfl, ?_⟩, trivial⟩
       refine L.setRow kwal3_ag132 rfl rfl bx6 rfl rfl (ptV_one (rdPt s)) (fun wl19 bx6 hw hzl19 => ?_)
       have hB0 := hB0.set hw (by omega)
       refine L.nil ?_
       refine thn_n ?_
       refine LAC.doneF (by kernel_rfl) hB0 ?_
       have hB := hB.carry hB0; have bx4 := bx4.carry hB0
       refine thn_n ?_
       exact ⟨rfl, _, _, rfl, rfl, rfl, rfl, by omega, rfl, bx6, bx4, hB⟩
     ·have hs6 := hB0.size
      have hlx4 := bx4.lt
      refine L.alloc (cs := [Value.int .u64 0, Value.int .i64 0, Value.int .i64 0, Value.int .i64 0]) kwal3_zr132 rfl rfl (fun w6 bx6 hw hz6 => ?_)
      have hB0 := hB0.carry hw
      refine L.nil ?_
      refine thn_n ?_
      refine LAC.step (rs := [8]) (fun _ => hB0) (by kernel_rfl) (by simp) ⟨⟨_, rfl, ?_⟩, trivial⟩
      refine L.ret (x_call kwal3_en118 rfl) rfl (wvalue_ok _ (by rw [List.length_take]; omega) _) ?_
      rintro _ w15 ⟨rfl, hq15⟩
      rw [hq15]
      refine L.nil ?_
      refine thn_n ?_
      refine LAC.takeN (i := 9) rfl (by kernel_rfl) (by kernel_rfl) (by kernel_rfl) (by kernel_rfl) (fun w hw => x_conv (k' := .i64) (by rw [Tryz.underlying103]; rfl) Tryz.underlying3 rfl (wr64 (by omega))) rfl ?_
      refine LAC.step (rs := [12]) (fun _ => hB0) (by kernel_rfl) (by simp) ⟨⟨_, rfl, ?_⟩, trivial⟩
      refine L.ret (x_call kwal3_en118 rfl) rfl (wvalue_ok _ (by rw [List.length_take]; omega) _) ?_
      rintro _ w19 ⟨rfl, hq19⟩
      rw [hq19]
      refine L.nil ?_
      refine thn_n ?_
      refine LAC.takeN (i := 13) rfl (by kernel_rfl) (by kernel_rfl) (by kernel_rfl) (by kernel_rfl) (fun w hw => x_conv (k' := .i64) (by rw [Tryz.underlying103]; rfl) Tryz.underlying3 rfl (wr64 (by omega))) rfl ?_
      refine LAC.takeN (i := 14) rfl (by kernel_rfl) (by kernel_rfl) (by kernel_rfl) (by kernel_rfl) (fun w hw => x_build (cells := [.int _ _, .int _ _, .int _ _, .int _ _]) kwal3_si132 rfl rfl) rfl ?_
      refine LAC.step (rs := [16]) (fun _ => hB0) (by kernel_rfl) (by simp) ⟨⟨_, rfl, ?_⟩, trivial⟩
      refine L.setRow kwal3_ag132 rfl rfl bx6 rfl rfl (ptV_one (rdPt s)) (fun wl19 bx6 hw hzl19 => ?_)
      have hB0 := hB0.set hw (by omega)
      refine L.nil ?_
      refine thn_n ?_
      refine LAC.doneF (by kernel_rfl) hB0 ?_
      have hB := hB.carry hB0; have bx4 := bx4.carry hB0
      refine thn_n ?_
      exact ⟨rfl, _, _, rfl, rfl, rfl, rfl, by omega, rfl, bx6, bx4, hB⟩
    ·refine L.ret (x_call kwal3_en118 rfl) rfl (wvalue_ok _ (by rw [List.length_take]; omega) _) ?_
     rintro _ w15 ⟨rfl, hq15⟩
     rw [hq15]
     refine L.nil ?_
     refine thn_n ?_
     refine LAC.takeN (i := 9) rfl (by kernel_rfl) (by kernel_rfl) (by kernel_rfl) (by kernel_rfl) (fun w hw => x_conv (k' := .i64) (by rw [Tryz.underlying103]; rfl) Tryz.underlying3 rfl (wr64 (by omega))) rfl ?_
     refine LAC.step (rs := [4, 12, 15]) (fun _ => hB0) (by kernel_rfl) (by simp) ⟨⟨_, rfl, ?_⟩, ⟨_, rfl, ?_⟩, ⟨_, rfl, ?_⟩, trivial⟩
     ·refine L.val (x_ixs (j := 8) Tryz.underlying9 rfl rfl (by omega) (by omega)) rfl ?_
      refine L.nil ?_
      refine thn_n ?_
      refine LAC.takeN (i := 5) rfl (by kernel_rfl) (by kernel_rfl) (by kernel_rfl) (by kernel_rfl) (fun w hw => x_conv (k' := .i64) (by rw [Tryz.underlying5]; rfl) Tryz.underlying3 rfl (wr64 (by omega))) rfl ?_
      refine LAC.step (rs := [12, 15]) (fun _ => hB0) (by kernel_rfl) (by simp) ⟨⟨_, rfl, ?_⟩, ⟨_, rfl, ?_⟩, trivial⟩
      ·refine L.ret (x_call kwal3_en118 rfl) rfl (wvalue_ok _ (by rw [List.length_take]; omega) _) ?_
       rintro _ w19 ⟨rfl, hq19⟩
       rw [hq19]
       refine L.nil ?_
       refine thn_n ?_
       refine LAC.takeN (i := 13) rfl (by kernel_rfl) (by kernel_rfl) (by kernel_rfl) (by kernel_rfl) (fun w hw => x_conv (k' := .i64) (by rw [Tryz.underlying103]; rfl) Tryz.underlying3 rfl (wr64 (by omega))) rfl ?_
       refine LAC.takeN (i := 14) rfl (by kernel_rfl) (by kernel_rfl) (by kernel_rfl) (by kernel_rfl) (fun w hw => x_build (cells := [.int _ _, .int _ _, .int _ _, .int _ _]) kwal3_si132 rfl rfl) rfl ?_
       refine LAC.step (rs := [15]) (fun _ => hB0) (by kernel_rfl) (by simp) ⟨⟨_, rfl, ?_⟩, trivial⟩
       have hs6 := hB0.size
       have hlx4 := bx4.lt
       refine L.alloc (cs := [Value.int .u64 0, Value.int .i64 0, Value.int .i64 0, Value.int .i64 0]) kwal3_zr132 rfl rfl (fun w6 bx6 hw hz6 => ?_)
       have hB0 := hB0.carry hw
       refine L.nil ?_
       refine thn_n ?_
       refine LAC.step (rs := [16]) (fun _ => hB0) (by kernel_rfl) (by simp) ⟨⟨_, rfl, ?_⟩, trivial⟩
       refine L.setRow kwal3_ag132 rfl rfl bx6 rfl rfl (ptV_one (rdPt s)) (fun wl19 bx6 hw hzl19 => ?_)
       have hB0 := hB0.set hw (by omega)
       refine L.nil ?_
       refine thn_n ?_
       refine LAC.doneF (by kernel_rfl) hB0 ?_
       have hB := hB.carry hB0; have bx4 := bx4.carry hB0
       refine thn_n ?_
       exact ⟨rfl, _, _, rfl, rfl, rfl, rfl, by omega, rfl, bx6, bx4, hB⟩
      ·have hs6 := hB0.size
       have hlx4 := bx4.lt
       refine L.alloc (cs := [Value.int .u64 0, Value.int .i64 0, Value.int .i64 0, Value.int .i64 0]) kwal3_zr132 rfl rfl (fun w6 bx6 hw hz6 => ?_)
       have hB0 := hB0.carry hw
       refine L.nil ?_
       refine thn_n ?_
       refine LAC.step (rs := [12]) (fun _ => hB0) (by kernel_rfl) (by simp) ⟨⟨_, rfl, ?_⟩, trivial⟩
       refine L.ret (x_call kwal3_en118 rfl) rfl (wvalue_ok _ (by rw [List.length_take]; omega) _) ?_
       rintro _ w19 ⟨rfl, hq19⟩
       rw [hq19]
       refine L.nil ?_
       refine thn_n ?_
       refine LAC.takeN (i := 13) rfl (by kernel_rfl) (by kernel_rfl) (by kernel_rfl) (by kernel_rfl) (fun w hw => x_conv (k' := .i64) (by rw [Tryz.underlying103]; rfl) Tryz.underlying3 rfl (wr64 (by omega))) rfl ?_
       refine LAC.takeN (i := 14) rfl (by kernel_rfl) (by kernel_rfl) (by kernel_rfl) (by kernel_rfl) (fun w hw => x_build (cells := [.int _ _, .int _ _, .int _ _, .int _ _]) kwal3_si132 rfl rfl) rfl ?_
       refine LAC.step (rs := [16]) (fun _ => hB0) (by kernel_rfl) (by simp) ⟨⟨_, rfl, ?_⟩, trivial⟩
       refine L.setRow kwal3_ag132 rfl rfl bx6 rfl rfl (ptV_one (rdPt s)) (fun wl19 bx6 hw hzl19 => ?_)
       have hB0 := hB0.set hw (by omega)
       refine L.nil ?_
       refine thn_n ?_
       refine LAC.doneF (by kernel_rfl) hB0 ?_
       have hB := hB.carry hB0; have bx4 := bx4.carry hB0
       refine thn_n ?_
       exact ⟨rfl, _, _, rfl, rfl, rfl, rfl, by omega, rfl, bx6, bx4, hB⟩
     ·refine L.ret (x_call kwal3_en118 rfl) rfl (wvalue_ok _ (by rw [List.length_take]; omega) _) ?_
      rintro _ w19 ⟨rfl, hq19⟩
      rw [hq19]
      refine L.nil ?_
      refine thn_n ?_
      refine LAC.takeN (i := 13) rfl (by kernel_rfl) (by kernel_rfl) (by kernel_rfl) (by kernel_rfl) (fun w hw => x_conv (k' := .i64) (by rw [Tryz.underlying103]; rfl) Tryz.underlying3 rfl (wr64 (by omega))) rfl ?_
      refine LAC.step (rs := [4, 15]) (fun _ => hB0) (by kernel_rfl) (by simp) ⟨⟨_, rfl, ?_⟩, ⟨_, rfl, ?_⟩, trivial⟩
      ·refine L.val (x_ixs (j := 8) Tryz.underlying9 rfl rfl (by omega) (by omega)) rfl ?_
       refine L.nil ?_
       refine thn_n ?_
       refine LAC.takeN (i := 5) rfl (by kernel_rfl) (by kernel_rfl) (by kernel_rfl) (by kernel_rfl) (fun w hw => x_conv (k' := .i64) (by rw [Tryz.underlying5]; rfl) Tryz.underlying3 rfl (wr64 (by omega))) rfl ?_
       refine LAC.takeN (i := 14) rfl (by kernel_rfl) (by kernel_rfl) (by kernel_rfl) (by kernel_rfl) (fun w hw => x_build (cells := [.int _ _, .int _ _, .int _ _, .int _ _]) kwal3_si132 rfl rfl) rfl ?_
       refine LAC.step (rs := [15]) (fun _ => hB0) (by kernel_rfl) (by simp) ⟨⟨_, rfl, ?_⟩, trivial⟩
       have hs6 := hB0.size
       have hlx4 := bx4.lt
       refine L.alloc (cs := [Value.int .u64 0, Value.int .i64 0, Value.int .i64 0, Value.int .i64 0]) kwal3_zr132 rfl rfl (fun w6 bx6 hw hz6 => ?_)
       have hB0 := hB0.carry hw
       refine L.nil ?_
       refine thn_n ?_
       refine LAC.step (rs := [16]) (fun _ => hB0) (by kernel_rfl) (by simp) ⟨⟨_, rfl, ?_⟩, trivial⟩
       refine L.setRow kwal3_ag132 rfl rfl bx6 rfl rfl (ptV_one (rdPt s)) (fun wl19 bx6 hw hzl19 => ?_)
       have hB0 := hB0.set hw (by omega)
       refine L.nil ?_
       refine thn_n ?_
       refine LAC.doneF (by kernel_rfl) hB0 ?_
       have hB := hB.carry hB0; have bx4 := bx4.carry hB0
       refine thn_n ?_
       exact ⟨rfl, _, _, rfl, rfl, rfl, rfl, by omega, rfl, bx6, bx4, hB⟩
      ·have hs6 := hB0.size
       have hlx4 := bx4.lt
       refine L.alloc (cs := [Value.int .u64 0, Value.int .i64 0, Value.int .i64 0, Value.int .i64 0]) kwal3_zr132 rfl rfl (fun w6 bx6 hw hz6 => ?_)
       have hB0 := hB0.carry hw
       refine L.nil ?_
       refine thn_n ?_
       refine LAC.step (rs := [4]) (fun _ => hB0) (by kernel_rfl) (by simp) ⟨⟨_, rfl, ?_⟩, trivial⟩
       refine L.val (x_ixs (j := 8) Tryz.underlying9 rfl rfl (by omega) (by omega)) rfl ?_
       refine L.nil ?_
       refine thn_n ?_
       refine LAC.takeN (i := 5) rfl (by kernel_rfl) (by kernel_rfl) (by kernel_rfl) (by kernel_rfl) (fun w hw => x_conv (k' := .i64) (by rw [Tryz.underlying5]; rfl) Tryz.underlying3 rfl (wr64 (by omega))) rfl ?_
       refine LAC.takeN (i := 14) rfl (by kernel_rfl) (by kernel_rfl) (by kernel_rfl) (by kernel_rfl) (fun w hw => x_build (cells := [.int _ _, .int _ _, .int _ _, .int _ _]) kwal3_si132 rfl rfl) rfl ?_
       refine LAC.step (rs := [16]) (fun _ => hB0) (by kernel_rfl) (by simp) ⟨⟨_, rfl, ?_⟩, trivial⟩
       refine L.setRow kwal3_ag132 rfl rfl bx6 rfl rfl (ptV_one (rdPt s)) (fun wl19 bx6 hw hzl19 => ?_)
       have hB0 := hB0.set hw (by omega)
       refine L.nil ?_
       refine thn_n ?_
       refine LAC.doneF (by kernel_rfl) hB0 ?_
       have hB := hB.carry hB0; have bx4 := bx4.carry hB0
       refine thn_n ?_
       exact ⟨rfl, _, _, rfl, rfl, rfl, rfl, by omega, rfl, bx6, bx4, hB⟩
     ·have hs6 := hB0.size
      have hlx4 := bx4.lt
      refine L.alloc (cs := [Value.int .u64 0, Value.int .i64 0, Value.int .i64 0, Value.int .i64 0]) kwal3_zr132 rfl rfl (fun w6 bx6 hw hz6 => ?_)
      have hB0 := hB0.carry hw
      refine L.nil ?_
      refine thn_n ?_
      refine LAC.step (rs := [4, 12]) (fun _ => hB0) (by kernel_rfl) (by simp) ⟨⟨_, rfl, ?_⟩, ⟨_, rfl, ?_⟩, trivial⟩
      ·refine L.val (x_ixs (j := 8) Tryz.underlying9 rfl rfl (by omega) (by omega)) rfl ?_
       refine L.nil ?_
       refine thn_n ?_
       refine LAC.takeN (i := 5) rfl (by kernel_rfl) (by kernel_rfl) (by kernel_rfl) (by kernel_rfl) (fun w hw => x_conv (k' := .i64) (by rw [Tryz.underlying5]; rfl) Tryz.underlying3 rfl (wr64 (by omega))) rfl ?_
       refine LAC.step (rs := [12]) (fun _ => hB0) (by kernel_rfl) (by simp) ⟨⟨_, rfl, ?_⟩, trivial⟩
       refine L.ret (x_call kwal3_en118 rfl) rfl (wvalue_ok _ (by rw [List.length_take]; omega) _) ?_
       rintro _ w19 ⟨rfl, hq19⟩
       rw [hq19]
       refine L.nil ?_
       refine thn_n ?_
       refine LAC.takeN (i := 13) rfl (by kernel_rfl) (by kernel_rfl) (by kernel_rfl) (by kernel_rfl) (fun w hw => x_conv (k' := .i64) (by rw [Tryz.underlying103]; rfl) Tryz.underlying3 rfl (wr64 (by omega))) rfl ?_
       refine LAC.takeN (i := 14) rfl (by kernel_rfl) (by kernel_rfl) (by kernel_rfl) (by kernel_rfl) (fun w hw => x_build (cells := [.int _ _, .int _ _, .int _ _, .int _ _]) kwal3_si132 rfl rfl) rfl ?_
       refine LAC.step (rs := [16]) (fun _ => hB0) (by kernel_rfl) (by simp) ⟨⟨_, rfl, ?_⟩, trivial⟩
       refine L.setRow kwal3_ag132 rfl rfl bx6 rfl rfl (ptV_one (rdPt s)) (fun wl19 bx6 hw hzl19 => ?_)
       have hB0 := hB0.set hw (by omega)
       refine L.nil ?_
       refine thn_n ?_
       refine LAC.doneF (by kernel_rfl) hB0 ?_
       have hB := hB.carry hB0; have bx4 := bx4.carry hB0
       refine thn_n ?_
       exact ⟨rfl, _, _, rfl, rfl, rfl, rfl, by omega, rfl, bx6, bx4, hB⟩
      ·refine L.ret (x_call kwal3_en118 rfl) rfl (wvalue_ok _ (by rw [List.length_take]; omega) _) ?_
       rintro _ w19 ⟨rfl, hq19⟩
       rw [hq19]
       refine L.nil ?_
       refine thn_n ?_
       refine LAC.takeN (i := 13) rfl (by kernel_rfl) (by kernel_rfl) (by kernel_rfl) (by kernel_rfl) (fun w hw => x_conv (k' := .i64) (by rw [Tryz.underlying103]; rfl) Tryz.underlying3 rfl (wr64 (by omega))) rfl ?_
       refine LAC.step (rs := [4]) (fun _ => hB0) (by kernel_rfl) (by simp) ⟨⟨_, rfl, ?_⟩, trivial⟩
       refine L.val (x_ixs (j := 8) Tryz.underlying9 rfl rfl (by omega) (by omega)) rfl ?_
       refine L.nil ?_
       refine thn_n ?_
       refine LAC.takeN (i := 5) rfl (by kernel_rfl) (by kernel_rfl) (by kernel_rfl) (by kernel_rfl) (fun w hw => x_conv (k' := .i64) (by rw [Tryz.underlying5]; rfl) Tryz.underlying3 rfl (wr64 (by omega))) rfl ?_
       refine LAC.takeN (i := 14) rfl (by kernel_rfl) (by kernel_rfl) (by kernel_rfl) (by kernel_rfl) (fun w hw => x_build (cells := [.int _ _, .int _ _, .int _ _, .int _ _]) kwal3_si132 rfl rfl) rfl ?_
       refine LAC.step (rs := [16]) (fun _ => hB0) (by kernel_rfl) (by simp) ⟨⟨_, rfl, ?_⟩, trivial⟩
       refine L.setRow kwal3_ag132 rfl rfl bx6 rfl rfl (ptV_one (rdPt s)) (fun wl19 bx6 hw hzl19 => ?_)
       have hB0 := hB0.set hw (by omega)
       refine L.nil ?_
       refine thn_n ?_
       refine LAC.doneF (by kernel_rfl) hB0 ?_
       have hB := hB.carry hB0; have bx4 := bx4.carry hB0
       refine thn_n ?_
       exact ⟨rfl, _, _, rfl, rfl, rfl, rfl, by omega, rfl, bx6, bx4, hB⟩
    ·have hs6 := hB0.size
     have hlx4 := bx4.lt
     refine L.alloc (cs := [Value.int .u64 0, Value.int .i64 0, Value.int .i64 0, Value.int .i64 0]) kwal3_zr132 rfl rfl (fun w6 bx6 hw hz6 => ?_)
     have hB0 := hB0.carry hw
     refine L.nil ?_
     refine thn_n ?_
     refine LAC.step (rs := [4, 8]) (fun _ => hB0) (by kernel_rfl) (by simp) ⟨⟨_, rfl, ?_⟩, ⟨_, rfl, ?_⟩, trivial⟩
     ·refine L.val (x_ixs (j := 8) Tryz.underlying9 rfl rfl (by omega) (by omega)) rfl ?_
      refine L.nil ?_
      refine thn_n ?_
      refine LAC.takeN (i := 5) rfl (by kernel_rfl) (by kernel_rfl) (by kernel_rfl) (by kernel_rfl) (fun w hw => x_conv (k' := .i64) (by rw [Tryz.underlying5]; rfl) Tryz.underlying3 rfl (wr64 (by omega))) rfl ?_
      refine LAC.step (rs := [8]) (fun _ => hB0) (by kernel_rfl) (by simp) ⟨⟨_, rfl, ?_⟩, trivial⟩
      refine L.ret (x_call kwal3_en118 rfl) rfl (wvalue_ok _ (by rw [List.length_take]; omega) _) ?_
      rintro _ w15 ⟨rfl, hq15⟩
      rw [hq15]
      refine L.nil ?_
      refine thn_n ?_
      refine LAC.takeN (i := 9) rfl (by kernel_rfl) (by kernel_rfl) (by kernel_rfl) (by kernel_rfl) (fun w hw => x_conv (k' := .i64) (by rw [Tryz.underlying103]; rfl) Tryz.underlying3 rfl (wr64 (by omega))) rfl ?_
      refine LAC.step (rs := [12]) (fun _ => hB0) (by kernel_rfl) (by simp) ⟨⟨_, rfl, ?_⟩, trivial⟩
      refine L.ret (x_call kwal3_en118 rfl) rfl (wvalue_ok _ (by rw [List.length_take]; omega) _) ?_
      rintro _ w19 ⟨rfl, hq19⟩
      rw [hq19]
      refine L.nil ?_
      refine thn_n ?_
      refine LAC.takeN (i := 13) rfl (by kernel_rfl) (by kernel_rfl) (by kernel_rfl) (by kernel_rfl) (fun w hw => x_conv (k' := .i64) (by rw [Tryz.underlying103]; rfl) Tryz.underlying3 rfl (wr64 (by omega))) rfl ?_
      refine LAC.takeN (i := 14) rfl (by kernel_rfl) (by kernel_rfl) (by kernel_rfl) (by kernel_rfl) (fun w hw => x_build (cells := [.int _ _, .int _ _, .int _ _, .int _ _]) kwal3_si132 rfl rfl) rfl ?_
      refine LAC.step (rs := [16]) (fun _ => hB0) (by kernel_rfl) (by simp) ⟨⟨_, rfl, ?_⟩, trivial⟩
      refine L.setRow kwal3_ag132 rfl rfl bx6 rfl rfl (ptV_one (rdPt s)) (fun wl19 bx6 hw hzl19 => ?_)
      have hB0 := hB0.set hw (by omega)
      refine L.nil ?_
      refine thn_n ?_
      refine LAC.doneF (by kernel_rfl) hB0 ?_
      have hB := hB.carry hB0; have bx4 := bx4.carry hB0
      refine thn_n ?_
      exact ⟨rfl, _, _, rfl, rfl, rfl, rfl, by omega, rfl, bx6, bx4, hB⟩
     ·refine L.ret (x_call kwal3_en118 rfl) rfl (wvalue_ok _ (by rw [List.length_take]; omega) _) ?_
      rintro _ w15 ⟨rfl, hq15⟩
      rw [hq15]
      refine L.nil ?_
      refine thn_n ?_
      refine LAC.takeN (i := 9) rfl (by kernel_rfl) (by kernel_rfl) (by kernel_rfl) (by kernel_rfl) (fun w hw => x_conv (k' := .i64) (by rw [Tryz.underlying103]; rfl) Tryz.underlying3 rfl (wr64 (by omega))) rfl ?_
      refine LAC.step (rs := [4, 12]) (fun _ => hB0) (by kernel_rfl) (by simp) ⟨⟨_, rfl, ?_⟩, ⟨_, rfl, ?_⟩, trivial⟩
      ·refine L.val (x_ixs (j := 8) Tryz.underlying9 rfl rfl (by omega) (by omega)) rfl ?_
       refine L.nil ?_
       refine thn_n ?_
       refine LAC.takeN (i := 5) rfl (by kernel_rfl) (by kernel_rfl) (by kernel_rfl) (by kernel_rfl) (fun w hw => x_conv (k' := .i64) (by rw [Tryz.underlying5]; rfl) Tryz.underlying3 rfl (wr64 (by omega))) rfl ?_
       refine LAC.step (rs := [12]) (fun _ => hB0) (by kernel_rfl) (by simp) ⟨⟨_, rfl, ?_⟩, trivial⟩
       refine L.ret (x_call kwal3_en118 rfl) rfl (wvalue_ok _ (by rw [List.length_take]; omega) _) ?_
       rintro _ w19 ⟨rfl, hq19⟩
       rw [hq19]
       refine L.nil ?_
       refine thn_n ?_
       refine LAC.takeN (i := 13) rfl (by kernel_rfl) (by kernel_rfl) (by kernel_rfl) (by kernel_rfl) (fun w hw => x_conv (k' := .i64) (by rw [Tryz.underlying103]; rfl) Tryz.underlying3 rfl (wr64 (by omega))) rfl ?_
       refine LAC.takeN (i := 14) rfl (by kernel_rfl) (by kernel_rfl) (by kernel_rfl) (by kernel_rfl) (fun w hw => x_build (cells := [.int _ _, .int _ _, .int _ _, .int _ _]) kwal3_si132 rfl rfl) rfl ?_
       refine LAC.step (rs := [16]) (fun _ => hB0) (by kernel_rfl) (by simp) ⟨⟨_, rfl, ?_⟩, trivial⟩
       refine L.setRow kwal3_ag132 rfl rfl bx6 rfl rfl (ptV_one (rdPt s)) (fun wl19 bx6 hw hzl19 => ?_)
       have hB0 := hB0.set hw (by omega)
       refine L.nil ?_
       refine thn_n ?_
       refine LAC.doneF (by kernel_rfl) hB0 ?_
       have hB := hB.carry hB0; have bx4 := bx4.carry hB0
       refine thn_n ?_
       exact ⟨rfl, _, _, rfl, rfl, rfl, rfl, by omega, rfl, bx6, bx4, hB⟩
      ·refine L.ret (x_call kwal3_en118 rfl) rfl (wvalue_ok _ (by rw [List.length_take]; omega) _) ?_
       rintro _ w19 ⟨rfl, hq19⟩
       rw [hq19]
       refine L.nil ?_
       refine thn_n ?_
       refine LAC.takeN (i := 13) rfl (by kernel_rfl) (by kernel_rfl) (by kernel_rfl) (by kernel_rfl) (fun w hw => x_conv (k' := .i64) (by rw [Tryz.underlying103]; rfl) Tryz.underlying3 rfl (wr64 (by omega))) rfl ?_
       refine LAC.step (rs := [4]) (fun _ => hB0) (by kernel_rfl) (by simp) ⟨⟨_, rfl, ?_⟩, trivial⟩
       refine L.val (x_ixs (j := 8) Tryz.underlying9 rfl rfl (by omega) (by omega)) rfl ?_
       refine L.nil ?_
       refine thn_n ?_
       refine LAC.takeN (i := 5) rfl (by kernel_rfl) (by kernel_rfl) (by kernel_rfl) (by kernel_rfl) (fun w hw => x_conv (k' := .i64) (by rw [Tryz.underlying5]; rfl) Tryz.underlying3 rfl (wr64 (by omega))) rfl ?_
       refine LAC.takeN (i := 14) rfl (by kernel_rfl) (by kernel_rfl) (by kernel_rfl) (by kernel_rfl) (fun w hw => x_build (cells := [.int _ _, .int _ _, .int _ _, .int _ _]) kwal3_si132 rfl rfl) rfl ?_
       refine LAC.step (rs := [16]) (fun _ => hB0) (by kernel_rfl) (by simp) ⟨⟨_, rfl, ?_⟩, trivial⟩
       refine L.setRow kwal3_ag132 rfl rfl bx6 rfl rfl (ptV_one (rdPt s)) (fun wl19 bx6 hw hzl19 => ?_)
       have hB0 := hB0.set hw (by omega)
       refine L.nil ?_
       refine thn_n ?_
       refine LAC.doneF (by kernel_rfl) hB0 ?_
       have hB := hB.carry hB0; have bx4 := bx4.carry hB0
       refine thn_n ?_
       exact ⟨rfl, _, _, rfl, rfl, rfl, rfl, by omega, rfl, bx6, bx4, hB⟩
   ·refine L.val (x_ixs (j := 8) Tryz.underlying9 rfl rfl (by omega) (by omega)) rfl ?_
    refine L.nil ?_
    refine thn_n ?_
    refine LAC.takeN (i := 5) rfl (by kernel_rfl) (by kernel_rfl) (by kernel_rfl) (by kernel_rfl) (fun w hw => x_conv (k' := .i64) (by rw [Tryz.underlying5]; rfl) Tryz.underlying3 rfl (wr64 (by omega))) rfl ?_
    refine LAC.step (rs := [2, 15]) (fun _ => hB0) (by kernel_rfl) (by simp) ⟨⟨_, rfl, ?_⟩, ⟨_, rfl, ?_⟩, trivial⟩
    ·refine L.ret (x_call kwal3_en118 rfl) rfl (wvalue_ok _ (by rw [List.length_take]; omega) _) ?_
     rintro _ w9 ⟨rfl, hq9⟩
     rw [hq9]
     refine L.nil ?_
     refine thn_n ?_
     refine LAC.step (rs := [8, 15]) (fun _ => hB0) (by kernel_rfl) (by simp) ⟨⟨_, rfl, ?_⟩, ⟨_, rfl, ?_⟩, trivial⟩
     ·refine L.ret (x_call kwal3_en118 rfl) rfl (wvalue_ok _ (by rw [List.length_take]; omega) _) ?_
      rintro _ w15 ⟨rfl, hq15⟩
      rw [hq15]
      refine L.nil ?_
      refine thn_n ?_
      refine LAC.takeN (i := 9) rfl (by kernel_rfl) (by kernel_rfl) (by kernel_rfl) (by kernel_rfl) (fun w hw => x_conv (k' := .i64) (by rw [Tryz.underlying103]; rfl) Tryz.underlying3 rfl (wr64 (by omega))) rfl ?_
      refine LAC.step (rs := [12, 15]) (fun _ => hB0) (by kernel_rfl) (by simp) ⟨⟨_, rfl, ?_⟩, ⟨_, rfl, ?_⟩, trivial⟩
      ·refine L.ret (x_call kwal3_en118 rfl) rfl (wvalue_ok _ (by rw [List.length_take]; omega) _) ?_
       rintro _ w19 ⟨rfl, hq19⟩
       rw [hq19]
       refine L.nil ?_
       refine thn_n ?_
       refine LAC.takeN (i := 13) rfl (by kernel_rfl) (by kernel_rfl) (by kernel_rfl) (by kernel_rfl) (fun w hw => x_conv (k' := .i64) (by rw [Tryz.underlying103]; rfl) Tryz.underlying3 rfl (wr64 (by omega))) rfl ?_
       refine LAC.takeN (i := 14) rfl (by kernel_rfl) (by kernel_rfl) (by kernel_rfl) (by kernel_rfl) (fun w hw => x_build (cells := [.int _ _, .int _ _, .int _ _, .int _ _]) kwal3_si132 rfl rfl) rfl ?_
       refine LAC.step (rs := [15]) (fun _ => hB0) (by kernel_rfl) (by simp) ⟨⟨_, rfl, ?_⟩, trivial⟩
       have hs6 := hB0.size
       have hlx4 := bx4.lt
       refine L.alloc (cs := [Value.int .u64 0, Value.int .i64 0, Value.int .i64 0, Value.int .i64 0]) kwal3_zr132 rfl rfl (fun w6 bx6 hw hz6 => ?_)
       have hB0 := hB0.carry hw
       refine L.nil ?_
       refine thn_n ?_
       refine LAC.step (rs := [16]) (fun _ => hB0) (by kernel_rfl) (by simp) ⟨⟨_, rfl, ?_⟩, trivial⟩
       refine L.setRow kwal3_ag132 rfl rfl bx6 rfl rfl (ptV_one (rdPt s)) (fun wl19 bx6 hw hzl19 => ?_)
       have hB0 := hB0.set hw (by omega)
       refine L.nil ?_
       refine thn_n ?_
       refine LAC.doneF (by kernel_rfl) hB0 ?_
       have hB := hB.carry hB0; have bx4 := bx4.carry hB0
       refine thn_n ?_
       exact ⟨rfl, _, _, rfl, rfl, rfl, rfl, by omega, rfl, bx6, bx4, hB⟩
      ·have hs6 := hB0.size
       have hlx4 := bx4.lt
       refine L.alloc (cs := [Value.int .u64 0, Value.int .i64 0, Value.int .i64 0, Value.int .i64 0]) kwal3_zr132 rfl rfl (fun w6 bx6 hw hz6 => ?_)
       have hB0 := hB0.carry hw
       refine L.nil ?_
       refine thn_n ?_
       refine LAC.step (rs := [12]) (fun _ => hB0) (by kernel_rfl) (by simp) ⟨⟨_, rfl, ?_⟩, trivial⟩
       refine L.ret (x_call kwal3_en118 rfl) rfl (wvalue_ok _ (by rw [List.length_take]; omega) _) ?_
       rintro _ w19 ⟨rfl, hq19⟩
       rw [hq19]
       refine L.nil ?_
       refine thn_n ?_
       refine LAC.takeN (i := 13) rfl (by kernel_rfl) (by kernel_rfl) (by kernel_rfl) (by kernel_rfl) (fun w hw => x_conv (k' := .i64) (by rw [Tryz.underlying103]; rfl) Tryz.underlying3 rfl (wr64 (by omega))) rfl ?_
       refine LAC.takeN (i := 14) rfl (by kernel_rfl) (by kernel_rfl) (by kernel_rfl) (by kernel_rfl) (fun w hw => x_build (cells := [.int _ _, .int _ _, .int _ _, .int _ _]) kwal3_si132 rfl rfl) rfl ?_
       refine LAC.step (rs := [16]) (fun _ => hB0) (by kernel_rfl) (by simp) ⟨⟨_, rfl, ?_⟩, trivial⟩
       refine L.setRow kwal3_ag132 rfl rfl bx6 rfl rfl (ptV_one (rdPt s)) (fun wl19 bx6 hw hzl19 => ?_)
       have hB0 := hB0.set hw (by omega)
       refine L.nil ?_
       refine thn_n ?_
       refine LAC.doneF (by kernel_rfl) hB0 ?_
       have hB := hB.carry hB0; have bx4 := bx4.carry hB0
       refine thn_n ?_
       exact ⟨rfl, _, _, rfl, rfl, rfl, rfl, by omega, rfl, bx6, bx4, hB⟩
     ·have hs6 := hB0.size
      have hlx4 := bx4.lt
      refine L.alloc (cs := [Value.int .u64 0, Value.int .i64 0, Value.int .i64 0, Value.int .i64 0]) kwal3_zr132 rfl rfl (fun w6 bx6 hw hz6 => ?_)
      have hB0 := hB0.carry hw
      refine L.nil ?_
      refine thn_n ?_
      refine LAC.step (rs := [8]) (fun _ => hB0) (by kernel_rfl) (by simp) ⟨⟨_, rfl, ?_⟩, trivial⟩
      refine L.ret (x_call kwal3_en118 rfl) rfl (wvalue_ok _ (by rw [List.length_take]; omega) _) ?_
      rintro _ w15 ⟨rfl, hq15⟩
      rw [hq15]
      refine L.nil ?_
      refine thn_n ?_
      refine LAC.takeN (i := 9) rfl (by kernel_rfl) (by kernel_rfl) (by kernel_rfl) (by kernel_rfl) (fun w hw => x_conv (k' := .i64) (by rw [Tryz.underlying103]; rfl) Tryz.underlying3 rfl (wr64 (by omega))) rfl ?_
      refine LAC.step (rs := [12]) (fun _ => hB0) (by kernel_rfl) (by simp) ⟨⟨_, rfl, ?_⟩, trivial⟩
      refine L.ret (x_call kwal3_en118 rfl) rfl (wvalue_ok _ (by rw [List.length_take]; omega) _) ?_
      rintro _ w19 ⟨rfl, hq19⟩
      rw [hq19]
      refine L.nil ?_
      refine thn_n ?_
      refine LAC.takeN (i := 13) rfl (by kernel_rfl) (by kernel_rfl) (by kernel_rfl) (by kernel_rfl) (fun w hw => x_conv (k' := .i64) (by rw [Tryz.underlying103]; rfl) Tryz.underlying3 rfl (wr64 (by omega))) rfl ?_
      refine LAC.takeN (i := 14) rfl (by kernel_rfl) (by kernel_rfl) (by kernel_rfl) (by kernel_rfl) (fun w hw => x_build (cells := [.int _ _, .int _ _, .int _ _, .int _ _]) kwal3_si132 rfl rfl) rfl ?_
      refine LAC.step (rs := [16]) (fun _ => hB0) (by kernel_rfl) (by simp) ⟨⟨_, rfl, ?_⟩, trivial⟩
      refine L.setRow kwal3_ag132 rfl rfl bx6 rfl rfl (ptV_one (rdPt s)) (fun wl19 bx6 hw hzl19 => ?_)
      have hB0 := hB0.set hw (by omega)
      refine L.nil ?_
      refine thn_n ?_
      refine LAC.doneF (by kernel_rfl) hB0 ?_
      have hB := hB.carry hB0; have bx4 := bx4.carry hB0
      refine thn_n ?_
      exact ⟨rfl, _, _, rfl, rfl, rfl, rfl, by omega, rfl, bx6, bx4, hB⟩
    ·have hs6 := hB0.size
     have hlx4 := bx4.lt
     refine L.alloc (cs := [Value.int .u64 0, Value.int .i64 0, Value.int .i64 0, Value.int .i64 0]) kwal3_zr132 rfl rfl (fun w6 bx6 hw hz6 => ?_)
     have hB0 := hB0.carry hw
     refine L.nil ?_
     refine thn_n ?_
     refine LAC.step (rs := [2]) (fun _ => hB0) (by kernel_rfl) (by simp) ⟨⟨_, rfl, ?_⟩, trivial⟩
     refine L.ret (x_call kwal3_en118 rfl) rfl (wvalue_ok _ (by rw [List.length_take]; omega) _) ?_
     rintro _ w9 ⟨rfl, hq9⟩
     rw [hq9]
     refine L.nil ?_
     refine thn_n ?_
     refine LAC.step (rs := [8]) (fun _ => hB0) (by kernel_rfl) (by simp) ⟨⟨_, rfl, ?_⟩, trivial⟩
     refine L.ret (x_call kwal3_en118 rfl) rfl (wvalue_ok _ (by rw [List.length_take]; omega) _) ?_
     rintro _ w15 ⟨rfl, hq15⟩
     rw [hq15]
     refine L.nil ?_
     refine thn_n ?_
     refine LAC.takeN (i := 9) rfl (by kernel_rfl) (by kernel_rfl) (by kernel_rfl) (by kernel_rfl) (fun w hw => x_conv (k' := .i64) (by rw [Tryz.underlying103]; rfl) Tryz.underlying3 rfl (wr64 (by omega))) rfl ?_
     refine LAC.step (rs := [12]) (fun _ => hB0) (by kernel_rfl) (by simp) ⟨⟨_, rfl, ?_⟩, trivial⟩
     refine L.ret (x_call kwal3_en118 rfl) rfl (wvalue_ok _ (by rw [List.length_take]; omega) _) ?_
     rintro _ w19 ⟨rfl, hq19⟩
     rw [hq19]
     refine L.nil ?_
     refine thn_n ?_
     refine LAC.takeN (i := 13) rfl (by kernel_rfl) (by kernel_rfl) (by kernel_rfl) (by kernel_rfl) (fun w hw => x_conv (k' := .i64) (by rw [Tryz.underlying103]; rfl) Tryz.underlying3 rfl (wr64 (by omega))) rfl ?_
     refine LAC.takeN (i := 14) rfl (by kernel_rfl) (by kernel_rfl) (by kernel_rfl) (by kernel_rfl) (fun w hw => x_build (cells := [.int _ _, .int _ _, .int _ _, .int _ _]) kwal3_si132 rfl rfl) rfl ?_
     refine LAC.step (rs := [16]) (fun _ => hB0) (by kernel_rfl) (by simp) ⟨⟨_, rfl, ?_⟩, trivial⟩
     refine L.setRow kwal3_ag132 rfl rfl bx6 rfl rfl (ptV_one (rdPt s)) (fun wl19 bx6 hw hzl19 => ?_)
     have hB0 := hB0.set hw (by omega)
     refine L.nil ?_
     refine thn_n ?_
     refine LAC.doneF (by kernel_rfl) hB0 ?_
     have hB := hB.carry hB0; have bx4 := bx4.carry hB0
     refine thn_n ?_
     exact ⟨rfl, _, _, rfl, rfl, rfl, rfl, by omega, rfl, bx6, bx4, hB⟩
   ·have hs6 := hB0.size
    have hlx4 := bx4.lt
    refine L.alloc (cs := [Value.int .u64 0, Value.int .i64 0, Value.int .i64 0, Value.int .i64 0]) kwal3_zr132 rfl rfl (fun w6 bx6 hw hz6 => ?_)
    have hB0 := hB0.carry hw
    refine L.nil ?_
    refine thn_n ?_
    refine LAC.step (rs := [2, 4]) (fun _ => hB0) (by kernel_rfl) (by simp) ⟨⟨_, rfl, ?_⟩, ⟨_, rfl, ?_⟩, trivial⟩
    ·refine L.ret (x_call kwal3_en118 rfl) rfl (wvalue_ok _ (by rw [List.length_take]; omega) _) ?_
     rintro _ w9 ⟨rfl, hq9⟩
     rw [hq9]
     refine L.nil ?_
     refine thn_n ?_
     refine LAC.step (rs := [4, 8]) (fun _ => hB0) (by kernel_rfl) (by simp) ⟨⟨_, rfl, ?_⟩, ⟨_, rfl, ?_⟩, trivial⟩
     ·refine L.val (x_ixs (j := 8) Tryz.underlying9 rfl rfl (by omega) (by omega)) rfl ?_
      refine L.nil ?_
      refine thn_n ?_
      refine LAC.takeN (i := 5) rfl (by kernel_rfl) (by kernel_rfl) (by kernel_rfl) (by kernel_rfl) (fun w hw => x_conv (k' := .i64) (by rw [Tryz.underlying5]; rfl) Tryz.underlying3 rfl (wr64 (by omega))) rfl ?_
      refine LAC.step (rs := [8]) (fun _ => hB0) (by kernel_rfl) (by simp) ⟨⟨_, rfl, ?_⟩, trivial⟩
      refine L.ret (x_call kwal3_en118 rfl) rfl (wvalue_ok _ (by rw [List.length_take]; omega) _) ?_
      rintro _ w15 ⟨rfl, hq15⟩
      rw [hq15]
      refine L.nil ?_
      refine thn_n ?_
      refine LAC.takeN (i := 9) rfl (by kernel_rfl) (by kernel_rfl) (by kernel_rfl) (by kernel_rfl) (fun w hw => x_conv (k' := .i64) (by rw [Tryz.underlying103]; rfl) Tryz.underlying3 rfl (wr64 (by omega))) rfl ?_
      refine LAC.step (rs := [12]) (fun _ => hB0) (by kernel_rfl) (by simp) ⟨⟨_, rfl, ?_⟩, trivial⟩
      refine L.ret (x_call kwal3_en118 rfl) rfl (wvalue_ok _ (by rw [List.length_take]; omega) _) ?_
      rintro _ w19 ⟨rfl, hq19⟩
      rw [hq19]
      refine L.nil ?_
      refine thn_n ?_
      refine LAC.takeN (i := 13) rfl (by kernel_rfl) (by kernel_rfl) (by kernel_rfl) (by kernel_rfl) (fun w hw => x_conv (k' := .i64) (by rw [Tryz.underlying103]; rfl) Tryz.underlying3 rfl (wr64 (by omega))) rfl ?_
      refine LAC.takeN (i := 14) rfl (by kernel_rfl) (by kernel_rfl) (by kernel_rfl) (by kernel_rfl) (fun w hw => x_build (cells := [.int _ _, .int _ _, .int _ _, .int _ _]) kwal3_si132 rfl rfl) rfl ?_
      refine LAC.step (rs := [16]) (fun _ => hB0) (by kernel_rfl) (by simp) ⟨⟨_, rfl, ?_⟩, trivial⟩
      refine L.setRow kwal3_ag132 rfl rfl bx6 rfl rfl (ptV_one (rdPt s)) (fun wl19 bx6 hw hzl19 => ?_)
      have hB0 := hB0.set hw (by omega)
      refine L.nil ?_
      refine thn_n ?_
      refine LAC.doneF (by kernel_rfl) hB0 ?_
      have hB := hB.carry hB0; have bx4 := bx4.carry hB0
      refine thn_n ?_
      exact ⟨rfl, _, _, rfl, rfl, rfl, rfl, by omega, rfl, bx6, bx4, hB⟩
     ·refine L.ret (x_call kwal3_en118 rfl) rfl (wvalue_ok _ (by rw [List.length_take]; omega) _) ?_
      rintro _ w15 ⟨rfl, hq15⟩
      rw [hq15]
      refine L.nil ?_
      refine thn_n ?_
      refine LAC.takeN (i := 9) rfl (by kernel_rfl) (by kernel_rfl) (by kernel_rfl) (by kernel_rfl) (fun w hw => x_conv (k' := .i64) (by rw [Tryz.underlying103]; rfl) Tryz.underlying3 rfl (wr64 (by omega))) rfl ?_
      refine LAC.step (rs := [4, 12]) (fun _ => hB0) (by kernel_rfl) (by simp) ⟨⟨_, rfl, ?_⟩, ⟨_, rfl, ?_⟩, trivial⟩
      ·refine L.val (x_ixs (j := 8) Tryz.underlying9 rfl rfl (by omega) (by omega)) rfl ?_
       refine L.nil ?_
       refine thn_n ?_
       refine LAC.takeN (i := 5) rfl (by kernel_rfl) (by kernel_rfl) (by kernel_rfl) (by kernel_rfl) (fun w hw => x_conv (k' := .i64) (by rw [Tryz.underlying5]; rfl) Tryz.underlying3 rfl (wr64 (by omega))) rfl ?_
       refine LAC.step (rs := [12]) (fun _ => hB0) (by kernel_rfl) (by simp) ⟨⟨_, rfl, ?_⟩, trivial⟩
       refine L.ret (x_call kwal3_en118 rfl) rfl (wvalue_ok _ (by rw [List.length_take]; omega) _) ?_
       rintro _ w19 ⟨rfl, hq19⟩
       rw [hq19]
       refine L.nil ?_
       refine thn_n ?_
       refine LAC.takeN (i := 13) rfl (by kernel_rfl) (by kernel_rfl) (by kernel_rfl) (by kernel_rfl) (fun w hw => x_conv (k' := .i64) (by rw [Tryz.underlying103]; rfl) Tryz.underlying3 rfl (wr64 (by omega))) rfl ?_
       refine LAC.takeN (i := 14) rfl (by kernel_rfl) (by kernel_rfl) (by kernel_rfl) (by kernel_rfl) (fun w hw => x_build (cells := [.int _ _, .int _ _, .int _ _, .int _ _]) kwal3_si132 rfl rfl) rfl ?_
       refine LAC.step (rs := [16]) (fun _ => hB0) (by kernel_rfl) (by simp) ⟨⟨_, rfl, ?_⟩, trivial⟩
       refine L.setRow kwal3_ag132 rfl rfl bx6 rfl rfl (ptV_one (rdPt s)) (fun wl19 bx6 hw hzl19 => ?_)
       have hB0 := hB0.set hw (by omega)
       refine L.nil ?_
       refine thn_n ?_
       refine LAC.doneF (by kernel_rfl) hB0 ?_
       have hB := hB.carry hB0; have bx4 := bx4.carry hB0
       refine thn_n ?_
       exact ⟨rfl, _, _, rfl, rfl, rfl, rfl, by omega, rfl, bx6, bx4, hB⟩
      ·refine L.ret (x_call kwal3_en118 rfl) rfl (wvalue_ok _ (by rw [List.length_take]; omega) _) ?_
       rintro _ w19 ⟨rfl, hq19⟩
       rw [hq19]
       refine L.nil ?_
       refine thn_n ?_
       refine LAC.takeN (i := 13) rfl (by kernel_rfl) (by kernel_rfl) (by kernel_rfl) (by kernel_rfl) (fun w hw => x_conv (k' := .i64) (by rw [Tryz.underlying103]; rfl) Tryz.underlying3 rfl (wr64 (by omega))) rfl ?_
       refine LAC.step (rs := [4]) (fun _ => hB0) (by kernel_rfl) (by simp) ⟨⟨_, rfl, ?_⟩, trivial⟩
       refine L.val (x_ixs (j := 8) Tryz.underlying9 rfl rfl (by omega) (by omega)) rfl ?_
       refine L.nil ?_
       refine thn_n ?_
       refine LAC.takeN (i := 5) rfl (by kernel_rfl) (by kernel_rfl) (by kernel_rfl) (by kernel_rfl) (fun w hw => x_conv (k' := .i64) (by rw [Tryz.underlying5]; rfl) Tryz.underlying3 rfl (wr64 (by omega))) rfl ?_
       refine LAC.takeN (i := 14) rfl (by kernel_rfl) (by kernel_rfl) (by kernel_rfl) (by kernel_rfl) (fun w hw => x_build (cells := [.int _ _, .int _ _, .int _ _, .int _ _]) kwal3_si132 rfl rfl) rfl ?_
       refine LAC.step (rs := [16]) (fun _ => hB0) (by kernel_rfl) (by simp) ⟨⟨_, rfl, ?_⟩, trivial⟩
       refine L.setRow kwal3_ag132 rfl rfl bx6 rfl rfl (ptV_one (rdPt s)) (fun wl19 bx6 hw hzl19 => ?_)
       have hB0 := hB0.set hw (by omega)
       refine L.nil ?_
       refine thn_n ?_
       refine LAC.doneF (by kernel_rfl) hB0 ?_
       have hB := hB.carry hB0; have bx4 := bx4.carry hB0
       refine thn_n ?_
       exact ⟨rfl, _, _, rfl, rfl, rfl, rfl, by omega, rfl, bx6, bx4, hB⟩
    ·refine L.val (x_ixs (j := 8) Tryz.underlying9 rfl rfl (by omega) (by omega)) rfl ?_
     refine L.nil ?_
     refine thn_n ?_
     refine LAC.takeN (i := 5) rfl (by kernel_rfl) (by kernel_rfl) (by kernel_rfl) (by kernel_rfl) (fun w hw => x_conv (k' := .i64) (by rw [Tryz.underlying5]; rfl) Tryz.underlying3 rfl (wr64 (by omega))) rfl ?_
     refine LAC.step (rs := [2]) (fun _ => hB0) (by kernel_rfl) (by simp) ⟨⟨_, rfl, ?_⟩, trivial⟩
     refine L.ret (x_call kwal3_en118 rfl) rfl (wvalue_ok _ (by rw [List.length_take]; omega) _) ?_
     rintro _ w9 ⟨rfl, hq9⟩
     rw [hq9]
     refine L.nil ?_
     refine thn_n ?_
     refine LAC.step (rs := [8]) (fun _ => hB0) (by kernel_rfl) (by simp) ⟨⟨_, rfl, ?_⟩, trivial⟩
     refine L.ret (x_call kwal3_en118 rfl) rfl (wvalue_ok _ (by rw [List.length_take]; omega) _) ?_
     rintro _ w15 ⟨rfl, hq15⟩
     rw [hq15]
     refine L.nil ?_
     refine thn_n ?_
     refine LAC.takeN (i := 9) rfl (by kernel_rfl) (by kernel_rfl) (by kernel_rfl) (by kernel_rfl) (fun w hw => x_conv (k' := .i64) (by rw [Tryz.underlying103]; rfl) Tryz.underlying3 rfl (wr64 (by omega))) rfl ?_
     refine LAC.step (rs := [12]) (fun _ => hB0) (by kernel_rfl) (by simp) ⟨⟨_, rfl, ?_⟩, trivial⟩
     refine L.ret (x_call kwal3_en118 rfl) rfl (wvalue_ok _ (by rw [List.length_take]; omega) _) ?_
     rintro _ w19 ⟨rfl, hq19⟩
     rw [hq19]
     refine L.nil ?_
     refine thn_n ?_
     refine LAC.takeN (i := 13) rfl (by kernel_rfl) (by kernel_rfl) (by kernel_rfl) (by kernel_rfl) (fun w hw => x_conv (k' := .i64) (by rw [Tryz.underlying103]; rfl) Tryz.underlying3 rfl (wr64 (by omega))) rfl ?_
     refine LAC.takeN (i := 14) rfl (by kernel_rfl) (by kernel_rfl) (by kernel_rfl) (by kernel_rfl) (fun w hw => x_build (cells := [.int _ _, .int _ _, .int _ _, .int _ _]) kwal3_si132 rfl rfl) rfl ?_
     refine LAC.step (rs := [16]) (fun _ => hB0) (by kernel_rfl) (by simp) ⟨⟨_, rfl, ?_⟩, trivial⟩
     refine L.setRow kwal3_ag132 rfl rfl bx6 rfl rfl (ptV_one (rdPt s)) (fun wl19 bx6 hw hzl19 => ?_)
     have hB0 := hB0.set hw (by omega)
     refine L.nil ?_
     refine thn_n ?_
     refine LAC.doneF (by kernel_rfl) hB0 ?_
     have hB := hB.carry hB0; have bx4 := bx4.carry hB0
     refine thn_n ?_
     exact ⟨rfl, _, _, rfl, rfl, rfl, rfl, by omega, rfl, bx6, bx4, hB⟩
  ·rintro D E w22 ⟨rfl, b6, cs4, e0, e1, e4, e6, hne, hl4, bx6, bx4, hB⟩
   rw [upd_self e0, upd_self e1, upd_self e4, upd_self e6]
   have hs22 := hB.size
   have hlt4 := bx4.lt
   refine W.seq ?_
   refine W.drawD (fun j => j = w.heap.size ∨ j = w.heap.size) (fun _ => False) 18 kwal3_mixed (fun wD22 hw => ?_)
   have hB := hB.carry hw; have bx4 := bx4.carry hw; have bx6 := bx6.carry hw
   have hB0 := Gr.refl (fun _ => False) wD22; have hR0 := Gr.refl (fun j => j = w.heap.size ∨ j = w.heap.size) wD22
   have hD := hw
   refine LAD.take0 (i := 0) rfl (by kernel_rfl) (by kernel_rfl) (by kernel_rfl) (by kernel_rfl) (fun w hw => x_ldn (vs := _) kwal3_ag132 rfl rfl (hw.keepRowR (fun e => by have e : (_ : Nat) = _ := e.elim id id; (try dsimp only at e); omega) rfl (bx6.row rfl))) rfl ?_
   refine LAD.take0 (i := 1) rfl (by kernel_rfl) (by kernel_rfl) (by kernel_rfl) (by kernel_rfl) (fun w hw => x_mv (v := S _) rfl) rfl ?_
   refine LAD.take0 (i := 2) rfl (by kernel_rfl) (by kernel_rfl) (by kernel_rfl) (by kernel_rfl) (fun w hw => x_slAB (j := 17) (j' := 34) Tryz.underlying9 rfl rfl rfl rfl rfl (by omega) (by omega)) rfl ?_
   refine LAD.take0 (i := 3) rfl (by kernel_rfl) (by kernel_rfl) (by kernel_rfl) (by kernel_rfl) (fun w hw => x_mv (v := S _) rfl) rfl ?_
   refine LAD.take0 (i := 4) rfl (by kernel_rfl) (by kernel_rfl) (by kernel_rfl) (by kernel_rfl) (fun w hw => x_slS (j := 17) Tryz.underlying9 rfl rfl rfl (by omega)) rfl ?_
   refine LAD.step (rs := [5]) hR0 (fun _ => hB0) (by kernel_rfl) (by simp) ⟨⟨_, rfl, ?_⟩, trivial⟩
   refine L.ret (x_call kwal3_en119 rfl) rfl (turned_ok _ (by rw [List.length_take]; omega) (by rw [List.length_take]; omega) _) ?_
   rintro _ w27 ⟨rfl, hw⟩
   have hB0 := hB0.carry hw; have hR0 := hR0.carry hw; have bx4 := bx4.carry hw
   refine L.nil ?_
   refine thn_n ?_
   refine LAD.take0 (i := 6) rfl (by kernel_rfl) (by kernel_rfl) (by kernel_rfl) (by kernel_rfl) (fun w hw => x_eqs rfl rfl) rfl ?_
   refine LAD.take0 (i := 7) rfl (by kernel_rfl) (by kernel_rfl) (by kernel_rfl) (by kernel_rfl) (fun w hw => x_mv (v := .bool _) rfl) rfl ?_
   refine LAD.split (dj := 29) (b := _) rfl (fun g29 => ?_) (fun g29 => ?_)
   ·have h29 := seq_t g29
    have hv0 : ((s.drop 17).take 17 == turnS (s.take 17)) = true := g29
    refine LAD.takeG (i := 8) rfl (by kernel_rfl) (by kernel_rfl) (by kernel_rfl) (by kernel_rfl) (dj := 29) (b := _) rfl rfl g29 (fun w hw => x_fa kwal3_fo132_1 rfl) rfl ?_
    refine LAD.takeG (i := 9) rfl (by kernel_rfl) (by kernel_rfl) (by kernel_rfl) (by kernel_rfl) (dj := 29) (b := _) rfl rfl g29 (fun w hw => x_ld (v := .int _ _) kwal3_oc3 rfl (hw.keepR (fun e => by have e : (_ : Nat) = _ := e.elim id id; (try dsimp only at e); omega) (bx6.cell0 rfl))) rfl ?_
    refine LAD.takeG (i := 10) rfl (by kernel_rfl) (by kernel_rfl) (by kernel_rfl) (by kernel_rfl) (dj := 29) (b := _) rfl rfl g29 (fun w hw => x_leq rfl rfl) rfl ?_
    refine LAD.take0 (i := 11) rfl (by kernel_rfl) (by kernel_rfl) (by kernel_rfl) (by kernel_rfl) (fun w hw => x_pick_t (v := .bool _) (congrArg Value.bool g29) rfl) rfl ?_
    refine LAD.take0 (i := 12) rfl (by kernel_rfl) (by kernel_rfl) (by kernel_rfl) (by kernel_rfl) (fun w hw => x_mv (v := .bool _) rfl) rfl ?_
    refine LAD.split (dj := 34) (b := _) rfl (fun g34 => ?_) (fun g34 => ?_)
    ·have h34 := of_decide_eq_true g34
     have hv : rdOk s room = decide ((((rdPt s).tail : Nat) : Int) ≤ (room : Nat)) := by
       unfold rdOk
       rw [hv0, decide_eq_true (show (rdPt s).half ≤ 1 by omega)]
       simp only [Bool.true_and, Int.ofNat_le]
     refine LAD.takeG (i := 13) rfl (by kernel_rfl) (by kernel_rfl) (by kernel_rfl) (by kernel_rfl) (dj := 34) (b := _) rfl rfl g34 (fun w hw => x_fa kwal3_fo132_2 rfl) rfl ?_
     refine LAD.takeG (i := 14) rfl (by kernel_rfl) (by kernel_rfl) (by kernel_rfl) (by kernel_rfl) (dj := 34) (b := _) rfl rfl g34 (fun w hw => x_ld (v := .int _ _) kwal3_oc3 rfl (hw.keepR (fun e => by have e : (_ : Nat) = _ := e.elim id id; (try dsimp only at e); omega) (bx6.cell0 rfl))) rfl ?_
     refine LAD.takeG (i := 15) rfl (by kernel_rfl) (by kernel_rfl) (by kernel_rfl) (by kernel_rfl) (dj := 34) (b := _) rfl rfl g34 (fun w hw => x_mv (v := .int _ _) rfl) rfl ?_
     refine LAD.takeG (i := 16) rfl (by kernel_rfl) (by kernel_rfl) (by kernel_rfl) (by kernel_rfl) (dj := 34) (b := _) rfl rfl g34 (fun w hw => x_leq rfl rfl) rfl ?_
     refine LAD.take0 (i := 17) rfl (by kernel_rfl) (by kernel_rfl) (by kernel_rfl) (by kernel_rfl) (fun w hw => x_pick_t (v := .bool _) (congrArg Value.bool g34) rfl) rfl ?_
     refine LAD.step (rs := [18]) hR0 (fun _ => hB0) (by kernel_rfl) (by simp) ⟨⟨_, rfl, ?_⟩, trivial⟩
     refine L.setRow kwal3_ag132 rfl rfl bx4 hl4 rfl (ptV_one (rdPt s)) (fun wl38 bx4 hw hzl38 => ?_)
     have hR0 := hR0.into hw (by first | exact .inl rfl | exact .inr rfl)
     refine L.nil ?_
     refine thn_n ?_
     refine LAD.take0 (i := 19) rfl (by kernel_rfl) (by kernel_rfl) (by kernel_rfl) (by kernel_rfl) (fun w hw => x_as (v := .bool _) rfl) rfl ?_
     refine LAD.done (by kernel_rfl) (by kernel_rfl) hR0 ?_
     have hB := hB.step hR0 (fun i hi e => by rcases e with e | e <;> omega)
     have bx6 := bx6.carryR hR0 (fun e => by rcases e with e | e <;> omega)
     refine thn_n ?_
     refine W.ret (finR_mk (.inr rfl) ?_)
     rw [hv]
     exact ⟨_, resCT (v := .bool _) rfl kwal3_ag132 rfl rfl bx4 rfl, rfl, hB⟩
    ·have h34 := dle_f g34
     have hv : rdOk s room = false := by
       unfold rdOk
       rw [hv0, decide_eq_false (show ¬ (rdPt s).half ≤ 1 by omega)]; rfl
     refine LAD.takeU (i := 13) rfl (by kernel_rfl) (by kernel_rfl) (by kernel_rfl) (by kernel_rfl) (dj := 34) (b := _) rfl rfl g34 rfl ?_
     refine LAD.takeU (i := 14) rfl (by kernel_rfl) (by kernel_rfl) (by kernel_rfl) (by kernel_rfl) (dj := 34) (b := _) rfl rfl g34 rfl ?_
     refine LAD.takeU (i := 15) rfl (by kernel_rfl) (by kernel_rfl) (by kernel_rfl) (by kernel_rfl) (dj := 34) (b := _) rfl rfl g34 rfl ?_
     refine LAD.takeU (i := 16) rfl (by kernel_rfl) (by kernel_rfl) (by kernel_rfl) (by kernel_rfl) (dj := 34) (b := _) rfl rfl g34 rfl ?_
     refine LAD.take0 (i := 17) rfl (by kernel_rfl) (by kernel_rfl) (by kernel_rfl) (by kernel_rfl) (fun w hw => x_pick_f (v := .bool _) (congrArg Value.bool g34) rfl) rfl ?_
     refine LAD.step (rs := [18]) hR0 (fun _ => hB0) (by kernel_rfl) (by simp) ⟨⟨_, rfl, ?_⟩, trivial⟩
     refine L.setRow kwal3_ag132 rfl rfl bx4 hl4 rfl (ptV_one (rdPt s)) (fun wl38 bx4 hw hzl38 => ?_)
     have hR0 := hR0.into hw (by first | exact .inl rfl | exact .inr rfl)
     refine L.nil ?_
     refine thn_n ?_
     refine LAD.take0 (i := 19) rfl (by kernel_rfl) (by kernel_rfl) (by kernel_rfl) (by kernel_rfl) (fun w hw => x_as (v := .bool _) rfl) rfl ?_
     refine LAD.done (by kernel_rfl) (by kernel_rfl) hR0 ?_
     have hB := hB.step hR0 (fun i hi e => by rcases e with e | e <;> omega)
     have bx6 := bx6.carryR hR0 (fun e => by rcases e with e | e <;> omega)
     refine thn_n ?_
     refine W.ret (finR_mk (.inr rfl) ?_)
     rw [hv]
     exact ⟨_, resCT (v := .bool _) rfl kwal3_ag132 rfl rfl bx4 rfl, rfl, hB⟩
   ·have h29 := seq_f g29
    have hv : rdOk s room = false := by
      unfold rdOk
      rw [show ((s.drop 17).take 17 == turnS (s.take 17)) = false from g29]; rfl
    refine LAD.takeU (i := 8) rfl (by kernel_rfl) (by kernel_rfl) (by kernel_rfl) (by kernel_rfl) (dj := 29) (b := _) rfl rfl g29 rfl ?_
    refine LAD.takeU (i := 9) rfl (by kernel_rfl) (by kernel_rfl) (by kernel_rfl) (by kernel_rfl) (dj := 29) (b := _) rfl rfl g29 rfl ?_
    refine LAD.takeU (i := 10) rfl (by kernel_rfl) (by kernel_rfl) (by kernel_rfl) (by kernel_rfl) (dj := 29) (b := _) rfl rfl g29 rfl ?_
    refine LAD.take0 (i := 11) rfl (by kernel_rfl) (by kernel_rfl) (by kernel_rfl) (by kernel_rfl) (fun w hw => x_pick_f (v := .bool _) (congrArg Value.bool g29) rfl) rfl ?_
    refine LAD.take0 (i := 12) rfl (by kernel_rfl) (by kernel_rfl) (by kernel_rfl) (by kernel_rfl) (fun w hw => x_mv (v := .bool _) rfl) rfl ?_
    refine LAD.takeU (i := 13) rfl (by kernel_rfl) (by kernel_rfl) (by kernel_rfl) (by kernel_rfl) (dj := 34) (b := _) rfl rfl rfl rfl ?_
    refine LAD.takeU (i := 14) rfl (by kernel_rfl) (by kernel_rfl) (by kernel_rfl) (by kernel_rfl) (dj := 34) (b := _) rfl rfl rfl rfl ?_
    refine LAD.takeU (i := 15) rfl (by kernel_rfl) (by kernel_rfl) (by kernel_rfl) (by kernel_rfl) (dj := 34) (b := _) rfl rfl rfl rfl ?_
    refine LAD.takeU (i := 16) rfl (by kernel_rfl) (by kernel_rfl) (by kernel_rfl) (by kernel_rfl) (dj := 34) (b := _) rfl rfl rfl rfl ?_
    refine LAD.take0 (i := 17) rfl (by kernel_rfl) (by kernel_rfl) (by kernel_rfl) (by kernel_rfl) (fun w hw => x_pick_f (v := .bool _) rfl rfl) rfl ?_
    refine LAD.step (rs := [18]) hR0 (fun _ => hB0) (by kernel_rfl) (by simp) ⟨⟨_, rfl, ?_⟩, trivial⟩
    refine L.setRow kwal3_ag132 rfl rfl bx4 hl4 rfl (ptV_one (rdPt s)) (fun wl38 bx4 hw hzl38 => ?_)
    have hR0 := hR0.into hw (by first | exact .inl rfl | exact .inr rfl)
    refine L.nil ?_
    refine thn_n ?_
    refine LAD.take0 (i := 19) rfl (by kernel_rfl) (by kernel_rfl) (by kernel_rfl) (by kernel_rfl) (fun w hw => x_as (v := .bool _) rfl) rfl ?_
    refine LAD.done (by kernel_rfl) (by kernel_rfl) hR0 ?_
    have hB := hB.step hR0 (fun i hi e => by rcases e with e | e <;> omega)
    have bx6 := bx6.carryR hR0 (fun e => by rcases e with e | e <;> omega)
    refine thn_n ?_
    refine W.ret (finR_mk (.inr rfl) ?_)
    rw [hv]
    exact ⟨_, resCT (v := .bool _) rfl kwal3_ag132 rfl rfl bx4 rfl, rfl, hB⟩
end Go.Gx
