/- A log opened. Conditions: none. -/
import Derived.Test.YtfbcmonbmkafpaaGreatCmWal7
namespace Go.Gx
open Go.Proofs
theorem kwal8_ag132 : aggT Tryz.prog 132 4 = true := by kernel_rfl
theorem kwal8_en28 : Go.Proofs.Enters Tryz.prog 28 := Go.Proofs.enters_of Tryz.func28 (by kernel_rfl) rfl
theorem kwal8_en82 : Go.Proofs.Enters Tryz.prog 82 := Go.Proofs.enters_of Tryz.func82 (by kernel_rfl) rfl
theorem kwal8_en86 : Go.Proofs.Enters Tryz.prog 86 := Go.Proofs.enters_of Tryz.func86 (by kernel_rfl) rfl
theorem kwal8_en87 : Go.Proofs.Enters Tryz.prog 87 := Go.Proofs.enters_of Tryz.func87 (by kernel_rfl) rfl
theorem kwal8_en88 : Go.Proofs.Enters Tryz.prog 88 := Go.Proofs.enters_of Tryz.func88 (by kernel_rfl) rfl
theorem kwal8_en89 : Go.Proofs.Enters Tryz.prog 89 := Go.Proofs.enters_of Tryz.func89 (by kernel_rfl) rfl
theorem kwal8_en90 : Go.Proofs.Enters Tryz.prog 90 := Go.Proofs.enters_of Tryz.func90 (by kernel_rfl) rfl
theorem kwal8_en91 : Go.Proofs.Enters Tryz.prog 91 := Go.Proofs.enters_of Tryz.func91 (by kernel_rfl) rfl
theorem kwal8_en92 : Go.Proofs.Enters Tryz.prog 92 := Go.Proofs.enters_of Tryz.func92 (by kernel_rfl) rfl
theorem kwal8_en93 : Go.Proofs.Enters Tryz.prog 93 := Go.Proofs.enters_of Tryz.func93 (by kernel_rfl) rfl
theorem kwal8_fo132_0 : fieldOff Tryz.prog 132 0 = some 0 := by kernel_rfl
theorem kwal8_fo132_1 : fieldOff Tryz.prog 132 1 = some 1 := by kernel_rfl
theorem kwal8_fo132_2 : fieldOff Tryz.prog 132 2 = some 2 := by kernel_rfl
theorem kwal8_fo132_3 : fieldOff Tryz.prog 132 3 = some 3 := by kernel_rfl
theorem kwal8_fo134_0 : fieldOff Tryz.prog 134 0 = some 0 := by kernel_rfl
theorem kwal8_mixed : Tryz.prog.follows .mixedOrders = true := by kernel_rfl
theorem kwal8_oc103 : oneCellT Tryz.prog 103 = true := by kernel_rfl
theorem kwal8_oc3 : oneCellT Tryz.prog 3 = true := by kernel_rfl
theorem kwal8_si134 : structInfo Tryz.prog 134 = some ([(0, 4), (4, 1), (5, 1)], [Value.int .u64 0, Value.int .i64 0, Value.int .i64 0, Value.int .i64 0, Value.pointer none, Value.bool false]) := by kernel_rfl
theorem kwal8_zr132 : (Tryz.prog.info? 132).bind (·.zero) = some (Value.agg [Value.int .u64 0, Value.int .i64 0, Value.int .i64 0, Value.int .i64 0].toArray) := by kernel_rfl
theorem kwal8_zr145 : (Tryz.prog.info? 145).bind (·.zero) = some (Value.agg [Value.pointer none, Value.slice none 0 0].toArray) := by kernel_rfl
def pt0 : Pt := ⟨0, 0, 0, 0⟩
def stepP (room : Nat) (s : Str) (x : Pt × Bool) : Pt × Bool := if rdOk s room && (!x.2 || decide (x.1.ep < (rdPt s).ep)) then (rdPt s, true) else x
def hdP (D : Dk) : Nat → Pt × Bool
  | 0 => (pt0, false)
  | i + 1 => stepP (roomN D.pl.length) (rdD D i) (hdP D i)
def frS (D : Dk) (i : Nat) : Bool := decide (0 < i) && (rdD D 0 == zeros 64)
def areaS (D : Dk) (p : Pt) (k : Nat) : Str := ((List.range k).map fun i => rdD D (stN D.pl.length p.half + i)).flatten
def allA (D : Dk) (p : Pt) : Str := (areaS D p ((p.tail + 63) / 64)).take p.tail
def openA (D : Dk) : Int × Pt × List Str :=
  if (hdP D 2).2 || frS D 2 then (if (scanS (allA D (hdP D 2).1)).2 = (hdP D 2).1.tail ∧ (scanS (allA D (hdP D 2).1)).1.length = (hdP D 2).1.cnt then (0, (hdP D 2).1, (scanS (allA D (hdP D 2).1)).1) else (200, pt0, []))
  else (211, pt0, [])
theorem hdP_ok (D : Dk) (i : Nat) : PtOk (hdP D i).1 ∧ (hdP D i).1.half ≤ 1 ∧ (hdP D i).1.tail ≤ roomN D.pl.length := by
  induction i with
  | zero => exact ⟨(⟨by decide, by decide, by decide, by decide⟩ : PtOk pt0), Nat.zero_le _, Nat.zero_le _⟩
  | succ i ih =>
    simp only [hdP, stepP]
    split
    · rename_i h
      simp only [Bool.and_eq_true, rdOk, decide_eq_true_eq] at h
      exact ⟨rdPt_ok _, h.1.1.2, h.1.2⟩
    · exact ih
theorem areaS_len {D : Dk} (h : DkOk D) {p : Pt} (k : Nat) (hk : ∀ i, i < k → stN D.pl.length p.half + i < D.pl.length) : (areaS D p k).length = 64 * k := by
  induction k with
  | zero => rfl
  | succ k ih =>
    have := ih (fun i hi => hk i (by omega))
    unfold areaS at this ⊢
    rw [List.range_succ, List.map_append, List.flatten_append, List.length_append, this]
    simp [rdD_len h (hk k (by omega))]; omega
theorem areaS_succ (D : Dk) (p : Pt) (k : Nat) : areaS D p k ++ rdD D (stN D.pl.length p.half + k) = areaS D p (k + 1) := by
  unfold areaS
  rw [List.range_succ, List.map_append, List.flatten_append]; simp
theorem openA_none {D : Dk} (h : (!(hdP D 2).2 && !frS D 2) = true) : openA D = (211, pt0, []) := by
  simp only [Bool.and_eq_true, Bool.not_eq_true'] at h
  unfold openA
  rw [h.1, h.2]; rfl
theorem openA_some {D : Dk} (h : (!(hdP D 2).2 && !frS D 2) = false) : openA D = if (scanS (allA D (hdP D 2).1)).2 = (hdP D 2).1.tail ∧ (scanS (allA D (hdP D 2).1)).1.length = (hdP D 2).1.cnt then (0, (hdP D 2).1, (scanS (allA D (hdP D 2).1)).1) else (200, pt0, []) := by
  unfold openA
  rw [if_pos (by cases h1 : (hdP D 2).2 <;> cases h2 : frS D 2 <;> simp_all)]
theorem open_own (n0 b : Nat) (D : Dk) (w : World) (h : DiskAt n0 w b D) (hd : D.dead = false) (h6 : 6 ≤ D.pl.length) :
    Ret Tryz.prog 48 #[.pointer (some ⟨b, 0, none⟩)] w fun v w' => Bel w w' ∧ ((openA D).1 ≠ 0 ∧ v = .tuple #[.pointer none, .slice none 0 0, .int .i64 (openA D).1] ∨
      (openA D).1 = 0 ∧ ∃ bl u, v = .tuple #[.pointer (some ⟨bl, 0, none⟩), u, .int .i64 0] ∧ LogAt w.heap.size w' bl b (openA D).2.1 ∧ StrsAt (fun k => k < w.heap.size) w' u (openA D).2.2 ∧ ∃ base, Own w' base 9 1 u (openA D).2.2.length ((openA D).2.2.map S)) := by
  have hok := h.2.1
  have hsm := hok.small
  have hrm := roomN_le hsm
  refine ret_of_W Tryz.func48 rfl (Nat.le_of_ble_eq_true rfl) (res3 rfl) ?_
  have hB := Gr.refl (fun _ => False) w
  refine W.seq ?_
  refine W.region ?_
  refine L.val (x_as (v := .pointer _) rfl) rfl ?_
  refine L.val (x_as (v := .slice _ _ _) rfl) rfl ?_
  refine L.val (x_as (v := .int _ _) rfl) rfl ?_
  refine L.nil ?_
  refine thn_n ?_
  refine W.seq ?_
  refine W.block ?_
  refine W.seq ?_
  refine W.region ?_
  refine L.val (x_mv (v := .pointer _) rfl) rfl ?_
  refine L.ret (x_call kwal8_en86 rfl) rfl (sectors_d n0 b D _ h) ?_
  rintro _ w22 ⟨rfl, hq22⟩
  rw [hq22]
  refine L.val (x_eql rfl rfl) rfl ?_
  refine L.val (x_as (v := .bool _) rfl) rfl ?_
  refine L.nil ?_
  refine thn_n ?_
  refine W.cond (b := _) rfl (fun g23 => ?_) (fun g23 => ?_)
  ·have h23 := of_decide_eq_true g23
   omega
  ·have h23 := of_decide_eq_false g23
   refine W.seq ?_
   refine W.region ?_
   refine L.val (x_mv (v := .pointer _) rfl) rfl ?_
   refine L.ret (x_call kwal8_en86 rfl) rfl (sectors_d n0 b D _ h) ?_
   rintro _ w26 ⟨rfl, hq26⟩
   rw [hq26]
   refine L.val (x_lss rfl rfl) rfl ?_
   refine L.val (x_as (v := .bool _) rfl) rfl ?_
   refine L.nil ?_
   refine thn_n ?_
   refine W.cond (b := _) rfl (fun g27 => ?_) (fun g27 => ?_)
   ·have h27 := of_decide_eq_true g27
    omega
   ·have h27 := dlt_f g27
    refine W.seq ?_
    refine W.region ?_
    refine L.val (x_mv (v := .pointer _) rfl) rfl ?_
    refine L.ret (x_call kwal8_en28 rfl) rfl (dead_d n0 b D _ h) ?_
    rintro _ w30 ⟨rfl, hq30⟩
    rw [hq30]
    refine L.val (x_as (v := .bool _) rfl) rfl ?_
    refine L.nil ?_
    refine thn_n ?_
    refine W.cond (b := _) rfl (fun g30 => ?_) (fun g30 => ?_)
    ·have h30 := g30
     rw [hd] at g30; cases g30
    ·have h30 := g30
     refine W.skip ?_
     refine blk_n ?_
     refine thn_n ?_
     refine W.seq ?_
     refine W.region ?_
     refine L.val (x_mv (v := .pointer _) rfl) rfl ?_
     refine L.val (x_build (cells := [.int _ _, .int _ _, .int _ _, .int _ _, .pointer _, .bool _]) kwal8_si134 rfl rfl) rfl ?_
     refine L.box (cs := logV pt0 b false) rfl rfl (fun w33 bx33 hw hz33 => ?_)
     have hB := hB.carry hw
     refine L.val (x_as (v := .pointer _) rfl) rfl ?_
     refine L.nil ?_
     refine thn_n ?_
     refine W.seq ?_
     refine W.region ?_
     refine L.val (x_as (v := .bool _) rfl) rfl ?_
     refine L.nil ?_
     refine thn_n ?_
     refine W.seq ?_
     refine W.region ?_
     refine L.val (x_as (v := .bool _) rfl) rfl ?_
     refine L.nil ?_
     refine thn_n ?_
     refine W.seq ?_
     refine W.seq ?_
     refine W.region ?_
     refine L.val (x_mv (v := .int _ _) rfl) rfl ?_
     refine L.nil ?_
     refine thn_n ?_
     refine W.block ?_
     refine W.loop (fun m' E w' => ∃ (i : Nat), m' = 2 - i ∧ E 0 = .pointer (some ⟨b, 0, none⟩) ∧ E 5 = .pointer (some ⟨w.heap.size, 0, none⟩) ∧ E 6 = .bool (hdP D i).2 ∧ E 7 = .bool (frS D i) ∧ E 34 = .int .i64 (i : Nat) ∧ (i ≤ 2) ∧ (Bel w w') ∧ (Box w' w.heap.size 134 (logV (hdP D i).1 b false))) (2) ?_ ?_
     ·exact ⟨0, by omega, by first | rfl | exact vi (by omega) | exact vs (by first | assumption | (rw [hst]; done) | (rw [hst]; simp only [List.append_assoc])), by first | rfl | exact vi (by omega) | exact vs (by first | assumption | (rw [hst]; done) | (rw [hst]; simp only [List.append_assoc])), by first | rfl | exact vi (by omega) | exact vs (by first | assumption | (rw [hst]; done) | (rw [hst]; simp only [List.append_assoc])) | exact vb (by assumption), by first | rfl | exact vi (by omega) | exact vs (by first | assumption | (rw [hst]; done) | (rw [hst]; simp only [List.append_assoc])) | exact vb (by assumption), by first | rfl | exact vi (by omega) | exact vs (by first | assumption | (rw [hst]; done) | (rw [hst]; simp only [List.append_assoc])), (by first | assumption | omega | rfl), (by first | assumption | omega | rfl), (by first | assumption | omega | rfl)⟩
     ·rintro _ E wL35 ⟨i, em, e0, e5, e6, e7, e34, hi, hB, bx5⟩
      rw [upd_self e0, upd_self e5, upd_self e6, upd_self e7, upd_self e34]
      refine W.seq ?_
      refine W.region ?_
      refine L.val (x_lss rfl rfl) rfl ?_
      refine L.nil ?_
      refine thn_n ?_
      refine W.seq ?_
      refine W.cond (b := _) rfl (fun g35 => ?_) (fun g35 => ?_)
      ·have h35 := of_decide_eq_true g35
       have hi2 : i < 2 := by omega
       refine W.skip ?_
       refine thn_n ?_
       refine W.seq ?_
       refine W.block ?_
       refine W.seq ?_
       refine W.region ?_
       refine L.val (x_mv (v := .int _ _) rfl) rfl ?_
       refine L.val (x_as (v := .int _ _) rfl) rfl ?_
       refine L.nil ?_
       refine thn_n ?_
       refine W.seq ?_
       refine W.region ?_
       refine L.val (x_mv (v := .pointer _) rfl) rfl ?_
       refine L.val (x_mv (v := .int _ _) rfl) rfl ?_
       refine L.ret (x_call kwal8_en87 rfl) rfl (read_d n0 b D i _ (h.bel hB) hd (by omega)) ?_
       rintro _ w40 ⟨rfl, hw⟩
       have hB := hB.carry hw; have bx5 := bx5.carry hw
       refine L.val (x_mv (v := _) rfl) rfl ?_
       refine L.val (x_ext (v := S _) rfl rfl) rfl ?_
       refine L.val (x_ext (v := .int _ _) rfl rfl) rfl ?_
       refine L.val (x_as (v := S _) rfl) rfl ?_
       refine L.val (x_as (v := .int _ _) rfl) rfl ?_
       refine L.nil ?_
       refine thn_n ?_
       refine W.seq ?_
       refine W.region ?_
       refine L.val (x_mv (v := S _) rfl) rfl ?_
       refine L.val (x_mv (v := .pointer _) rfl) rfl ?_
       refine L.ret (x_call kwal8_en82 rfl) rfl (room_w n0 b D _ (h.bel hB) h6) ?_
       rintro _ w46 ⟨rfl, hq46⟩
       rw [hq46]
       refine L.ret (x_call kwal8_en88 rfl) rfl (read_ok (rdD D i) _ (rdD_len hok (by omega)) hrm _) ?_
       rintro _ w47 ⟨rfl, hw⟩
       have hB := hB.carry hw; have bx5 := bx5.carry hw
       have hs47 := hB.size; have hl47 := bx5.lt
       refine L.val (x_mv (v := _) rfl) rfl ?_
       refine L.val (x_ext (v := _) rfl rfl) rfl ?_
       refine L.val (x_ext (v := .bool _) rfl rfl) rfl ?_
       refine L.alloc (cs := [Value.int .u64 0, Value.int .i64 0, Value.int .i64 0, Value.int .i64 0]) kwal8_zr132 rfl rfl (fun w11 bx11 hw hz11 => ?_)
       have hB := hB.carry hw; have bx5 := bx5.carry hw
       refine L.setRow kwal8_ag132 rfl rfl bx11 rfl rfl (ptV_one (rdPt (rdD D i))) (fun wl50 bx11 hw hzl50 => ?_)
       have hsz := hB.size
       have hB := hB.set hw (by omega); have bx5 := bx5.carryR hw (by omega)
       refine L.val (x_as (v := .bool _) rfl) rfl ?_
       refine L.nil ?_
       refine thn_n ?_
       refine W.cut (fun D' E' w' => D' = [] ∧ E' 0 = .pointer (some ⟨b, 0, none⟩) ∧ E' 5 = .pointer (some ⟨w.heap.size, 0, none⟩) ∧ E' 6 = .bool (hdP D (i + 1)).2 ∧ E' 7 = .bool (frS D i) ∧ E' 8 = .int .i64 (i : Nat) ∧ E' 9 = S (rdD D i) ∧ E' 34 = .int .i64 (i : Nat) ∧ Bel w w' ∧ Box w' w.heap.size 134 (logV (hdP D (i + 1)).1 b false)) ?_ ?_
       ·refine W.seq ?_
        refine W.drawF 15 kwal8_mixed (fun wF50 hB0 => ?_)
        refine LAC.takeN (i := 0) rfl (by kernel_rfl) (by kernel_rfl) (by kernel_rfl) (by kernel_rfl) (fun w hw => x_mv (v := .bool _) rfl) rfl ?_
        refine LAC.takeN (i := 1) rfl (by kernel_rfl) (by kernel_rfl) (by kernel_rfl) (by kernel_rfl) (fun w hw => x_mv (v := .bool _) rfl) rfl ?_
        refine LAC.split (dj := 51) (b := _) rfl (fun g51 => ?_) (fun g51 => ?_)
        ·have h51 := g51
         refine LAC.takeG (i := 2) rfl (by kernel_rfl) (by kernel_rfl) (by kernel_rfl) (by kernel_rfl) (dj := 51) (b := _) rfl rfl g51 (fun w hw => x_mv (v := .bool _) rfl) rfl ?_
         refine LAC.takeG (i := 3) rfl (by kernel_rfl) (by kernel_rfl) (by kernel_rfl) (by kernel_rfl) (dj := 51) (b := _) rfl rfl g51 (fun w hw => x_not rfl) rfl ?_
         refine LAC.takeG (i := 4) rfl (by kernel_rfl) (by kernel_rfl) (by kernel_rfl) (by kernel_rfl) (dj := 51) (b := _) rfl rfl g51 (fun w hw => x_mv (v := .bool _) rfl) rfl ?_
         refine LAC.split (dj := 54) (b := _) rfl (fun g54 => ?_) (fun g54 => ?_)
         ·have h54 := (not_t g54)
          have hS : hdP D (i + 1) = (rdPt (rdD D i), true) := by rw [hdP, stepP, g51, g54]; rfl
          refine LAC.takeU (i := 5) rfl (by kernel_rfl) (by kernel_rfl) (by kernel_rfl) (by kernel_rfl) (dj := 54) (b := _) rfl rfl g54 rfl ?_
          refine LAC.takeU (i := 6) rfl (by kernel_rfl) (by kernel_rfl) (by kernel_rfl) (by kernel_rfl) (dj := 54) (b := _) rfl rfl g54 rfl ?_
          refine LAC.takeU (i := 7) rfl (by kernel_rfl) (by kernel_rfl) (by kernel_rfl) (by kernel_rfl) (dj := 54) (b := _) rfl rfl g54 rfl ?_
          refine LAC.takeU (i := 8) rfl (by kernel_rfl) (by kernel_rfl) (by kernel_rfl) (by kernel_rfl) (dj := 54) (b := _) rfl rfl g54 rfl ?_
          refine LAC.takeU (i := 9) rfl (by kernel_rfl) (by kernel_rfl) (by kernel_rfl) (by kernel_rfl) (dj := 54) (b := _) rfl rfl g54 rfl ?_
          refine LAC.takeU (i := 10) rfl (by kernel_rfl) (by kernel_rfl) (by kernel_rfl) (by kernel_rfl) (dj := 54) (b := _) rfl rfl g54 rfl ?_
          refine LAC.takeU (i := 11) rfl (by kernel_rfl) (by kernel_rfl) (by kernel_rfl) (by kernel_rfl) (dj := 54) (b := _) rfl rfl g54 rfl ?_
          refine LAC.takeU (i := 12) rfl (by kernel_rfl) (by kernel_rfl) (by kernel_rfl) (by kernel_rfl) (dj := 54) (b := _) rfl rfl g54 rfl ?_
          refine LAC.takeG (i := 13) rfl (by kernel_rfl) (by kernel_rfl) (by kernel_rfl) (by kernel_rfl) (dj := 51) (b := _) rfl rfl g51 (fun w hw => x_pick_t (v := .bool _) (congrArg Value.bool g54) rfl) rfl ?_
          refine LAC.takeN (i := 14) rfl (by kernel_rfl) (by kernel_rfl) (by kernel_rfl) (by kernel_rfl) (fun w hw => x_pick_t (v := .bool _) (congrArg Value.bool g51) rfl) rfl ?_
          refine LAC.doneF (by kernel_rfl) hB0 ?_
          have hB := hB.carry hB0; have bx5 := bx5.carry hB0; have bx11 := bx11.carry hB0
          refine thn_n ?_
          refine W.cond (b := true) rfl (fun _ => ?_) (fun h => nomatch h)
          refine W.region ?_
          refine L.val (x_mv (v := .pointer _) rfl) rfl ?_
          refine L.val (x_ldn (vs := _) kwal8_ag132 rfl rfl (bx11.row rfl)) rfl ?_
          refine L.val (x_nil rfl) rfl ?_
          refine L.val (x_fa kwal8_fo134_0 rfl) rfl ?_
          refine L.setPart (o := 0) (k := 4) (new := ptV (rdPt (rdD D i))) kwal8_ag132 rfl rfl bx5 (by show 4 ≤ 6; omega) rfl (ptV_one _) (fun wl71 bx5 hw hzl71 => ?_)
          have hB := hB.set hw (by omega)
          refine L.val (x_as (v := .bool _) rfl) rfl ?_
          refine L.nil ?_
          refine thn_n ?_
          rw [hS]
          exact ⟨rfl, rfl, rfl, rfl, rfl, rfl, rfl, rfl, hB, bx5⟩
         ·have h54 := (not_f g54)
          refine LAC.takeG (i := 5) rfl (by kernel_rfl) (by kernel_rfl) (by kernel_rfl) (by kernel_rfl) (dj := 54) (b := _) rfl rfl g54 (fun w hw => x_fa kwal8_fo132_0 rfl) rfl ?_
          refine LAC.takeG (i := 6) rfl (by kernel_rfl) (by kernel_rfl) (by kernel_rfl) (by kernel_rfl) (dj := 54) (b := _) rfl rfl g54 (fun w hw => x_ld (v := .int _ _) kwal8_oc103 rfl (hw.keep (bx11.cell0 rfl))) rfl ?_
          refine LAC.takeG (i := 7) rfl (by kernel_rfl) (by kernel_rfl) (by kernel_rfl) (by kernel_rfl) (dj := 54) (b := _) rfl rfl g54 (fun w hw => x_mv (v := .pointer _) rfl) rfl ?_
          refine LAC.takeG (i := 8) rfl (by kernel_rfl) (by kernel_rfl) (by kernel_rfl) (by kernel_rfl) (dj := 54) (b := _) rfl rfl g54 (fun w hw => x_nil rfl) rfl ?_
          refine LAC.takeG (i := 9) rfl (by kernel_rfl) (by kernel_rfl) (by kernel_rfl) (by kernel_rfl) (dj := 54) (b := _) rfl rfl g54 (fun w hw => x_fa kwal8_fo134_0 rfl) rfl ?_
          refine LAC.takeG (i := 10) rfl (by kernel_rfl) (by kernel_rfl) (by kernel_rfl) (by kernel_rfl) (dj := 54) (b := _) rfl rfl g54 (fun w hw => x_fa kwal8_fo132_0 rfl) rfl ?_
          refine LAC.takeG (i := 11) rfl (by kernel_rfl) (by kernel_rfl) (by kernel_rfl) (by kernel_rfl) (dj := 54) (b := _) rfl rfl g54 (fun w hw => x_ld (v := .int _ _) kwal8_oc103 rfl (hw.keep (bx5.cell0 rfl))) rfl ?_
          refine LAC.takeG (i := 12) rfl (by kernel_rfl) (by kernel_rfl) (by kernel_rfl) (by kernel_rfl) (dj := 54) (b := _) rfl rfl g54 (fun w hw => x_gtr rfl rfl) rfl ?_
          refine LAC.takeG (i := 13) rfl (by kernel_rfl) (by kernel_rfl) (by kernel_rfl) (by kernel_rfl) (dj := 51) (b := _) rfl rfl g51 (fun w hw => x_pick_f (v := .bool _) (congrArg Value.bool g54) rfl) rfl ?_
          refine LAC.takeN (i := 14) rfl (by kernel_rfl) (by kernel_rfl) (by kernel_rfl) (by kernel_rfl) (fun w hw => x_pick_t (v := .bool _) (congrArg Value.bool g51) rfl) rfl ?_
          refine LAC.doneF (by kernel_rfl) hB0 ?_
          have hB := hB.carry hB0; have bx5 := bx5.carry hB0; have bx11 := bx11.carry hB0
          refine thn_n ?_
          refine W.cond (b := _) rfl (fun g62 => ?_) (fun g62 => ?_)
          ·have h62 := of_decide_eq_true g62
           have hS : hdP D (i + 1) = (rdPt (rdD D i), true) := by
             rw [hdP, stepP, g51, decide_eq_true (show (hdP D i).1.ep < (rdPt (rdD D i)).ep by omega), Bool.or_true]; rfl
           refine W.region ?_
           refine L.val (x_mv (v := .pointer _) rfl) rfl ?_
           refine L.val (x_ldn (vs := _) kwal8_ag132 rfl rfl (bx11.row rfl)) rfl ?_
           refine L.val (x_nil rfl) rfl ?_
           refine L.val (x_fa kwal8_fo134_0 rfl) rfl ?_
           refine L.setPart (o := 0) (k := 4) (new := ptV (rdPt (rdD D i))) kwal8_ag132 rfl rfl bx5 (by show 4 ≤ 6; omega) rfl (ptV_one _) (fun wl71 bx5 hw hzl71 => ?_)
           have hB := hB.set hw (by omega)
           refine L.val (x_as (v := .bool _) rfl) rfl ?_
           refine L.nil ?_
           refine thn_n ?_
           rw [hS]
           exact ⟨rfl, rfl, rfl, rfl, rfl, rfl, rfl, rfl, hB, bx5⟩
          ·have h62 := dlt_f g62
           have hS : hdP D (i + 1) = hdP D i := by
             rw [hdP, stepP, g54, decide_eq_false (show ¬ (hdP D i).1.ep < (rdPt (rdD D i)).ep by omega), Bool.or_false, Bool.and_false]; rfl
           refine W.skip ?_
           refine thn_n ?_
           rw [hS]
           exact ⟨rfl, rfl, rfl, rfl, rfl, rfl, rfl, rfl, hB, bx5⟩
        ·have h51 := g51
         have hS : hdP D (i + 1) = hdP D i := by rw [hdP, stepP, g51]; rfl
         refine LAC.takeU (i := 2) rfl (by kernel_rfl) (by kernel_rfl) (by kernel_rfl) (by kernel_rfl) (dj := 51) (b := _) rfl rfl g51 rfl ?_
         refine LAC.takeU (i := 3) rfl (by kernel_rfl) (by kernel_rfl) (by kernel_rfl) (by kernel_rfl) (dj := 51) (b := _) rfl rfl g51 rfl ?_
         refine LAC.takeU (i := 4) rfl (by kernel_rfl) (by kernel_rfl) (by kernel_rfl) (by kernel_rfl) (dj := 51) (b := _) rfl rfl g51 rfl ?_
         refine LAC.takeUU (i := 5) rfl (by kernel_rfl) (by kernel_rfl) (by kernel_rfl) (by kernel_rfl) (dj := 54) rfl rfl rfl ?_
         refine LAC.takeUU (i := 6) rfl (by kernel_rfl) (by kernel_rfl) (by kernel_rfl) (by kernel_rfl) (dj := 54) rfl rfl rfl ?_
         refine LAC.takeUU (i := 7) rfl (by kernel_rfl) (by kernel_rfl) (by kernel_rfl) (by kernel_rfl) (dj := 54) rfl rfl rfl ?_
         refine LAC.takeUU (i := 8) rfl (by kernel_rfl) (by kernel_rfl) (by kernel_rfl) (by kernel_rfl) (dj := 54) rfl rfl rfl ?_
         refine LAC.takeUU (i := 9) rfl (by kernel_rfl) (by kernel_rfl) (by kernel_rfl) (by kernel_rfl) (dj := 54) rfl rfl rfl ?_
         refine LAC.takeUU (i := 10) rfl (by kernel_rfl) (by kernel_rfl) (by kernel_rfl) (by kernel_rfl) (dj := 54) rfl rfl rfl ?_
         refine LAC.takeUU (i := 11) rfl (by kernel_rfl) (by kernel_rfl) (by kernel_rfl) (by kernel_rfl) (dj := 54) rfl rfl rfl ?_
         refine LAC.takeUU (i := 12) rfl (by kernel_rfl) (by kernel_rfl) (by kernel_rfl) (by kernel_rfl) (dj := 54) rfl rfl rfl ?_
         refine LAC.takeU (i := 13) rfl (by kernel_rfl) (by kernel_rfl) (by kernel_rfl) (by kernel_rfl) (dj := 51) (b := _) rfl rfl g51 rfl ?_
         refine LAC.takeN (i := 14) rfl (by kernel_rfl) (by kernel_rfl) (by kernel_rfl) (by kernel_rfl) (fun w hw => x_pick_f (v := .bool _) (congrArg Value.bool g51) rfl) rfl ?_
         refine LAC.doneF (by kernel_rfl) hB0 ?_
         have hB := hB.carry hB0; have bx5 := bx5.carry hB0; have bx11 := bx11.carry hB0
         refine thn_n ?_
         refine W.cond (b := false) rfl (fun h => nomatch h) (fun _ => ?_)
         refine W.skip ?_
         refine thn_n ?_
         rw [hS]
         exact ⟨rfl, rfl, rfl, rfl, rfl, rfl, rfl, rfl, hB, bx5⟩
       ·rintro D' E w69 ⟨rfl, e0, e5, e6, e7, e8, e9, e34, hB, bx5⟩
        rw [upd_self e0, upd_self e5, upd_self e6, upd_self e7, upd_self e8, upd_self e9, upd_self e34]
        refine W.region ?_
        refine L.val (x_mv (v := .bool _) rfl) rfl ?_
        refine L.val (x_mv (v := .bool _) rfl) rfl ?_
        refine L.splitat (dj := 70) (b := _) rfl (fun g70 => ?_) (fun g70 => ?_)
        ·have h70 := g70
         have hF : true = frS D (i + 1) := by
           simp only [frS, Bool.and_eq_true] at g70
           simp only [frS, g70.2, Bool.and_true]
           exact (decide_eq_true (by omega)).symm
         refine L.gno (dj := 70) (b := _) rfl rfl g70 rfl ?_
         refine L.gno (dj := 70) (b := _) rfl rfl g70 rfl ?_
         refine L.gno (dj := 70) (b := _) rfl rfl g70 rfl ?_
         refine L.gun (dj := 73) rfl rfl rfl ?_
         refine L.gun (dj := 73) rfl rfl rfl ?_
         refine L.gun (dj := 73) rfl rfl rfl ?_
         refine L.gno (dj := 70) (b := _) rfl rfl g70 rfl ?_
         refine L.val (x_pick_t (v := .bool _) (congrArg Value.bool g70) rfl) rfl ?_
         refine L.val (x_as (v := .bool _) rfl) rfl ?_
         refine L.nil ?_
         refine blk_n ?_
         refine thn_n ?_
         refine W.region ?_
         refine L.val (x_add rfl rfl (wr64 (by omega))) rfl ?_
         refine L.val (x_mv (v := .int _ _) rfl) rfl ?_
         refine L.nil ?_
         refine thn_n ⟨rfl, ?_⟩
         refine ⟨_, ?_, i + 1, rfl, by first | rfl | exact vi (by omega) | exact vs (by first | assumption | (rw [hst]; done) | (rw [hst]; simp only [List.append_assoc])), by first | rfl | exact vi (by omega) | exact vs (by first | assumption | (rw [hst]; done) | (rw [hst]; simp only [List.append_assoc])), by first | rfl | exact vi (by omega) | exact vs (by first | assumption | (rw [hst]; done) | (rw [hst]; simp only [List.append_assoc])) | exact vb (by assumption), by first | rfl | exact vi (by omega) | exact vs (by first | assumption | (rw [hst]; done) | (rw [hst]; simp only [List.append_assoc])) | exact vb (by assumption), by first | rfl | exact vi (by omega) | exact vs (by first | assumption | (rw [hst]; done) | (rw [hst]; simp only [List.append_assoc])), (by first | assumption | omega | rfl), (by first | assumption | omega | rfl), (by first | assumption | omega | rfl)⟩
         omega
        ·have h70 := g70
         refine L.gyes' (dj := 70) (b := _) rfl rfl g70 ?_
         refine L.val (x_mv (v := .int _ _) rfl) rfl ?_
         refine L.gyes' (dj := 70) (b := _) rfl rfl g70 ?_
         refine L.val (x_eql rfl rfl) rfl ?_
         refine L.gyes' (dj := 70) (b := _) rfl rfl g70 ?_
         refine L.val (x_mv (v := .bool _) rfl) rfl ?_
         refine L.splitat (dj := 73) (b := _) rfl (fun g73 => ?_) (fun g73 => ?_)
         ·have h73 := of_decide_eq_true g73
          have hi0 : i = 0 := by omega
          have hF : (rdD D i == zeros 64) = frS D (i + 1) := by
            subst hi0; simp [frS]
          refine L.gyes' (dj := 73) (b := _) rfl rfl g73 ?_
          refine L.val (x_mv (v := S _) rfl) rfl ?_
          refine L.gyes' (dj := 73) (b := _) rfl rfl g73 ?_
          refine L.ret (x_call kwal8_en89 rfl) rfl (padded_ok [] (by decide) _) ?_
          rintro _ w75 ⟨rfl, hw⟩
          have hB := hB.carry hw; have bx5 := bx5.carry hw
          refine L.gyes' (dj := 73) (b := _) rfl rfl g73 ?_
          refine L.val (x_eqs rfl rfl) rfl ?_
          refine L.gyes' (dj := 70) (b := _) rfl rfl g70 ?_
          refine L.val (x_pick_t (v := .bool _) (congrArg Value.bool g73) rfl) rfl ?_
          refine L.val (x_pick_f (v := .bool _) (congrArg Value.bool g70) rfl) rfl ?_
          refine L.val (x_as (v := .bool _) rfl) rfl ?_
          refine L.nil ?_
          refine blk_n ?_
          refine thn_n ?_
          refine W.region ?_
          refine L.val (x_add rfl rfl (wr64 (by omega))) rfl ?_
          refine L.val (x_mv (v := .int _ _) rfl) rfl ?_
          refine L.nil ?_
          refine thn_n ⟨rfl, ?_⟩
          refine ⟨_, ?_, i + 1, rfl, by first | rfl | exact vi (by omega) | exact vs (by first | assumption | (rw [hst]; done) | (rw [hst]; simp only [List.append_assoc])), by first | rfl | exact vi (by omega) | exact vs (by first | assumption | (rw [hst]; done) | (rw [hst]; simp only [List.append_assoc])), by first | rfl | exact vi (by omega) | exact vs (by first | assumption | (rw [hst]; done) | (rw [hst]; simp only [List.append_assoc])) | exact vb (by assumption), by first | rfl | exact vi (by omega) | exact vs (by first | assumption | (rw [hst]; done) | (rw [hst]; simp only [List.append_assoc])) | exact vb (by assumption), by first | rfl | exact vi (by omega) | exact vs (by first | assumption | (rw [hst]; done) | (rw [hst]; simp only [List.append_assoc])), (by first | assumption | omega | rfl), (by first | assumption | omega | rfl), (by first | assumption | omega | rfl)⟩
          omega
         ·have h73 := of_decide_eq_false g73
          have hF : false = frS D (i + 1) := by
            simp only [frS, decide_eq_true (show 0 < i by omega), Bool.true_and] at g70
            simp only [frS, g70, Bool.and_false]
          refine L.gno (dj := 73) (b := _) rfl rfl g73 rfl ?_
          refine L.gno (dj := 73) (b := _) rfl rfl g73 rfl ?_
          refine L.gno (dj := 73) (b := _) rfl rfl g73 rfl ?_
          refine L.gyes' (dj := 70) (b := _) rfl rfl g70 ?_
          refine L.val (x_pick_f (v := .bool _) (congrArg Value.bool g73) rfl) rfl ?_
          refine L.val (x_pick_f (v := .bool _) (congrArg Value.bool g70) rfl) rfl ?_
          refine L.val (x_as (v := .bool _) rfl) rfl ?_
          refine L.nil ?_
          refine blk_n ?_
          refine thn_n ?_
          refine W.region ?_
          refine L.val (x_add rfl rfl (wr64 (by omega))) rfl ?_
          refine L.val (x_mv (v := .int _ _) rfl) rfl ?_
          refine L.nil ?_
          refine thn_n ⟨rfl, ?_⟩
          refine ⟨_, ?_, i + 1, rfl, by first | rfl | exact vi (by omega) | exact vs (by first | assumption | (rw [hst]; done) | (rw [hst]; simp only [List.append_assoc])), by first | rfl | exact vi (by omega) | exact vs (by first | assumption | (rw [hst]; done) | (rw [hst]; simp only [List.append_assoc])), by first | rfl | exact vi (by omega) | exact vs (by first | assumption | (rw [hst]; done) | (rw [hst]; simp only [List.append_assoc])) | exact vb (by assumption), by first | rfl | exact vi (by omega) | exact vs (by first | assumption | (rw [hst]; done) | (rw [hst]; simp only [List.append_assoc])) | exact vb (by assumption), by first | rfl | exact vi (by omega) | exact vs (by first | assumption | (rw [hst]; done) | (rw [hst]; simp only [List.append_assoc])), (by first | assumption | omega | rfl), (by first | assumption | omega | rfl), (by first | assumption | omega | rfl)⟩
          omega
      ·have h35 := dlt_f g35
       have hi2 : i = 2 := by omega
       subst hi2
       have hp := hdP_ok D 2
       have hlb := bx5.lt
       refine W.exit (thn_x (thn_x (blk_hit ?_)))
       refine thn_n ?_
       refine W.seq ?_
       refine W.seq ?_
       refine W.region ?_
       refine L.val (x_mv (v := .bool _) rfl) rfl ?_
       refine L.val (x_not rfl) rfl ?_
       refine L.val (x_mv (v := .bool _) rfl) rfl ?_
       refine' L.group0 2 83 84 84 82 true rfl ?_ ?_ ?_
       rotate_left 1
       ·intro g82
        have h82 := (not_t g82)
        refine L.gyes' (dj := 82) (b := _) rfl rfl g82 ?_
        refine L.val (x_mv (v := .bool _) rfl) rfl ?_
        refine L.gyes' (dj := 82) (b := _) rfl rfl g82 ?_
        refine L.val (x_not rfl) rfl ?_
        refine L.nil ?_
        refine thn_n ⟨rfl, rfl, ?_, rfl⟩
        repeat (first | exact jeq.refl _ _ _ | refine jeq.upd rfl ?_ | refine jeq.jk rfl rfl ?_)
       ·intro g82
        refine L.gno (dj := 82) (b := _) rfl rfl g82 rfl ?_
        refine L.gno (dj := 82) (b := _) rfl rfl g82 rfl ?_
        refine L.nil (thn_n ⟨rfl, rfl, ?_⟩)
        repeat (first | exact jeq.refl _ _ _ | refine jeq.upd rfl ?_ | refine jeq.jk rfl rfl ?_)
       intro J82 j82
       refine L.val (x_and rfl j82) rfl ?_
       refine L.nil ?_
       refine thn_n ?_
       refine W.cond (b := _) rfl (fun g85 => ?_) (fun g85 => ?_)
       ·have h85 := g85
        have hO := openA_none g85
        refine W.seq ?_
        refine W.region ?_
        refine L.val (x_as (v := .pointer _) rfl) rfl ?_
        refine L.val (x_as (v := .slice _ _ _) rfl) rfl ?_
        refine L.val (x_as (v := .int _ _) rfl) rfl ?_
        refine L.nil ?_
        refine thn_n ?_
        refine W.ret (thn_r (fin_mk (.inr rfl) ?_))
        rw [hO]; exact ⟨hB, .inl ⟨by decide, rfl⟩⟩
       ·have h85 := g85
        have hO := openA_some g85
        generalize hP : (hdP D 2).1 = p at *
        have hst := stN_le h6 hp.2.1
        have hrN : roomN D.pl.length = hlf D.pl.length * 64 := rfl
        refine W.skip ?_
        refine thn_n ?_
        refine W.seq ?_
        refine W.region ?_
        refine L.alloc (cs := [Value.pointer none, Value.slice none 0 0]) kwal8_zr145 rfl rfl (fun w13 bx13 hw hz13 => ?_)
        have hB := hB.carry hw; have bx5 := bx5.carry hw
        obtain ⟨bb, hbb⟩ : ∃ bb, bb = wL35.heap.size := ⟨_, rfl⟩
        rw [← hbb] at bx13 ⊢
        refine L.nil ?_
        refine thn_n ?_
        refine W.seq ?_
        refine W.seq ?_
        refine W.region ?_
        refine L.val (x_as (v := .int _ _) rfl) rfl ?_
        refine L.nil ?_
        refine thn_n ?_
        refine W.block ?_
        refine W.loop (fun m' E w' => ∃ (k : Nat), m' = p.tail + 64 - 64 * k ∧ E 0 = .pointer (some ⟨b, 0, none⟩) ∧ E 5 = .pointer (some ⟨w.heap.size, 0, none⟩) ∧ E 13 = .pointer (some ⟨bb, 0, none⟩) ∧ E 14 = .int .i64 (k : Nat) ∧ (k = 0 ∨ 64 * (k - 1) < p.tail) ∧ (Bel w w') ∧ (Box w' w.heap.size 134 (logV p b false)) ∧ (BuilderIs w' bb (areaS D p k))) (p.tail + 64) ?_ ?_
        ·exact ⟨0, by omega, by first | rfl | exact vi (by omega) | exact vs (by first | assumption | (rw [hst]; done) | (rw [hst]; simp only [List.append_assoc])), by first | rfl | exact vi (by omega) | exact vs (by first | assumption | (rw [hst]; done) | (rw [hst]; simp only [List.append_assoc])), by first | rfl | exact vi (by omega) | exact vs (by first | assumption | (rw [hst]; done) | (rw [hst]; simp only [List.append_assoc])), by first | rfl | exact vi (by omega) | exact vs (by first | assumption | (rw [hst]; done) | (rw [hst]; simp only [List.append_assoc])), (by first | assumption | omega | rfl), (by first | assumption | omega | rfl), (by first | assumption | omega | rfl), (by exact builder_new bx13)⟩
        ·rintro _ E wL86 ⟨k, em, e0, e5, e13, e14, hk, hB, bx5, hD⟩
         rw [upd_self e0, upd_self e5, upd_self e13, upd_self e14]
         refine W.seq ?_
         refine W.seq ?_
         refine W.region ?_
         refine L.val (x_mv (v := .int _ _) rfl) rfl ?_
         refine L.val (x_mul rfl rfl (wr64 (by omega))) rfl ?_
         refine L.val (x_mv (v := .pointer _) rfl) rfl ?_
         refine L.val (x_nil rfl) rfl ?_
         refine L.val (x_fa kwal8_fo134_0 rfl) rfl ?_
         refine L.val (x_fa kwal8_fo132_2 rfl) rfl ?_
         refine L.val (x_ld (v := .int _ _) kwal8_oc3 rfl (bx5.cell0 rfl)) rfl ?_
         refine L.val (x_lss rfl rfl) rfl ?_
         refine L.nil ?_
         refine thn_n ?_
         refine W.cond (b := _) rfl (fun g93 => ?_) (fun g93 => ?_)
         ·have h93 := of_decide_eq_true g93
          have hlk : 64 * k < p.tail := by omega
          have hal : (areaS D p k).length = 64 * k := areaS_len hok k (fun i hi => by omega)
          have hrl := rdD_len hok (i := stN D.pl.length p.half + k) (by omega)
          refine W.skip ?_
          refine thn_n ?_
          refine W.seq ?_
          refine W.block ?_
          refine W.seq ?_
          refine W.region ?_
          refine L.val (x_mv (v := .pointer _) rfl) rfl ?_
          refine L.val (x_mv (v := .pointer _) rfl) rfl ?_
          refine L.val (x_mv (v := .pointer _) rfl) rfl ?_
          refine L.val (x_nil rfl) rfl ?_
          refine L.val (x_fa kwal8_fo134_0 rfl) rfl ?_
          refine L.val (x_fa kwal8_fo132_1 rfl) rfl ?_
          refine L.val (x_ld (v := .int _ _) kwal8_oc3 rfl (bx5.cell0 rfl)) rfl ?_
          refine L.ret (x_call kwal8_en90 rfl) rfl (start_w n0 b D p.half _ (h.bel hB) h6 hp.2.1) ?_
          rintro _ w104 ⟨rfl, hq104⟩
          rw [hq104]
          refine L.val (x_mv (v := .int _ _) rfl) rfl ?_
          refine L.val (x_add rfl rfl (wr64 (by omega))) rfl ?_
          refine L.ret (x_call kwal8_en87 rfl) rfl (read_d n0 b D (stN D.pl.length p.half + k) _ (h.bel hB) hd (by omega)) ?_
          rintro _ w107 ⟨rfl, hw⟩
          have hB := hB.carry hw; have bx5 := bx5.carry hw
          have hD := hD.carryR hw (fun _ _ e => e)
          refine L.val (x_mv (v := _) rfl) rfl ?_
          refine L.val (x_ext (v := S _) rfl rfl) rfl ?_
          refine L.val (x_ext (v := .int _ _) rfl rfl) rfl ?_
          refine L.val (x_as (v := S _) rfl) rfl ?_
          refine L.val (x_as (v := .int _ _) rfl) rfl ?_
          refine L.nil ?_
          refine thn_n ?_
          refine W.region ?_
          refine L.val (x_mv (v := S _) rfl) rfl ?_
          refine L.ret (x_call kwal8_en91 rfl) rfl (wstr_ok _ _ _ _ hD (by omega)) ?_
          rintro _ w111 ⟨hD111, hG111⟩
          refine L.nil ?_
          refine blk_n ?_
          refine thn_n ?_
          refine W.region ?_
          have hB := hB.step hG111 (fun i hi e => by omega)
          have bx5 := bx5.carryR hG111 (fun e => by omega)
          have hD2 : BuilderIs w111 bb (areaS D p (k + 1)) := by rw [← areaS_succ]; exact hD111
          refine L.val (x_mv (v := .int _ _) rfl) rfl ?_
          refine L.val (x_add rfl rfl (wr64 (by omega))) rfl ?_
          refine L.val (x_as (v := .int _ _) rfl) rfl ?_
          refine L.nil ?_
          refine thn_n ⟨rfl, ?_⟩
          refine ⟨_, ?_, k + 1, rfl, by first | rfl | exact vi (by omega) | exact vs (by first | assumption | (rw [hst]; done) | (rw [hst]; simp only [List.append_assoc])), by first | rfl | exact vi (by omega) | exact vs (by first | assumption | (rw [hst]; done) | (rw [hst]; simp only [List.append_assoc])), by first | rfl | exact vi (by omega) | exact vs (by first | assumption | (rw [hst]; done) | (rw [hst]; simp only [List.append_assoc])), by first | rfl | exact vi (by omega) | exact vs (by first | assumption | (rw [hst]; done) | (rw [hst]; simp only [List.append_assoc])), (by exact .inr (by omega)), (by first | assumption | omega | rfl), (by first | assumption | omega | rfl), (by exact hD2)⟩
          omega
         ·have h93 := dlt_f g93
          have hke : k = (p.tail + 63) / 64 := by omega
          have hal : (areaS D p k).length = 64 * k := areaS_len hok k (fun i hi => by omega)
          have hsB := hB.size
          refine W.exit (thn_x (thn_x (blk_hit ?_)))
          refine thn_n ?_
          refine W.seq ?_
          refine W.drawD (fun k => bb ≤ k) (fun k => bb ≤ k) 0 kwal8_mixed (fun wD112 hw => ?_)
          have hB := hB.carry hw; have bx5 := bx5.carry hw
          have hB0 := Gr.refl (fun k => bb ≤ k) wD112; have hR0 := Gr.refl (fun k => bb ≤ k) wD112
          have hD := hD.carryR hw (fun _ _ e => e)
          refine LAD.take0 (i := 1) rfl (by kernel_rfl) (by kernel_rfl) (by kernel_rfl) (by kernel_rfl) (fun w hw => x_mv (v := .pointer _) rfl) rfl ?_
          refine LAD.take0 (i := 2) rfl (by kernel_rfl) (by kernel_rfl) (by kernel_rfl) (by kernel_rfl) (fun w hw => x_nil rfl) rfl ?_
          refine LAD.take0 (i := 3) rfl (by kernel_rfl) (by kernel_rfl) (by kernel_rfl) (by kernel_rfl) (fun w hw => x_fa kwal8_fo134_0 rfl) rfl ?_
          refine LAD.take0 (i := 4) rfl (by kernel_rfl) (by kernel_rfl) (by kernel_rfl) (by kernel_rfl) (fun w hw => x_fa kwal8_fo132_2 rfl) rfl ?_
          refine LAD.take0 (i := 5) rfl (by kernel_rfl) (by kernel_rfl) (by kernel_rfl) (by kernel_rfl) (fun w hw => x_ld (v := .int _ _) kwal8_oc3 rfl (hw.keepR (fun e => by have e : bb ≤ _ := e; dsimp only at e; omega) (bx5.cell0 rfl))) rfl ?_
          refine LAD.step (rs := [0]) hR0 (fun _ => hB0) (by kernel_rfl) (by simp) ⟨⟨_, rfl, ?_⟩, trivial⟩
          refine L.ret (x_call kwal8_en92 rfl) rfl (bstr_ok _ _ _ hD) ?_
          rintro _ w112 ⟨rfl, hG112⟩
          have hR0 := hR0.trans hG112
          refine L.nil ?_
          refine thn_n ?_
          refine LAD.take0 (i := 6) rfl (by kernel_rfl) (by kernel_rfl) (by kernel_rfl) (by kernel_rfl) (fun w hw => x_slS (j := p.tail) Tryz.underlying9 rfl rfl rfl (by omega)) rfl ?_
          rw [show (areaS D p k).take p.tail = allA D p by unfold allA; rw [hke]]
          refine LAD.take0 (i := 7) rfl (by kernel_rfl) (by kernel_rfl) (by kernel_rfl) (by kernel_rfl) (fun w hw => x_as (v := S _) rfl) rfl ?_
          refine LAD.done (by kernel_rfl) (by kernel_rfl) hR0 ?_
          have hB := hB.step hR0 (fun i hi e => by have e : bb ≤ _ := e; omega)
          have bx5 := bx5.carryR hR0 (fun e => by have e : bb ≤ _ := e; omega)
          refine thn_n ?_
          refine W.seq ?_
          refine W.region ?_
          have hs118 := hB.size
          refine L.val (x_mv (v := S _) rfl) rfl ?_
          refine L.ret (x_call kwal8_en93 rfl) rfl (scan_ok (allA D p) (by unfold allA; rw [List.length_take]; omega) _) ?_
          rintro _ w121 ⟨⟨u, rfl, hu, hown⟩, hw⟩
          have hB := hB.carry hw; have bx5 := bx5.carry hw
          obtain ⟨pu, cu, rfl, -⟩ := id hu
          refine L.val (x_mv (v := _) rfl) rfl ?_
          refine L.val (x_ext (v := .slice _ _ _) rfl rfl) rfl ?_
          refine L.val (x_ext (v := .int _ _) rfl rfl) rfl ?_
          refine L.val (x_as (v := .slice _ _ _) rfl) rfl ?_
          refine L.val (x_as (v := .int _ _) rfl) rfl ?_
          refine L.nil ?_
          refine thn_n ?_
          refine W.seq ?_
          refine W.seq ?_
          refine W.region ?_
          refine L.val (x_mv (v := .int _ _) rfl) rfl ?_
          refine L.val (x_mv (v := .pointer _) rfl) rfl ?_
          refine L.val (x_nil rfl) rfl ?_
          refine L.val (x_fa kwal8_fo134_0 rfl) rfl ?_
          refine L.val (x_fa kwal8_fo132_2 rfl) rfl ?_
          refine L.val (x_ld (v := .int _ _) kwal8_oc3 rfl (bx5.cell0 rfl)) rfl ?_
          refine L.val (x_neq rfl rfl) rfl ?_
          refine L.val (x_mv (v := .bool _) rfl) rfl ?_
          refine L.splitat (dj := 131) (b := _) rfl (fun g131 => ?_) (fun g131 => ?_)
          ·have h131 := dne_t g131
           have hO2 : openA D = (200, pt0, []) := by rw [hO, if_neg (fun e => by have := e.1; omega)]
           refine L.gno (dj := 131) (b := _) rfl rfl g131 rfl ?_
           refine L.gno (dj := 131) (b := _) rfl rfl g131 rfl ?_
           refine L.gno (dj := 131) (b := _) rfl rfl g131 rfl ?_
           refine L.gno (dj := 131) (b := _) rfl rfl g131 rfl ?_
           refine L.gno (dj := 131) (b := _) rfl rfl g131 rfl ?_
           refine L.gno (dj := 131) (b := _) rfl rfl g131 rfl ?_
           refine L.gno (dj := 131) (b := _) rfl rfl g131 rfl ?_
           refine L.gno (dj := 131) (b := _) rfl rfl g131 rfl ?_
           refine L.val (x_pick_t (v := .bool _) (congrArg Value.bool g131) rfl) rfl ?_
           refine L.nil ?_
           refine thn_n ?_
           refine W.cond (b := true) rfl (fun _ => ?_) (fun h => nomatch h)
           refine W.seq ?_
           refine W.region ?_
           refine L.val (x_as (v := .pointer _) rfl) rfl ?_
           refine L.val (x_as (v := .slice _ _ _) rfl) rfl ?_
           refine L.val (x_as (v := .int _ _) rfl) rfl ?_
           refine L.nil ?_
           refine thn_n ?_
           refine W.ret (thn_r (fin_mk (.inr rfl) ?_))
           rw [hO2]; exact ⟨hB, .inl ⟨by decide, rfl⟩⟩
          ·have h131 := dne_f g131
           have hz1 : (scanS (allA D p)).2 = p.tail := by omega
           refine L.gyes' (dj := 131) (b := _) rfl rfl g131 ?_
           refine L.val (x_mv (v := .slice _ _ _) rfl) rfl ?_
           refine L.gyes' (dj := 131) (b := _) rfl rfl g131 ?_
           refine L.val (x_len_slice Tryz.underlying33 rfl) rfl ?_
           refine L.gyes' (dj := 131) (b := _) rfl rfl g131 ?_
           refine L.val (x_mv (v := .pointer _) rfl) rfl ?_
           refine L.gyes' (dj := 131) (b := _) rfl rfl g131 ?_
           refine L.val (x_nil rfl) rfl ?_
           refine L.gyes' (dj := 131) (b := _) rfl rfl g131 ?_
           refine L.val (x_fa kwal8_fo134_0 rfl) rfl ?_
           refine L.gyes' (dj := 131) (b := _) rfl rfl g131 ?_
           refine L.val (x_fa kwal8_fo132_3 rfl) rfl ?_
           refine L.gyes' (dj := 131) (b := _) rfl rfl g131 ?_
           refine L.val (x_ld (v := .int _ _) kwal8_oc3 rfl (bx5.cell0 rfl)) rfl ?_
           refine L.gyes' (dj := 131) (b := _) rfl rfl g131 ?_
           refine L.val (x_neq rfl rfl) rfl ?_
           refine L.val (x_pick_f (v := .bool _) (congrArg Value.bool g131) rfl) rfl ?_
           refine L.nil ?_
           refine thn_n ?_
           refine W.cond (b := _) rfl (fun g139 => ?_) (fun g139 => ?_)
           ·have h139 := dne_t g139
            have hO2 : openA D = (200, pt0, []) := by rw [hO, if_neg (fun e => by have := e.2; omega)]
            refine W.seq ?_
            refine W.region ?_
            refine L.val (x_as (v := .pointer _) rfl) rfl ?_
            refine L.val (x_as (v := .slice _ _ _) rfl) rfl ?_
            refine L.val (x_as (v := .int _ _) rfl) rfl ?_
            refine L.nil ?_
            refine thn_n ?_
            refine W.ret (thn_r (fin_mk (.inr rfl) ?_))
            rw [hO2]; exact ⟨hB, .inl ⟨by decide, rfl⟩⟩
           ·have h139 := dne_f g139
            have hO2 : openA D = (0, p, (scanS (allA D p)).1) := by rw [hO, if_pos ⟨hz1, by omega⟩]
            refine W.skip ?_
            refine thn_n ?_
            refine W.seq ?_
            refine W.region ?_
            refine L.val (x_mv (v := .pointer _) rfl) rfl ?_
            refine L.val (x_mv (v := .slice _ _ _) rfl) rfl ?_
            refine L.val (x_as (v := .pointer _) rfl) rfl ?_
            refine L.val (x_as (v := .slice _ _ _) rfl) rfl ?_
            refine L.val (x_as (v := .int _ _) rfl) rfl ?_
            refine L.nil ?_
            refine thn_n ?_
            refine W.ret (fin_mk (.inr rfl) ?_)
            rw [hO2]; exact ⟨hB, .inr ⟨rfl, _, _, rfl, ⟨Nat.le_refl _, bx5⟩, hu.mono (fun b _ h => by omega), hown⟩⟩
theorem open_w (n0 b : Nat) (D : Dk) (w : World) (h : DiskAt n0 w b D) (hd : D.dead = false) (h6 : 6 ≤ D.pl.length) :
    Ret Tryz.prog 48 #[.pointer (some ⟨b, 0, none⟩)] w fun v w' => Bel w w' ∧ ((openA D).1 ≠ 0 ∧ v = .tuple #[.pointer none, .slice none 0 0, .int .i64 (openA D).1] ∨
      (openA D).1 = 0 ∧ ∃ bl u, v = .tuple #[.pointer (some ⟨bl, 0, none⟩), u, .int .i64 0] ∧ LogAt w.heap.size w' bl b (openA D).2.1 ∧ StrsAt (fun k => k < w.heap.size) w' u (openA D).2.2) :=
  (open_own n0 b D w h hd h6).mono fun _ _ h => ⟨h.1, h.2.imp id fun ⟨e, bl, u, h1, h2, h3, _⟩ => ⟨e, bl, u, h1, h2, h3⟩⟩
end Go.Gx
