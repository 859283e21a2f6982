/- Logs: small functions. Conditions: none. -/
import Derived.Test.YtfbcmonbmkafpaaCjDsk3
import Derived.Test.YtfbcmonbmkafpaaCjMore
namespace Go.Gx
open Go.Proofs
theorem kwal4_ag26 : aggT Try.prog 26 4 = true := by kernel_rfl
theorem kwal4_en23 : Go.Proofs.Enters Try.prog 23 := Go.Proofs.enters_of Try.func23 (by kernel_rfl) rfl
theorem kwal4_en27 : Go.Proofs.Enters Try.prog 27 := Go.Proofs.enters_of Try.func27 (by kernel_rfl) rfl
theorem kwal4_en28 : Go.Proofs.Enters Try.prog 28 := Go.Proofs.enters_of Try.func28 (by kernel_rfl) rfl
theorem kwal4_en30 : Go.Proofs.Enters Try.prog 30 := Go.Proofs.enters_of Try.func30 (by kernel_rfl) rfl
theorem kwal4_fo26_0 : fieldOff Try.prog 26 0 = some 0 := by kernel_rfl
theorem kwal4_fo26_2 : fieldOff Try.prog 26 2 = some 2 := by kernel_rfl
theorem kwal4_fo29_0 : fieldOff Try.prog 29 0 = some 0 := by kernel_rfl
theorem kwal4_fo29_1 : fieldOff Try.prog 29 1 = some 4 := by kernel_rfl
theorem kwal4_fo29_2 : fieldOff Try.prog 29 2 = some 5 := by kernel_rfl
theorem kwal4_mixed : Try.prog.follows .mixedOrders = true := by kernel_rfl
theorem kwal4_oc24 : oneCellT Try.prog 24 = true := by kernel_rfl
theorem kwal4_oc27 : oneCellT Try.prog 27 = true := by kernel_rfl
theorem kwal4_oc3 : oneCellT Try.prog 3 = true := by kernel_rfl
theorem kwal4_oc4 : oneCellT Try.prog 4 = true := by kernel_rfl
def logV (p : Pt) (b : Nat) (br : Bool) : List Value := ptV p ++ [.pointer (some ⟨b, 0, none⟩), .bool br]
def LogAt (n0 : Nat) (w : World) (bl b : Nat) (p : Pt) : Prop := n0 ≤ bl ∧ Box w bl 29 (logV p b false)
theorem LogAt.bel {n0 bl b : Nat} {w w' : World} {p : Pt} (h : LogAt n0 w bl b p) (g : Bel w w') : LogAt n0 w' bl b p := ⟨h.1, h.2.carry g⟩
theorem log_pt {w : World} {bl : Nat} {T : TypeId} {p : Pt} {rest : List Value} (h : Box w bl T (ptV p ++ rest)) : ∀ j, j < 4 → w.cell? ⟨bl, 0 + 0 + j, none⟩ = (ptV p)[j]? := fun j hj => by
  have hl : (ptV p).length = 4 := rfl
  have e : (ptV p)[j]? = some ((ptV p)[j]'(by omega)) := List.getElem?_eq_getElem (by omega)
  rw [e]
  simp only [Nat.zero_add]
  exact h.cell (by first | rw [List.getElem?_append_left (by omega), e] | rw [Nat.zero_add, Nat.zero_add, List.getElem?_append_left (by omega), e])
def hlf (n : Nat) : Nat := (n - 2) / 2
def roomN (n : Nat) : Nat := hlf n * 64
theorem room_w (n0 b : Nat) (D : Dk) (w : World) (h : DiskAt n0 w b D) (h6 : 6 ≤ D.pl.length) : Ret Try.prog 28 #[.pointer (some ⟨b, 0, none⟩)] w fun v w' => v = .int .i64 (roomN D.pl.length : Nat) ∧ w' = w := by
  have hs := h.2.1.small
  refine ret_of_W Try.func28 rfl (Nat.le_of_ble_eq_true rfl) (res1 rfl) ?_
  refine W.seq ?_
  refine W.region ?_
  refine L.val (x_as (v := .int _ _) rfl) rfl ?_
  refine L.nil ?_
  refine thn_n ?_
  refine W.seq ?_
  refine W.region ?_
  refine L.val (x_mv (v := .pointer _) rfl) rfl ?_
  refine L.ret (x_call kwal4_en30 rfl) rfl (sectors_d n0 b D _ h) ?_
  rintro _ w4 ⟨rfl, hq⟩
  rw [hq]
  refine L.val (x_sub rfl rfl (wr64 (by omega))) rfl ?_
  refine L.val (x_quo rfl rfl (by decide) (wq64 (by omega) (by decide))) rfl ?_
  refine L.val (x_mul rfl rfl (wr64 (by omega))) rfl ?_
  refine L.val (x_as (v := .int _ _) rfl) rfl ?_
  refine L.nil ?_
  refine thn_n ?_
  refine W.ret (fin_mk (.inr rfl) ?_)
  refine ⟨?_, rfl⟩
  unfold roomN hlf
  show Value.int .i64 _ = _
  congr 1
  omega
def stN (n half : Nat) : Nat := 2 + half * hlf n
theorem stN_le {n half : Nat} (h6 : 6 ≤ n) (hh : half ≤ 1) : stN n half + hlf n ≤ n := by
  unfold stN
  have h1 : half * hlf n ≤ 1 * hlf n := Nat.mul_le_mul_right _ hh
  have h2 : 2 + 2 * hlf n ≤ n := by unfold hlf; omega
  omega
theorem start_w (n0 b : Nat) (D : Dk) (half : Nat) (w : World) (h : DiskAt n0 w b D) (h6 : 6 ≤ D.pl.length) (hh : half ≤ 1) : Ret Try.prog 34 #[.pointer (some ⟨b, 0, none⟩), .int .i64 (half : Nat)] w fun v w' => v = .int .i64 (stN D.pl.length half : Nat) ∧ w' = w := by
  unfold stN
  have hs := h.2.1.small
  have hm : (half : Int) * ((((D.pl.length : Nat) : Int) - 2) / 2) = ((half * hlf D.pl.length : Nat) : Int) := by
    have : (((D.pl.length : Nat) : Int) - 2) / 2 = ((hlf D.pl.length : Nat) : Int) := by unfold hlf; omega
    rw [this]; rfl
  have hb : half * hlf D.pl.length ≤ 4096 := by
    have h1 : half * hlf D.pl.length ≤ 1 * hlf D.pl.length := Nat.mul_le_mul_right _ hh
    have h2 : hlf D.pl.length ≤ 4096 := by unfold hlf; omega
    omega
  generalize half * hlf D.pl.length = z at hm hb ⊢
  refine ret_of_W Try.func34 rfl (Nat.le_of_ble_eq_true rfl) (res1 rfl) ?_
  refine W.seq ?_
  refine W.region ?_
  refine L.val (x_as (v := .int _ _) rfl) rfl ?_
  refine L.nil ?_
  refine thn_n ?_
  refine W.seq ?_
  refine W.region ?_
  refine L.val (x_mv (v := .int _ _) rfl) rfl ?_
  refine L.val (x_mv (v := .pointer _) rfl) rfl ?_
  refine L.ret (x_call kwal4_en30 rfl) rfl (sectors_d n0 b D _ h) ?_
  rintro _ w7 ⟨rfl, hq⟩
  rw [hq]
  refine L.val (x_sub rfl rfl (wr64 (by omega))) rfl ?_
  refine L.val (x_quo rfl rfl (by decide) (wq64 (by omega) (by decide))) rfl ?_
  refine L.val (x_mul rfl rfl ((congrArg IntKind.i64.wrap hm).trans (wr64 (by omega)))) rfl ?_
  refine L.val (x_add rfl rfl (wr64 (by omega))) rfl ?_
  refine L.val (x_as (v := .int _ _) rfl) rfl ?_
  refine L.nil ?_
  refine thn_n ?_
  refine W.ret (fin_mk (.inr rfl) ?_)
  refine ⟨?_, rfl⟩
  show Value.int .i64 _ = _
  congr 1
theorem alive_w (n0 bl b : Nat) (D : Dk) (p : Pt) (w : World) (h : DiskAt n0 w b D) (hl : LogAt n0 w bl b p) (hd : D.dead = false) : Ret Try.prog 25 #[.pointer (some ⟨bl, 0, none⟩)] w fun v w' => v = .int .i64 0 ∧ w' = w := by
  have hb := hl.2
  refine ret_of_W Try.func25 rfl (Nat.le_of_ble_eq_true rfl) (res1 rfl) ?_
  refine W.seq ?_
  refine W.region ?_
  refine L.val (x_as (v := .int _ _) rfl) rfl ?_
  refine L.nil ?_
  refine thn_n ?_
  refine W.seq ?_
  refine W.block ?_
  refine W.seq ?_
  refine W.region ?_
  refine L.val (x_mv (v := .pointer _) rfl) rfl ?_
  refine L.val (x_eqp0 Try.underlying23 rfl rfl) rfl ?_
  refine L.val (x_mv (v := .bool _) rfl) rfl ?_
  refine L.splitat (dj := 6) (b := _) rfl (fun g6 => ?_) (fun g6 => ?_)
  ·have h6 := g6
   cases g6
  ·have h6 := g6
   refine L.gyes' (dj := 6) (b := _) rfl rfl g6 ?_
   refine L.val (x_mv (v := .pointer _) rfl) rfl ?_
   refine L.gyes' (dj := 6) (b := _) rfl rfl g6 ?_
   refine L.val (x_nil rfl) rfl ?_
   refine L.gyes' (dj := 6) (b := _) rfl rfl g6 ?_
   refine L.val (x_fa kwal4_fo29_1 rfl) rfl ?_
   refine L.gyes' (dj := 6) (b := _) rfl rfl g6 ?_
   refine L.val (x_ld (v := .pointer _) kwal4_oc27 rfl (hb.cell0 rfl)) rfl ?_
   refine L.gyes' (dj := 6) (b := _) rfl rfl g6 ?_
   refine L.val (x_eqp0 Try.underlying27 rfl rfl) rfl ?_
   refine L.val (x_pick_f (v := .bool _) (congrArg Value.bool g6) rfl) rfl ?_
   refine L.val (x_as (v := .bool _) rfl) rfl ?_
   refine L.nil ?_
   refine thn_n ?_
   refine W.cond (b := _) rfl (fun g11 => ?_) (fun g11 => ?_)
   ·have h11 := g11
    cases g11
   ·have h11 := g11
    refine W.seq ?_
    refine W.region ?_
    refine L.val (x_mv (v := .pointer _) rfl) rfl ?_
    refine L.val (x_nil rfl) rfl ?_
    refine L.val (x_fa kwal4_fo29_2 rfl) rfl ?_
    refine L.val (x_ld (v := .bool _) kwal4_oc4 rfl (hb.cell0 rfl)) rfl ?_
    refine L.val (x_mv (v := .bool _) rfl) rfl ?_
    refine L.splitat (dj := 18) (b := _) rfl (fun g18 => ?_) (fun g18 => ?_)
    ·have h18 := g18
     cases g18
    ·have h18 := g18
     refine L.gyes' (dj := 18) (b := _) rfl rfl g18 ?_
     refine L.val (x_mv (v := .pointer _) rfl) rfl ?_
     refine L.gyes' (dj := 18) (b := _) rfl rfl g18 ?_
     refine L.val (x_nil rfl) rfl ?_
     refine L.gyes' (dj := 18) (b := _) rfl rfl g18 ?_
     refine L.val (x_fa kwal4_fo29_1 rfl) rfl ?_
     refine L.gyes' (dj := 18) (b := _) rfl rfl g18 ?_
     refine L.val (x_ld (v := .pointer _) kwal4_oc27 rfl (hb.cell0 rfl)) rfl ?_
     refine L.gyes' (dj := 18) (b := _) rfl rfl g18 ?_
     refine L.ret (x_call kwal4_en23 rfl) rfl (dead_d n0 b D _ h) ?_
     rintro _ w23 ⟨rfl, hq⟩
     rw [hq]
     refine L.val (x_pick_f (v := .bool _) (congrArg Value.bool g18) rfl) rfl ?_
     refine L.val (x_as (v := .bool _) rfl) rfl ?_
     refine L.nil ?_
     refine thn_n ?_
     refine W.cond (b := _) rfl (fun g23 => ?_) (fun g23 => ?_)
     ·have h23 := g23
      rw [hd] at g23; cases g23
     ·have h23 := g23
      refine W.skip ?_
      refine blk_n ?_
      refine thn_n ?_
      refine W.seq ?_
      refine W.region ?_
      refine L.val (x_as (v := .int _ _) rfl) rfl ?_
      refine L.nil ?_
      refine thn_n ?_
      refine W.ret (fin_mk (.inr rfl) ?_)
      exact ⟨rfl, rfl⟩
theorem alive_nil (w : World) : Ret Try.prog 25 #[.pointer none] w fun v w' => v = .int .i64 1 ∧ w' = w := by
  refine ret_of_W Try.func25 rfl (Nat.le_of_ble_eq_true rfl) (res1 rfl) ?_
  refine W.seq ?_
  refine W.region ?_
  refine L.val (x_as (v := .int _ _) rfl) rfl ?_
  refine L.nil ?_
  refine thn_n ?_
  refine W.seq ?_
  refine W.block ?_
  refine W.seq ?_
  refine W.region ?_
  refine L.val (x_mv (v := .pointer _) rfl) rfl ?_
  refine L.val (x_eqp0 Try.underlying23 rfl rfl) rfl ?_
  refine L.val (x_mv (v := .bool _) rfl) rfl ?_
  refine L.splitat (dj := 6) (b := _) rfl (fun g6 => ?_) (fun g6 => ?_)
  ·have h6 := g6
   refine L.gno (dj := 6) (b := _) rfl rfl g6 rfl ?_
   refine L.gno (dj := 6) (b := _) rfl rfl g6 rfl ?_
   refine L.gno (dj := 6) (b := _) rfl rfl g6 rfl ?_
   refine L.gno (dj := 6) (b := _) rfl rfl g6 rfl ?_
   refine L.gno (dj := 6) (b := _) rfl rfl g6 rfl ?_
   refine L.val (x_pick_t (v := .bool _) (congrArg Value.bool g6) rfl) rfl ?_
   refine L.val (x_as (v := .bool _) rfl) rfl ?_
   refine L.nil ?_
   refine thn_n ?_
   refine W.cond (b := true) rfl (fun _ => ?_) (fun h => nomatch h)
   refine W.seq ?_
   refine W.region ?_
   refine L.val (x_as (v := .int _ _) rfl) rfl ?_
   refine L.nil ?_
   refine thn_n ?_
   refine W.ret (blk_r (thn_r (fin_mk (.inr rfl) ?_)))
   exact ⟨rfl, rfl⟩
  ·have h6 := g6
   cases g6
def zeroLog : List Value := [.int .u64 0, .int .i64 0, .int .i64 0, .int .i64 0, .pointer none, .bool false]
theorem tail_w (n0 bl b : Nat) (p : Pt) (w : World) (hl : LogAt n0 w bl b p) : Ret Try.prog 9 #[.pointer (some ⟨bl, 0, none⟩)] w fun v w' => v = .int .i64 (p.tail : Nat) ∧ w' = w := by
  have hb := hl.2
  refine ret_of_W Try.func9 rfl (Nat.le_of_ble_eq_true rfl) (res1 rfl) ?_
  refine W.seq ?_
  refine W.region ?_
  refine L.val (x_as (v := .int _ _) rfl) rfl ?_
  refine L.nil ?_
  refine thn_n ?_
  refine W.seq ?_
  refine W.seq ?_
  refine W.region ?_
  refine L.val (x_mv (v := .pointer _) rfl) rfl ?_
  refine L.val (x_eqp0 Try.underlying23 rfl rfl) rfl ?_
  refine L.nil ?_
  refine thn_n ?_
  refine W.cond (b := _) rfl (fun g4 => ?_) (fun g4 => ?_)
  ·have h4 := g4
   cases g4
  ·have h4 := g4
   refine W.skip ?_
   refine thn_n ?_
   refine W.seq ?_
   refine W.region ?_
   refine L.val (x_mv (v := .pointer _) rfl) rfl ?_
   refine L.val (x_nil rfl) rfl ?_
   refine L.val (x_fa kwal4_fo29_0 rfl) rfl ?_
   refine L.val (x_fa kwal4_fo26_2 rfl) rfl ?_
   refine L.val (x_ld (v := .int _ _) kwal4_oc3 rfl (hb.cell (i := 2) rfl)) rfl ?_
   refine L.val (x_as (v := .int _ _) rfl) rfl ?_
   refine L.nil ?_
   refine thn_n ?_
   refine W.ret (fin_mk (.inr rfl) ?_)
   exact ⟨rfl, rfl⟩
theorem epoch_w (n0 bl b : Nat) (p : Pt) (w : World) (hl : LogAt n0 w bl b p) (hp : p.ep ≤ 1000000000) : Ret Try.prog 11 #[.pointer (some ⟨bl, 0, none⟩)] w fun v w' => v = .int .i64 (p.ep : Nat) ∧ w' = w := by
  have hb := hl.2
  refine ret_of_W Try.func11 rfl (Nat.le_of_ble_eq_true rfl) (res1 rfl) ?_
  refine W.seq ?_
  refine W.region ?_
  refine L.val (x_as (v := .int _ _) rfl) rfl ?_
  refine L.nil ?_
  refine thn_n ?_
  refine W.seq ?_
  refine W.seq ?_
  refine W.region ?_
  refine L.val (x_mv (v := .pointer _) rfl) rfl ?_
  refine L.val (x_eqp0 Try.underlying23 rfl rfl) rfl ?_
  refine L.nil ?_
  refine thn_n ?_
  refine W.cond (b := _) rfl (fun g4 => ?_) (fun g4 => ?_)
  ·have h4 := g4
   cases g4
  ·have h4 := g4
   refine W.skip ?_
   refine thn_n ?_
   refine W.seq ?_
   refine W.region ?_
   refine L.val (x_mv (v := .pointer _) rfl) rfl ?_
   refine L.val (x_nil rfl) rfl ?_
   refine L.val (x_fa kwal4_fo29_0 rfl) rfl ?_
   refine L.val (x_fa kwal4_fo26_0 rfl) rfl ?_
   refine L.val (x_ld (v := .int _ _) kwal4_oc24 rfl (hb.cell (i := 0) rfl)) rfl ?_
   refine L.val (x_conv (k' := .i64) (by rw [Try.underlying24]; rfl) Try.underlying3 rfl (wr64 (by omega))) rfl ?_
   refine L.val (x_as (v := .int _ _) rfl) rfl ?_
   refine L.nil ?_
   refine thn_n ?_
   refine W.ret (fin_mk (.inr rfl) ?_)
   exact ⟨rfl, rfl⟩
theorem leftL_w (n0 bl b : Nat) (D : Dk) (p : Pt) (w : World) (h : DiskAt n0 w b D) (hl : LogAt n0 w bl b p) (h6 : 6 ≤ D.pl.length) (hp : p.tail ≤ 4294967296) : Ret Try.prog 10 #[.pointer (some ⟨bl, 0, none⟩)] w fun v w' => v = .int .i64 ((roomN D.pl.length : Nat) - (p.tail : Nat)) ∧ Bel w w' := by
  have hb := hl.2
  have hs := h.2.1.small
  have hr : roomN D.pl.length ≤ 1000000 := by unfold roomN hlf; omega
  refine ret_of_W Try.func10 rfl (Nat.le_of_ble_eq_true rfl) (res1 rfl) ?_
  have hB := Gr.refl (fun _ => False) w
  refine W.seq ?_
  refine W.region ?_
  refine L.val (x_as (v := .int _ _) rfl) rfl ?_
  refine L.nil ?_
  refine thn_n ?_
  refine W.seq ?_
  refine W.seq ?_
  refine W.region ?_
  refine L.val (x_mv (v := .pointer _) rfl) rfl ?_
  refine L.val (x_eqp0 Try.underlying23 rfl rfl) rfl ?_
  refine L.val (x_mv (v := .bool _) rfl) rfl ?_
  refine L.splitat (dj := 5) (b := _) rfl (fun g5 => ?_) (fun g5 => ?_)
  ·have h5 := g5
   cases g5
  ·have h5 := g5
   refine L.gyes' (dj := 5) (b := _) rfl rfl g5 ?_
   refine L.val (x_mv (v := .pointer _) rfl) rfl ?_
   refine L.gyes' (dj := 5) (b := _) rfl rfl g5 ?_
   refine L.val (x_nil rfl) rfl ?_
   refine L.gyes' (dj := 5) (b := _) rfl rfl g5 ?_
   refine L.val (x_fa kwal4_fo29_1 rfl) rfl ?_
   refine L.gyes' (dj := 5) (b := _) rfl rfl g5 ?_
   refine L.val (x_ld (v := .pointer _) kwal4_oc27 rfl (hb.cell0 rfl)) rfl ?_
   refine L.gyes' (dj := 5) (b := _) rfl rfl g5 ?_
   refine L.val (x_eqp0 Try.underlying27 rfl rfl) rfl ?_
   refine L.val (x_pick_f (v := .bool _) (congrArg Value.bool g5) rfl) rfl ?_
   refine L.nil ?_
   refine thn_n ?_
   refine W.cond (b := _) rfl (fun g10 => ?_) (fun g10 => ?_)
   ·have h10 := g10
    cases g10
   ·have h10 := g10
    refine W.skip ?_
    refine thn_n ?_
    refine W.seq ?_
    refine W.drawF 11 kwal4_mixed (fun wF12 hB0 => ?_)
    refine LAC.takeN (i := 0) rfl (by kernel_rfl) (by kernel_rfl) (by kernel_rfl) (by kernel_rfl) (fun w hw => x_mv (v := .pointer _) rfl) rfl ?_
    refine LAC.takeN (i := 1) rfl (by kernel_rfl) (by kernel_rfl) (by kernel_rfl) (by kernel_rfl) (fun w hw => x_nil rfl) rfl ?_
    refine LAC.takeN (i := 2) rfl (by kernel_rfl) (by kernel_rfl) (by kernel_rfl) (by kernel_rfl) (fun w hw => x_fa kwal4_fo29_0 rfl) rfl ?_
    refine LAC.takeN (i := 3) rfl (by kernel_rfl) (by kernel_rfl) (by kernel_rfl) (by kernel_rfl) (fun w hw => x_ldn (vs := ptV p) kwal4_ag26 rfl rfl (hw.keepRow rfl (log_pt hb))) rfl ?_
    refine LAC.takeN (i := 4) rfl (by kernel_rfl) (by kernel_rfl) (by kernel_rfl) (by kernel_rfl) (fun w hw => x_mv (v := .pointer _) rfl) rfl ?_
    refine LAC.takeN (i := 5) rfl (by kernel_rfl) (by kernel_rfl) (by kernel_rfl) (by kernel_rfl) (fun w hw => x_nil rfl) rfl ?_
    refine LAC.takeN (i := 6) rfl (by kernel_rfl) (by kernel_rfl) (by kernel_rfl) (by kernel_rfl) (fun w hw => x_fa kwal4_fo29_1 rfl) rfl ?_
    refine LAC.takeN (i := 7) rfl (by kernel_rfl) (by kernel_rfl) (by kernel_rfl) (by kernel_rfl) (fun w hw => x_ld (v := .pointer _) kwal4_oc27 rfl (hw.keep (hb.cell0 rfl))) rfl ?_
    refine LAC.step (rs := [8]) (fun _ => hB0) (by kernel_rfl) (by simp) ⟨⟨_, rfl, ?_⟩, trivial⟩
    refine L.ret (x_call kwal4_en28 rfl) rfl (room_w n0 b D _ ((h.bel hB).bel hB0) h6) ?_
    rintro _ w20 ⟨rfl, hq20⟩
    rw [hq20]
    refine L.nil ?_
    refine thn_n ?_
    refine LAC.step (rs := [9]) (fun _ => hB0) (by kernel_rfl) (by simp) ⟨⟨_, rfl, ?_⟩, trivial⟩
    refine L.ret (x_call kwal4_en27 rfl) rfl (left_ok p _ ⟨hr, hp⟩ _) ?_
    rintro _ w21 ⟨rfl, hw⟩
    have hB0 := hB0.carry hw
    refine L.nil ?_
    refine thn_n ?_
    refine LAC.takeN (i := 10) rfl (by kernel_rfl) (by kernel_rfl) (by kernel_rfl) (by kernel_rfl) (fun w hw => x_as (v := .int _ _) rfl) rfl ?_
    refine LAC.doneF (by kernel_rfl) hB0 ?_
    have hB := hB.carry hB0; have hb := hb.carry hB0
    refine thn_n ?_
    refine W.ret (fin_mk (.inr rfl) ?_)
    exact ⟨rfl, hB⟩
end Go.Gx
namespace Go.Gx
open Go.Proofs
theorem kwal5_en55 : Go.Proofs.Enters Try.prog 55 := Go.Proofs.enters_of Try.func55 (by kernel_rfl) rfl
theorem kwal5_en56 : Go.Proofs.Enters Try.prog 56 := Go.Proofs.enters_of Try.func56 (by kernel_rfl) rfl
theorem kwal5_fo29_1 : fieldOff Try.prog 29 1 = some 4 := by kernel_rfl
theorem kwal5_fo29_2 : fieldOff Try.prog 29 2 = some 5 := by kernel_rfl
theorem kwal5_oc27 : oneCellT Try.prog 27 = true := by kernel_rfl
theorem kwal5_oc4 : oneCellT Try.prog 4 = true := by kernel_rfl
theorem kwal5_sz4 : (Try.prog.info? 4).map (·.size) = some 1 := by kernel_rfl
theorem lg_of_dk : ∀ T, dkTy T = true → lgTy T = true := fun T h => by unfold lgTy; rw [h]; rfl
theorem LogAt.dg {n0 n1 bl b : Nat} {w w' : World} {p : Pt} (h : LogAt n0 w bl b p) (g : Dg dkTy n1 w w') : LogAt n0 w' bl b p := ⟨h.1, h.2.dg g rfl⟩
theorem DiskAt.log {n0 bl b b' : Nat} {w w' : World} {p : Pt} {D : Dk} (h : DiskAt n0 w b' D) (hl : LogAt n0 w bl b p) (g : Gr (fun k => k = bl) w w') : DiskAt n0 w' b' D :=
  h.carryR g (fun k e => ⟨_, _, e ▸ hl.2, by decide, by decide, by decide⟩)
theorem Dg.log {n0 bl b : Nat} {w w' : World} {p : Pt} (hl : LogAt n0 w bl b p) (g : Gr (fun k => k = bl) w w') : Dg lgTy n0 w w' :=
  Gr.mono g (fun k _ e => by have e : k = bl := e; rw [e]; exact DkB.box hl.2 (by kernel_rfl) hl.1)
theorem write_w (n0 bl b : Nat) (D : Dk) (p : Pt) (i : Nat) (s : Str) (w : World) (h : DiskAt n0 w b D) (hl : LogAt n0 w bl b p) (ha : D.armed = 0) (hd : D.dead = false) (hi : i < D.pl.length) (hs : s.length = 64) (hn : n0 ≤ w.heap.size) (hf : D.ca.length < 100000 ∧ D.ops < 1000000000) :
    Ret Try.prog 44 #[.pointer (some ⟨bl, 0, none⟩), .int .i64 (i : Nat), S s] w fun v w' => v = .bool true ∧ DiskAt n0 w' b (wrD D i s) ∧ LogAt n0 w' bl b p ∧ Dg lgTy n0 w w' := by
  have hb := hl.2
  refine ret_of_W Try.func44 rfl (Nat.le_of_ble_eq_true rfl) (res1 rfl) ?_
  refine W.seq ?_
  refine W.region ?_
  refine L.val (x_as (v := .bool _) rfl) rfl ?_
  refine L.nil ?_
  refine thn_n ?_
  refine W.seq ?_
  refine W.region ?_
  refine L.val (x_mv (v := .pointer _) rfl) rfl ?_
  refine L.val (x_mv (v := .pointer _) rfl) rfl ?_
  refine L.val (x_nil rfl) rfl ?_
  refine L.val (x_fa kwal5_fo29_2 rfl) rfl ?_
  refine L.val (x_ld (v := .bool _) kwal5_oc4 rfl (hb.cell0 rfl)) rfl ?_
  refine L.val (x_mv (v := .bool _) rfl) rfl ?_
  refine L.splitat (dj := 12) (b := _) rfl (fun g12 => ?_) (fun g12 => ?_)
  ·have h12 := g12
   cases g12
  ·have h12 := g12
   refine L.gyes' (dj := 12) (b := _) rfl rfl g12 ?_
   refine L.val (x_mv (v := .pointer _) rfl) rfl ?_
   refine L.gyes' (dj := 12) (b := _) rfl rfl g12 ?_
   refine L.val (x_nil rfl) rfl ?_
   refine L.gyes' (dj := 12) (b := _) rfl rfl g12 ?_
   refine L.val (x_fa kwal5_fo29_1 rfl) rfl ?_
   refine L.gyes' (dj := 12) (b := _) rfl rfl g12 ?_
   refine L.val (x_ld (v := .pointer _) kwal5_oc27 rfl (hb.cell0 rfl)) rfl ?_
   refine L.gyes' (dj := 12) (b := _) rfl rfl g12 ?_
   refine L.val (x_mv (v := .int _ _) rfl) rfl ?_
   refine L.gyes' (dj := 12) (b := _) rfl rfl g12 ?_
   refine L.val (x_mv (v := S _) rfl) rfl ?_
   refine L.gyes' (dj := 12) (b := _) rfl rfl g12 ?_
   refine L.ret (x_call kwal5_en55 rfl) rfl (write_d n0 b D i s _ h ha hd hi hs hn hf) ?_
   rintro _ w19 ⟨rfl, hD19, hg19⟩
   have hl19 := hl.dg hg19
   have hb := hl19.2
   have hDg := Dg.mono hg19 lg_of_dk
   refine L.gyes' (dj := 12) (b := _) rfl rfl g12 ?_
   refine L.val (x_neq rfl rfl) rfl ?_
   refine L.val (x_pick_f (v := .bool _) (congrArg Value.bool g12) rfl) rfl ?_
   refine L.val (x_nil rfl) rfl ?_
   refine L.val (x_fa kwal5_fo29_2 rfl) rfl ?_
   refine L.set (v := .bool _) kwal5_sz4 rfl rfl rfl hb rfl (fun wl19 hb hw hzl19 => ?_)
   have hDl := hD19.log hl19 hw
   have hDg := hDg.trans (Dg.log hl19 hw)
   refine L.nil ?_
   refine thn_n ?_
   refine W.seq ?_
   refine W.region ?_
   refine L.val (x_mv (v := .pointer _) rfl) rfl ?_
   refine L.val (x_nil rfl) rfl ?_
   refine L.val (x_fa kwal5_fo29_2 rfl) rfl ?_
   refine L.val (x_ld (v := .bool _) kwal5_oc4 rfl (hb.cell0 rfl)) rfl ?_
   refine L.val (x_not rfl) rfl ?_
   refine L.val (x_as (v := .bool _) rfl) rfl ?_
   refine L.nil ?_
   refine thn_n ?_
   refine W.ret (fin_mk (.inr rfl) ?_)
   exact ⟨rfl, hDl, ⟨hl.1, hb⟩, hDg⟩
theorem flush_w (n0 bl b : Nat) (D : Dk) (p : Pt) (w : World) (h : DiskAt n0 w b D) (hl : LogAt n0 w bl b p) (ha : D.armed = 0) (hd : D.dead = false) (hn : n0 ≤ w.heap.size) (hf : D.ops < 1000000000) :
    Ret Try.prog 45 #[.pointer (some ⟨bl, 0, none⟩)] w fun v w' => v = .bool true ∧ DiskAt n0 w' b (flD D) ∧ LogAt n0 w' bl b p ∧ Dg lgTy n0 w w' := by
  have hb := hl.2
  refine ret_of_W Try.func45 rfl (Nat.le_of_ble_eq_true rfl) (res1 rfl) ?_
  refine W.seq ?_
  refine W.region ?_
  refine L.val (x_as (v := .bool _) rfl) rfl ?_
  refine L.nil ?_
  refine thn_n ?_
  refine W.seq ?_
  refine W.region ?_
  refine L.val (x_mv (v := .pointer _) rfl) rfl ?_
  refine L.val (x_mv (v := .pointer _) rfl) rfl ?_
  refine L.val (x_nil rfl) rfl ?_
  refine L.val (x_fa kwal5_fo29_2 rfl) rfl ?_
  refine L.val (x_ld (v := .bool _) kwal5_oc4 rfl (hb.cell0 rfl)) rfl ?_
  refine L.val (x_mv (v := .bool _) rfl) rfl ?_
  refine L.splitat (dj := 8) (b := _) rfl (fun g8 => ?_) (fun g8 => ?_)
  ·have h8 := g8
   cases g8
  ·have h8 := g8
   refine L.gyes' (dj := 8) (b := _) rfl rfl g8 ?_
   refine L.val (x_mv (v := .pointer _) rfl) rfl ?_
   refine L.gyes' (dj := 8) (b := _) rfl rfl g8 ?_
   refine L.val (x_nil rfl) rfl ?_
   refine L.gyes' (dj := 8) (b := _) rfl rfl g8 ?_
   refine L.val (x_fa kwal5_fo29_1 rfl) rfl ?_
   refine L.gyes' (dj := 8) (b := _) rfl rfl g8 ?_
   refine L.val (x_ld (v := .pointer _) kwal5_oc27 rfl (hb.cell0 rfl)) rfl ?_
   refine L.gyes' (dj := 8) (b := _) rfl rfl g8 ?_
   refine L.ret (x_call kwal5_en56 rfl) rfl (flush_d n0 b D _ h ha hd hn hf) ?_
   rintro _ w13 ⟨rfl, hD13, hg13⟩
   have hl13 := hl.dg hg13
   have hb := hl13.2
   have hDg := Dg.mono hg13 lg_of_dk
   refine L.gyes' (dj := 8) (b := _) rfl rfl g8 ?_
   refine L.val (x_neq rfl rfl) rfl ?_
   refine L.val (x_pick_f (v := .bool _) (congrArg Value.bool g8) rfl) rfl ?_
   refine L.val (x_nil rfl) rfl ?_
   refine L.val (x_fa kwal5_fo29_2 rfl) rfl ?_
   refine L.set (v := .bool _) kwal5_sz4 rfl rfl rfl hb rfl (fun wl17 hb hw hzl17 => ?_)
   have hDl := hD13.log hl13 hw
   have hDg := hDg.trans (Dg.log hl13 hw)
   refine L.nil ?_
   refine thn_n ?_
   refine W.seq ?_
   refine W.region ?_
   refine L.val (x_mv (v := .pointer _) rfl) rfl ?_
   refine L.val (x_nil rfl) rfl ?_
   refine L.val (x_fa kwal5_fo29_2 rfl) rfl ?_
   refine L.val (x_ld (v := .bool _) kwal5_oc4 rfl (hb.cell0 rfl)) rfl ?_
   refine L.val (x_not rfl) rfl ?_
   refine L.val (x_as (v := .bool _) rfl) rfl ?_
   refine L.nil ?_
   refine thn_n ?_
   refine W.ret (fin_mk (.inr rfl) ?_)
   exact ⟨rfl, hDl, ⟨hl.1, hb⟩, hDg⟩
end Go.Gx
namespace Go.Gx
variable {P : Program} {ops : Array Oper} {Q : Exit → Act → World → Prop} {C0 C1 : World → Prop}
def lastN : Nat → List Nat → Nat
  | a, [] => a
  | _, b :: r => lastN b r
def linkB (ops : Array Oper) : Nat → List Nat → Bool
  | _, [] => true
  | a, b :: r => ((ops[a]?).map (fun o => o.after.any fun e => Region.binds .any e && Nat.beq e.on b)).getD false && linkB ops b r
def closeB (listed : Array Bool) : Nat → List Nat → Bool
  | _, [] => true
  | a, b :: r => (!listed.getD a false || listed.getD b false) && closeB listed b r
theorem closeB.last {listed : Array Bool} : ∀ (p : List Nat) (a : Nat), closeB listed a p = true → listed.getD a false = true → listed.getD (lastN a p) false = true
  | [], _, _, h => h
  | b :: r, a, h, h1 => by
    simp only [closeB, Bool.and_eq_true, Bool.or_eq_true, Bool.not_eq_true'] at h
    refine closeB.last r b h.2 ?_
    rcases h.1 with h2 | h2
    · rw [h1] at h2; cases h2
    · exact h2
theorem closeB.step {listed : Array Bool} {j : Nat} (hj : j ∈ Region.ready .any ops listed) : ∀ (p : List Nat) (a : Nat), linkB ops a p = true → closeB listed a p = true → closeB (listed.setIfInBounds j true) a p = true
  | [], _, _, _ => rfl
  | b :: r, a, hl, h => by
    simp only [linkB, closeB, Bool.and_eq_true, Bool.or_eq_true, Bool.not_eq_true'] at hl h ⊢
    refine ⟨?_, closeB.step hj r b hl.2 h.2⟩
    obtain ⟨hjun, oj, hoj, hall⟩ := mem_ready.1 hj
    have mono : ∀ k, listed.getD k false = true → (listed.setIfInBounds j true).getD k false = true := fun k hk => by
      by_cases e : j = k
      · subst e
        rw [unlisted hjun] at hk; cases hk
      · rw [getD_set_ne false e]; exact hk
    by_cases e : j = a
    · subst e
      refine .inr (mono b ?_)
      rw [hoj] at hl
      simp only [Option.map_some, Option.getD_some] at hl
      obtain ⟨e, he, hb⟩ := Array.any_eq_true'.1 hl.1
      simp only [Bool.and_eq_true] at hb
      have := hall e he hb.1
      rwa [Nat.eq_of_beq_eq_true hb.2] at this
    · rcases h.1 with h1 | h1
      · exact .inl (by rw [getD_set_ne false e]; exact h1)
      · exact .inr (mono b h1)
theorem wpAnyD.takeP {i st : Nat} {oi : Oper} {v : Value} {p : List Nat} (hi : ops[i]? = some oi) (hsel : ∀ (j : Nat) (o : Oper) cs b, ops[j]? = some o → o.op ≠ .select cs b)
    (hQ : ∀ c a w, Q (.panic c) (a.put oi.dst v) w → Q (.panic c) a w) (hlk : linkB ops st p = true) (hla : lastN st p = i) (hne : st ≠ i) :
    ∀ (fuel : Nat) (listed : Array Bool) (a : Act) (w : World),
      closeB listed st p = true →
      (∀ j oj, ops[j]? = some oj → j ≠ i → listed.getD j true = false → (∀ e ∈ oj.after, Region.binds .any e = true → e.on ≠ i) → oi.apart ops oj = true) →
      i ∈ Region.ready .any ops listed → YF P ops C1 oi v a →
      wpAnyD P ops C0 C1 st Q fuel (listed.setIfInBounds i true) (a.put oi.dst v) w → wpAnyD P ops C0 C1 st Q (fuel + 1) listed a w := by
  intro fuel
  induction fuel with
  | zero =>
    intro listed a w hcl _ hr hy H
    have hun := (mem_ready.1 hr).1
    have hst0 : listed.getD st false = false := by
      cases hh : listed.getD st false
      · rfl
      · have := closeB.last p st hcl hh; rw [hla, unlisted hun] at this; cases this
    have hC : C1 w := H.2.1 (by rw [getD_set_ne false hne.symm]; exact hst0)
    refine ⟨H.1, fun _ => hC, fun h => (by rw [h] at hr; cases hr), fun j hj => ?_⟩
    by_cases hji : j = i
    · subst hji; exact hy.take hi hC H
    · have := ready_mono hj hji
      rw [H.2.2.1] at this
      cases this
  | succ fuel ih =>
    intro listed a w hcl hfree hr hy H
    have hun := (mem_ready.1 hr).1
    have hst0 : listed.getD st false = false := by
      cases hh : listed.getD st false
      · rfl
      · have := closeB.last p st hcl hh; rw [hla, unlisted hun] at this; cases this
    have hC : C1 w := H.2.1 (by rw [getD_set_ne false hne.symm]; exact hst0)
    refine ⟨H.1, fun _ => hC, fun h => (by rw [h] at hr; cases hr), fun j hj => ?_⟩
    by_cases hji : j = i
    · subst hji; exact hy.take hi hC H
    · have h1 := H.2.2.2 j (ready_mono hj hji)
      obtain ⟨hjun, oj, hoj, hall⟩ := mem_ready.1 hj
      have hnot : ∀ e ∈ oj.after, Region.binds .any e = true → e.on ≠ i := fun e he hb heq => by
        have h1 := hall e he hb
        rw [heq, unlisted hun] at h1; cases h1
      have h2 := wpOp_lateF hoj (hfree j oj hoj hji hjun hnot) (fun cs b => hsel i oi cs b hi) (fun cs b => hsel j oj cs b hoj) hQ hy h1
      refine wpOp_mono (fun a' w' h3 => ih (listed.setIfInBounds j true) a' w' (closeB.step hj p st hlk hcl) (fun k ok hk hki hu hno => ?_) (ready_mono hr (Ne.symm hji)) h3.1 ?_) h2
      · refine hfree k ok hk hki ?_ hno
        by_cases hjk : j = k
        · subst hjk; exact hjun
        · rw [getD_set_ne true hjk] at hu; exact hu
      · rw [Array.setIfInBounds_comm _ _ hji]
        exact h3.2
section
variable {n st : Nat} {K : List Deferred → Env → World → Prop} {D : List Deferred} {E : Env} {w : World}
theorem LAD.takeP {fuel : Nat} {listed : Array Bool} {i d : Nat} {op : Op} {t : TypeId} {q : String} {af : Array Edge} {v : Value} (p : List Nat)
    (ho : ops[i]? = some ⟨some d, op, t, q, af, none⟩) (hs : Region.noSelect ops = true) (hf : Region.free .any ops listed i = true) (hr : (Region.ready .any ops listed).contains i = true) (hne : Nat.beq st i = false)
    (hlk : (linkB ops st p && Nat.beq (lastN st p) i) = true) (hl : closeB listed st p = true)
    (hx : ∀ w, C1 w → X P op t E w v w) (hd : Nat.blt d n = true) (k : LAD P n ops C0 C1 st K fuel (listed.setIfInBounds i true) D (upd E d v) w) : LAD P n ops C0 C1 st K (fuel + 1) listed D E w := by
  intro a ha
  simp only [Bool.and_eq_true] at hlk
  refine wpAnyD.takeP ho (Region.noSelect_spec hs) ?_ hlk.1 (Nat.eq_of_beq_eq_true hlk.2) (fun h => by subst h; simp at hne) fuel listed a w hl (Region.free_spec ho hf) (by simpa using hr)
    (.inl ⟨by simp [Region.wanted], fun w hw => ?_⟩) (k _ (ha.put v hd))
  · rintro c a w ⟨_, E, _, h, _⟩; cases h
  · have := hx w hw
    unfold X at this
    rw [execOp_bare, ha.eval]; exact this
end
end Go.Gx
