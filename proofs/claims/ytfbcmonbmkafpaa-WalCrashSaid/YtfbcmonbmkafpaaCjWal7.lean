/- A log's Append and Turn. Conditions: none. -/
import Derived.Test.YtfbcmonbmkafpaaCjWal6
namespace Go.Gx
open Go.Proofs
theorem kwal7_ag26 : aggT Try.prog 26 4 = true := by kernel_rfl
theorem kwal7_en25 : Go.Proofs.Enters Try.prog 25 := Go.Proofs.enters_of Try.func25 (by kernel_rfl) rfl
theorem kwal7_en26 : Go.Proofs.Enters Try.prog 26 := Go.Proofs.enters_of Try.func26 (by kernel_rfl) rfl
theorem kwal7_en27 : Go.Proofs.Enters Try.prog 27 := Go.Proofs.enters_of Try.func27 (by kernel_rfl) rfl
theorem kwal7_en28 : Go.Proofs.Enters Try.prog 28 := Go.Proofs.enters_of Try.func28 (by kernel_rfl) rfl
theorem kwal7_en29 : Go.Proofs.Enters Try.prog 29 := Go.Proofs.enters_of Try.func29 (by kernel_rfl) rfl
theorem kwal7_fo26_0 : fieldOff Try.prog 26 0 = some 0 := by kernel_rfl
theorem kwal7_fo26_1 : fieldOff Try.prog 26 1 = some 1 := by kernel_rfl
theorem kwal7_fo26_2 : fieldOff Try.prog 26 2 = some 2 := by kernel_rfl
theorem kwal7_fo26_3 : fieldOff Try.prog 26 3 = some 3 := by kernel_rfl
theorem kwal7_fo29_0 : fieldOff Try.prog 29 0 = some 0 := by kernel_rfl
theorem kwal7_fo29_1 : fieldOff Try.prog 29 1 = some 4 := by kernel_rfl
theorem kwal7_mixed : Try.prog.follows .mixedOrders = true := by kernel_rfl
theorem kwal7_oc24 : oneCellT Try.prog 24 = true := by kernel_rfl
theorem kwal7_oc27 : oneCellT Try.prog 27 = true := by kernel_rfl
theorem kwal7_oc3 : oneCellT Try.prog 3 = true := by kernel_rfl
theorem kwal7_si26 : structInfo Try.prog 26 = some ([(0, 1), (1, 1), (2, 1), (3, 1)], [Value.int .u64 0, Value.int .i64 0, Value.int .i64 0, Value.int .i64 0]) := by kernel_rfl
def need (l : List Str) : Nat := (l.map fun s => min s.length 30000 + 13).sum
theorem makeS_le (l : List Str) : (makeS l).1.length ≤ need l := by
  unfold makeS
  split
  · exact Nat.zero_le _
  · rename_i h
    exact flat_frm (by simpa using h)
theorem len_need (l : List Str) : l.length ≤ need l := by
  induction l with
  | nil => exact Nat.zero_le _
  | cons x l ih => simp only [need, List.map_cons, List.sum_cons, List.length_cons] at ih ⊢; omega
def appP (q : Pt) (l : List Str) : Pt := ⟨q.ep + 1, q.half, q.tail + (makeS l).1.length, q.cnt + l.length⟩
def appA (D : Dk) (q : Pt) (l : List Str) : Int × Dk × Pt :=
  if (makeS l).2 = 0 ∧ l ≠ [] then (if roomN D.pl.length < q.tail + (makeS l).1.length then (210, D, q) else (0, comD D (appP q l) q.tail (makeS l).1, appP q l)) else ((makeS l).2, D, q)
def turnP (q : Pt) (l : List Str) : Pt := ⟨q.ep + 1, 1 - q.half, (makeS l).1.length, l.length⟩
def turnA (D : Dk) (q : Pt) (l : List Str) : Int × Dk × Pt :=
  if (makeS l).2 = 0 then (if roomN D.pl.length < (makeS l).1.length then (210, D, q) else (0, comD D (turnP q l) 0 (makeS l).1, turnP q l)) else ((makeS l).2, D, q)
structure QOk (D : Dk) (q : Pt) : Prop where
  h6 : 6 ≤ D.pl.length
  arm : D.armed = 0
  live : D.dead = false
  ca : D.ca = []
  ops : D.ops < 900000000
  half : q.half ≤ 1
  tail : q.tail ≤ roomN D.pl.length
  ep : q.ep < 1000000000
  cnt : q.cnt < 2000000000
theorem roomN_le {n : Nat} (h : n ≤ 4096) : roomN n ≤ 1000000 := by unfold roomN hlf; omega
theorem append_w (n0 bl b : Nat) (A : Nat → Prop) (v : Value) (l : List Str) (D : Dk) (q : Pt) (w : World) (h : DiskAt n0 w b D) (hl : LogAt n0 w bl b q) (hq : QOk D q) (hs : StrsAt A w v l) (hn : n0 ≤ w.heap.size) (hne : need l ≤ 10000000) :
    Ret Try.prog 7 #[.pointer (some ⟨bl, 0, none⟩), v] w fun v w' => v = .int .i64 (appA D q l).1 ∧ DiskAt n0 w' b (appA D q l).2.1 ∧ LogAt n0 w' bl b (appA D q l).2.2 ∧ Dg lgTy n0 w w' := by
  obtain ⟨p1, c1, rfl, -⟩ := id hs
  have hlen := makeS_le l
  have hln := len_need l
  obtain ⟨h6, ha, hd, hca, hop, hhf, htl, hep, hcn⟩ := hq
  have hsm := h.2.1.small
  have hrm := roomN_le hsm
  have hbl := hl.1
  have hb := hl.2
  refine ret_of_W Try.func7 rfl (Nat.le_of_ble_eq_true rfl) (res1 rfl) ?_
  have hG := Dg.refl lgTy n0 w
  refine W.seq ?_
  refine W.region ?_
  refine L.val (x_as (v := .int _ _) rfl) rfl ?_
  refine L.nil ?_
  refine thn_n ?_
  refine W.seq ?_
  refine W.seq ?_
  refine W.region ?_
  refine L.val (x_mv (v := .pointer _) rfl) rfl ?_
  refine L.ret (x_call kwal7_en25 rfl) rfl (alive_w n0 bl b D q _ h hl hd) ?_
  rintro _ w9 ⟨rfl, hq9⟩
  rw [hq9]
  refine L.val (x_as (v := .int _ _) rfl) rfl ?_
  refine L.nil ?_
  refine thn_n ?_
  refine W.seq ?_
  refine W.region ?_
  refine L.val (x_mv (v := .int _ _) rfl) rfl ?_
  refine L.val (x_neq rfl rfl) rfl ?_
  refine L.nil ?_
  refine thn_n ?_
  refine W.cond (b := _) rfl (fun g11 => ?_) (fun g11 => ?_)
  ·have h11 := dne_t g11
   cases g11
  ·have h11 := dne_f g11
   refine W.skip ?_
   refine thn_n ?_
   refine W.seq ?_
   refine W.region ?_
   refine L.val (x_mv (v := .slice _ _ _) rfl) rfl ?_
   refine L.ret (x_call kwal7_en26 rfl) rfl (make_ok A _ l _ hs hne) ?_
   rintro _ w15 ⟨rfl, hw⟩
   have hG := hG.carry hw; have h := h.carry hw; have hb := hb.carry hw
   refine L.val (x_mv (v := _) rfl) rfl ?_
   refine L.val (x_ext (v := S _) rfl rfl) rfl ?_
   refine L.val (x_ext (v := .int _ _) rfl rfl) rfl ?_
   refine L.val (x_as (v := S _) rfl) rfl ?_
   refine L.val (x_as (v := .int _ _) rfl) rfl ?_
   refine L.nil ?_
   refine thn_n ?_
   refine W.seq ?_
   refine W.seq ?_
   refine W.region ?_
   refine L.val (x_mv (v := .int _ _) rfl) rfl ?_
   refine L.val (x_neq rfl rfl) rfl ?_
   refine L.val (x_mv (v := .bool _) rfl) rfl ?_
   refine L.splitat (dj := 20) (b := _) rfl (fun g20 => ?_) (fun g20 => ?_)
   ·have h20 := dne_t g20
    have hmk : ¬ ((makeS l).2 = 0 ∧ l ≠ []) := fun e => h20 e.1
    refine L.gno (dj := 20) (b := _) rfl rfl g20 rfl ?_
    refine L.gno (dj := 20) (b := _) rfl rfl g20 rfl ?_
    refine L.gno (dj := 20) (b := _) rfl rfl g20 rfl ?_
    refine L.val (x_pick_t (v := .bool _) (congrArg Value.bool g20) rfl) rfl ?_
    refine L.nil ?_
    refine thn_n ?_
    refine W.cond (b := true) rfl (fun _ => ?_) (fun h => nomatch h)
    refine W.seq ?_
    refine W.region ?_
    refine L.val (x_mv (v := .int _ _) rfl) rfl ?_
    refine L.val (x_as (v := .int _ _) rfl) rfl ?_
    refine L.nil ?_
    refine thn_n ?_
    refine W.ret (thn_r (fin_mk (.inr rfl) ?_))
    unfold appA; rw [if_neg hmk]; exact ⟨rfl, h, ⟨hbl, hb⟩, hG⟩
   ·have h20 := dne_f g20
    have hmk0 : (makeS l).2 = 0 := h20
    refine L.gyes' (dj := 20) (b := _) rfl rfl g20 ?_
    refine L.val (x_mv (v := .slice _ _ _) rfl) rfl ?_
    refine L.gyes' (dj := 20) (b := _) rfl rfl g20 ?_
    refine L.val (x_len_slice Try.underlying22 rfl) rfl ?_
    refine L.gyes' (dj := 20) (b := _) rfl rfl g20 ?_
    refine L.val (x_eql rfl rfl) rfl ?_
    refine L.val (x_pick_f (v := .bool _) (congrArg Value.bool g20) rfl) rfl ?_
    refine L.nil ?_
    refine thn_n ?_
    refine W.cond (b := _) rfl (fun g23 => ?_) (fun g23 => ?_)
    ·have h23 := of_decide_eq_true g23
     have hl0 : l = [] := List.eq_nil_of_length_eq_zero (by omega)
     have hmk : ¬ ((makeS l).2 = 0 ∧ l ≠ []) := fun e => e.2 hl0
     refine W.seq ?_
     refine W.region ?_
     refine L.val (x_mv (v := .int _ _) rfl) rfl ?_
     refine L.val (x_as (v := .int _ _) rfl) rfl ?_
     refine L.nil ?_
     refine thn_n ?_
     refine W.ret (thn_r (fin_mk (.inr rfl) ?_))
     unfold appA; rw [if_neg hmk]; exact ⟨rfl, h, ⟨hbl, hb⟩, hG⟩
    ·have h23 := of_decide_eq_false g23
     have hmk : (makeS l).2 = 0 ∧ l ≠ [] := ⟨hmk0, fun e => by subst e; exact h23 rfl⟩
     refine W.skip ?_
     refine thn_n ?_
     refine W.seq ?_
     refine W.seq ?_
     refine W.drawF 13 kwal7_mixed (fun wF26 hB0 => ?_)
     refine LAC.takeN (i := 0) rfl (by kernel_rfl) (by kernel_rfl) (by kernel_rfl) (by kernel_rfl) (fun w hw => x_mv (v := S _) rfl) rfl ?_
     refine LAC.takeN (i := 1) rfl (by kernel_rfl) (by kernel_rfl) (by kernel_rfl) (by kernel_rfl) (fun w hw => x_len_str Try.underlying9 rfl) rfl ?_
     refine LAC.takeN (i := 2) rfl (by kernel_rfl) (by kernel_rfl) (by kernel_rfl) (by kernel_rfl) (fun w hw => x_mv (v := .pointer _) rfl) rfl ?_
     refine LAC.takeN (i := 3) rfl (by kernel_rfl) (by kernel_rfl) (by kernel_rfl) (by kernel_rfl) (fun w hw => x_nil rfl) rfl ?_
     refine LAC.takeN (i := 4) rfl (by kernel_rfl) (by kernel_rfl) (by kernel_rfl) (by kernel_rfl) (fun w hw => x_fa kwal7_fo29_0 rfl) rfl ?_
     refine LAC.takeN (i := 5) rfl (by kernel_rfl) (by kernel_rfl) (by kernel_rfl) (by kernel_rfl) (fun w hw => x_ldn (vs := ptV q) kwal7_ag26 rfl rfl (hw.keepRow rfl (log_pt hb))) rfl ?_
     refine LAC.takeN (i := 6) rfl (by kernel_rfl) (by kernel_rfl) (by kernel_rfl) (by kernel_rfl) (fun w hw => x_mv (v := .pointer _) rfl) rfl ?_
     refine LAC.takeN (i := 7) rfl (by kernel_rfl) (by kernel_rfl) (by kernel_rfl) (by kernel_rfl) (fun w hw => x_nil rfl) rfl ?_
     refine LAC.takeN (i := 8) rfl (by kernel_rfl) (by kernel_rfl) (by kernel_rfl) (by kernel_rfl) (fun w hw => x_fa kwal7_fo29_1 rfl) rfl ?_
     refine LAC.takeN (i := 9) rfl (by kernel_rfl) (by kernel_rfl) (by kernel_rfl) (by kernel_rfl) (fun w hw => x_ld (v := .pointer _) kwal7_oc27 rfl (hw.keep (hb.cell0 rfl))) rfl ?_
     refine LAC.step (rs := [10]) (fun _ => hB0) (by kernel_rfl) (by simp) ⟨⟨_, rfl, ?_⟩, trivial⟩
     refine L.ret (x_call kwal7_en28 rfl) rfl (room_w n0 b D _ (h.bel hB0) h6) ?_
     rintro _ w36 ⟨rfl, hq36⟩
     rw [hq36]
     refine L.nil ?_
     refine thn_n ?_
     refine LAC.step (rs := [11]) (fun _ => hB0) (by kernel_rfl) (by simp) ⟨⟨_, rfl, ?_⟩, trivial⟩
     refine L.ret (x_call kwal7_en27 rfl) rfl (left_ok q _ ⟨hrm, by omega⟩ _) ?_
     rintro _ w37 ⟨rfl, hw⟩
     have hB0 := hB0.carry hw
     refine L.nil ?_
     refine thn_n ?_
     refine LAC.takeN (i := 12) rfl (by kernel_rfl) (by kernel_rfl) (by kernel_rfl) (by kernel_rfl) (fun w hw => x_gtr rfl rfl) rfl ?_
     refine LAC.doneF (by kernel_rfl) hB0 ?_
     have hG := hG.carry hB0; have h := h.carry hB0; have hb := hb.carry hB0
     refine thn_n ?_
     refine W.cond (b := _) rfl (fun g38 => ?_) (fun g38 => ?_)
     ·have h38 := of_decide_eq_true g38
      have hbig : roomN D.pl.length < q.tail + (makeS l).1.length := by omega
      refine W.seq ?_
      refine W.region ?_
      refine L.val (x_as (v := .int _ _) rfl) rfl ?_
      refine L.nil ?_
      refine thn_n ?_
      refine W.ret (thn_r (fin_mk (.inr rfl) ?_))
      unfold appA; rw [if_pos hmk, if_pos hbig]; exact ⟨rfl, h, ⟨hbl, hb⟩, hG⟩
     ·have h38 := dlt_f g38
      have hbig : ¬ roomN D.pl.length < q.tail + (makeS l).1.length := by omega
      refine W.skip ?_
      refine thn_n ?_
      refine W.seq ?_
      refine W.drawD (fun _ => True) (fun _ => False) 35 kwal7_mixed (fun wD39 hw => ?_)
      have hG := hG.carry hw; have h := h.carry hw; have hb := hb.carry hw
      have hB0 := Gr.refl (fun _ => False) wD39; have hR0 := Gr.refl (fun _ => True) wD39
      refine LAD.take0 (i := 0) rfl (by kernel_rfl) (by kernel_rfl) (by kernel_rfl) (by kernel_rfl) (fun w hw => x_mv (v := .pointer _) rfl) rfl ?_
      refine LAD.take0 (i := 1) rfl (by kernel_rfl) (by kernel_rfl) (by kernel_rfl) (by kernel_rfl) (fun w hw => x_mv (v := .pointer _) rfl) rfl ?_
      refine LAD.take0 (i := 2) rfl (by kernel_rfl) (by kernel_rfl) (by kernel_rfl) (by kernel_rfl) (fun w hw => x_nil rfl) rfl ?_
      refine LAD.take0 (i := 3) rfl (by kernel_rfl) (by kernel_rfl) (by kernel_rfl) (by kernel_rfl) (fun w hw => x_fa kwal7_fo29_0 rfl) rfl ?_
      refine LAD.take0 (i := 4) rfl (by kernel_rfl) (by kernel_rfl) (by kernel_rfl) (by kernel_rfl) (fun w hw => x_fa kwal7_fo26_0 rfl) rfl ?_
      refine LAD.takeP [28, 6, 5] (i := 5) rfl (by kernel_rfl) (by kernel_rfl) (by kernel_rfl) (by kernel_rfl) (by kernel_rfl) (by kernel_rfl) (fun w hw => x_ld (v := .int _ _) kwal7_oc24 rfl (hw.keepR (fun e => e) (hb.cell0 rfl))) rfl ?_
      refine LAD.take0 (i := 6) rfl (by kernel_rfl) (by kernel_rfl) (by kernel_rfl) (by kernel_rfl) (fun w hw => x_add rfl rfl (wru64 (by omega))) rfl ?_
      refine LAD.take0 (i := 7) rfl (by kernel_rfl) (by kernel_rfl) (by kernel_rfl) (by kernel_rfl) (fun w hw => x_mv (v := .pointer _) rfl) rfl ?_
      refine LAD.take0 (i := 8) rfl (by kernel_rfl) (by kernel_rfl) (by kernel_rfl) (by kernel_rfl) (fun w hw => x_nil rfl) rfl ?_
      refine LAD.take0 (i := 9) rfl (by kernel_rfl) (by kernel_rfl) (by kernel_rfl) (by kernel_rfl) (fun w hw => x_fa kwal7_fo29_0 rfl) rfl ?_
      refine LAD.take0 (i := 10) rfl (by kernel_rfl) (by kernel_rfl) (by kernel_rfl) (by kernel_rfl) (fun w hw => x_fa kwal7_fo26_1 rfl) rfl ?_
      refine LAD.takeP [28, 11] (i := 11) rfl (by kernel_rfl) (by kernel_rfl) (by kernel_rfl) (by kernel_rfl) (by kernel_rfl) (by kernel_rfl) (fun w hw => x_ld (v := .int _ _) kwal7_oc3 rfl (hw.keepR (fun e => e) (hb.cell0 rfl))) rfl ?_
      refine LAD.take0 (i := 12) rfl (by kernel_rfl) (by kernel_rfl) (by kernel_rfl) (by kernel_rfl) (fun w hw => x_mv (v := .pointer _) rfl) rfl ?_
      refine LAD.take0 (i := 13) rfl (by kernel_rfl) (by kernel_rfl) (by kernel_rfl) (by kernel_rfl) (fun w hw => x_nil rfl) rfl ?_
      refine LAD.take0 (i := 14) rfl (by kernel_rfl) (by kernel_rfl) (by kernel_rfl) (by kernel_rfl) (fun w hw => x_fa kwal7_fo29_0 rfl) rfl ?_
      refine LAD.take0 (i := 15) rfl (by kernel_rfl) (by kernel_rfl) (by kernel_rfl) (by kernel_rfl) (fun w hw => x_fa kwal7_fo26_2 rfl) rfl ?_
      refine LAD.takeP [28, 19, 16] (i := 16) rfl (by kernel_rfl) (by kernel_rfl) (by kernel_rfl) (by kernel_rfl) (by kernel_rfl) (by kernel_rfl) (fun w hw => x_ld (v := .int _ _) kwal7_oc3 rfl (hw.keepR (fun e => e) (hb.cell0 rfl))) rfl ?_
      refine LAD.take0 (i := 17) rfl (by kernel_rfl) (by kernel_rfl) (by kernel_rfl) (by kernel_rfl) (fun w hw => x_mv (v := S _) rfl) rfl ?_
      refine LAD.take0 (i := 18) rfl (by kernel_rfl) (by kernel_rfl) (by kernel_rfl) (by kernel_rfl) (fun w hw => x_len_str Try.underlying9 rfl) rfl ?_
      refine LAD.take0 (i := 19) rfl (by kernel_rfl) (by kernel_rfl) (by kernel_rfl) (by kernel_rfl) (fun w hw => x_add rfl rfl (wr64 (by omega))) rfl ?_
      refine LAD.take0 (i := 20) rfl (by kernel_rfl) (by kernel_rfl) (by kernel_rfl) (by kernel_rfl) (fun w hw => x_mv (v := .pointer _) rfl) rfl ?_
      refine LAD.take0 (i := 21) rfl (by kernel_rfl) (by kernel_rfl) (by kernel_rfl) (by kernel_rfl) (fun w hw => x_nil rfl) rfl ?_
      refine LAD.take0 (i := 22) rfl (by kernel_rfl) (by kernel_rfl) (by kernel_rfl) (by kernel_rfl) (fun w hw => x_fa kwal7_fo29_0 rfl) rfl ?_
      refine LAD.take0 (i := 23) rfl (by kernel_rfl) (by kernel_rfl) (by kernel_rfl) (by kernel_rfl) (fun w hw => x_fa kwal7_fo26_3 rfl) rfl ?_
      refine LAD.takeP [28, 27, 24] (i := 24) rfl (by kernel_rfl) (by kernel_rfl) (by kernel_rfl) (by kernel_rfl) (by kernel_rfl) (by kernel_rfl) (fun w hw => x_ld (v := .int _ _) kwal7_oc3 rfl (hw.keepR (fun e => e) (hb.cell0 rfl))) rfl ?_
      refine LAD.take0 (i := 25) rfl (by kernel_rfl) (by kernel_rfl) (by kernel_rfl) (by kernel_rfl) (fun w hw => x_mv (v := .slice _ _ _) rfl) rfl ?_
      refine LAD.take0 (i := 26) rfl (by kernel_rfl) (by kernel_rfl) (by kernel_rfl) (by kernel_rfl) (fun w hw => x_len_slice Try.underlying22 rfl) rfl ?_
      refine LAD.take0 (i := 27) rfl (by kernel_rfl) (by kernel_rfl) (by kernel_rfl) (by kernel_rfl) (fun w hw => x_add rfl rfl (wr64 (by omega))) rfl ?_
      refine LAD.take0 (i := 28) rfl (by kernel_rfl) (by kernel_rfl) (by kernel_rfl) (by kernel_rfl) (fun w hw => x_build (cells := [.int _ _, .int _ _, .int _ _, .int _ _]) kwal7_si26 rfl rfl) rfl ?_
      refine LAD.take0 (i := 29) rfl (by kernel_rfl) (by kernel_rfl) (by kernel_rfl) (by kernel_rfl) (fun w hw => x_mv (v := .pointer _) rfl) rfl ?_
      refine LAD.take0 (i := 30) rfl (by kernel_rfl) (by kernel_rfl) (by kernel_rfl) (by kernel_rfl) (fun w hw => x_nil rfl) rfl ?_
      refine LAD.take0 (i := 31) rfl (by kernel_rfl) (by kernel_rfl) (by kernel_rfl) (by kernel_rfl) (fun w hw => x_fa kwal7_fo29_0 rfl) rfl ?_
      refine LAD.take0 (i := 32) rfl (by kernel_rfl) (by kernel_rfl) (by kernel_rfl) (by kernel_rfl) (fun w hw => x_fa kwal7_fo26_2 rfl) rfl ?_
      refine LAD.take1 (i := 33) rfl (by kernel_rfl) (by kernel_rfl) (by kernel_rfl) (by kernel_rfl) (by kernel_rfl) (by kernel_rfl) (fun w hw => x_ld (v := .int _ _) kwal7_oc3 rfl (hw.keepR (fun e => e) (hb.cell0 rfl))) rfl ?_
      refine LAD.take0 (i := 34) rfl (by kernel_rfl) (by kernel_rfl) (by kernel_rfl) (by kernel_rfl) (fun w hw => x_mv (v := S _) rfl) rfl ?_
      refine LAD.step (rs := [35]) hR0 (fun _ => hB0) (by kernel_rfl) (by simp) ⟨⟨_, rfl, ?_⟩, trivial⟩
      refine L.ret (x_call kwal7_en29 rfl) rfl (commit_w n0 bl b D q (appP q l) q.tail (makeS l).1 _ (h.bel hB0) ⟨hbl, hb⟩ ha hd (Nat.le_trans hn (hG.carry hB0).size) h6 ⟨by show q.ep + 1 < _; omega, by show q.half < _; omega, by show q.tail + _ < _; omega, by show q.cnt + _ < _; omega⟩ hhf (by omega) ⟨hca, hop⟩) ?_
      rintro _ w74 ⟨rfl, h74, hl74, hg74⟩
      have hR0 := hR0.trans (Gr.mono hg74 (fun _ _ _ => trivial))
      have hG74 := (hG.carry hB0).trans hg74
      have hb := hl74.2
      refine L.nil ?_
      refine thn_n ?_
      refine LAD.take0 (i := 36) rfl (by kernel_rfl) (by kernel_rfl) (by kernel_rfl) (by kernel_rfl) (fun w hw => x_as (v := .int _ _) rfl) rfl ?_
      refine LAD.done (by kernel_rfl) (by kernel_rfl) hR0 ?_
      have hG := hG74
      have h := h74
      refine thn_n ?_
      refine W.ret (fin_mk (.inr rfl) ?_)
      unfold appA; rw [if_pos hmk, if_neg hbig]; exact ⟨rfl, h, ⟨hbl, hb⟩, hG⟩
theorem turn_w (n0 bl b : Nat) (A : Nat → Prop) (v : Value) (l : List Str) (D : Dk) (q : Pt) (w : World) (h : DiskAt n0 w b D) (hl : LogAt n0 w bl b q) (hq : QOk D q) (hs : StrsAt A w v l) (hn : n0 ≤ w.heap.size) (hne : need l ≤ 10000000) :
    Ret Try.prog 8 #[.pointer (some ⟨bl, 0, none⟩), v] w fun v w' => v = .int .i64 (turnA D q l).1 ∧ DiskAt n0 w' b (turnA D q l).2.1 ∧ LogAt n0 w' bl b (turnA D q l).2.2 ∧ Dg lgTy n0 w w' := by
  obtain ⟨p1, c1, rfl, -⟩ := id hs
  have hlen := makeS_le l
  have hln := len_need l
  obtain ⟨h6, ha, hd, hca, hop, hhf, htl, hep, hcn⟩ := hq
  have hsm := h.2.1.small
  have hrm := roomN_le hsm
  have hbl := hl.1
  have hb := hl.2
  refine ret_of_W Try.func8 rfl (Nat.le_of_ble_eq_true rfl) (res1 rfl) ?_
  have hG := Dg.refl lgTy n0 w
  refine W.seq ?_
  refine W.region ?_
  refine L.val (x_as (v := .int _ _) rfl) rfl ?_
  refine L.nil ?_
  refine thn_n ?_
  refine W.seq ?_
  refine W.seq ?_
  refine W.region ?_
  refine L.val (x_mv (v := .pointer _) rfl) rfl ?_
  refine L.ret (x_call kwal7_en25 rfl) rfl (alive_w n0 bl b D q _ h hl hd) ?_
  rintro _ w9 ⟨rfl, hq9⟩
  rw [hq9]
  refine L.val (x_as (v := .int _ _) rfl) rfl ?_
  refine L.nil ?_
  refine thn_n ?_
  refine W.seq ?_
  refine W.region ?_
  refine L.val (x_mv (v := .int _ _) rfl) rfl ?_
  refine L.val (x_neq rfl rfl) rfl ?_
  refine L.nil ?_
  refine thn_n ?_
  refine W.cond (b := _) rfl (fun g11 => ?_) (fun g11 => ?_)
  ·have h11 := dne_t g11
   cases g11
  ·have h11 := dne_f g11
   refine W.skip ?_
   refine thn_n ?_
   refine W.seq ?_
   refine W.region ?_
   refine L.val (x_mv (v := .slice _ _ _) rfl) rfl ?_
   refine L.ret (x_call kwal7_en26 rfl) rfl (make_ok A _ l _ hs hne) ?_
   rintro _ w15 ⟨rfl, hw⟩
   have hG := hG.carry hw; have h := h.carry hw; have hb := hb.carry hw
   refine L.val (x_mv (v := _) rfl) rfl ?_
   refine L.val (x_ext (v := S _) rfl rfl) rfl ?_
   refine L.val (x_ext (v := .int _ _) rfl rfl) rfl ?_
   refine L.val (x_as (v := S _) rfl) rfl ?_
   refine L.val (x_as (v := .int _ _) rfl) rfl ?_
   refine L.nil ?_
   refine thn_n ?_
   refine W.seq ?_
   refine W.seq ?_
   refine W.region ?_
   refine L.val (x_mv (v := .int _ _) rfl) rfl ?_
   refine L.val (x_neq rfl rfl) rfl ?_
   refine L.nil ?_
   refine thn_n ?_
   refine W.cond (b := _) rfl (fun g19 => ?_) (fun g19 => ?_)
   ·have h19 := dne_t g19
    have hmk : ¬ ((makeS l).2 = 0) := h19
    refine W.seq ?_
    refine W.region ?_
    refine L.val (x_mv (v := .int _ _) rfl) rfl ?_
    refine L.val (x_as (v := .int _ _) rfl) rfl ?_
    refine L.nil ?_
    refine thn_n ?_
    refine W.ret (thn_r (fin_mk (.inr rfl) ?_))
    unfold turnA; rw [if_neg hmk]; exact ⟨rfl, h, ⟨hbl, hb⟩, hG⟩
   ·have h19 := dne_f g19
    have hmk : (makeS l).2 = 0 := h19
    refine W.skip ?_
    refine thn_n ?_
    refine W.seq ?_
    refine W.seq ?_
    refine W.region ?_
    refine L.val (x_mv (v := S _) rfl) rfl ?_
    refine L.val (x_len_str Try.underlying9 rfl) rfl ?_
    refine L.val (x_mv (v := .pointer _) rfl) rfl ?_
    refine L.val (x_nil rfl) rfl ?_
    refine L.val (x_fa kwal7_fo29_1 rfl) rfl ?_
    refine L.val (x_ld (v := .pointer _) kwal7_oc27 rfl (hb.cell0 rfl)) rfl ?_
    refine L.ret (x_call kwal7_en28 rfl) rfl (room_w n0 b D _ h h6) ?_
    rintro _ w27 ⟨rfl, hq27⟩
    rw [hq27]
    refine L.val (x_gtr rfl rfl) rfl ?_
    refine L.nil ?_
    refine thn_n ?_
    refine W.cond (b := _) rfl (fun g28 => ?_) (fun g28 => ?_)
    ·have h28 := of_decide_eq_true g28
     have hbig : roomN D.pl.length < (makeS l).1.length := by omega
     refine W.seq ?_
     refine W.region ?_
     refine L.val (x_as (v := .int _ _) rfl) rfl ?_
     refine L.nil ?_
     refine thn_n ?_
     refine W.ret (thn_r (fin_mk (.inr rfl) ?_))
     unfold turnA; rw [if_pos hmk, if_pos hbig]; exact ⟨rfl, h, ⟨hbl, hb⟩, hG⟩
    ·have h28 := dlt_f g28
     have hbig : ¬ roomN D.pl.length < (makeS l).1.length := by omega
     refine W.skip ?_
     refine thn_n ?_
     refine W.seq ?_
     refine W.drawD (fun _ => True) (fun _ => False) 19 kwal7_mixed (fun wD29 hw => ?_)
     have hG := hG.carry hw; have h := h.carry hw; have hb := hb.carry hw
     have hB0 := Gr.refl (fun _ => False) wD29; have hR0 := Gr.refl (fun _ => True) wD29
     refine LAD.take0 (i := 0) rfl (by kernel_rfl) (by kernel_rfl) (by kernel_rfl) (by kernel_rfl) (fun w hw => x_mv (v := .pointer _) rfl) rfl ?_
     refine LAD.take0 (i := 1) rfl (by kernel_rfl) (by kernel_rfl) (by kernel_rfl) (by kernel_rfl) (fun w hw => x_mv (v := .pointer _) rfl) rfl ?_
     refine LAD.take0 (i := 2) rfl (by kernel_rfl) (by kernel_rfl) (by kernel_rfl) (by kernel_rfl) (fun w hw => x_nil rfl) rfl ?_
     refine LAD.take0 (i := 3) rfl (by kernel_rfl) (by kernel_rfl) (by kernel_rfl) (by kernel_rfl) (fun w hw => x_fa kwal7_fo29_0 rfl) rfl ?_
     refine LAD.take0 (i := 4) rfl (by kernel_rfl) (by kernel_rfl) (by kernel_rfl) (by kernel_rfl) (fun w hw => x_fa kwal7_fo26_0 rfl) rfl ?_
     refine LAD.takeP [17, 6, 5] (i := 5) rfl (by kernel_rfl) (by kernel_rfl) (by kernel_rfl) (by kernel_rfl) (by kernel_rfl) (by kernel_rfl) (fun w hw => x_ld (v := .int _ _) kwal7_oc24 rfl (hw.keepR (fun e => e) (hb.cell0 rfl))) rfl ?_
     refine LAD.take0 (i := 6) rfl (by kernel_rfl) (by kernel_rfl) (by kernel_rfl) (by kernel_rfl) (fun w hw => x_add rfl rfl (wru64 (by omega))) rfl ?_
     refine LAD.take0 (i := 7) rfl (by kernel_rfl) (by kernel_rfl) (by kernel_rfl) (by kernel_rfl) (fun w hw => x_mv (v := .pointer _) rfl) rfl ?_
     refine LAD.take0 (i := 8) rfl (by kernel_rfl) (by kernel_rfl) (by kernel_rfl) (by kernel_rfl) (fun w hw => x_nil rfl) rfl ?_
     refine LAD.take0 (i := 9) rfl (by kernel_rfl) (by kernel_rfl) (by kernel_rfl) (by kernel_rfl) (fun w hw => x_fa kwal7_fo29_0 rfl) rfl ?_
     refine LAD.take0 (i := 10) rfl (by kernel_rfl) (by kernel_rfl) (by kernel_rfl) (by kernel_rfl) (fun w hw => x_fa kwal7_fo26_1 rfl) rfl ?_
     refine LAD.takeP [17, 12, 11] (i := 11) rfl (by kernel_rfl) (by kernel_rfl) (by kernel_rfl) (by kernel_rfl) (by kernel_rfl) (by kernel_rfl) (fun w hw => x_ld (v := .int _ _) kwal7_oc3 rfl (hw.keepR (fun e => e) (hb.cell0 rfl))) rfl ?_
     refine LAD.take0 (i := 12) rfl (by kernel_rfl) (by kernel_rfl) (by kernel_rfl) (by kernel_rfl) (fun w hw => x_sub rfl rfl (wr64 (by omega))) rfl ?_
     rw [show (1 : Int) - (q.half : Nat) = ((1 - q.half : Nat) : Int) by omega]
     refine LAD.take0 (i := 13) rfl (by kernel_rfl) (by kernel_rfl) (by kernel_rfl) (by kernel_rfl) (fun w hw => x_mv (v := S _) rfl) rfl ?_
     refine LAD.take0 (i := 14) rfl (by kernel_rfl) (by kernel_rfl) (by kernel_rfl) (by kernel_rfl) (fun w hw => x_len_str Try.underlying9 rfl) rfl ?_
     refine LAD.take0 (i := 15) rfl (by kernel_rfl) (by kernel_rfl) (by kernel_rfl) (by kernel_rfl) (fun w hw => x_mv (v := .slice _ _ _) rfl) rfl ?_
     refine LAD.take0 (i := 16) rfl (by kernel_rfl) (by kernel_rfl) (by kernel_rfl) (by kernel_rfl) (fun w hw => x_len_slice Try.underlying22 rfl) rfl ?_
     refine LAD.take0 (i := 17) rfl (by kernel_rfl) (by kernel_rfl) (by kernel_rfl) (by kernel_rfl) (fun w hw => x_build (cells := [.int _ _, .int _ _, .int _ _, .int _ _]) kwal7_si26 rfl rfl) rfl ?_
     refine LAD.take0 (i := 18) rfl (by kernel_rfl) (by kernel_rfl) (by kernel_rfl) (by kernel_rfl) (fun w hw => x_mv (v := S _) rfl) rfl ?_
     refine LAD.step (rs := [19]) hR0 (fun _ => hB0) (by kernel_rfl) (by simp) ⟨⟨_, rfl, ?_⟩, trivial⟩
     refine L.ret (x_call kwal7_en29 rfl) rfl (commit_w n0 bl b D q (turnP q l) 0 (makeS l).1 _ (h.bel hB0) ⟨hbl, hb⟩ ha hd (Nat.le_trans hn (hG.carry hB0).size) h6 ⟨by show q.ep + 1 < _; omega, by show 1 - q.half < _; omega, by show _ < _; dsimp only [turnP]; omega, by dsimp only [turnP]; omega⟩ (by show 1 - q.half ≤ 1; omega) (by omega) ⟨hca, hop⟩) ?_
     rintro _ w48 ⟨rfl, h48, hl48, hg48⟩
     have hR0 := hR0.trans (Gr.mono hg48 (fun _ _ _ => trivial))
     have hG48 := (hG.carry hB0).trans hg48
     have hb := hl48.2
     refine L.nil ?_
     refine thn_n ?_
     refine LAD.take0 (i := 20) rfl (by kernel_rfl) (by kernel_rfl) (by kernel_rfl) (by kernel_rfl) (fun w hw => x_as (v := .int _ _) rfl) rfl ?_
     refine LAD.done (by kernel_rfl) (by kernel_rfl) hR0 ?_
     have hG := hG48
     have h := h48
     refine thn_n ?_
     refine W.ret (fin_mk (.inr rfl) ?_)
     unfold turnA; rw [if_pos hmk, if_neg hbig]; exact ⟨rfl, h, ⟨hbl, hb⟩, hG⟩
theorem append_nil (v : Value) (w : World) : Ret Try.prog 7 #[.pointer none, v] w fun v w' => v = .int .i64 1 ∧ w' = w := by
  refine ret_of_W Try.func7 rfl (Nat.le_of_ble_eq_true rfl) (res1 rfl) ?_
  refine W.seq ?_
  refine W.region ?_
  refine L.val (x_as (v := .int _ _) rfl) rfl ?_
  refine L.nil ?_
  refine thn_n ?_
  refine W.seq ?_
  refine W.seq ?_
  refine W.region ?_
  refine L.val (x_mv (v := .pointer _) rfl) rfl ?_
  refine L.ret (x_call kwal7_en25 rfl) rfl (alive_nil _) ?_
  rintro _ w9 ⟨rfl, hq9⟩
  rw [hq9]
  refine L.val (x_as (v := .int _ _) rfl) rfl ?_
  refine L.nil ?_
  refine thn_n ?_
  refine W.seq ?_
  refine W.region ?_
  refine L.val (x_mv (v := .int _ _) rfl) rfl ?_
  refine L.val (x_neq rfl rfl) rfl ?_
  refine L.nil ?_
  refine thn_n ?_
  refine W.cond (b := _) rfl (fun g11 => ?_) (fun g11 => ?_)
  ·have h11 := dne_t g11
   refine W.seq ?_
   refine W.region ?_
   refine L.val (x_mv (v := .int _ _) rfl) rfl ?_
   refine L.val (x_as (v := .int _ _) rfl) rfl ?_
   refine L.nil ?_
   refine thn_n ?_
   refine W.ret (thn_r (fin_mk (.inr rfl) ?_))
   exact ⟨rfl, rfl⟩
  ·have h11 := dne_f g11
   cases g11
end Go.Gx
