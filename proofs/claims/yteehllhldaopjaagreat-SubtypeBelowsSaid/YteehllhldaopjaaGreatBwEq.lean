/- The reference's equality of types. Conditions: none. -/
import Derived.Test.YteehllhldaopjaaGreatBwSh
import Derived.Test.YteehllhldaopjaaGreatBwApp
namespace Go.Gx
open Go.Proofs
theorem keq_ag25 : aggT Tryz.prog 25 5 = true := by kernel_rfl
theorem keq_en26 : Go.Proofs.Enters Tryz.prog 26 := Go.Proofs.enters_of Tryz.func26 (by kernel_rfl) rfl
theorem keq_fo25_0 : fieldOff Tryz.prog 25 0 = some 0 := by kernel_rfl
theorem keq_fo25_1 : fieldOff Tryz.prog 25 1 = some 1 := by kernel_rfl
theorem keq_fo25_2 : fieldOff Tryz.prog 25 2 = some 2 := by kernel_rfl
theorem keq_fo25_3 : fieldOff Tryz.prog 25 3 = some 3 := by kernel_rfl
theorem keq_fo25_4 : fieldOff Tryz.prog 25 4 = some 4 := by kernel_rfl
theorem keq_mixed : Tryz.prog.follows .mixedOrders = true := by kernel_rfl
theorem keq_oc22 : oneCellT Tryz.prog 22 = true := by kernel_rfl
theorem keq_oc23 : oneCellT Tryz.prog 23 = true := by kernel_rfl
theorem keq_oc3 : oneCellT Tryz.prog 3 = true := by kernel_rfl
theorem keq_oc9 : oneCellT Tryz.prog 9 = true := by kernel_rfl
theorem keq_sz25 : (Tryz.prog.info? 25).map (·.size) = some 5 := by kernel_rfl
theorem keq_sz9 : (Tryz.prog.info? 9).map (·.size) = some 1 := by kernel_rfl
open Classical in
noncomputable def eqS (a b : Sh) : Bool := decide (a = b)
theorem eqS_t {a b : Sh} (h : a = b) : eqS a b = true := by unfold eqS; simpa using h
theorem eqS_f {a b : Sh} (h : a ≠ b) : eqS a b = false := by unfold eqS; simpa using h
theorem eqS_iff {a b : Sh} : eqS a b = true ↔ a = b := by unfold eqS; simp
theorem Sh.ext {a b : Sh} (h1 : a.kind = b.kind) (h2 : a.of = b.of) (h3 : a.name = b.name) (h4 : a.names = b.names) (h5 : a.parts = b.parts) : a = b := by
  cases a; cases b; simp only [Sh.kind, Sh.of, Sh.name, Sh.names, Sh.parts] at *; subst h1 h2 h3 h4 h5; rfl
theorem take_eq_snoc {α : Type} {d : α} {l m : List α} {k : Nat} (hl : k < l.length) (hm : k < m.length) (h : l.take k = m.take k) (he : l.getD k d = m.getD k d) : l.take (k + 1) = m.take (k + 1) := by
  rw [List.getD_eq_getElem?_getD, List.getElem?_eq_getElem hl, Option.getD_some, List.getD_eq_getElem?_getD, List.getElem?_eq_getElem hm, Option.getD_some] at he
  rw [List.take_succ_eq_append_getElem hl, List.take_succ_eq_append_getElem hm, h, he]
theorem equal07 : ∀ (N : Nat) (a b : Sh), SizeOf.sizeOf a < N → ∀ (A A' : Nat → Prop) (cs ds : List Value) (w : World), ShC A w cs a → ShC A' w ds b →
    Ret Tryz.prog 26 #[.agg cs.toArray, .agg ds.toArray] w fun v w' => v = .bool (eqS a b) ∧ Bel w w' := by
  intro N
  induction N with
  | zero => intro a b h; omega
  | succ N ih =>
    intro a b hN A A' cs ds w ha hb
    obtain ⟨vn, vp, rfl, hna, hp, -⟩ := ha.inv
    obtain ⟨p, cap, row, rfl, p1, p2, p3, hra⟩ := hp
    obtain ⟨un, up, rfl, hnb, hq, -⟩ := hb.inv
    obtain ⟨q, qap, rox, rfl, q1, q2, q3, hrb⟩ := hq
    have hna' := hna
    obtain ⟨pn, capn, rfl, -, -, pn3, -⟩ := hna'
    have hnb' := hnb
    obtain ⟨qn, qapn, rfl, -, -, qn3, -⟩ := hnb'
    refine ret_of_W Tryz.func26 rfl (Nat.le_of_ble_eq_true rfl) (res1 rfl) ?_
    have hB := Gr.refl (fun _ => False) w
    refine W.seq ?_
    refine W.region ?_
    refine L.box (cs := _) rfl rfl (fun w2 bx2 hw hz2 => ?_)
    have hB := hB.carry hw; have hra := hra.carry hw; have hrb := hrb.carry hw; have hna := hna.carry hw; have hnb := hnb.carry hw
    refine L.box (cs := _) rfl rfl (fun w3 bx3 hw hz3 => ?_)
    have hB := hB.carry hw; have hra := hra.carry hw; have hrb := hrb.carry hw; have hna := hna.carry hw; have hnb := hnb.carry hw; have bx2 := bx2.carry hw
    refine L.val (x_as (v := .bool _) rfl) rfl ?_
    refine L.nil ?_
    refine thn_n ?_
    refine W.seq ?_
    refine W.seq ?_
    refine W.region ?_
    refine L.val (x_fa keq_fo25_0 rfl) rfl ?_
    refine L.val (x_ld (v := .int _ _) keq_oc3 rfl (bx2.cell0 rfl)) rfl ?_
    refine L.val (x_fa keq_fo25_0 rfl) rfl ?_
    refine L.val (x_ld (v := .int _ _) keq_oc3 rfl (bx3.cell0 rfl)) rfl ?_
    refine L.val (x_neq rfl rfl) rfl ?_
    refine L.val (x_mv (v := .bool _) rfl) rfl ?_
    refine' L.group0 5 13 17 17 12 false rfl ?_ ?_ ?_
    rotate_left 1
    ·intro g12
     have h12 := dne_f g12
     refine L.gyes' (dj := 12) (b := _) rfl rfl g12 ?_
     refine L.val (x_fa keq_fo25_1 rfl) rfl ?_
     refine L.gyes' (dj := 12) (b := _) rfl rfl g12 ?_
     refine L.val (x_ld (v := S _) keq_oc9 rfl (bx2.cell0 rfl)) rfl ?_
     refine L.gyes' (dj := 12) (b := _) rfl rfl g12 ?_
     refine L.val (x_fa keq_fo25_1 rfl) rfl ?_
     refine L.gyes' (dj := 12) (b := _) rfl rfl g12 ?_
     refine L.val (x_ld (v := S _) keq_oc9 rfl (bx3.cell0 rfl)) rfl ?_
     refine L.gyes' (dj := 12) (b := _) rfl rfl g12 ?_
     refine L.val (x_nes rfl rfl) rfl ?_
     refine L.nil ?_
     refine thn_n ⟨rfl, rfl, ?_, rfl⟩
     repeat (first | exact jeq.refl _ _ _ | refine jeq.upd rfl ?_ | refine jeq.jk rfl rfl ?_)
    ·intro g12
     refine L.gno (dj := 12) (b := _) rfl rfl g12 rfl ?_
     refine L.gno (dj := 12) (b := _) rfl rfl g12 rfl ?_
     refine L.gno (dj := 12) (b := _) rfl rfl g12 rfl ?_
     refine L.gno (dj := 12) (b := _) rfl rfl g12 rfl ?_
     refine L.gno (dj := 12) (b := _) rfl rfl g12 rfl ?_
     refine L.nil (thn_n ⟨rfl, rfl, ?_⟩)
     repeat (first | exact jeq.refl _ _ _ | refine jeq.upd rfl ?_ | refine jeq.jk rfl rfl ?_)
    intro J12 j12
    refine L.val (x_or rfl j12) rfl ?_
    refine L.val (x_mv (v := .bool _) rfl) rfl ?_
    refine' L.group0 5 20 24 24 19 false rfl ?_ ?_ ?_
    rotate_left 1
    ·intro g19
     have h19 := g19
     refine L.gyes' (dj := 19) (b := _) rfl rfl g19 ?_
     refine L.val (x_fa keq_fo25_2 rfl) rfl ?_
     refine L.gyes' (dj := 19) (b := _) rfl rfl g19 ?_
     refine L.val (x_ld (v := S _) keq_oc9 rfl (bx2.cell0 rfl)) rfl ?_
     refine L.gyes' (dj := 19) (b := _) rfl rfl g19 ?_
     refine L.val (x_fa keq_fo25_2 rfl) rfl ?_
     refine L.gyes' (dj := 19) (b := _) rfl rfl g19 ?_
     refine L.val (x_ld (v := S _) keq_oc9 rfl (bx3.cell0 rfl)) rfl ?_
     refine L.gyes' (dj := 19) (b := _) rfl rfl g19 ?_
     refine L.val (x_nes rfl rfl) rfl ?_
     refine L.nil ?_
     refine thn_n ⟨rfl, rfl, ?_, rfl⟩
     repeat (first | exact jeq.refl _ _ _ | refine jeq.upd rfl ?_ | refine jeq.jk rfl rfl ?_)
    ·intro g19
     refine L.gno (dj := 19) (b := _) rfl rfl g19 rfl ?_
     refine L.gno (dj := 19) (b := _) rfl rfl g19 rfl ?_
     refine L.gno (dj := 19) (b := _) rfl rfl g19 rfl ?_
     refine L.gno (dj := 19) (b := _) rfl rfl g19 rfl ?_
     refine L.gno (dj := 19) (b := _) rfl rfl g19 rfl ?_
     refine L.nil (thn_n ⟨rfl, rfl, ?_⟩)
     repeat (first | exact jeq.refl _ _ _ | refine jeq.upd rfl ?_ | refine jeq.jk rfl rfl ?_)
    intro J19 j19
    refine L.val (x_or rfl j19) rfl ?_
    refine L.val (x_mv (v := .bool _) rfl) rfl ?_
    refine' L.group0 7 27 33 33 26 false rfl ?_ ?_ ?_
    rotate_left 1
    ·intro g26
     have h26 := g26
     refine L.gyes' (dj := 26) (b := _) rfl rfl g26 ?_
     refine L.val (x_fa keq_fo25_3 rfl) rfl ?_
     refine L.gyes' (dj := 26) (b := _) rfl rfl g26 ?_
     refine L.val (x_ld (v := .slice _ _ _) keq_oc22 rfl (bx2.cell0 rfl)) rfl ?_
     refine L.gyes' (dj := 26) (b := _) rfl rfl g26 ?_
     refine L.val (x_len_slice Tryz.underlying22 rfl) rfl ?_
     refine L.gyes' (dj := 26) (b := _) rfl rfl g26 ?_
     refine L.val (x_fa keq_fo25_3 rfl) rfl ?_
     refine L.gyes' (dj := 26) (b := _) rfl rfl g26 ?_
     refine L.val (x_ld (v := .slice _ _ _) keq_oc22 rfl (bx3.cell0 rfl)) rfl ?_
     refine L.gyes' (dj := 26) (b := _) rfl rfl g26 ?_
     refine L.val (x_len_slice Tryz.underlying22 rfl) rfl ?_
     refine L.gyes' (dj := 26) (b := _) rfl rfl g26 ?_
     refine L.val (x_neq rfl rfl) rfl ?_
     refine L.nil ?_
     refine thn_n ⟨rfl, rfl, ?_, rfl⟩
     repeat (first | exact jeq.refl _ _ _ | refine jeq.upd rfl ?_ | refine jeq.jk rfl rfl ?_)
    ·intro g26
     refine L.gno (dj := 26) (b := _) rfl rfl g26 rfl ?_
     refine L.gno (dj := 26) (b := _) rfl rfl g26 rfl ?_
     refine L.gno (dj := 26) (b := _) rfl rfl g26 rfl ?_
     refine L.gno (dj := 26) (b := _) rfl rfl g26 rfl ?_
     refine L.gno (dj := 26) (b := _) rfl rfl g26 rfl ?_
     refine L.gno (dj := 26) (b := _) rfl rfl g26 rfl ?_
     refine L.gno (dj := 26) (b := _) rfl rfl g26 rfl ?_
     refine L.nil (thn_n ⟨rfl, rfl, ?_⟩)
     repeat (first | exact jeq.refl _ _ _ | refine jeq.upd rfl ?_ | refine jeq.jk rfl rfl ?_)
    intro J26 j26
    refine L.val (x_or rfl j26) rfl ?_
    refine L.val (x_mv (v := .bool _) rfl) rfl ?_
    refine' L.group0 7 36 42 42 35 false rfl ?_ ?_ ?_
    rotate_left 1
    ·intro g35
     have h35 := g35
     refine L.gyes' (dj := 35) (b := _) rfl rfl g35 ?_
     refine L.val (x_fa keq_fo25_4 rfl) rfl ?_
     refine L.gyes' (dj := 35) (b := _) rfl rfl g35 ?_
     refine L.val (x_ld (v := .slice _ _ _) keq_oc23 rfl (bx2.cell0 rfl)) rfl ?_
     refine L.gyes' (dj := 35) (b := _) rfl rfl g35 ?_
     refine L.val (x_len_slice Tryz.underlying23 rfl) rfl ?_
     refine L.gyes' (dj := 35) (b := _) rfl rfl g35 ?_
     refine L.val (x_fa keq_fo25_4 rfl) rfl ?_
     refine L.gyes' (dj := 35) (b := _) rfl rfl g35 ?_
     refine L.val (x_ld (v := .slice _ _ _) keq_oc23 rfl (bx3.cell0 rfl)) rfl ?_
     refine L.gyes' (dj := 35) (b := _) rfl rfl g35 ?_
     refine L.val (x_len_slice Tryz.underlying23 rfl) rfl ?_
     refine L.gyes' (dj := 35) (b := _) rfl rfl g35 ?_
     refine L.val (x_neq rfl rfl) rfl ?_
     refine L.nil ?_
     refine thn_n ⟨rfl, rfl, ?_, rfl⟩
     repeat (first | exact jeq.refl _ _ _ | refine jeq.upd rfl ?_ | refine jeq.jk rfl rfl ?_)
    ·intro g35
     refine L.gno (dj := 35) (b := _) rfl rfl g35 rfl ?_
     refine L.gno (dj := 35) (b := _) rfl rfl g35 rfl ?_
     refine L.gno (dj := 35) (b := _) rfl rfl g35 rfl ?_
     refine L.gno (dj := 35) (b := _) rfl rfl g35 rfl ?_
     refine L.gno (dj := 35) (b := _) rfl rfl g35 rfl ?_
     refine L.gno (dj := 35) (b := _) rfl rfl g35 rfl ?_
     refine L.gno (dj := 35) (b := _) rfl rfl g35 rfl ?_
     refine L.nil (thn_n ⟨rfl, rfl, ?_⟩)
     repeat (first | exact jeq.refl _ _ _ | refine jeq.upd rfl ?_ | refine jeq.jk rfl rfl ?_)
    intro J35 j35
    refine L.val (x_or rfl j35) rfl ?_
    refine L.nil ?_
    refine thn_n ?_
    refine W.cond (b := _) rfl (fun g43 => ?_) (fun g43 => ?_)
    ·have h43 := g43
     refine W.seq ?_
     refine W.region ?_
     refine L.val (x_as (v := .bool _) rfl) rfl ?_
     refine L.nil ?_
     refine thn_n ?_
     refine W.ret (thn_r (fin_mk (.inr rfl) ?_))
     exact ⟨vb (Eq.symm (eqS_f (by
       rintro rfl
       simp at h43))), hB⟩
    ·have h43 := g43
     simp only [Bool.or_eq_false_iff, Bool.not_eq_false', decide_eq_true_eq, beq_iff_eq] at h43
     obtain ⟨⟨⟨⟨e1, e2⟩, e3⟩, e4⟩, e5⟩ := h43
     have b2lt := bx2.lt
     refine W.skip ?_
     refine thn_n ?_
     refine W.seq ?_
     refine W.seq ?_
     refine W.region ?_
     refine L.val (x_as (v := .int _ _) rfl) rfl ?_
     refine L.nil ?_
     refine thn_n ?_
     refine W.block ?_
     refine W.loop (fun m' E w' => Bel w w' ∧ ShRow A w' p row a.parts ∧ ShRow A' w' q rox b.parts ∧ StrsAt A w' (.slice pn a.names.length capn) a.names ∧ StrsAt A' w' (.slice qn b.names.length qapn) b.names ∧ Box w' w.heap.size 25 [.int .i64 a.kind, S a.of, S a.name, .slice pn a.names.length capn, .slice p a.parts.length cap] ∧ Box w' w2.heap.size 25 [.int .i64 b.kind, S b.of, S b.name, .slice qn b.names.length qapn, .slice q b.parts.length qap] ∧ ∃ k : Nat, k ≤ a.names.length ∧ m' = a.names.length - k ∧ E 5 = .int .i64 (k : Nat) ∧ E 2 = .pointer (some ⟨w.heap.size, 0, none⟩) ∧ E 3 = .pointer (some ⟨w2.heap.size, 0, none⟩) ∧ a.names.take k = b.names.take k) (a.names.length) ?_ ?_
     ·exact ⟨hB, hra, hrb, hna, hnb, bx2, bx3, 0, by omega, rfl, rfl, rfl, rfl, rfl⟩
     ·rintro m' E w0 ⟨hB, hra, hrb, hna, hnb, bx2, bx3, k, hk, rfl, e5', e2', e3', ht⟩
      rw [upd_self e5', upd_self e2', upd_self e3']
      refine W.seq ?_
      refine W.seq ?_
      refine W.region ?_
      refine L.val (x_mv (v := .int _ _) rfl) rfl ?_
      refine L.val (x_fa keq_fo25_3 rfl) rfl ?_
      refine L.val (x_ld (v := .slice _ _ _) keq_oc22 rfl (bx2.cell0 rfl)) rfl ?_
      refine L.val (x_len_slice Tryz.underlying22 rfl) rfl ?_
      refine L.val (x_lss rfl rfl) rfl ?_
      refine L.nil ?_
      refine thn_n ?_
      refine W.cond (b := _) rfl (fun g48 => ?_) (fun g48 => ?_)
      ·have h48 := of_decide_eq_true g48
       have hlt : k < a.names.length := by omega
       have hlt' : k < b.names.length := by omega
       obtain ⟨bb, o, rfl, hc⟩ := hna.elem hlt
       obtain ⟨bb', o', rfl, hc'⟩ := hnb.elem hlt'
       refine W.skip ?_
       refine thn_n ?_
       refine W.seq ?_
       refine W.block ?_
       refine W.seq ?_
       refine W.drawB keq_mixed (by kernel_rfl) ?_
       refine LQ.val (fun w hw => x_fa keq_fo25_3 rfl) rfl ?_
       refine LQ.val (fun w hw => x_ld (v := .slice _ _ _) keq_oc22 rfl (hw.keep (bx2.cell0 rfl))) rfl ?_
       refine LQ.val (fun w hw => x_mv (v := .int _ _) rfl) rfl ?_
       refine LQ.val (fun w hw => x_ia1  Tryz.underlying22 keq_sz9 rfl rfl rfl (by omega)) rfl ?_
       refine LQ.val (fun w hw => x_ld (v := S _) keq_oc9 rfl (hw.keep hc)) rfl ?_
       refine LQ.val (fun w hw => x_fa keq_fo25_3 rfl) rfl ?_
       refine LQ.val (fun w hw => x_ld (v := .slice _ _ _) keq_oc22 rfl (hw.keep (bx3.cell0 rfl))) rfl ?_
       refine LQ.val (fun w hw => x_mv (v := .int _ _) rfl) rfl ?_
       refine LQ.val (fun w hw => x_ia1  Tryz.underlying22 keq_sz9 rfl rfl rfl (by omega)) rfl ?_
       refine LQ.val (fun w hw => x_ld (v := S _) keq_oc9 rfl (hw.keep hc')) rfl ?_
       refine LQ.val (fun w hw => x_nes rfl rfl) rfl ?_
       refine LQ.nil ?_
       intro w51 hw
       have hB := hB.carry hw; have hra := hra.carry hw; have hrb := hrb.carry hw; have hna := hna.carry hw; have hnb := hnb.carry hw; have bx2 := bx2.carry hw; have bx3 := bx3.carry hw
       refine thn_n ?_
       refine W.cond (b := _) rfl (fun g61 => ?_) (fun g61 => ?_)
       ·have h61 := sne_t g61
        refine W.seq ?_
        refine W.region ?_
        refine L.val (x_as (v := .bool _) rfl) rfl ?_
        refine L.nil ?_
        refine thn_n ?_
        refine W.ret (blk_r (thn_r (thn_r (blk_r (thn_r (fin_mk (.inr rfl) ?_))))))
        exact ⟨vb (Eq.symm (eqS_f (by rintro rfl; exact h61 rfl))), hB⟩
       ·have h61 := sne_f g61
        refine W.skip ?_
        refine blk_n ?_
        refine thn_n ?_
        refine W.region ?_
        refine L.val (x_mv (v := .int _ _) rfl) rfl ?_
        refine L.val (x_add rfl rfl (wr64 (by omega))) rfl ?_
        refine L.val (x_as (v := .int _ _) rfl) rfl ?_
        refine L.nil ?_
        refine thn_n ⟨rfl, ?_⟩
        exact ⟨a.names.length - (k + 1), by omega, hB, hra, hrb, hna, hnb, bx2, bx3, k + 1, by omega, rfl, rfl, rfl, rfl, take_eq_snoc (d := []) hlt hlt' ht h61⟩
      ·have h48 := dlt_f g48
       rw [List.take_of_length_le (by omega), List.take_of_length_le (by omega)] at ht
       refine W.exit (thn_x (thn_x (blk_hit ?_)))
       refine thn_n ?_
       refine W.seq ?_
       refine W.seq ?_
       refine W.region ?_
       refine L.val (x_as (v := .int _ _) rfl) rfl ?_
       refine L.nil ?_
       refine thn_n ?_
       refine W.block ?_
       refine W.loop (fun m' E w' => Bel w w' ∧ ShRow A w' p row a.parts ∧ ShRow A' w' q rox b.parts ∧ Box w' w.heap.size 25 [.int .i64 a.kind, S a.of, S a.name, .slice pn a.names.length capn, .slice p a.parts.length cap] ∧ Box w' w2.heap.size 25 [.int .i64 b.kind, S b.of, S b.name, .slice qn b.names.length qapn, .slice q b.parts.length qap] ∧ ∃ k : Nat, k ≤ a.parts.length ∧ m' = a.parts.length - k ∧ E 6 = .int .i64 (k : Nat) ∧ E 2 = .pointer (some ⟨w.heap.size, 0, none⟩) ∧ E 3 = .pointer (some ⟨w2.heap.size, 0, none⟩) ∧ a.parts.take k = b.parts.take k) (a.parts.length) ?_ ?_
       ·exact ⟨hB, hra, hrb, bx2, bx3, 0, by omega, rfl, rfl, rfl, rfl, rfl⟩
       ·rintro m' E w0 ⟨hB, hra, hrb, bx2, bx3, k, hk, rfl, e5', e2', e3', htp⟩
        rw [upd_self e5', upd_self e2', upd_self e3']
        refine W.seq ?_
        refine W.seq ?_
        refine W.region ?_
        refine L.val (x_mv (v := .int _ _) rfl) rfl ?_
        refine L.val (x_fa keq_fo25_4 rfl) rfl ?_
        refine L.val (x_ld (v := .slice _ _ _) keq_oc23 rfl (bx2.cell0 rfl)) rfl ?_
        refine L.val (x_len_slice Tryz.underlying23 rfl) rfl ?_
        refine L.val (x_lss rfl rfl) rfl ?_
        refine L.nil ?_
        refine thn_n ?_
        refine W.cond (b := _) rfl (fun g66 => ?_) (fun g66 => ?_)
        ·have h66 := of_decide_eq_true g66
         have hlt : k < a.parts.length := by omega
         have hlt' : k < b.parts.length := by omega
         obtain ⟨bb, o, rfl, hc⟩ := hra.elem hlt
         obtain ⟨bb', o', rfl, hc'⟩ := hrb.elem hlt'
         refine W.skip ?_
         refine thn_n ?_
         refine W.seq ?_
         refine W.block ?_
         refine W.seq ?_
         refine W.drawB keq_mixed (by kernel_rfl) ?_
         refine LQ.val (fun w hw => x_fa keq_fo25_4 rfl) rfl ?_
         refine LQ.val (fun w hw => x_ld (v := .slice _ _ _) keq_oc23 rfl (hw.keep (bx2.cell0 rfl))) rfl ?_
         refine LQ.val (fun w hw => x_mv (v := .int _ _) rfl) rfl ?_
         refine LQ.val (fun w hw => x_ia  Tryz.underlying23 keq_sz25 rfl rfl rfl (by omega)) rfl ?_
         refine LQ.val (fun w hw => x_ldn (vs := row k) keq_ag25 rfl (hra.five k hlt) (hw.keepRow (hra.five k hlt) hc)) rfl ?_
         refine LQ.val (fun w hw => x_fa keq_fo25_4 rfl) rfl ?_
         refine LQ.val (fun w hw => x_ld (v := .slice _ _ _) keq_oc23 rfl (hw.keep (bx3.cell0 rfl))) rfl ?_
         refine LQ.val (fun w hw => x_mv (v := .int _ _) rfl) rfl ?_
         refine LQ.val (fun w hw => x_ia  Tryz.underlying23 keq_sz25 rfl rfl rfl (by omega)) rfl ?_
         refine LQ.val (fun w hw => x_ldn (vs := rox k) keq_ag25 rfl (hrb.five k hlt') (hw.keepRow (hrb.five k hlt') hc')) rfl ?_
         refine LQ.ret (fun w => x_call keq_en26 rfl) (fun w hw => Ret.mono (ih _ _ (by have := Sh.part_lt hlt; omega) A A' _ _ _ ((hra.each k hlt).carry hw) ((hrb.each k hlt').carry hw)) (fun _ _ h => ⟨h.1, Gr.trans hw h.2⟩)) rfl ?_
         refine LQ.val (fun w hw => x_not rfl) rfl ?_
         refine LQ.nil ?_
         intro w69 hw
         have hB := hB.carry hw; have hra := hra.carry hw; have hrb := hrb.carry hw; have bx2 := bx2.carry hw; have bx3 := bx3.carry hw
         refine thn_n ?_
         refine W.cond (b := _) rfl (fun g80 => ?_) (fun g80 => ?_)
         ·have h80 := (not_t g80)
          refine W.seq ?_
          refine W.region ?_
          refine L.val (x_as (v := .bool _) rfl) rfl ?_
          refine L.nil ?_
          refine thn_n ?_
          refine W.ret (blk_r (thn_r (thn_r (blk_r (thn_r (fin_mk (.inr rfl) ?_))))))
          exact ⟨vb (Eq.symm (eqS_f (by rintro rfl; rw [eqS_t rfl] at h80; cases h80))), hB⟩
         ·have h80 := (not_f g80)
          refine W.skip ?_
          refine blk_n ?_
          refine thn_n ?_
          refine W.region ?_
          refine L.val (x_mv (v := .int _ _) rfl) rfl ?_
          refine L.val (x_add rfl rfl (wr64 (by omega))) rfl ?_
          refine L.val (x_as (v := .int _ _) rfl) rfl ?_
          refine L.nil ?_
          refine thn_n ⟨rfl, ?_⟩
          exact ⟨a.parts.length - (k + 1), by omega, hB, hra, hrb, bx2, bx3, k + 1, by omega, rfl, rfl, rfl, rfl, take_eq_snoc (d := default) hlt hlt' htp (eqS_iff.1 h80)⟩
        ·have h66 := dlt_f g66
         refine W.exit (thn_x (thn_x (blk_hit ?_)))
         refine thn_n ?_
         refine W.seq ?_
         refine W.region ?_
         refine L.val (x_as (v := .bool _) rfl) rfl ?_
         refine L.nil ?_
         refine thn_n ?_
         refine W.ret (fin_mk (.inr rfl) ?_)
         rw [List.take_of_length_le (by omega), List.take_of_length_le (by omega)] at htp
         exact ⟨vb (eqS_t (Sh.ext e1 e2 e3 ht htp)).symm, hB⟩
end Go.Gx
namespace Go.Gx
open Go.Proofs
theorem kcount_ag126 : aggT Tryz.prog 126 0 = true := by kernel_rfl
theorem kcount_ag25 : aggT Tryz.prog 25 5 = true := by kernel_rfl
theorem kcount_en144 : Go.Proofs.Enters Tryz.prog 144 := Go.Proofs.enters_of Tryz.func144 (by kernel_rfl) rfl
theorem kcount_en145 : Go.Proofs.Enters Tryz.prog 145 := Go.Proofs.enters_of Tryz.func145 (by kernel_rfl) rfl
theorem kcount_en146 : Go.Proofs.Enters Tryz.prog 146 := Go.Proofs.enters_of Tryz.func146 (by kernel_rfl) rfl
theorem kcount_fo25_4 : fieldOff Tryz.prog 25 4 = some 4 := by kernel_rfl
theorem kcount_mixed : Tryz.prog.follows .mixedOrders = true := by kernel_rfl
theorem kcount_oc23 : oneCellT Tryz.prog 23 = true := by kernel_rfl
theorem kcount_oc3 : oneCellT Tryz.prog 3 = true := by kernel_rfl
theorem kcount_oc4 : oneCellT Tryz.prog 4 = true := by kernel_rfl
theorem kcount_si126 : structInfo Tryz.prog 126 = some ([], []) := by kernel_rfl
theorem kcount_sz25 : (Tryz.prog.info? 25).map (·.size) = some 5 := by kernel_rfl
theorem kcount_sz3 : (Tryz.prog.info? 3).map (·.size) = some 1 := by kernel_rfl
theorem kcount_sz4 : (Tryz.prog.info? 4).map (·.size) = some 1 := by kernel_rfl
theorem kcount_zr126 : (Tryz.prog.info? 126).bind (·.zero) = some (Value.agg [].toArray) := by kernel_rfl
theorem kcount_zr25 : (Tryz.prog.info? 25).bind (·.zero) = some (Value.agg [Value.int .i64 0, S [], S [], Value.slice none 0 0, Value.slice none 0 0].toArray) := by kernel_rfl
theorem kcount_zr3 : (Tryz.prog.info? 3).bind (·.zero) = some (Value.int .i64 0) := by kernel_rfl
theorem kcount_zr4 : (Tryz.prog.info? 4).bind (·.zero) = some (Value.bool false) := by kernel_rfl
def fullP : List PanicEntry := [{ v := .iface 126 (.agg #[]), recovered := false }]
def Cnt (b : Nat) (n k : Nat) (v : Value) (w : World) (e : Ending) (w' : World) : Prop :=
  Gr (· = b) w w' ∧ ((n + k ≤ 400 ∧ e = .returned v ∧ Box w' b 3 [.int .i64 ((n + k : Nat) : Int)]) ∨ (400 < n + k ∧ e = .panicked fullP ∧ Box w' b 3 [.int .i64 401]))
theorem Cnt.ret {b n k : Nat} {v u : Value} {w w' : World} (h : Cnt b n k v w (.returned u) w') : Gr (· = b) w w' ∧ n + k ≤ 400 ∧ u = v ∧ Box w' b 3 [.int .i64 ((n + k : Nat) : Int)] := by
  obtain ⟨g, ⟨h1, h2, h3⟩ | ⟨-, h2, -⟩⟩ := h
  · cases h2; exact ⟨g, h1, rfl, h3⟩
  · cases h2
theorem Cnt.pan {b n k : Nat} {v : Value} {c : List PanicEntry} {w w' : World} (h : Cnt b n k v w (.panicked c) w') : Gr (· = b) w w' ∧ 400 < n + k ∧ c = fullP ∧ Box w' b 3 [.int .i64 401] := by
  obtain ⟨g, ⟨-, h2, -⟩ | ⟨h1, h2, h3⟩⟩ := h
  · cases h2
  · cases h2; exact ⟨g, h1, rfl, h3⟩
theorem Cnt.out {b n k : Nat} {v : Value} {w w' : World} (h : Cnt b n k v w .outgrown w') : False := by
  obtain ⟨g, ⟨-, h2, -⟩ | ⟨-, h2, -⟩⟩ := h <;> cases h2
theorem meet_ok (b n : Nat) (hn : n ≤ 400) (w : World) (hb : Box w b 3 [.int .i64 (n : Nat)]) :
    Calls Tryz.prog 146 #[.pointer (some ⟨b, 0, none⟩)] w (Cnt b n 1 (.tuple #[]) w) := by
  refine calls_of_W Tryz.func146 rfl (Nat.le_of_ble_eq_true rfl) (res0 rfl) ?_
  have hB := Gr.refl (· = b) w
  refine W.seq ?_
  refine W.region ?_
  refine L.val (x_ld (v := .int _ _) kcount_oc3 rfl (hb.cell (i := 0) rfl)) rfl ?_
  refine L.val (x_add rfl rfl (wr64 (by omega))) rfl ?_
  refine L.set (v := .int _ _) kcount_sz3 rfl rfl rfl hb rfl (fun wl3 hb hw hzl3 => ?_)
  have hsz := hB.size
  have hB := hB.trans hw
  refine L.nil ?_
  refine thn_n ?_
  refine W.seq ?_
  refine W.region ?_
  refine L.val (x_ld (v := .int _ _) kcount_oc3 rfl (hb.cell (i := 0) rfl)) rfl ?_
  refine L.val (x_gtr rfl rfl) rfl ?_
  refine L.nil ?_
  refine thn_n ?_
  refine W.cond (b := _) rfl (fun g4 => ?_) (fun g4 => ?_)
  ·have h4 := of_decide_eq_true g4
   refine W.region ?_
   refine L.val (x_build (cells := []) kcount_si126 rfl rfl) rfl ?_
   refine L.val (x_iface Tryz.underlying126 rfl rfl) rfl ?_
   refine L.panic rfl ?_
   exact finC_pan ⟨hB, .inr ⟨by omega, rfl, by rw [show (401 : Int) = n + 1 by omega]; exact hb⟩⟩
  ·have h4 := dlt_f g4
   refine W.skip ?_
   refine finC_end ?_
   exact ⟨hB, .inl ⟨by omega, rfl, hb⟩⟩
theorem walk_ok : ∀ (N : Nat) (s : Sh), SizeOf.sizeOf s < N → ∀ (A : Nat → Prop) (cs : List Value) (b n : Nat) (lv : Int) (w : World), A b → n ≤ 400 → 0 ≤ lv → lv ≤ n + 1 → ShC A w cs s → Box w b 3 [.int .i64 (n : Nat)] →
    Calls Tryz.prog 145 #[.agg cs.toArray, .int .i64 lv, .func (.func 146) #[] #[.pointer (some ⟨b, 0, none⟩)]] w (Cnt b n s.size (.int .i64 (lv + s.deep - 1)) w) := by
  intro N
  induction N with
  | zero => intro s h; omega
  | succ N ih =>
    intro s hN A cs b n lv w hA hn hl0 hl1 hs hb
    obtain ⟨A1, hs, hA1, hU⟩ : ∃ A1 : Nat → Prop, ShC A1 w cs s ∧ (∀ k, A k → A1 k) ∧ (∀ k, w.heap.size ≤ k → A1 k) := ⟨_, hs.up, fun _ => .inl, fun _ => .inr⟩
    replace hA := hA1 _ hA
    clear hA1
    obtain ⟨vn, vp, rfl, hvn, hp, hof, hnm⟩ := hs.inv
    obtain ⟨p, cap, row, rfl, p1, p2, p3, hr⟩ := hp
    have hbl := hb.lt
    have hone := hs.one
    refine calls_of_W Tryz.func145 rfl (Nat.le_of_ble_eq_true rfl) (res1 rfl) ?_
    have hB := Gr.refl (· = b) w
    refine W.seq ?_
    refine W.region ?_
    refine L.box (cs := _) rfl rfl (fun w3 bx3 hw hz3 => ?_)
    have hB := hB.carry hw; have hb := hb.carry hw; have hr := hr.carry hw
    refine L.val (x_as (v := .int _ _) rfl) rfl ?_
    refine L.nil ?_
    refine thn_n ?_
    refine W.seq ?_
    refine W.region ?_
    refine L.val (x_mv (v := _) rfl) rfl ?_
    refine L.call (x_callv kcount_en146 rfl rfl) rfl (meet_ok b n hn _ hb) ?_ ?_ ?_
    ·intro c w' h
     obtain ⟨g, h1, rfl, h3⟩ := h.pan
     exact thn_p <| finC_pan ⟨hB.trans g, .inr ⟨by have := Sh.size_eq s; omega, rfl, h3⟩⟩
    ·exact fun w' h => h.out
    rintro _ w11 hcnt
    obtain ⟨hw, hn1, rfl, hb⟩ := hcnt.ret
    have hB := hB.trans hw
    have hr := hr.carryR hw (fun k e => by cases e; exact hA)
    have bx3 := bx3.carryR hw (by omega)
    refine L.nil ?_
    refine thn_n ?_
    refine W.seq ?_
    refine W.region ?_
    refine L.val (x_mv (v := .int _ _) rfl) rfl ?_
    refine L.val (x_as (v := .int _ _) rfl) rfl ?_
    refine L.nil ?_
    refine thn_n ?_
    refine W.seq ?_
    refine W.seq ?_
    refine W.region ?_
    refine L.val (x_fa kcount_fo25_4 rfl) rfl ?_
    refine L.val (x_ld (v := .slice _ _ _) kcount_oc23 rfl (bx3.cell0 rfl)) rfl ?_
    refine L.val (x_len_slice Tryz.underlying23 rfl) rfl ?_
    refine L.val (x_mv (v := .int _ _) rfl) rfl ?_
    refine L.nil ?_
    refine thn_n ?_
    refine W.block ?_
    refine W.loop (fun m' E w' => Gr (· = b) w w' ∧ ShRow A1 w' p row s.parts ∧ ∃ k : Nat, k ≤ s.parts.length ∧ m' = s.parts.length - k ∧ Box w' b 3 [.int .i64 ((n + 1 + sizeL (s.parts.take k) : Nat) : Int)] ∧ n + 1 + sizeL (s.parts.take k) ≤ 400 ∧ E 16 = .int .i64 (k : Nat) ∧ E 15 = .int .i64 (s.parts.length : Nat) ∧ E 14 = .slice p s.parts.length cap ∧ E 7 = .int .i64 (lv + (deepL (s.parts.take k) : Nat)) ∧ E 1 = .int .i64 lv ∧ E 2 = .func (.func 146) #[] #[.pointer (some ⟨b, 0, none⟩)]) (s.parts.length) ?_ ?_
    ·refine ⟨hB, hr, 0, by omega, rfl, ?_, ?_, rfl, rfl, rfl, vi (by simp [deepL]), rfl, rfl⟩
     · simpa [sizeL] using hb
     · simpa [sizeL] using hn1
    ·rintro m' E w0 ⟨hB, hr, k, hk, rfl, hb, hnk, e16, e15, e14, e7, e1, e2⟩
     rw [upd_self e16, upd_self e15, upd_self e14, upd_self e7, upd_self e1, upd_self e2]
     have hbl := hb.lt
     refine W.seq ?_
     refine W.region ?_
     refine L.val (x_lss rfl rfl) rfl ?_
     refine L.nil ?_
     refine thn_n ?_
     refine W.seq ?_
     refine W.cond (b := _) rfl (fun g17 => ?_) (fun g17 => ?_)
     ·have h17 := of_decide_eq_true g17
      have hlt : k < s.parts.length := by omega
      obtain ⟨bb, o, rfl, hc⟩ := hr.elem hlt
      have hst := sizeL_take hlt
      have hdt := deepL_take hlt
      have hsz0 := hB.size
      have hdl := deepL_le (s.parts.take k)
      have hdp := Sh.deep_le (s.parts.getD k default)
      have hb0 : b ≠ w0.heap.size := by omega
      refine W.skip ?_
      refine thn_n ?_
      refine W.seq ?_
      refine W.block ?_
      refine W.seq ?_
      refine W.region ?_
      refine L.val (x_ia  Tryz.underlying23 kcount_sz25 rfl rfl rfl (by omega)) rfl ?_
      refine L.val (x_ldn (vs := row k) kcount_ag25 rfl (hr.five k hlt) hc) rfl ?_
      refine L.alloc (cs := [Value.int .i64 0, S [], S [], Value.slice none 0 0, Value.slice none 0 0]) kcount_zr25 rfl rfl (fun w9 bx9 hw hz9 => ?_)
      have hB := hB.carry hw; have hb := hb.carry hw; have hr := hr.carry hw
      have bx9 := bx9
      refine L.setRow kcount_ag25 rfl rfl bx9 rfl (hr.five k hlt) (hr.each k hlt).one (fun wl15 bx9 hw hzl15 => ?_)
      have hsz := hB.size
      have hb := hb.carryR hw (by omega); have hr := hr.carryR hw (fun k e => hU k (by have : k = _ := e; omega))
      have hB := hB.set hw (by omega)
      refine L.nil ?_
      refine thn_n ?_
      refine W.region ?_
      refine L.val (x_mv (v := .int _ _) rfl) rfl ?_
      refine L.val (x_ldn (vs := row k) kcount_ag25 rfl (hr.five k hlt) (bx9.row (hr.five k hlt))) rfl ?_
      refine L.val (x_mv (v := .int _ _) rfl) rfl ?_
      refine L.val (x_add rfl rfl (wr64 (by omega))) rfl ?_
      refine L.val (x_mv (v := _) rfl) rfl ?_
      refine L.call (x_call kcount_en145 rfl) rfl (ih _ (by have := Sh.part_lt hlt; omega) A1 _ b (n + 1 + sizeL (s.parts.take k)) (lv + 1) _ hA hnk (by omega) (by omega) (hr.each k hlt) hb) ?_ ?_ ?_
      ·intro c w' h
       obtain ⟨g, h1, rfl, h3⟩ := h.pan
       exact blk_p <| thn_p <| thn_p <| blk_p <| thn_p <| finC_pan ⟨hB.trans g, .inr ⟨by have := Sh.size_eq s; have := sizeL_le (l := s.parts) (k := k + 1); omega, rfl, h3⟩⟩
      ·exact fun w' h => h.out
      rintro _ w25 hcnt
      obtain ⟨hw, hn2, rfl, hb⟩ := hcnt.ret
      have hB := hB.trans hw
      have hr := hr.carryR hw (fun k e => by cases e; exact hA)
      refine L.val (x_max rfl rfl) rfl ?_
      refine L.val (x_as (v := .int _ _) rfl) rfl ?_
      refine L.nil ?_
      refine blk_n ?_
      refine thn_n ?_
      refine W.region ?_
      refine L.val (x_add rfl rfl (wr64 (by omega))) rfl ?_
      refine L.val (x_mv (v := .int _ _) rfl) rfl ?_
      refine L.nil ?_
      refine thn_n ⟨rfl, ?_⟩
      refine ⟨s.parts.length - (k + 1), by omega, hB, hr, k + 1, by omega, rfl, ?_, by omega, rfl, rfl, rfl, vi (by rw [hdt]; omega), rfl, rfl⟩
      rw [hst, ← Nat.add_assoc]; exact hb
     ·have h17 := dlt_f g17
      refine W.exit (thn_x (thn_x (blk_hit ?_)))
      refine thn_n ?_
      refine W.seq ?_
      refine W.region ?_
      refine L.val (x_mv (v := .int _ _) rfl) rfl ?_
      refine L.val (x_as (v := .int _ _) rfl) rfl ?_
      refine L.nil ?_
      refine thn_n ?_
      refine W.ret (finC_ret ?_)
      rw [List.take_of_length_le (by omega)] at hb hnk
      refine ⟨hB, .inl ⟨by rw [Sh.size_eq]; omega, ?_, by rw [Sh.size_eq, ← Nat.add_assoc]; exact hb⟩⟩
      refine congrArg Ending.returned (vi ?_)
      rw [List.take_of_length_le (by omega), Sh.deep_eq]; omega
theorem idle_ok (p q r : Nat) (w : World) :
    CallsD Tryz.prog 144 #[.pointer (some ⟨p, 0, none⟩), .pointer (some ⟨q, 0, none⟩), .pointer (some ⟨r, 0, none⟩)] .returning w fun e u' w' => e = .returned (.tuple #[]) ∧ u' = .returning ∧ w' = w := by
  refine callsD_of_W (u' := .returning) Tryz.func144 rfl (fun c₀ cs Q hu hQ => rec_region (E := env0 [.pointer (some ⟨p, 0, none⟩), .pointer (some ⟨q, 0, none⟩), .pointer (some ⟨r, 0, none⟩)]) (v := .nilIface) (.inr ⟨by simp [recoverD, hu], ?_, rfl⟩) (fr0 (Nat.le_of_ble_eq_true rfl)) rfl rfl hQ) rfl ?_
  · cases c₀; cases hu; rfl
  refine W.seq ?_
  refine W.region ?_
  refine L.val (x_mv (v := _) rfl) rfl ?_
  refine L.val (x_nei0 Tryz.underlying20 rfl) rfl ?_
  refine L.nil ?_
  refine thn_n ?_
  refine W.cond (b := _) rfl (fun g8 => ?_) (fun g8 => ?_)
  ·have h8 := g8
   cases g8
  ·have h8 := g8
   refine W.skip ?_
   refine finC_end ?_
   exact ⟨rfl, rfl, rfl⟩
theorem catch_ok (p q r : Nat) (hpq : p ≠ q) (hpr : p ≠ r) (hqr : q ≠ r) (w : World) (x y : Value) (z : Value) (hp : Box w p 3 [x]) (hq : Box w q 3 [y]) (hr : Box w r 4 [z]) :
    CallsD Tryz.prog 144 #[.pointer (some ⟨p, 0, none⟩), .pointer (some ⟨q, 0, none⟩), .pointer (some ⟨r, 0, none⟩)] (.panicking fullP) w fun e u' w' =>
      e = .returned (.tuple #[]) ∧ u' = .panicking [{ v := .iface 126 (.agg #[]), recovered := true }] ∧ Gr (fun k => k = p ∨ k = q ∨ k = r) w w' ∧ Box w' p 3 [.int .i64 401] ∧ Box w' q 3 [.int .i64 0] ∧ Box w' r 4 [.bool false] := by
  have hpl := hp.lt
  have hql := hq.lt
  have hrl := hr.lt
  refine callsD_of_W (u' := .panicking [{ v := .iface 126 (.agg #[]), recovered := true }]) Tryz.func144 rfl (fun c₀ cs Q hu hQ => rec_region (E := env0 [.pointer (some ⟨p, 0, none⟩), .pointer (some ⟨q, 0, none⟩), .pointer (some ⟨r, 0, none⟩)]) (v := .iface 126 (.agg #[])) (.inl (by simp [recoverD, hu, fullP])) (fr0 (Nat.le_of_ble_eq_true rfl)) rfl rfl hQ) rfl ?_
  have hB := Gr.refl (fun k => k = p ∨ k = q ∨ k = r) w
  refine W.seq ?_
  refine W.region ?_
  refine L.val (x_mv (v := _) rfl) rfl ?_
  refine L.val (x_nei Tryz.underlying20 rfl) rfl ?_
  refine L.nil ?_
  refine thn_n ?_
  refine W.cond (b := _) rfl (fun g8 => ?_) (fun g8 => ?_)
  ·have h8 := g8
   refine W.seq ?_
   refine W.seq ?_
   refine W.region ?_
   refine L.val (x_mv (v := _) rfl) rfl ?_
   refine L.val (x_tas Tryz.underlying126 rfl rfl) rfl ?_
   refine L.val (x_mv (v := _) rfl) rfl ?_
   refine L.val (x_ext (v := _) rfl rfl) rfl ?_
   refine L.val (x_ext (v := .bool _) rfl rfl) rfl ?_
   refine L.alloc (cs := []) kcount_zr126 rfl rfl (fun w4 bx4 hw hz4 => ?_)
   have hB := hB.carry hw; have hp := hp.carry hw; have hq := hq.carry hw; have hr := hr.carry hw
   refine L.setRow kcount_ag126 rfl rfl bx4 rfl rfl (by simp) (fun wl11 bx4 hw hzl11 => ?_)
   have hsz := hB.size
   have hp := hp.carryR hw (by omega); have hq := hq.carryR hw (by omega); have hr := hr.carryR hw (by omega)
   have hB := hB.set hw (by omega)
   refine L.val (x_as (v := .bool _) rfl) rfl ?_
   refine L.nil ?_
   refine thn_n ?_
   refine W.seq ?_
   refine W.region ?_
   refine L.val (x_mv (v := .bool _) rfl) rfl ?_
   refine L.val (x_not rfl) rfl ?_
   refine L.nil ?_
   refine thn_n ?_
   refine W.cond (b := _) rfl (fun g15 => ?_) (fun g15 => ?_)
   ·have h15 := (not_t g15)
    cases g15
   ·have h15 := (not_f g15)
    refine W.skip ?_
    refine thn_n ?_
    refine W.region ?_
    refine L.set (v := .int _ _) kcount_sz3 rfl rfl rfl hp rfl (fun wl17 hp hw hzl17 => ?_)
    have hsz := hB.size
    have hq := hq.carryR hw (by omega); have hr := hr.carryR hw (by omega); have bx4 := bx4.carryR hw (by omega)
    have hB := hB.trans (hw.mono fun k _ e => .inl e)
    refine L.set (v := .int _ _) kcount_sz3 rfl rfl rfl hq rfl (fun wl18 hq hw hzl18 => ?_)
    have hsz := hB.size
    have hp := hp.carryR hw (by omega); have hr := hr.carryR hw (by omega); have bx4 := bx4.carryR hw (by omega)
    have hB := hB.trans (hw.mono fun k _ e => .inr (.inl e))
    refine L.set (v := .bool _) kcount_sz4 rfl rfl rfl hr rfl (fun wl19 hr hw hzl19 => ?_)
    have hsz := hB.size
    have hp := hp.carryR hw (by omega); have hq := hq.carryR hw (by omega); have bx4 := bx4.carryR hw (by omega)
    have hB := hB.trans (hw.mono fun k _ e => .inr (.inr e))
    refine L.nil ?_
    refine finC_end ?_
    exact ⟨rfl, rfl, hB, hp, hq, hr⟩
  ·have h8 := g8
   cases g8
def cntS (s : Sh) : Value := if s.size ≤ 400 then .tuple #[.int .i64 (s.size : Nat), .int .i64 (s.deep : Nat), .bool true] else .tuple #[.int .i64 401, .int .i64 0, .bool false]
theorem count_ok (A : Nat → Prop) (s : Sh) (cs : List Value) (w : World) (hs : ShC A w cs s) :
    Ret Tryz.prog 99 #[.agg cs.toArray] w fun v w' => v = cntS s ∧ Bel w w' := by
  obtain ⟨A1, hs, hA1, hU⟩ : ∃ A1 : Nat → Prop, ShC A1 w cs s ∧ (∀ k, A k → A1 k) ∧ (∀ k, w.heap.size ≤ k → A1 k) := ⟨_, hs.up, fun _ => .inl, fun _ => .inr⟩
  clear hA1
  have hlen := hs.len
  refine calls_of_W_defers Tryz.func99 rfl (Nat.le_of_ble_eq_true rfl) ?_
  have hB := Gr.refl (fun _ => False) w
  refine W.seq ?_
  refine W.region ?_
  refine L.box (cs := cs) rfl rfl (fun w1 bx1 hw hz1 => ?_)
  have hB := hB.carry hw; have hs := hs.carry hw
  refine L.alloc (cs := [Value.int .i64 0]) kcount_zr3 rfl rfl (fun w2 bx2 hw hz2 => ?_)
  have hB := hB.carry hw; have hs := hs.carry hw; have bx1 := bx1.carry hw
  refine L.alloc (cs := [Value.int .i64 0]) kcount_zr3 rfl rfl (fun w3 bx3 hw hz3 => ?_)
  have hB := hB.carry hw; have hs := hs.carry hw; have bx1 := bx1.carry hw; have bx2 := bx2.carry hw
  refine L.alloc (cs := [Value.bool false]) kcount_zr4 rfl rfl (fun w4 bx4 hw hz4 => ?_)
  have hB := hB.carry hw; have hs := hs.carry hw; have bx1 := bx1.carry hw; have bx2 := bx2.carry hw; have bx3 := bx3.carry hw
  have hsz := hB.size
  refine L.nil ?_
  refine thn_n ?_
  refine W.seq ?_
  refine W.region ?_
  refine L.val (x_mkfn rfl rfl) rfl ?_
  refine L.defer rfl rfl ?_
  refine L.nil ?_
  refine thn_n ?_
  refine W.seq ?_
  refine W.region ?_
  refine L.val (x_ldn (vs := cs) kcount_ag25 rfl hlen (bx1.row hlen)) rfl ?_
  refine L.val (x_mkfn rfl rfl) rfl ?_
  refine L.call (x_call kcount_en145 rfl) rfl (walk_ok _ s (Nat.lt_succ_self _) A1 _ w1.heap.size 0 1 _ (hU _ (by omega)) (by omega) (by omega) (by omega) hs bx2) ?_ ?_ ?_
  ·intro c w' h
   obtain ⟨g, h1, rfl, h3⟩ := h.pan
   have bx3 := bx3.carryR g (by omega)
   have bx4 := bx4.carryR g (by omega)
   have hB := hB.set g (by omega)
   refine thn_p <| fun a ha => ?_
   refine leaves_cons (f := 144) (by simp) (kcount_en144 _ _) ?_
   refine (catch_ok w1.heap.size w2.heap.size w3.heap.size (by omega) (by omega) (by omega) _ _ _ _ h3 bx3 bx4).mono ?_
   rintro e u' w2 ⟨rfl, rfl, g2, k1, k2, k3⟩
   have hB := hB.step g2 (fun i hi e => by omega)
   exact ⟨_, resc3 rfl kcount_oc3 kcount_oc3 kcount_oc4 (ha.get 2) (ha.get 3) (ha.get 4) (k1.cell (i := 0) rfl) (k2.cell (i := 0) rfl) (k3.cell (i := 0) rfl), _, rfl, by unfold cntS; rw [if_neg (by omega)], hB⟩
  ·exact fun w' h => h.out
  rintro _ w8 hcnt
  obtain ⟨hw, hn2, rfl, bx2⟩ := hcnt.ret
  have bx3 := bx3.carryR hw (by omega)
  have bx4 := bx4.carryR hw (by omega)
  have bx1 := bx1.carryR hw (by omega)
  have hB := hB.set hw (by omega)
  have hs := hs.carryR hw (fun k e => hU k (by have : k = _ := e; omega))
  refine L.set (v := .int _ _) kcount_sz3 rfl rfl rfl bx3 rfl (fun wl10 bx3 hw hzl10 => ?_)
  have hsz := hB.size
  have hB := hB.set hw (by omega); have hs := hs.carryR hw (fun k e => hU k (by have : k = _ := e; omega)); have bx1 := bx1.carryR hw (by omega); have bx2 := bx2.carryR hw (by omega); have bx4 := bx4.carryR hw (by omega)
  refine L.nil ?_
  refine thn_n ?_
  refine W.seq ?_
  refine W.drawA kcount_mixed ?_
  have hB := hB.carry (bel_drew _); have hs := hs.carry (bel_drew _); have bx1 := bx1.carry (bel_drew _); have bx2 := bx2.carry (bel_drew _); have bx3 := bx3.carry (bel_drew _); have bx4 := bx4.carry (bel_drew _)
  refine LA.step (rs := [0, 1]) (by kernel_rfl) (by simp) ⟨⟨_, rfl, ?_⟩, ⟨_, rfl, ?_⟩, trivial⟩
  ·refine L.val (x_ld (v := .int _ _) kcount_oc3 rfl (bx2.cell (i := 0) rfl)) rfl ?_
   refine L.nil ?_
   refine thn_n ?_
   refine LA.step (rs := [1, 2]) (by kernel_rfl) (by simp) ⟨⟨_, rfl, ?_⟩, ⟨_, rfl, ?_⟩, trivial⟩
   ·refine L.val (x_ld (v := .int _ _) kcount_oc3 rfl (bx3.cell (i := 0) rfl)) rfl ?_
    refine L.nil ?_
    refine thn_n ?_
    refine LA.step (rs := [2]) (by kernel_rfl) (by simp) ⟨⟨_, rfl, ?_⟩, trivial⟩
    ·refine L.set (v := .int _ _) kcount_sz3 rfl rfl rfl bx2 rfl (fun wl13 bx2 hw hzl13 => ?_)
     have hsz := hB.size
     have hB := hB.set hw (by omega); have hs := hs.carryR hw (fun k e => hU k (by have : k = _ := e; omega)); have bx1 := bx1.carryR hw (by omega); have bx3 := bx3.carryR hw (by omega); have bx4 := bx4.carryR hw (by omega)
     refine L.nil ?_
     refine thn_n ?_
     refine LA.step (rs := [3]) (by kernel_rfl) (by simp) ⟨⟨_, rfl, ?_⟩, trivial⟩
     ·refine L.set (v := .int _ _) kcount_sz3 rfl rfl rfl bx3 rfl (fun wl14 bx3 hw hzl14 => ?_)
      have hsz := hB.size
      have hB := hB.set hw (by omega); have hs := hs.carryR hw (fun k e => hU k (by have : k = _ := e; omega)); have bx1 := bx1.carryR hw (by omega); have bx2 := bx2.carryR hw (by omega); have bx4 := bx4.carryR hw (by omega)
      refine L.nil ?_
      refine thn_n ?_
      refine LA.step (rs := [4]) (by kernel_rfl) (by simp) ⟨⟨_, rfl, ?_⟩, trivial⟩
      ·refine L.set (v := .bool _) kcount_sz4 rfl rfl rfl bx4 rfl (fun wl15 bx4 hw hzl15 => ?_)
       have hsz := hB.size
       have hB := hB.set hw (by omega); have hs := hs.carryR hw (fun k e => hU k (by have : k = _ := e; omega)); have bx1 := bx1.carryR hw (by omega); have bx2 := bx2.carryR hw (by omega); have bx3 := bx3.carryR hw (by omega)
       refine L.nil ?_
       refine thn_n ?_
       refine LA.done (by kernel_rfl) ?_
       refine thn_n ?_
       refine W.ret (?_)
       intro a ha
       refine leaves_cons (f := 144) (by simp) (kcount_en144 _ _) ?_
       refine (idle_ok w1.heap.size w2.heap.size w3.heap.size _).mono ?_
       rintro e u' w2 ⟨rfl, rfl, rfl⟩
       refine ⟨_, resc3 rfl kcount_oc3 kcount_oc3 kcount_oc4 (ha.get 2) (ha.get 3) (ha.get 4) (bx2.cell (i := 0) rfl) (bx3.cell (i := 0) rfl) (bx4.cell (i := 0) rfl), _, rfl, ?_, hB⟩
       unfold cntS; rw [if_pos (by omega)]
       have e1 : (0 : Nat) + s.size = s.size := by omega
       have e2 : (1 : Int) + (s.deep : Int) - 1 = s.deep := by omega
       rw [e1, e2]
   ·refine L.set (v := .int _ _) kcount_sz3 rfl rfl rfl bx2 rfl (fun wl13 bx2 hw hzl13 => ?_)
    have hsz := hB.size
    have hB := hB.set hw (by omega); have hs := hs.carryR hw (fun k e => hU k (by have : k = _ := e; omega)); have bx1 := bx1.carryR hw (by omega); have bx3 := bx3.carryR hw (by omega); have bx4 := bx4.carryR hw (by omega)
    refine L.nil ?_
    refine thn_n ?_
    refine LA.step (rs := [1]) (by kernel_rfl) (by simp) ⟨⟨_, rfl, ?_⟩, trivial⟩
    ·refine L.val (x_ld (v := .int _ _) kcount_oc3 rfl (bx3.cell (i := 0) rfl)) rfl ?_
     refine L.nil ?_
     refine thn_n ?_
     refine LA.step (rs := [3]) (by kernel_rfl) (by simp) ⟨⟨_, rfl, ?_⟩, trivial⟩
     ·refine L.set (v := .int _ _) kcount_sz3 rfl rfl rfl bx3 rfl (fun wl14 bx3 hw hzl14 => ?_)
      have hsz := hB.size
      have hB := hB.set hw (by omega); have hs := hs.carryR hw (fun k e => hU k (by have : k = _ := e; omega)); have bx1 := bx1.carryR hw (by omega); have bx2 := bx2.carryR hw (by omega); have bx4 := bx4.carryR hw (by omega)
      refine L.nil ?_
      refine thn_n ?_
      refine LA.step (rs := [4]) (by kernel_rfl) (by simp) ⟨⟨_, rfl, ?_⟩, trivial⟩
      ·refine L.set (v := .bool _) kcount_sz4 rfl rfl rfl bx4 rfl (fun wl15 bx4 hw hzl15 => ?_)
       have hsz := hB.size
       have hB := hB.set hw (by omega); have hs := hs.carryR hw (fun k e => hU k (by have : k = _ := e; omega)); have bx1 := bx1.carryR hw (by omega); have bx2 := bx2.carryR hw (by omega); have bx3 := bx3.carryR hw (by omega)
       refine L.nil ?_
       refine thn_n ?_
       refine LA.done (by kernel_rfl) ?_
       refine thn_n ?_
       refine W.ret (?_)
       intro a ha
       refine leaves_cons (f := 144) (by simp) (kcount_en144 _ _) ?_
       refine (idle_ok w1.heap.size w2.heap.size w3.heap.size _).mono ?_
       rintro e u' w2 ⟨rfl, rfl, rfl⟩
       refine ⟨_, resc3 rfl kcount_oc3 kcount_oc3 kcount_oc4 (ha.get 2) (ha.get 3) (ha.get 4) (bx2.cell (i := 0) rfl) (bx3.cell (i := 0) rfl) (bx4.cell (i := 0) rfl), _, rfl, ?_, hB⟩
       unfold cntS; rw [if_pos (by omega)]
       have e1 : (0 : Nat) + s.size = s.size := by omega
       have e2 : (1 : Int) + (s.deep : Int) - 1 = s.deep := by omega
       rw [e1, e2]
  ·refine L.val (x_ld (v := .int _ _) kcount_oc3 rfl (bx3.cell (i := 0) rfl)) rfl ?_
   refine L.nil ?_
   refine thn_n ?_
   refine LA.step (rs := [0]) (by kernel_rfl) (by simp) ⟨⟨_, rfl, ?_⟩, trivial⟩
   ·refine L.val (x_ld (v := .int _ _) kcount_oc3 rfl (bx2.cell (i := 0) rfl)) rfl ?_
    refine L.nil ?_
    refine thn_n ?_
    refine LA.step (rs := [2]) (by kernel_rfl) (by simp) ⟨⟨_, rfl, ?_⟩, trivial⟩
    ·refine L.set (v := .int _ _) kcount_sz3 rfl rfl rfl bx2 rfl (fun wl13 bx2 hw hzl13 => ?_)
     have hsz := hB.size
     have hB := hB.set hw (by omega); have hs := hs.carryR hw (fun k e => hU k (by have : k = _ := e; omega)); have bx1 := bx1.carryR hw (by omega); have bx3 := bx3.carryR hw (by omega); have bx4 := bx4.carryR hw (by omega)
     refine L.nil ?_
     refine thn_n ?_
     refine LA.step (rs := [3]) (by kernel_rfl) (by simp) ⟨⟨_, rfl, ?_⟩, trivial⟩
     ·refine L.set (v := .int _ _) kcount_sz3 rfl rfl rfl bx3 rfl (fun wl14 bx3 hw hzl14 => ?_)
      have hsz := hB.size
      have hB := hB.set hw (by omega); have hs := hs.carryR hw (fun k e => hU k (by have : k = _ := e; omega)); have bx1 := bx1.carryR hw (by omega); have bx2 := bx2.carryR hw (by omega); have bx4 := bx4.carryR hw (by omega)
      refine L.nil ?_
      refine thn_n ?_
      refine LA.step (rs := [4]) (by kernel_rfl) (by simp) ⟨⟨_, rfl, ?_⟩, trivial⟩
      ·refine L.set (v := .bool _) kcount_sz4 rfl rfl rfl bx4 rfl (fun wl15 bx4 hw hzl15 => ?_)
       have hsz := hB.size
       have hB := hB.set hw (by omega); have hs := hs.carryR hw (fun k e => hU k (by have : k = _ := e; omega)); have bx1 := bx1.carryR hw (by omega); have bx2 := bx2.carryR hw (by omega); have bx3 := bx3.carryR hw (by omega)
       refine L.nil ?_
       refine thn_n ?_
       refine LA.done (by kernel_rfl) ?_
       refine thn_n ?_
       refine W.ret (?_)
       intro a ha
       refine leaves_cons (f := 144) (by simp) (kcount_en144 _ _) ?_
       refine (idle_ok w1.heap.size w2.heap.size w3.heap.size _).mono ?_
       rintro e u' w2 ⟨rfl, rfl, rfl⟩
       refine ⟨_, resc3 rfl kcount_oc3 kcount_oc3 kcount_oc4 (ha.get 2) (ha.get 3) (ha.get 4) (bx2.cell (i := 0) rfl) (bx3.cell (i := 0) rfl) (bx4.cell (i := 0) rfl), _, rfl, ?_, hB⟩
       unfold cntS; rw [if_pos (by omega)]
       have e1 : (0 : Nat) + s.size = s.size := by omega
       have e2 : (1 : Int) + (s.deep : Int) - 1 = s.deep := by omega
       rw [e1, e2]
end Go.Gx
