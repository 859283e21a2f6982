/- The reference's equality of types. Conditions: none. -/
import Derived.Test.YteehllhldaopjaaGdSh
namespace Go.Gx
open Go.Proofs
theorem keq_ag25 : aggT Try.prog 25 5 = true := by kernel_rfl
theorem keq_en27 : Go.Proofs.Enters Try.prog 27 := Go.Proofs.enters_of Try.func27 (by kernel_rfl) rfl
theorem keq_fo25_0 : fieldOff Try.prog 25 0 = some 0 := by kernel_rfl
theorem keq_fo25_1 : fieldOff Try.prog 25 1 = some 1 := by kernel_rfl
theorem keq_fo25_2 : fieldOff Try.prog 25 2 = some 2 := by kernel_rfl
theorem keq_fo25_3 : fieldOff Try.prog 25 3 = some 3 := by kernel_rfl
theorem keq_fo25_4 : fieldOff Try.prog 25 4 = some 4 := by kernel_rfl
theorem keq_mixed : Try.prog.follows .mixedOrders = true := by kernel_rfl
theorem keq_oc22 : oneCellT Try.prog 22 = true := by kernel_rfl
theorem keq_oc23 : oneCellT Try.prog 23 = true := by kernel_rfl
theorem keq_oc3 : oneCellT Try.prog 3 = true := by kernel_rfl
theorem keq_oc9 : oneCellT Try.prog 9 = true := by kernel_rfl
theorem keq_sz25 : (Try.prog.info? 25).map (·.size) = some 5 := by kernel_rfl
theorem keq_sz9 : (Try.prog.info? 9).map (·.size) = some 1 := by kernel_rfl
open Classical in
noncomputable def eqS (a b : Sh) : Bool := decide (a = b)
theorem eqS_t {a b : Sh} (h : a = b) : eqS a b = true := by unfold eqS; simpa using h
theorem eqS_f {a b : Sh} (h : a ≠ b) : eqS a b = false := by unfold eqS; simpa using h
theorem eqS_iff {a b : Sh} : eqS a b = true ↔ a = b := by unfold eqS; simp
theorem Sh.ext {a b : Sh} (h1 : a.kind = b.kind) (h2 : a.of = b.of) (h3 : a.name = b.name) (h4 : a.names = b.names) (h5 : a.parts = b.parts) : a = b := by
  cases a; cases b; simp only [Sh.kind, Sh.of, Sh.name, Sh.names, Sh.parts] at *; subst h1 h2 h3 h4 h5; rfl
theorem take_eq_snoc {α : Type} {d : α} {l m : List α} {k : Nat} (hl : k < l.length) (hm : k < m.length) (h : l.take k = m.take k) (he : l.getD k d = m.getD k d) : l.take (k + 1) = m.take (k + 1) := by
  rw [List.getD_eq_getElem?_getD, List.getElem?_eq_getElem hl, Option.getD_some, List.getD_eq_getElem?_getD, List.getElem?_eq_getElem hm, Option.getD_some] at he
  rw [List.take_succ_eq_append_getElem hl, List.take_succ_eq_append_getElem hm, h, he]
theorem equal07 : ∀ (N : Nat) (a b : Sh), SizeOf.sizeOf a < N → ∀ (A A' : Nat → Prop) (cs ds : List Value) (w : World), ShC A w cs a → ShC A' w ds b →
    Ret Try.prog 27 #[.agg cs.toArray, .agg ds.toArray] w fun v w' => v = .bool (eqS a b) ∧ Bel w w' := by
  intro N
  induction N with
  | zero => intro a b h; omega
  | succ N ih =>
    intro a b hN A A' cs ds w ha hb
    obtain ⟨vn, vp, rfl, hna, hp, -⟩ := ha.inv
    obtain ⟨p, cap, row, rfl, p1, p2, p3, hra⟩ := hp
    obtain ⟨un, up, rfl, hnb, hq, -⟩ := hb.inv
    obtain ⟨q, qap, rox, rfl, q1, q2, q3, hrb⟩ := hq
    have hna' := hna
    obtain ⟨pn, capn, rfl, -, -, pn3, -⟩ := hna'
    have hnb' := hnb
    obtain ⟨qn, qapn, rfl, -, -, qn3, -⟩ := hnb'
    refine ret_of_W Try.func27 rfl (Nat.le_of_ble_eq_true rfl) (res1 rfl) ?_
    have hB := Gr.refl (fun _ => False) w
    refine W.seq ?_
    refine W.region ?_
    refine L.box (cs := _) rfl rfl (fun w2 bx2 hw hz2 => ?_)
    have hB := hB.carry hw; have hra := hra.carry hw; have hrb := hrb.carry hw; have hna := hna.carry hw; have hnb := hnb.carry hw
    refine L.box (cs := _) rfl rfl (fun w3 bx3 hw hz3 => ?_)
    have hB := hB.carry hw; have hra := hra.carry hw; have hrb := hrb.carry hw; have hna := hna.carry hw; have hnb := hnb.carry hw; have bx2 := bx2.carry hw
    refine L.val (x_as (v := .bool _) rfl) rfl ?_
    refine L.nil ?_
    refine thn_n ?_
    refine W.seq ?_
    refine W.seq ?_
    refine W.region ?_
    refine L.val (x_fa keq_fo25_0 rfl) rfl ?_
    refine L.val (x_ld (v := .int _ _) keq_oc3 rfl (bx2.cell0 rfl)) rfl ?_
    refine L.val (x_fa keq_fo25_0 rfl) rfl ?_
    refine L.val (x_ld (v := .int _ _) keq_oc3 rfl (bx3.cell0 rfl)) rfl ?_
    refine L.val (x_neq rfl rfl) rfl ?_
    refine L.val (x_mv (v := .bool _) rfl) rfl ?_
    refine' L.group0 5 13 17 17 12 false rfl ?_ ?_ ?_
    rotate_left 1
    ·intro g12
     have h12 := dne_f g12
     refine L.gyes' (dj := 12) (b := _) rfl rfl g12 ?_
     refine L.val (x_fa keq_fo25_1 rfl) rfl ?_
     refine L.gyes' (dj := 12) (b := _) rfl rfl g12 ?_
     refine L.val (x_ld (v := S _) keq_oc9 rfl (bx2.cell0 rfl)) rfl ?_
     refine L.gyes' (dj := 12) (b := _) rfl rfl g12 ?_
     refine L.val (x_fa keq_fo25_1 rfl) rfl ?_
     refine L.gyes' (dj := 12) (b := _) rfl rfl g12 ?_
     refine L.val (x_ld (v := S _) keq_oc9 rfl (bx3.cell0 rfl)) rfl ?_
     refine L.gyes' (dj := 12) (b := _) rfl rfl g12 ?_
     refine L.val (x_nes rfl rfl) rfl ?_
     refine L.nil ?_
     refine thn_n ⟨rfl, rfl, ?_, rfl⟩
     repeat (first | exact jeq.refl _ _ _ | refine jeq.upd rfl ?_ | refine jeq.jk rfl rfl ?_)
    ·intro g12
     refine L.gno (dj := 12) (b := _) rfl rfl g12 rfl ?_
     refine L.gno (dj := 12) (b := _) rfl rfl g12 rfl ?_
     refine L.gno (dj := 12) (b := _) rfl rfl g12 rfl ?_
     refine L.gno (dj := 12) (b := _) rfl rfl g12 rfl ?_
     refine L.gno (dj := 12) (b := _) rfl rfl g12 rfl ?_
     refine L.nil (thn_n ⟨rfl, rfl, ?_⟩)
     repeat (first | exact jeq.refl _ _ _ | refine jeq.upd rfl ?_ | refine jeq.jk rfl rfl ?_)
    intro J12 j12
    refine L.val (x_or rfl j12) rfl ?_
    refine L.val (x_mv (v := .bool _) rfl) rfl ?_
    refine' L.group0 5 20 24 24 19 false rfl ?_ ?_ ?_
    rotate_left 1
    ·intro g19
     have h19 := g19
     refine L.gyes' (dj := 19) (b := _) rfl rfl g19 ?_
     refine L.val (x_fa keq_fo25_2 rfl) rfl ?_
     refine L.gyes' (dj := 19) (b := _) rfl rfl g19 ?_
     refine L.val (x_ld (v := S _) keq_oc9 rfl (bx2.cell0 rfl)) rfl ?_
     refine L.gyes' (dj := 19) (b := _) rfl rfl g19 ?_
     refine L.val (x_fa keq_fo25_2 rfl) rfl ?_
     refine L.gyes' (dj := 19) (b := _) rfl rfl g19 ?_
     refine L.val (x_ld (v := S _) keq_oc9 rfl (bx3.cell0 rfl)) rfl ?_
     refine L.gyes' (dj := 19) (b := _) rfl rfl g19 ?_
     refine L.val (x_nes rfl rfl) rfl ?_
     refine L.nil ?_
     refine thn_n ⟨rfl, rfl, ?_, rfl⟩
     repeat (first | exact jeq.refl _ _ _ | refine jeq.upd rfl ?_ | refine jeq.jk rfl rfl ?_)
    ·intro g19
     refine L.gno (dj := 19) (b := _) rfl rfl g19 rfl ?_
     refine L.gno (dj := 19) (b := _) rfl rfl g19 rfl ?_
     refine L.gno (dj := 19) (b := _) rfl rfl g19 rfl ?_
     refine L.gno (dj := 19) (b := _) rfl rfl g19 rfl ?_
     refine L.gno (dj := 19) (b := _) rfl rfl g19 rfl ?_
     refine L.nil (thn_n ⟨rfl, rfl, ?_⟩)
     repeat (first | exact jeq.refl _ _ _ | refine jeq.upd rfl ?_ | refine jeq.jk rfl rfl ?_)
    intro J19 j19
    refine L.val (x_or rfl j19) rfl ?_
    refine L.val (x_mv (v := .bool _) rfl) rfl ?_
    refine' L.group0 7 27 33 33 26 false rfl ?_ ?_ ?_
    rotate_left 1
    ·intro g26
     have h26 := g26
     refine L.gyes' (dj := 26) (b := _) rfl rfl g26 ?_
     refine L.val (x_fa keq_fo25_3 rfl) rfl ?_
     refine L.gyes' (dj := 26) (b := _) rfl rfl g26 ?_
     refine L.val (x_ld (v := .slice _ _ _) keq_oc22 rfl (bx2.cell0 rfl)) rfl ?_
     refine L.gyes' (dj := 26) (b := _) rfl rfl g26 ?_
     refine L.val (x_len_slice Try.underlying22 rfl) rfl ?_
     refine L.gyes' (dj := 26) (b := _) rfl rfl g26 ?_
     refine L.val (x_fa keq_fo25_3 rfl) rfl ?_
     refine L.gyes' (dj := 26) (b := _) rfl rfl g26 ?_
     refine L.val (x_ld (v := .slice _ _ _) keq_oc22 rfl (bx3.cell0 rfl)) rfl ?_
     refine L.gyes' (dj := 26) (b := _) rfl rfl g26 ?_
     refine L.val (x_len_slice Try.underlying22 rfl) rfl ?_
     refine L.gyes' (dj := 26) (b := _) rfl rfl g26 ?_
     refine L.val (x_neq rfl rfl) rfl ?_
     refine L.nil ?_
     refine thn_n ⟨rfl, rfl, ?_, rfl⟩
     repeat (first | exact jeq.refl _ _ _ | refine jeq.upd rfl ?_ | refine jeq.jk rfl rfl ?_)
    ·intro g26
     refine L.gno (dj := 26) (b := _) rfl rfl g26 rfl ?_
     refine L.gno (dj := 26) (b := _) rfl rfl g26 rfl ?_
     refine L.gno (dj := 26) (b := _) rfl rfl g26 rfl ?_
     refine L.gno (dj := 26) (b := _) rfl rfl g26 rfl ?_
     refine L.gno (dj := 26) (b := _) rfl rfl g26 rfl ?_
     refine L.gno (dj := 26) (b := _) rfl rfl g26 rfl ?_
     refine L.gno (dj := 26) (b := _) rfl rfl g26 rfl ?_
     refine L.nil (thn_n ⟨rfl, rfl, ?_⟩)
     repeat (first | exact jeq.refl _ _ _ | refine jeq.upd rfl ?_ | refine jeq.jk rfl rfl ?_)
    intro J26 j26
    refine L.val (x_or rfl j26) rfl ?_
    refine L.val (x_mv (v := .bool _) rfl) rfl ?_
    refine' L.group0 7 36 42 42 35 false rfl ?_ ?_ ?_
    rotate_left 1
    ·intro g35
     have h35 := g35
     refine L.gyes' (dj := 35) (b := _) rfl rfl g35 ?_
     refine L.val (x_fa keq_fo25_4 rfl) rfl ?_
     refine L.gyes' (dj := 35) (b := _) rfl rfl g35 ?_
     refine L.val (x_ld (v := .slice _ _ _) keq_oc23 rfl (bx2.cell0 rfl)) rfl ?_
     refine L.gyes' (dj := 35) (b := _) rfl rfl g35 ?_
     refine L.val (x_len_slice Try.underlying23 rfl) rfl ?_
     refine L.gyes' (dj := 35) (b := _) rfl rfl g35 ?_
     refine L.val (x_fa keq_fo25_4 rfl) rfl ?_
     refine L.gyes' (dj := 35) (b := _) rfl rfl g35 ?_
     refine L.val (x_ld (v := .slice _ _ _) keq_oc23 rfl (bx3.cell0 rfl)) rfl ?_
     refine L.gyes' (dj := 35) (b := _) rfl rfl g35 ?_
     refine L.val (x_len_slice Try.underlying23 rfl) rfl ?_
     refine L.gyes' (dj := 35) (b := _) rfl rfl g35 ?_
     refine L.val (x_neq rfl rfl) rfl ?_
     refine L.nil ?_
     refine thn_n ⟨rfl, rfl, ?_, rfl⟩
     repeat (first | exact jeq.refl _ _ _ | refine jeq.upd rfl ?_ | refine jeq.jk rfl rfl ?_)
    ·intro g35
     refine L.gno (dj := 35) (b := _) rfl rfl g35 rfl ?_
     refine L.gno (dj := 35) (b := _) rfl rfl g35 rfl ?_
     refine L.gno (dj := 35) (b := _) rfl rfl g35 rfl ?_
     refine L.gno (dj := 35) (b := _) rfl rfl g35 rfl ?_
     refine L.gno (dj := 35) (b := _) rfl rfl g35 rfl ?_
     refine L.gno (dj := 35) (b := _) rfl rfl g35 rfl ?_
     refine L.gno (dj := 35) (b := _) rfl rfl g35 rfl ?_
     refine L.nil (thn_n ⟨rfl, rfl, ?_⟩)
     repeat (first | exact jeq.refl _ _ _ | refine jeq.upd rfl ?_ | refine jeq.jk rfl rfl ?_)
    intro J35 j35
    refine L.val (x_or rfl j35) rfl ?_
    refine L.nil ?_
    refine thn_n ?_
    refine W.cond (b := _) rfl (fun g43 => ?_) (fun g43 => ?_)
    ·have h43 := g43
     refine W.seq ?_
     refine W.region ?_
     refine L.val (x_as (v := .bool _) rfl) rfl ?_
     refine L.nil ?_
     refine thn_n ?_
     refine W.ret (thn_r (fin_mk (.inr rfl) ?_))
     exact ⟨vb (Eq.symm (eqS_f (by
       rintro rfl
       simp at h43))), hB⟩
    ·have h43 := g43
     simp only [Bool.or_eq_false_iff, Bool.not_eq_false', decide_eq_true_eq, beq_iff_eq] at h43
     obtain ⟨⟨⟨⟨e1, e2⟩, e3⟩, e4⟩, e5⟩ := h43
     have b2lt := bx2.lt
     refine W.skip ?_
     refine thn_n ?_
     refine W.seq ?_
     refine W.seq ?_
     refine W.region ?_
     refine L.val (x_as (v := .int _ _) rfl) rfl ?_
     refine L.nil ?_
     refine thn_n ?_
     refine W.block ?_
     refine W.loop (fun m' E w' => Bel w w' ∧ ShRow A w' p row a.parts ∧ ShRow A' w' q rox b.parts ∧ StrsAt A w' (.slice pn a.names.length capn) a.names ∧ StrsAt A' w' (.slice qn b.names.length qapn) b.names ∧ Box w' w.heap.size 25 [.int .i64 a.kind, S a.of, S a.name, .slice pn a.names.length capn, .slice p a.parts.length cap] ∧ Box w' w2.heap.size 25 [.int .i64 b.kind, S b.of, S b.name, .slice qn b.names.length qapn, .slice q b.parts.length qap] ∧ ∃ k : Nat, k ≤ a.names.length ∧ m' = a.names.length - k ∧ E 5 = .int .i64 (k : Nat) ∧ E 2 = .pointer (some ⟨w.heap.size, 0, none⟩) ∧ E 3 = .pointer (some ⟨w2.heap.size, 0, none⟩) ∧ a.names.take k = b.names.take k) (a.names.length) ?_ ?_
     ·exact ⟨hB, hra, hrb, hna, hnb, bx2, bx3, 0, by omega, rfl, rfl, rfl, rfl, rfl⟩
     ·rintro m' E w0 ⟨hB, hra, hrb, hna, hnb, bx2, bx3, k, hk, rfl, e5', e2', e3', ht⟩
      rw [upd_self e5', upd_self e2', upd_self e3']
      refine W.seq ?_
      refine W.seq ?_
      refine W.region ?_
      refine L.val (x_mv (v := .int _ _) rfl) rfl ?_
      refine L.val (x_fa keq_fo25_3 rfl) rfl ?_
      refine L.val (x_ld (v := .slice _ _ _) keq_oc22 rfl (bx2.cell0 rfl)) rfl ?_
      refine L.val (x_len_slice Try.underlying22 rfl) rfl ?_
      refine L.val (x_lss rfl rfl) rfl ?_
      refine L.nil ?_
      refine thn_n ?_
      refine W.cond (b := _) rfl (fun g48 => ?_) (fun g48 => ?_)
      ·have h48 := of_decide_eq_true g48
       have hlt : k < a.names.length := by omega
       have hlt' : k < b.names.length := by omega
       obtain ⟨bb, o, rfl, hc⟩ := hna.elem hlt
       obtain ⟨bb', o', rfl, hc'⟩ := hnb.elem hlt'
       refine W.skip ?_
       refine thn_n ?_
       refine W.seq ?_
       refine W.block ?_
       refine W.seq ?_
       refine W.drawB keq_mixed (by kernel_rfl) ?_
       refine LQ.val (fun w hw => x_fa keq_fo25_3 rfl) rfl ?_
       refine LQ.val (fun w hw => x_ld (v := .slice _ _ _) keq_oc22 rfl (hw.keep (bx2.cell0 rfl))) rfl ?_
       refine LQ.val (fun w hw => x_mv (v := .int _ _) rfl) rfl ?_
       refine LQ.val (fun w hw => x_ia1  Try.underlying22 keq_sz9 rfl rfl rfl (by omega)) rfl ?_
       refine LQ.val (fun w hw => x_ld (v := S _) keq_oc9 rfl (hw.keep hc)) rfl ?_
       refine LQ.val (fun w hw => x_fa keq_fo25_3 rfl) rfl ?_
       refine LQ.val (fun w hw => x_ld (v := .slice _ _ _) keq_oc22 rfl (hw.keep (bx3.cell0 rfl))) rfl ?_
       refine LQ.val (fun w hw => x_mv (v := .int _ _) rfl) rfl ?_
       refine LQ.val (fun w hw => x_ia1  Try.underlying22 keq_sz9 rfl rfl rfl (by omega)) rfl ?_
       refine LQ.val (fun w hw => x_ld (v := S _) keq_oc9 rfl (hw.keep hc')) rfl ?_
       refine LQ.val (fun w hw => x_nes rfl rfl) rfl ?_
       refine LQ.nil ?_
       intro w51 hw
       have hB := hB.carry hw; have hra := hra.carry hw; have hrb := hrb.carry hw; have hna := hna.carry hw; have hnb := hnb.carry hw; have bx2 := bx2.carry hw; have bx3 := bx3.carry hw
       refine thn_n ?_
       refine W.cond (b := _) rfl (fun g61 => ?_) (fun g61 => ?_)
       ·have h61 := sne_t g61
        refine W.seq ?_
        refine W.region ?_
        refine L.val (x_as (v := .bool _) rfl) rfl ?_
        refine L.nil ?_
        refine thn_n ?_
        refine W.ret (blk_r (thn_r (thn_r (blk_r (thn_r (fin_mk (.inr rfl) ?_))))))
        exact ⟨vb (Eq.symm (eqS_f (by rintro rfl; exact h61 rfl))), hB⟩
       ·have h61 := sne_f g61
        refine W.skip ?_
        refine blk_n ?_
        refine thn_n ?_
        refine W.region ?_
        refine L.val (x_mv (v := .int _ _) rfl) rfl ?_
        refine L.val (x_add rfl rfl (wr64 (by omega))) rfl ?_
        refine L.val (x_as (v := .int _ _) rfl) rfl ?_
        refine L.nil ?_
        refine thn_n ⟨rfl, ?_⟩
        exact ⟨a.names.length - (k + 1), by omega, hB, hra, hrb, hna, hnb, bx2, bx3, k + 1, by omega, rfl, rfl, rfl, rfl, take_eq_snoc (d := []) hlt hlt' ht h61⟩
      ·have h48 := dlt_f g48
       rw [List.take_of_length_le (by omega), List.take_of_length_le (by omega)] at ht
       refine W.exit (thn_x (thn_x (blk_hit ?_)))
       refine thn_n ?_
       refine W.seq ?_
       refine W.seq ?_
       refine W.region ?_
       refine L.val (x_as (v := .int _ _) rfl) rfl ?_
       refine L.nil ?_
       refine thn_n ?_
       refine W.block ?_
       refine W.loop (fun m' E w' => Bel w w' ∧ ShRow A w' p row a.parts ∧ ShRow A' w' q rox b.parts ∧ Box w' w.heap.size 25 [.int .i64 a.kind, S a.of, S a.name, .slice pn a.names.length capn, .slice p a.parts.length cap] ∧ Box w' w2.heap.size 25 [.int .i64 b.kind, S b.of, S b.name, .slice qn b.names.length qapn, .slice q b.parts.length qap] ∧ ∃ k : Nat, k ≤ a.parts.length ∧ m' = a.parts.length - k ∧ E 6 = .int .i64 (k : Nat) ∧ E 2 = .pointer (some ⟨w.heap.size, 0, none⟩) ∧ E 3 = .pointer (some ⟨w2.heap.size, 0, none⟩) ∧ a.parts.take k = b.parts.take k) (a.parts.length) ?_ ?_
       ·exact ⟨hB, hra, hrb, bx2, bx3, 0, by omega, rfl, rfl, rfl, rfl, rfl⟩
       ·rintro m' E w0 ⟨hB, hra, hrb, bx2, bx3, k, hk, rfl, e5', e2', e3', htp⟩
        rw [upd_self e5', upd_self e2', upd_self e3']
        refine W.seq ?_
        refine W.seq ?_
        refine W.region ?_
        refine L.val (x_mv (v := .int _ _) rfl) rfl ?_
        refine L.val (x_fa keq_fo25_4 rfl) rfl ?_
        refine L.val (x_ld (v := .slice _ _ _) keq_oc23 rfl (bx2.cell0 rfl)) rfl ?_
        refine L.val (x_len_slice Try.underlying23 rfl) rfl ?_
        refine L.val (x_lss rfl rfl) rfl ?_
        refine L.nil ?_
        refine thn_n ?_
        refine W.cond (b := _) rfl (fun g66 => ?_) (fun g66 => ?_)
        ·have h66 := of_decide_eq_true g66
         have hlt : k < a.parts.length := by omega
         have hlt' : k < b.parts.length := by omega
         obtain ⟨bb, o, rfl, hc⟩ := hra.elem hlt
         obtain ⟨bb', o', rfl, hc'⟩ := hrb.elem hlt'
         refine W.skip ?_
         refine thn_n ?_
         refine W.seq ?_
         refine W.block ?_
         refine W.seq ?_
         refine W.drawB keq_mixed (by kernel_rfl) ?_
         refine LQ.val (fun w hw => x_fa keq_fo25_4 rfl) rfl ?_
         refine LQ.val (fun w hw => x_ld (v := .slice _ _ _) keq_oc23 rfl (hw.keep (bx2.cell0 rfl))) rfl ?_
         refine LQ.val (fun w hw => x_mv (v := .int _ _) rfl) rfl ?_
         refine LQ.val (fun w hw => x_ia  Try.underlying23 keq_sz25 rfl rfl rfl (by omega)) rfl ?_
         refine LQ.val (fun w hw => x_ldn (vs := row k) keq_ag25 rfl (hra.five k hlt) (hw.keepRow (hra.five k hlt) hc)) rfl ?_
         refine LQ.val (fun w hw => x_fa keq_fo25_4 rfl) rfl ?_
         refine LQ.val (fun w hw => x_ld (v := .slice _ _ _) keq_oc23 rfl (hw.keep (bx3.cell0 rfl))) rfl ?_
         refine LQ.val (fun w hw => x_mv (v := .int _ _) rfl) rfl ?_
         refine LQ.val (fun w hw => x_ia  Try.underlying23 keq_sz25 rfl rfl rfl (by omega)) rfl ?_
         refine LQ.val (fun w hw => x_ldn (vs := rox k) keq_ag25 rfl (hrb.five k hlt') (hw.keepRow (hrb.five k hlt') hc')) rfl ?_
         refine LQ.ret (fun w => x_call keq_en27 rfl) (fun w hw => Ret.mono (ih _ _ (by have := Sh.part_lt hlt; omega) A A' _ _ _ ((hra.each k hlt).carry hw) ((hrb.each k hlt').carry hw)) (fun _ _ h => ⟨h.1, Gr.trans hw h.2⟩)) rfl ?_
         refine LQ.val (fun w hw => x_not rfl) rfl ?_
         refine LQ.nil ?_
         intro w69 hw
         have hB := hB.carry hw; have hra := hra.carry hw; have hrb := hrb.carry hw; have bx2 := bx2.carry hw; have bx3 := bx3.carry hw
         refine thn_n ?_
         refine W.cond (b := _) rfl (fun g80 => ?_) (fun g80 => ?_)
         ·have h80 := (not_t g80)
          refine W.seq ?_
          refine W.region ?_
          refine L.val (x_as (v := .bool _) rfl) rfl ?_
          refine L.nil ?_
          refine thn_n ?_
          refine W.ret (blk_r (thn_r (thn_r (blk_r (thn_r (fin_mk (.inr rfl) ?_))))))
          exact ⟨vb (Eq.symm (eqS_f (by rintro rfl; rw [eqS_t rfl] at h80; cases h80))), hB⟩
         ·have h80 := (not_f g80)
          refine W.skip ?_
          refine blk_n ?_
          refine thn_n ?_
          refine W.region ?_
          refine L.val (x_mv (v := .int _ _) rfl) rfl ?_
          refine L.val (x_add rfl rfl (wr64 (by omega))) rfl ?_
          refine L.val (x_as (v := .int _ _) rfl) rfl ?_
          refine L.nil ?_
          refine thn_n ⟨rfl, ?_⟩
          exact ⟨a.parts.length - (k + 1), by omega, hB, hra, hrb, bx2, bx3, k + 1, by omega, rfl, rfl, rfl, rfl, take_eq_snoc (d := default) hlt hlt' htp (eqS_iff.1 h80)⟩
        ·have h66 := dlt_f g66
         refine W.exit (thn_x (thn_x (blk_hit ?_)))
         refine thn_n ?_
         refine W.seq ?_
         refine W.region ?_
         refine L.val (x_as (v := .bool _) rfl) rfl ?_
         refine L.nil ?_
         refine thn_n ?_
         refine W.ret (fin_mk (.inr rfl) ?_)
         rw [List.take_of_length_le (by omega), List.take_of_length_le (by omega)] at htp
         exact ⟨vb (eqS_t (Sh.ext e1 e2 e3 ht htp)).symm, hB⟩
end Go.Gx
