/- Below: the program's walk. Conditions: none. -/
import Derived.Test.YteehllhldaopjaaGreatBwSort3
import Derived.Test.YteehllhldaopjaaGreatBwFree
namespace Go.Gx
open Go.Proofs
theorem kbelow_ag25 : aggT Tryz.prog 25 5 = true := by kernel_rfl
theorem kbelow_en114 : Go.Proofs.Enters Tryz.prog 114 := Go.Proofs.enters_of Tryz.func114 (by kernel_rfl) rfl
theorem kbelow_en115 : Go.Proofs.Enters Tryz.prog 115 := Go.Proofs.enters_of Tryz.func115 (by kernel_rfl) rfl
theorem kbelow_en154 : Go.Proofs.Enters Tryz.prog 154 := Go.Proofs.enters_of Tryz.func154 (by kernel_rfl) rfl
theorem kbelow_en50 : Go.Proofs.Enters Tryz.prog 50 := Go.Proofs.enters_of Tryz.func50 (by kernel_rfl) rfl
theorem kbelow_en64 : Go.Proofs.Enters Tryz.prog 64 := Go.Proofs.enters_of Tryz.func64 (by kernel_rfl) rfl
theorem kbelow_fo25_0 : fieldOff Tryz.prog 25 0 = some 0 := by kernel_rfl
theorem kbelow_fo25_1 : fieldOff Tryz.prog 25 1 = some 1 := by kernel_rfl
theorem kbelow_fo25_2 : fieldOff Tryz.prog 25 2 = some 2 := by kernel_rfl
theorem kbelow_fo25_3 : fieldOff Tryz.prog 25 3 = some 3 := by kernel_rfl
theorem kbelow_fo25_4 : fieldOff Tryz.prog 25 4 = some 4 := by kernel_rfl
theorem kbelow_mixed : Tryz.prog.follows .mixedOrders = true := by kernel_rfl
theorem kbelow_oc22 : oneCellT Tryz.prog 22 = true := by kernel_rfl
theorem kbelow_oc23 : oneCellT Tryz.prog 23 = true := by kernel_rfl
theorem kbelow_oc3 : oneCellT Tryz.prog 3 = true := by kernel_rfl
theorem kbelow_oc9 : oneCellT Tryz.prog 9 = true := by kernel_rfl
theorem kbelow_sz25 : (Tryz.prog.info? 25).map (·.size) = some 5 := by kernel_rfl
theorem kbelow_sz9 : (Tryz.prog.info? 9).map (·.size) = some 1 := by kernel_rfl
theorem kbelow_zr3 : (Tryz.prog.info? 3).bind (·.zero) = some (Value.int .i64 0) := by kernel_rfl
theorem fields_ok (A : Nat → Prop) (s : Sh) (cs : List Value) (w : World) (hs : ShC A w cs s) (hd : s.names.Nodup) :
    Ret Tryz.prog 154 #[.agg cs.toArray] w fun v w' => (∃ b, v = .map (some b) ∧ w.heap.size ≤ b ∧ FieldsAt w' b s.names) ∧ Bel w w' := by
  obtain ⟨A1, hs, hA⟩ : ∃ A1 : Nat → Prop, ShC A1 w cs s ∧ (∀ k, w.heap.size ≤ k → A1 k) := ⟨_, hs.up, fun _ => .inr⟩
  obtain ⟨vn, vp, rfl, hn, hp, -⟩ := hs.inv
  obtain ⟨pn, capn, rfl, n1, n2, n3, hL, -⟩ := id hn
  refine ret_of_W Tryz.func154 rfl (Nat.le_of_ble_eq_true rfl) (res1 rfl) ?_
  have hB := Gr.refl (fun _ => False) w
  refine W.seq ?_
  refine W.region ?_
  refine L.box (cs := _) rfl rfl (fun w1 bx1 hw hz1 => ?_)
  have hB := hB.carry hw; have hn := hn.carry hw
  refine L.val (x_as (v := .map _) rfl) rfl ?_
  refine L.nil ?_
  refine thn_n ?_
  refine W.seq ?_
  refine W.region ?_
  refine L.val (x_fa kbelow_fo25_3 rfl) rfl ?_
  refine L.val (x_ld (v := .slice _ _ _) kbelow_oc22 rfl (bx1.cell0 rfl)) rfl ?_
  refine L.val (x_len_slice Tryz.underlying22 rfl) rfl ?_
  refine L.mkmap Tryz.underlying133 rfl rfl (fun w9 mp9 hw hz9 => ?_)
  have hB := hB.carry hw; have hn := hn.carry hw; have bx1 := bx1.carry hw
  obtain ⟨b9, hb9⟩ : ∃ b9, b9 = w1.heap.size := ⟨_, rfl⟩
  rw [← hb9] at mp9 ⊢
  have z9 : w.heap.size < b9 := by omega
  have mp9 : FieldsAt w9 b9 (s.names.take 0) := mp9
  refine L.val (x_as (v := .map _) rfl) rfl ?_
  refine L.nil ?_
  refine thn_n ?_
  refine W.seq ?_
  refine W.seq ?_
  refine W.region ?_
  refine L.val (x_fa kbelow_fo25_3 rfl) rfl ?_
  refine L.val (x_ld (v := .slice _ _ _) kbelow_oc22 rfl (bx1.cell0 rfl)) rfl ?_
  refine L.val (x_len_slice Tryz.underlying22 rfl) rfl ?_
  refine L.val (x_mv (v := .int _ _) rfl) rfl ?_
  refine L.nil ?_
  refine thn_n ?_
  refine W.block ?_
  refine W.loop (fun m' E w' => ∃ (k : Nat), m' = s.names.length - k ∧ E 3 = .map (some b9) ∧ E 11 = .slice pn s.names.length capn ∧ E 12 = .int .i64 (s.names.length : Nat) ∧ E 13 = .int .i64 (k : Nat) ∧ (Bel w w') ∧ (StrsAt A1 w' (.slice pn s.names.length capn) s.names) ∧ (FieldsAt w' b9 (s.names.take k)) ∧ (k ≤ s.names.length)) (s.names.length) ?_ ?_
  ·exact ⟨0, by omega, by first | rfl | exact vi (by omega), by first | rfl | exact vi (by omega), by first | rfl | exact vi (by omega), by first | rfl | exact vi (by omega), (by first | assumption | omega | rfl), (by first | assumption | omega | rfl), (by first | assumption | omega | rfl), (by first | assumption | omega | rfl)⟩
  ·rintro _ E wL14 ⟨k, em, e3, e11, e12, e13, hB, hn, mp9, hk⟩
   rw [upd_self e3, upd_self e11, upd_self e12, upd_self e13]
   refine W.seq ?_
   refine W.region ?_
   refine L.val (x_lss rfl rfl) rfl ?_
   refine L.nil ?_
   refine thn_n ?_
   refine W.seq ?_
   refine W.cond (b := _) rfl (fun g14 => ?_) (fun g14 => ?_)
   ·have h14 := of_decide_eq_true g14
    have hlt : k < s.names.length := by omega
    obtain ⟨b, o, rfl, hc⟩ := hn.elem hlt
    refine W.skip ?_
    refine thn_n ?_
    refine W.seq ?_
    refine W.block ?_
    refine W.seq ?_
    refine W.region ?_
    refine L.val (x_mv (v := .int _ _) rfl) rfl ?_
    refine L.val (x_ia1 (j := k) Tryz.underlying22 kbelow_sz9 rfl rfl (by omega) (by omega)) rfl ?_
    refine L.val (x_ld (v := S _) kbelow_oc9 rfl hc) rfl ?_
    refine L.val (x_as (v := .int _ _) rfl) rfl ?_
    refine L.val (x_as (v := S _) rfl) rfl ?_
    refine L.nil ?_
    refine thn_n ?_
    refine W.region ?_
    refine L.val (x_mv (v := .map _) rfl) rfl ?_
    refine L.val (x_mv (v := S _) rfl) rfl ?_
    refine L.val (x_mv (v := .int _ _) rfl) rfl ?_
    refine L.mapset (v := .int _ _) Tryz.underlying133 Tryz.underlying9 rfl rfl rfl mp9 (fun wl21 mp9 hw hzl21 => ?_)
    have hsz := hB.size
    have hB := hB.set hw (by omega); have hn := hn.carryR hw (fun j e => hA j (by have e : j = _ := e; omega))
    have mp9 : FieldsAt wl21 b9 (s.names.take (k + 1)) := by have mp9 := mp9; rw [fields_put hd hlt] at mp9; exact mp9
    refine L.nil ?_
    refine blk_n ?_
    refine thn_n ?_
    refine W.region ?_
    refine L.val (x_add rfl rfl (wr64 (by omega))) rfl ?_
    refine L.val (x_mv (v := .int _ _) rfl) rfl ?_
    refine L.nil ?_
    refine thn_n ⟨rfl, ?_⟩
    refine ⟨_, ?_, k + 1, rfl, by first | rfl | exact vi (by omega), by first | rfl | exact vi (by omega), by first | rfl | exact vi (by omega), by first | rfl | exact vi (by omega), (by first | assumption | omega | rfl), (by first | assumption | omega | rfl), (by first | assumption | omega | rfl), (by first | assumption | omega | rfl)⟩
    omega
   ·have h14 := dlt_f g14
    refine W.exit (thn_x (thn_x (blk_hit ?_)))
    refine thn_n ?_
    refine W.seq ?_
    refine W.region ?_
    refine L.val (x_mv (v := .map _) rfl) rfl ?_
    refine L.val (x_as (v := .map _) rfl) rfl ?_
    refine L.nil ?_
    refine thn_n ?_
    refine W.ret (fin_mk (.inr rfl) ?_)
    have hkk : k = s.names.length := by omega
    rw [hkk, List.take_length] at mp9
    exact ⟨⟨b9, rfl, by omega, mp9⟩, hB⟩
theorem within_ok (g : FuncId) (eg : Enters Tryz.prog g) (F : Sh → Sh → Bool) (a b : Sh) (hfsa : a.names = [] ∨ a.names.length = a.parts.length) (hfsb : b.names = [] ∨ b.names.length = b.parts.length) (nb : b.names.Nodup)
    (hF : ∀ i j, i < a.parts.length → j < b.parts.length → ∀ (A B : Nat → Prop) (xs ys : List Value) (w : World), ShC A w xs (a.parts.getD i default) → ShC B w ys (b.parts.getD j default) → Ret Tryz.prog g #[.agg xs.toArray, .agg ys.toArray] w fun v w' => v = .bool (F (a.parts.getD i default) (b.parts.getD j default)) ∧ Bel w w')
    (A0 B0 : Nat → Prop) (xs ys : List Value) (w : World) (ha0 : ShC A0 w xs a) (hb0 : ShC B0 w ys b) :
    Ret Tryz.prog 114 #[.agg xs.toArray, .agg ys.toArray, .func (.func g) #[] #[]] w fun v w' => v = .bool ((List.range a.names.length).all (nrV F a b)) ∧ Bel w w' := by
  obtain ⟨A, ha, hA⟩ : ∃ A : Nat → Prop, ShC A w xs a ∧ (∀ k, w.heap.size ≤ k → A k) := ⟨_, ha0.up, fun _ => .inr⟩
  obtain ⟨B, hb, hBu⟩ : ∃ B : Nat → Prop, ShC B w ys b ∧ (∀ k, w.heap.size ≤ k → B k) := ⟨_, hb0.up, fun _ => .inr⟩
  clear ha0 hb0
  obtain ⟨vna, vpa, rfl, hna, hpa, -⟩ := id ha.inv
  obtain ⟨p, cap, rowa, rfl, p1, p2, p3, hra⟩ := hpa
  obtain ⟨pn, capn, rfl, n1, n2, n3, hLa, -⟩ := id hna
  obtain ⟨vnb, vpb, rfl, hnb, hpb, -⟩ := id hb.inv
  obtain ⟨q, capq, rowb, rfl, q1, q2, q3, hrb⟩ := hpb
  refine ret_of_W Tryz.func114 rfl (Nat.le_of_ble_eq_true rfl) (res1 rfl) ?_
  have hB := Gr.refl (fun _ => False) w
  refine W.seq ?_
  refine W.region ?_
  refine L.box (cs := _) rfl rfl (fun w3 bx3 hw hz3 => ?_)
  have hB := hB.carry hw; have hb := hb.carry hw; have hna := hna.carry hw; have hra := hra.carry hw; have hrb := hrb.carry hw
  refine L.box (cs := _) rfl rfl (fun w4 bx4 hw hz4 => ?_)
  have hB := hB.carry hw; have hb := hb.carry hw; have hna := hna.carry hw; have hra := hra.carry hw; have hrb := hrb.carry hw; have bx3 := bx3.carry hw
  obtain ⟨b4, hb4⟩ : ∃ b4, b4 = w3.heap.size := ⟨_, rfl⟩
  rw [← hb4] at bx4 ⊢
  have z4 : w.heap.size < b4 := by omega
  refine L.val (x_as (v := .bool _) rfl) rfl ?_
  refine L.nil ?_
  refine thn_n ?_
  refine W.seq ?_
  refine W.region ?_
  refine L.val (x_ldn (vs := _) kbelow_ag25 rfl rfl (bx4.row rfl)) rfl ?_
  refine L.ret (x_call kbelow_en154 rfl) rfl (fields_ok B b _ _ hb nb) ?_
  rintro _ w13 ⟨⟨mb, rfl, hmb, mp7⟩, hw⟩
  have hB := hB.carry hw; have hb := hb.carry hw; have hna := hna.carry hw; have hra := hra.carry hw; have hrb := hrb.carry hw; have bx3 := bx3.carry hw; have bx4 := bx4.carry hw
  refine L.val (x_as (v := .map _) rfl) rfl ?_
  refine L.nil ?_
  refine thn_n ?_
  refine W.seq ?_
  refine W.seq ?_
  refine W.region ?_
  refine L.val (x_fa kbelow_fo25_3 rfl) rfl ?_
  refine L.val (x_ld (v := .slice _ _ _) kbelow_oc22 rfl (bx3.cell0 rfl)) rfl ?_
  refine L.val (x_len_slice Tryz.underlying22 rfl) rfl ?_
  refine L.val (x_mv (v := .int _ _) rfl) rfl ?_
  refine L.nil ?_
  refine thn_n ?_
  refine W.block ?_
  refine W.loop (fun m' E w' => ∃ (i : Nat), m' = a.names.length - i ∧ E 2 = .func (.func g) #[] #[] ∧ E 3 = .pointer (some ⟨w.heap.size, 0, none⟩) ∧ E 4 = .pointer (some ⟨b4, 0, none⟩) ∧ E 7 = .map (some mb) ∧ E 15 = .slice pn a.names.length capn ∧ E 16 = .int .i64 (a.names.length : Nat) ∧ E 17 = .int .i64 (i : Nat) ∧ (Bel w w') ∧ (StrsAt A w' (.slice pn a.names.length capn) a.names) ∧ (ShRow A w' p rowa a.parts) ∧ (ShRow B w' q rowb b.parts) ∧ (FieldsAt w' mb b.names) ∧ (Box w' w.heap.size 25 [.int .i64 a.kind, S a.of, S a.name, .slice pn a.names.length capn, .slice p a.parts.length cap]) ∧ (Box w' b4 25 [.int .i64 b.kind, S b.of, S b.name, vnb, .slice q b.parts.length capq]) ∧ (i ≤ a.names.length) ∧ ((List.range i).all (nrV F a b) = true)) (a.names.length) ?_ ?_
  ·exact ⟨0, by omega, by first | rfl | exact vi (by omega), by first | rfl | exact vi (by omega), by first | rfl | exact vi (by omega), by first | rfl | exact vi (by omega), by first | rfl | exact vi (by omega), by first | rfl | exact vi (by omega), by first | rfl | exact vi (by omega), (by first | assumption | omega | rfl), (by first | assumption | omega | rfl), (by first | assumption | omega | rfl), (by first | assumption | omega | rfl), (by first | assumption | omega | rfl), (by first | assumption | omega | rfl), (by first | assumption | omega | rfl), (by first | assumption | omega | rfl), (by rfl)⟩
  ·rintro _ E wL18 ⟨i, em, e2, e3, e4, e7, e15, e16, e17, hB, hna, hra, hrb, mp7, bx3, bx4, hi, hall⟩
   rw [upd_self e2, upd_self e3, upd_self e4, upd_self e7, upd_self e15, upd_self e16, upd_self e17]
   refine W.seq ?_
   refine W.region ?_
   refine L.val (x_lss rfl rfl) rfl ?_
   refine L.nil ?_
   refine thn_n ?_
   refine W.seq ?_
   refine W.cond (b := _) rfl (fun g18 => ?_) (fun g18 => ?_)
   ·have h18 := of_decide_eq_true g18
    have hlt : i < a.names.length := by omega
    have hip : i < a.parts.length := by rcases hfsa with e | e; rw [e] at hlt; simp at hlt; omega
    obtain ⟨an, ao, rfl, hcn⟩ := hna.elem hlt
    obtain ⟨bp, op, rfl, hcp⟩ := hra.elem hip
    refine W.skip ?_
    refine thn_n ?_
    refine W.seq ?_
    refine W.block ?_
    refine W.seq ?_
    refine W.region ?_
    refine L.val (x_mv (v := .int _ _) rfl) rfl ?_
    refine L.val (x_ia1 (j := i) Tryz.underlying22 kbelow_sz9 rfl rfl (by omega) (by omega)) rfl ?_
    refine L.val (x_ld (v := S _) kbelow_oc9 rfl hcn) rfl ?_
    refine L.val (x_as (v := .int _ _) rfl) rfl ?_
    refine L.val (x_as (v := S _) rfl) rfl ?_
    refine L.nil ?_
    refine thn_n ?_
    refine W.seq ?_
    refine W.region ?_
    refine L.val (x_mv (v := .map _) rfl) rfl ?_
    refine L.val (x_mv (v := S _) rfl) rfl ?_
    refine L.val (x_lookF Tryz.underlying133 Tryz.underlying9 kbelow_zr3 rfl rfl mp7) rfl ?_
    refine L.val (x_mv (v := _) rfl) rfl ?_
    refine L.val (x_ext (v := .int _ _) rfl rfl) rfl ?_
    refine L.val (x_ext (v := .bool _) rfl rfl) rfl ?_
    refine L.val (x_as (v := .int _ _) rfl) rfl ?_
    refine L.val (x_as (v := .bool _) rfl) rfl ?_
    refine L.nil ?_
    refine thn_n ?_
    refine W.seq ?_
    refine W.drawF 17 kbelow_mixed (fun wF28 hB0 => ?_)
    refine LAC.takeN (i := 0) rfl (by kernel_rfl) (by kernel_rfl) (by kernel_rfl) (by kernel_rfl) (fun w hw => x_mv (v := .bool _) rfl) rfl ?_
    refine LAC.takeN (i := 1) rfl (by kernel_rfl) (by kernel_rfl) (by kernel_rfl) (by kernel_rfl) (fun w hw => x_not rfl) rfl ?_
    refine LAC.takeN (i := 2) rfl (by kernel_rfl) (by kernel_rfl) (by kernel_rfl) (by kernel_rfl) (fun w hw => x_mv (v := .bool _) rfl) rfl ?_
    refine LAC.split (dj := 30) (b := _) rfl (fun g30 => ?_) (fun g30 => ?_)
    ·have h30 := (not_t g30)
     have hone : nrV F a b i = false := by unfold nrV; rw [if_neg (by simpa using h30)]
     refine LAC.takeU (i := 3) rfl (by kernel_rfl) (by kernel_rfl) (by kernel_rfl) (by kernel_rfl) (dj := 30) (b := _) rfl rfl g30 rfl ?_
     refine LAC.takeU (i := 4) rfl (by kernel_rfl) (by kernel_rfl) (by kernel_rfl) (by kernel_rfl) (dj := 30) (b := _) rfl rfl g30 rfl ?_
     refine LAC.takeU (i := 5) rfl (by kernel_rfl) (by kernel_rfl) (by kernel_rfl) (by kernel_rfl) (dj := 30) (b := _) rfl rfl g30 rfl ?_
     refine LAC.takeU (i := 6) rfl (by kernel_rfl) (by kernel_rfl) (by kernel_rfl) (by kernel_rfl) (dj := 30) (b := _) rfl rfl g30 rfl ?_
     refine LAC.takeU (i := 7) rfl (by kernel_rfl) (by kernel_rfl) (by kernel_rfl) (by kernel_rfl) (dj := 30) (b := _) rfl rfl g30 rfl ?_
     refine LAC.takeU (i := 8) rfl (by kernel_rfl) (by kernel_rfl) (by kernel_rfl) (by kernel_rfl) (dj := 30) (b := _) rfl rfl g30 rfl ?_
     refine LAC.takeU (i := 9) rfl (by kernel_rfl) (by kernel_rfl) (by kernel_rfl) (by kernel_rfl) (dj := 30) (b := _) rfl rfl g30 rfl ?_
     refine LAC.takeU (i := 10) rfl (by kernel_rfl) (by kernel_rfl) (by kernel_rfl) (by kernel_rfl) (dj := 30) (b := _) rfl rfl g30 rfl ?_
     refine LAC.takeU (i := 11) rfl (by kernel_rfl) (by kernel_rfl) (by kernel_rfl) (by kernel_rfl) (dj := 30) (b := _) rfl rfl g30 rfl ?_
     refine LAC.takeU (i := 12) rfl (by kernel_rfl) (by kernel_rfl) (by kernel_rfl) (by kernel_rfl) (dj := 30) (b := _) rfl rfl g30 rfl ?_
     refine LAC.takeU (i := 13) rfl (by kernel_rfl) (by kernel_rfl) (by kernel_rfl) (by kernel_rfl) (dj := 30) (b := _) rfl rfl g30 rfl ?_
     refine LAC.takeU (i := 14) rfl (by kernel_rfl) (by kernel_rfl) (by kernel_rfl) (by kernel_rfl) (dj := 30) (b := _) rfl rfl g30 rfl ?_
     refine LAC.takeU (i := 15) rfl (by kernel_rfl) (by kernel_rfl) (by kernel_rfl) (by kernel_rfl) (dj := 30) (b := _) rfl rfl g30 rfl ?_
     refine LAC.takeN (i := 16) rfl (by kernel_rfl) (by kernel_rfl) (by kernel_rfl) (by kernel_rfl) (fun w hw => x_pick_t (v := .bool _) (congrArg Value.bool g30) rfl) rfl ?_
     refine LAC.doneF (by kernel_rfl) hB0 ?_
     have hB := hB.carry hB0; have hna := hna.carry hB0; have hra := hra.carry hB0; have hrb := hrb.carry hB0; have mp7 := mp7.carry hB0; have bx3 := bx3.carry hB0; have bx4 := bx4.carry hB0
     refine thn_n ?_
     refine W.cond (b := true) rfl (fun _ => ?_) (fun h => nomatch h)
     refine W.seq ?_
     refine W.region ?_
     refine L.val (x_as (v := .bool _) rfl) rfl ?_
     refine L.nil ?_
     refine thn_n ?_
     refine W.ret (blk_r (thn_r (thn_r (blk_r (thn_r (fin_mk (.inr rfl) ?_))))))
     exact ⟨vb (all_missR hlt (by first | exact hone | (rw [hone]; exact h43))).symm, hB⟩
    ·have h30 := (not_f g30)
     have hj : idxS (a.names.getD i []) b.names < b.names.length := by simpa using h30
     have hjp : idxS (a.names.getD i []) b.names < b.parts.length := by rcases hfsb with e | e; rw [e] at hj; simp at hj; omega
     obtain ⟨bq, oq, rfl, hcq⟩ := hrb.elem hjp
     have hone : nrV F a b i = F (a.parts.getD i default) (b.parts.getD (idxS (a.names.getD i []) b.names) default) := by unfold nrV; rw [if_pos hj]
     refine LAC.takeG (i := 3) rfl (by kernel_rfl) (by kernel_rfl) (by kernel_rfl) (by kernel_rfl) (dj := 30) (b := _) rfl rfl g30 (fun w hw => x_mv (v := .func _ _ _) rfl) rfl ?_
     refine LAC.takeG (i := 4) rfl (by kernel_rfl) (by kernel_rfl) (by kernel_rfl) (by kernel_rfl) (dj := 30) (b := _) rfl rfl g30 (fun w hw => x_fa kbelow_fo25_4 rfl) rfl ?_
     refine LAC.takeG (i := 5) rfl (by kernel_rfl) (by kernel_rfl) (by kernel_rfl) (by kernel_rfl) (dj := 30) (b := _) rfl rfl g30 (fun w hw => x_ld (v := .slice _ _ _) kbelow_oc23 rfl (hw.keep (bx3.cell0 rfl))) rfl ?_
     refine LAC.takeG (i := 6) rfl (by kernel_rfl) (by kernel_rfl) (by kernel_rfl) (by kernel_rfl) (dj := 30) (b := _) rfl rfl g30 (fun w hw => x_mv (v := .int _ _) rfl) rfl ?_
     refine LAC.takeG (i := 7) rfl (by kernel_rfl) (by kernel_rfl) (by kernel_rfl) (by kernel_rfl) (dj := 30) (b := _) rfl rfl g30 (fun w hw => x_ia (j := i) Tryz.underlying23 kbelow_sz25 rfl rfl (by omega) (by omega)) rfl ?_
     refine LAC.takeG (i := 8) rfl (by kernel_rfl) (by kernel_rfl) (by kernel_rfl) (by kernel_rfl) (dj := 30) (b := _) rfl rfl g30 (fun w hw => x_ldn (vs := rowa i) kbelow_ag25 rfl (hra.five i hip) (hw.keepRow (hra.five i hip) (hra.elemAt hip))) rfl ?_
     refine LAC.takeG (i := 9) rfl (by kernel_rfl) (by kernel_rfl) (by kernel_rfl) (by kernel_rfl) (dj := 30) (b := _) rfl rfl g30 (fun w hw => x_fa kbelow_fo25_4 rfl) rfl ?_
     refine LAC.takeG (i := 10) rfl (by kernel_rfl) (by kernel_rfl) (by kernel_rfl) (by kernel_rfl) (dj := 30) (b := _) rfl rfl g30 (fun w hw => x_ld (v := .slice _ _ _) kbelow_oc23 rfl (hw.keep (bx4.cell0 rfl))) rfl ?_
     refine LAC.takeG (i := 11) rfl (by kernel_rfl) (by kernel_rfl) (by kernel_rfl) (by kernel_rfl) (dj := 30) (b := _) rfl rfl g30 (fun w hw => x_mv (v := .int _ _) rfl) rfl ?_
     refine LAC.takeG (i := 12) rfl (by kernel_rfl) (by kernel_rfl) (by kernel_rfl) (by kernel_rfl) (dj := 30) (b := _) rfl rfl g30 (fun w hw => x_ia (j := idxS (a.names.getD i []) b.names) Tryz.underlying23 kbelow_sz25 rfl rfl (if_pos hj) (by omega)) rfl ?_
     refine LAC.takeG (i := 13) rfl (by kernel_rfl) (by kernel_rfl) (by kernel_rfl) (by kernel_rfl) (dj := 30) (b := _) rfl rfl g30 (fun w hw => x_ldn (vs := rowb (idxS (a.names.getD i []) b.names)) kbelow_ag25 rfl (hrb.five _ hjp) (hw.keepRow (hrb.five _ hjp) (hrb.elemAt hjp))) rfl ?_
     refine LAC.step (rs := [14]) (fun _ => hB0) (by kernel_rfl) (by simp) ⟨⟨_, rfl, ?_⟩, trivial⟩
     refine L.gyes' (dj := 30) (b := _) rfl rfl g30 ?_
     refine L.ret (x_callv eg rfl rfl) rfl (hF i _ hip hjp A B _ _ _ ((hra.each i hip).carry hB0) ((hrb.each _ hjp).carry hB0)) ?_
     rintro _ w42 ⟨rfl, hw⟩
     have hB0 := hB0.carry hw
     refine L.nil ?_
     refine thn_n ?_
     refine LAC.takeG (i := 15) rfl (by kernel_rfl) (by kernel_rfl) (by kernel_rfl) (by kernel_rfl) (dj := 30) (b := _) rfl rfl g30 (fun w hw => x_not rfl) rfl ?_
     refine LAC.takeN (i := 16) rfl (by kernel_rfl) (by kernel_rfl) (by kernel_rfl) (by kernel_rfl) (fun w hw => x_pick_f (v := .bool _) (congrArg Value.bool g30) rfl) rfl ?_
     refine LAC.doneF (by kernel_rfl) hB0 ?_
     have hB := hB.carry hB0; have hna := hna.carry hB0; have hra := hra.carry hB0; have hrb := hrb.carry hB0; have mp7 := mp7.carry hB0; have bx3 := bx3.carry hB0; have bx4 := bx4.carry hB0
     refine thn_n ?_
     refine W.cond (b := _) rfl (fun g43 => ?_) (fun g43 => ?_)
     ·have h43 := (not_t g43)
      refine W.seq ?_
      refine W.region ?_
      refine L.val (x_as (v := .bool _) rfl) rfl ?_
      refine L.nil ?_
      refine thn_n ?_
      refine W.ret (blk_r (thn_r (thn_r (blk_r (thn_r (fin_mk (.inr rfl) ?_))))))
      exact ⟨vb (all_missR hlt (by first | exact hone | (rw [hone]; exact h43))).symm, hB⟩
     ·have h43 := (not_f g43)
      refine W.skip ?_
      refine blk_n ?_
      refine thn_n ?_
      refine W.region ?_
      refine L.val (x_add rfl rfl (wr64 (by omega))) rfl ?_
      refine L.val (x_mv (v := .int _ _) rfl) rfl ?_
      refine L.nil ?_
      refine thn_n ⟨rfl, ?_⟩
      refine ⟨_, ?_, i + 1, rfl, by first | rfl | exact vi (by omega), by first | rfl | exact vi (by omega), by first | rfl | exact vi (by omega), by first | rfl | exact vi (by omega), by first | rfl | exact vi (by omega), by first | rfl | exact vi (by omega), by first | rfl | exact vi (by omega), (by first | assumption | omega | rfl), (by first | assumption | omega | rfl), (by first | assumption | omega | rfl), (by first | assumption | omega | rfl), (by first | assumption | omega | rfl), (by first | assumption | omega | rfl), (by first | assumption | omega | rfl), (by first | assumption | omega | rfl), (by rw [all_succ, hall, hone]; exact h43)⟩
      omega
   ·have h18 := dlt_f g18
    refine W.exit (thn_x (thn_x (blk_hit ?_)))
    refine thn_n ?_
    refine W.seq ?_
    refine W.region ?_
    refine L.val (x_as (v := .bool _) rfl) rfl ?_
    refine L.nil ?_
    refine thn_n ?_
    refine W.ret (fin_mk (.inr rfl) ?_)
    exact ⟨vb (by rw [show a.names.length = i by omega, hall]), hB⟩
theorem belclos_ok (F : Bool) (A B : Nat → Prop) (a b : Sh) (xs ys : List Value) (w : World) (ha : ShC A w xs a) (hb : ShC B w ys b)
    (hp : ∀ (A B : Nat → Prop) (xs ys : List Value) (w : World), ShC A w xs a → ShC B w ys b → Ret Tryz.prog 64 #[.agg ys.toArray, .agg xs.toArray] w fun v w' => v = .bool F ∧ Bel w w') :
    Ret Tryz.prog 115 #[.agg xs.toArray, .agg ys.toArray] w fun v w' => v = .bool F ∧ Bel w w' := by
  have hla := ha.len
  have hlb := hb.len
  refine ret_of_W Tryz.func115 rfl (Nat.le_of_ble_eq_true rfl) (res1 rfl) ?_
  have hB := Gr.refl (fun _ => False) w
  refine W.seq ?_
  refine W.region ?_
  refine L.box (cs := xs) rfl rfl (fun w2 bx2 hw hz2 => ?_)
  have hB := hB.carry hw; have ha := ha.carry hw; have hb := hb.carry hw
  refine L.box (cs := ys) rfl rfl (fun w3 bx3 hw hz3 => ?_)
  have hB := hB.carry hw; have ha := ha.carry hw; have hb := hb.carry hw; have bx2 := bx2.carry hw
  refine L.val (x_as (v := .bool _) rfl) rfl ?_
  refine L.nil ?_
  refine thn_n ?_
  refine W.seq ?_
  refine W.region ?_
  refine L.val (x_ldn (vs := ys) kbelow_ag25 rfl hlb (bx3.row hlb)) rfl ?_
  refine L.val (x_ldn (vs := xs) kbelow_ag25 rfl hla (bx2.row hla)) rfl ?_
  refine L.ret (x_call kbelow_en64 rfl) rfl (hp A B _ _ _ ha hb) ?_
  rintro _ w7 ⟨rfl, hw⟩
  have hB := hB.carry hw; have ha := ha.carry hw; have hb := hb.carry hw; have bx2 := bx2.carry hw; have bx3 := bx3.carry hw
  refine L.val (x_as (v := .bool _) rfl) rfl ?_
  refine L.nil ?_
  refine thn_n ?_
  refine W.ret (fin_mk (.inr rfl) ?_)
  exact ⟨rfl, hB⟩
theorem below0 : ∀ (N : Nat) (a b : Sh), SizeOf.sizeOf a + SizeOf.sizeOf b < N → a.allB fitsS = true → b.allB fitsS = true → ∀ (A0 B0 : Nat → Prop) (xs ys : List Value) (w : World), ShC A0 w xs a → ShC B0 w ys b →
    Ret Tryz.prog 64 #[.agg xs.toArray, .agg ys.toArray] w fun v w' => v = .bool (belN N a b) ∧ Bel w w' := by
  intro N
  induction N with
  | zero => intro a b h; omega
  | succ N ih =>
    intro a b hN hfa hfb A0 B0 xs ys w ha0 hb0
    obtain ⟨A, ha, hA⟩ : ∃ A : Nat → Prop, ShC A w xs a ∧ (∀ k, w.heap.size ≤ k → A k) := ⟨_, ha0.up, fun _ => .inr⟩
    obtain ⟨B, hb, hBu⟩ : ∃ B : Nat → Prop, ShC B w ys b ∧ (∀ k, w.heap.size ≤ k → B k) := ⟨_, hb0.up, fun _ => .inr⟩
    clear ha0 hb0
    obtain ⟨vna, vpa, rfl, hna, hpa, -⟩ := id ha.inv
    obtain ⟨p, cap, rowa, rfl, p1, p2, p3, hra⟩ := hpa
    obtain ⟨vnb, vpb, rfl, hnb, hpb, -⟩ := id hb.inv
    obtain ⟨q, capq, rowb, rfl, q1, q2, q3, hrb⟩ := hpb
    have hfsa : a.names = [] ∨ a.names.length = a.parts.length := (fits_names (allB_fit hfa)).imp id (·.1)
    have hfsb : b.names = [] ∨ b.names.length = b.parts.length := (fits_names (allB_fit hfb)).imp id (·.1)
    have hI := fun (i j : Nat) (hi : i < a.parts.length) (hj : j < b.parts.length) => ih (a.parts.getD i default) (b.parts.getD j default) (by have := Sh.part_lt hi; have := Sh.part_lt hj; omega) (part_fit hfa hi) (part_fit hfb hj)
    have hJ := fun (i j : Nat) (hi : i < a.parts.length) (hj : j < b.parts.length) => ih (b.parts.getD j default) (a.parts.getD i default) (by have := Sh.part_lt hi; have := Sh.part_lt hj; omega) (part_fit hfb hj) (part_fit hfa hi)
    refine ret_of_W Tryz.func64 rfl (Nat.le_of_ble_eq_true rfl) (res1 rfl) ?_
    have hB := Gr.refl (fun _ => False) w
    refine W.seq ?_
    refine W.region ?_
    refine L.box (cs := _) rfl rfl (fun w2 bx2 hw hz2 => ?_)
    have hB := hB.carry hw; have ha := ha.carry hw; have hb := hb.carry hw; have hra := hra.carry hw; have hrb := hrb.carry hw
    refine L.box (cs := _) rfl rfl (fun w3 bx3 hw hz3 => ?_)
    have hB := hB.carry hw; have ha := ha.carry hw; have hb := hb.carry hw; have hra := hra.carry hw; have hrb := hrb.carry hw; have bx2 := bx2.carry hw
    obtain ⟨b3, hb3⟩ : ∃ b3, b3 = w2.heap.size := ⟨_, rfl⟩
    rw [← hb3] at bx3 ⊢
    have z3 : w.heap.size < b3 := by omega
    refine L.val (x_as (v := .bool _) rfl) rfl ?_
    refine L.nil ?_
    refine thn_n ?_
    refine W.seq ?_
    refine W.seq ?_
    refine W.region ?_
    refine L.val (x_fa kbelow_fo25_0 rfl) rfl ?_
    refine L.val (x_ld (v := .int _ _) kbelow_oc3 rfl (bx2.cell0 rfl)) rfl ?_
    refine L.val (x_fa kbelow_fo25_0 rfl) rfl ?_
    refine L.val (x_ld (v := .int _ _) kbelow_oc3 rfl (bx3.cell0 rfl)) rfl ?_
    refine L.val (x_neq rfl rfl) rfl ?_
    refine L.nil ?_
    refine thn_n ?_
    refine W.cond (b := _) rfl (fun g11 => ?_) (fun g11 => ?_)
    ·have h11 := dne_t g11
     refine W.seq ?_
     refine W.region ?_
     refine L.val (x_as (v := .bool _) rfl) rfl ?_
     refine L.nil ?_
     refine thn_n ?_
     refine W.ret (thn_r (fin_mk (.inr rfl) ?_))
     exact ⟨vb (by show false = belB (belN N) a b; rw [belB, if_pos h11]), hB⟩
    ·have h11 := dne_f g11
     have e1 : a.kind = b.kind := by omega
     refine W.skip ?_
     refine thn_n ?_
     refine W.seq ?_
     refine W.seq ?_
     refine W.region ?_
     refine L.val (x_fa kbelow_fo25_0 rfl) rfl ?_
     refine L.val (x_ld (v := .int _ _) kbelow_oc3 rfl (bx2.cell0 rfl)) rfl ?_
     refine L.nil ?_
     refine thn_n ?_
     refine W.block ?_
     refine W.seq ?_
     refine W.seq ?_
     refine W.region ?_
     refine L.val (x_eql rfl rfl) rfl ?_
     refine L.val (x_as (v := .bool _) rfl) rfl ?_
     refine L.nil ?_
     refine thn_n ?_
     refine W.cond (b := _) rfl (fun g15 => ?_) (fun g15 => ?_)
     ·have h15 := of_decide_eq_true g15
      refine W.skip ?_
      refine thn_n ?_
      refine W.cond (b := _) rfl (fun _ => ?_) (fun h => nomatch (g15.symm.trans h : true = false))
      refine W.seq ?_
      refine W.region ?_
      refine L.val (x_fa kbelow_fo25_1 rfl) rfl ?_
      refine L.val (x_ld (v := S _) kbelow_oc9 rfl (bx2.cell0 rfl)) rfl ?_
      refine L.val (x_fa kbelow_fo25_1 rfl) rfl ?_
      refine L.val (x_ld (v := S _) kbelow_oc9 rfl (bx3.cell0 rfl)) rfl ?_
      refine L.val (x_eqs rfl rfl) rfl ?_
      refine L.val (x_mv (v := .bool _) rfl) rfl ?_
      refine' L.group0 5 23 27 27 22 true rfl ?_ ?_ ?_
      rotate_left 1
      ·intro g22
       have h22 := seq_t g22
       refine L.gyes' (dj := 22) (b := _) rfl rfl g22 ?_
       refine L.val (x_fa kbelow_fo25_2 rfl) rfl ?_
       refine L.gyes' (dj := 22) (b := _) rfl rfl g22 ?_
       refine L.val (x_ld (v := S _) kbelow_oc9 rfl (bx2.cell0 rfl)) rfl ?_
       refine L.gyes' (dj := 22) (b := _) rfl rfl g22 ?_
       refine L.val (x_fa kbelow_fo25_2 rfl) rfl ?_
       refine L.gyes' (dj := 22) (b := _) rfl rfl g22 ?_
       refine L.val (x_ld (v := S _) kbelow_oc9 rfl (bx3.cell0 rfl)) rfl ?_
       refine L.gyes' (dj := 22) (b := _) rfl rfl g22 ?_
       refine L.val (x_eqs rfl rfl) rfl ?_
       refine L.nil ?_
       refine thn_n ⟨rfl, rfl, ?_, rfl⟩
       repeat (first | exact jeq.refl _ _ _ | refine jeq.upd rfl ?_ | refine jeq.jk rfl rfl ?_)
      ·intro g22
       refine L.gno (dj := 22) (b := _) rfl rfl g22 rfl ?_
       refine L.gno (dj := 22) (b := _) rfl rfl g22 rfl ?_
       refine L.gno (dj := 22) (b := _) rfl rfl g22 rfl ?_
       refine L.gno (dj := 22) (b := _) rfl rfl g22 rfl ?_
       refine L.gno (dj := 22) (b := _) rfl rfl g22 rfl ?_
       refine L.nil (thn_n ⟨rfl, rfl, ?_⟩)
       repeat (first | exact jeq.refl _ _ _ | refine jeq.upd rfl ?_ | refine jeq.jk rfl rfl ?_)
      intro J22 j22
      refine L.val (x_and rfl j22) rfl ?_
      refine L.val (x_as (v := .bool _) rfl) rfl ?_
      refine L.nil ?_
      refine thn_n ?_
      refine W.ret (blk_r (thn_r (fin_mk (.inr rfl) ?_)))
      exact ⟨vb (by show _ = belB (belN N) a b; rw [belB, if_neg (by simpa using e1), if_pos (by omega)]; rw [Bool.eq_iff_iff]; simp), hB⟩
     ·have h15 := of_decide_eq_false g15
      refine W.region ?_
      refine L.val (x_eql rfl rfl) rfl ?_
      refine L.val (x_as (v := .bool _) rfl) rfl ?_
      refine L.nil ?_
      refine thn_n ?_
      refine W.cond (b := _) rfl (fun g16 => ?_) (fun g16 => ?_)
      ·have h16 := of_decide_eq_true g16
       refine W.seq ?_
       refine W.region ?_
       refine L.val (x_fa kbelow_fo25_1 rfl) rfl ?_
       refine L.val (x_ld (v := S _) kbelow_oc9 rfl (bx2.cell0 rfl)) rfl ?_
       refine L.val (x_fa kbelow_fo25_1 rfl) rfl ?_
       refine L.val (x_ld (v := S _) kbelow_oc9 rfl (bx3.cell0 rfl)) rfl ?_
       refine L.val (x_eqs rfl rfl) rfl ?_
       refine L.val (x_mv (v := .bool _) rfl) rfl ?_
       refine' L.group0 5 23 27 27 22 true rfl ?_ ?_ ?_
       rotate_left 1
       ·intro g22
        have h22 := seq_t g22
        refine L.gyes' (dj := 22) (b := _) rfl rfl g22 ?_
        refine L.val (x_fa kbelow_fo25_2 rfl) rfl ?_
        refine L.gyes' (dj := 22) (b := _) rfl rfl g22 ?_
        refine L.val (x_ld (v := S _) kbelow_oc9 rfl (bx2.cell0 rfl)) rfl ?_
        refine L.gyes' (dj := 22) (b := _) rfl rfl g22 ?_
        refine L.val (x_fa kbelow_fo25_2 rfl) rfl ?_
        refine L.gyes' (dj := 22) (b := _) rfl rfl g22 ?_
        refine L.val (x_ld (v := S _) kbelow_oc9 rfl (bx3.cell0 rfl)) rfl ?_
        refine L.gyes' (dj := 22) (b := _) rfl rfl g22 ?_
        refine L.val (x_eqs rfl rfl) rfl ?_
        refine L.nil ?_
        refine thn_n ⟨rfl, rfl, ?_, rfl⟩
        repeat (first | exact jeq.refl _ _ _ | refine jeq.upd rfl ?_ | refine jeq.jk rfl rfl ?_)
       ·intro g22
        refine L.gno (dj := 22) (b := _) rfl rfl g22 rfl ?_
        refine L.gno (dj := 22) (b := _) rfl rfl g22 rfl ?_
        refine L.gno (dj := 22) (b := _) rfl rfl g22 rfl ?_
        refine L.gno (dj := 22) (b := _) rfl rfl g22 rfl ?_
        refine L.gno (dj := 22) (b := _) rfl rfl g22 rfl ?_
        refine L.nil (thn_n ⟨rfl, rfl, ?_⟩)
        repeat (first | exact jeq.refl _ _ _ | refine jeq.upd rfl ?_ | refine jeq.jk rfl rfl ?_)
       intro J22 j22
       refine L.val (x_and rfl j22) rfl ?_
       refine L.val (x_as (v := .bool _) rfl) rfl ?_
       refine L.nil ?_
       refine thn_n ?_
       refine W.ret (blk_r (thn_r (fin_mk (.inr rfl) ?_)))
       exact ⟨vb (by show _ = belB (belN N) a b; rw [belB, if_neg (by simpa using e1), if_pos (by omega)]; rw [Bool.eq_iff_iff]; simp), hB⟩
      ·have h16 := of_decide_eq_false g16
       refine W.seq ?_
       refine W.region ?_
       refine L.val (x_eql rfl rfl) rfl ?_
       refine L.val (x_as (v := .bool _) rfl) rfl ?_
       refine L.nil ?_
       refine thn_n ?_
       refine W.cond (b := _) rfl (fun g30 => ?_) (fun g30 => ?_)
       ·have h30 := of_decide_eq_true g30
        have l1 := fits5 (allB_fit hfa) h30
        have l2 := fits5 (allB_fit hfb) (by rw [← e1]; exact h30)
        obtain ⟨bp, op, rfl, hcp⟩ := hra.elem (i := 0) (by omega)
        obtain ⟨bq, oq, rfl, hcq⟩ := hrb.elem (i := 0) (by omega)
        refine W.seq ?_
        refine W.drawB kbelow_mixed (by kernel_rfl) ?_
        refine LQ.val (fun w hw => x_fa kbelow_fo25_4 rfl) rfl ?_
        refine LQ.val (fun w hw => x_ld (v := .slice _ _ _) kbelow_oc23 rfl (hw.keep (bx2.cell0 rfl))) rfl ?_
        refine LQ.val (fun w hw => x_ia (j := 0) Tryz.underlying23 kbelow_sz25 rfl rfl rfl (by omega)) rfl ?_
        refine LQ.val (fun w hw => x_ldn (vs := rowa 0) kbelow_ag25 rfl (hra.five 0 (by omega)) (hw.keepRow (hra.five 0 (by omega)) (hra.elemAt (by omega)))) rfl ?_
        refine LQ.val (fun w hw => x_fa kbelow_fo25_4 rfl) rfl ?_
        refine LQ.val (fun w hw => x_ld (v := .slice _ _ _) kbelow_oc23 rfl (hw.keep (bx3.cell0 rfl))) rfl ?_
        refine LQ.val (fun w hw => x_ia (j := 0) Tryz.underlying23 kbelow_sz25 rfl rfl rfl (by omega)) rfl ?_
        refine LQ.val (fun w hw => x_ldn (vs := rowb 0) kbelow_ag25 rfl (hrb.five 0 (by omega)) (hw.keepRow (hrb.five 0 (by omega)) (hrb.elemAt (by omega)))) rfl ?_
        refine LQ.ret (fun w => x_call kbelow_en64 rfl) (fun w hw => Ret.mono (hI 0 0 (by omega) (by omega) A B _ _ _ ((hra.each 0 (by omega)).carry hw) ((hrb.each 0 (by omega)).carry hw)) (fun _ _ h => ⟨h.1, Gr.trans hw h.2⟩)) rfl ?_
        refine LQ.val (fun w hw => x_as (v := .bool _) rfl) rfl ?_
        refine LQ.nil ?_
        intro w31 hw
        have hB := hB.carry hw; have ha := ha.carry hw; have hb := hb.carry hw; have hra := hra.carry hw; have hrb := hrb.carry hw; have bx2 := bx2.carry hw; have bx3 := bx3.carry hw
        refine thn_n ?_
        refine W.ret (blk_r (thn_r (fin_mk (.inr rfl) ?_)))
        exact ⟨vb (by show _ = belB (belN N) a b; rw [belB, if_neg (by simpa using e1), if_neg (by omega), if_pos h30]), hB⟩
       ·have h30 := of_decide_eq_false g30
        refine W.seq ?_
        refine W.region ?_
        refine L.val (x_eql rfl rfl) rfl ?_
        refine L.val (x_as (v := .bool _) rfl) rfl ?_
        refine L.nil ?_
        refine thn_n ?_
        refine W.cond (b := _) rfl (fun g41 => ?_) (fun g41 => ?_)
        ·have h41 := of_decide_eq_true g41
         have na := rec_nodup (allB_fit hfa) (.inl h41)
         refine W.seq ?_
         refine W.region ?_
         refine L.val (x_ldn (vs := _) kbelow_ag25 rfl rfl (bx3.row rfl)) rfl ?_
         refine L.val (x_ldn (vs := _) kbelow_ag25 rfl rfl (bx2.row rfl)) rfl ?_
         refine L.ret (x_call kbelow_en114 rfl) rfl (within_ok 115 kbelow_en115 (fun x y => belN N y x) b a hfsb hfsa na (fun i j hi hj A B xs ys w hx hy => belclos_ok _ A B _ _ xs ys w hx hy (fun A B xs ys w hx hy => hI j i hj hi B A _ _ _ hy hx)) _ _ _ _ _ hb ha) ?_
         rintro _ w44 ⟨rfl, hw⟩
         have hB := hB.carry hw; have ha := ha.carry hw; have hb := hb.carry hw; have hra := hra.carry hw; have hrb := hrb.carry hw; have bx2 := bx2.carry hw; have bx3 := bx3.carry hw
         refine L.val (x_as (v := .bool _) rfl) rfl ?_
         refine L.nil ?_
         refine thn_n ?_
         refine W.ret (blk_r (thn_r (fin_mk (.inr rfl) ?_)))
         exact ⟨vb (by show _ = belB (belN N) a b; rw [belB, if_neg (by simpa using e1), if_neg (by omega), if_neg (by omega), if_pos h41]; rfl), hB⟩
        ·have h41 := of_decide_eq_false g41
         refine W.seq ?_
         refine W.region ?_
         refine L.val (x_eql rfl rfl) rfl ?_
         refine L.val (x_as (v := .bool _) rfl) rfl ?_
         refine L.nil ?_
         refine thn_n ?_
         refine W.cond (b := _) rfl (fun g46 => ?_) (fun g46 => ?_)
         ·have h46 := of_decide_eq_true g46
          have nb := rec_nodup (allB_fit hfb) (by rw [← e1]; exact .inr h46)
          refine W.seq ?_
          refine W.region ?_
          refine L.val (x_ldn (vs := _) kbelow_ag25 rfl rfl (bx2.row rfl)) rfl ?_
          refine L.val (x_ldn (vs := _) kbelow_ag25 rfl rfl (bx3.row rfl)) rfl ?_
          refine L.ret (x_call kbelow_en114 rfl) rfl (within_ok 64 kbelow_en64 (belN N) a b hfsa hfsb nb hI _ _ _ _ _ ha hb) ?_
          rintro _ w49 ⟨rfl, hw⟩
          have hB := hB.carry hw; have ha := ha.carry hw; have hb := hb.carry hw; have hra := hra.carry hw; have hrb := hrb.carry hw; have bx2 := bx2.carry hw; have bx3 := bx3.carry hw
          refine L.val (x_as (v := .bool _) rfl) rfl ?_
          refine L.nil ?_
          refine thn_n ?_
          refine W.ret (blk_r (thn_r (fin_mk (.inr rfl) ?_)))
          exact ⟨vb (by show _ = belB (belN N) a b; rw [belB, if_neg (by simpa using e1), if_neg (by omega), if_neg (by omega), if_neg (by omega), if_pos h46]), hB⟩
         ·have h46 := of_decide_eq_false g46
          refine W.seq ?_
          refine W.region ?_
          refine L.val (x_eql rfl rfl) rfl ?_
          refine L.val (x_as (v := .bool _) rfl) rfl ?_
          refine L.nil ?_
          refine thn_n ?_
          refine W.cond (b := _) rfl (fun g51 => ?_) (fun g51 => ?_)
          ·have h51 := of_decide_eq_true g51
           have l1 := fits8 (allB_fit hfa) h51
           have l2 := fits8 (allB_fit hfb) (by rw [← e1]; exact h51)
           have hbe : belB (belN N) a b = lastB (belN N) a b := by rw [belB, if_neg (by simpa using e1), if_neg (by omega), if_neg (by omega), if_neg (by omega), if_neg (by omega), if_pos h51]
           refine W.seq ?_
           refine W.region ?_
           refine L.val (x_fa kbelow_fo25_4 rfl) rfl ?_
           refine L.val (x_ld (v := .slice _ _ _) kbelow_oc23 rfl (bx2.cell0 rfl)) rfl ?_
           refine L.val (x_len_slice Tryz.underlying23 rfl) rfl ?_
           refine L.val (x_sub rfl rfl (wr64 (by omega))) rfl ?_
           refine L.val (x_as (v := .int _ _) rfl) rfl ?_
           refine L.nil ?_
           refine thn_n ?_
           refine W.seq ?_
           refine W.seq ?_
           refine W.drawF 20 kbelow_mixed (fun wF56 hB0 => ?_)
           refine LAC.takeN (i := 0) rfl (by kernel_rfl) (by kernel_rfl) (by kernel_rfl) (by kernel_rfl) (fun w hw => x_fa kbelow_fo25_4 rfl) rfl ?_
           refine LAC.takeN (i := 1) rfl (by kernel_rfl) (by kernel_rfl) (by kernel_rfl) (by kernel_rfl) (fun w hw => x_ld (v := .slice _ _ _) kbelow_oc23 rfl (hw.keep (bx3.cell0 rfl))) rfl ?_
           refine LAC.takeN (i := 2) rfl (by kernel_rfl) (by kernel_rfl) (by kernel_rfl) (by kernel_rfl) (fun w hw => x_len_slice Tryz.underlying23 rfl) rfl ?_
           refine LAC.takeN (i := 3) rfl (by kernel_rfl) (by kernel_rfl) (by kernel_rfl) (by kernel_rfl) (fun w hw => x_mv (v := .int _ _) rfl) rfl ?_
           refine LAC.takeN (i := 4) rfl (by kernel_rfl) (by kernel_rfl) (by kernel_rfl) (by kernel_rfl) (fun w hw => x_add rfl rfl (wr64 (by omega))) rfl ?_
           refine LAC.takeN (i := 5) rfl (by kernel_rfl) (by kernel_rfl) (by kernel_rfl) (by kernel_rfl) (fun w hw => x_neq rfl rfl) rfl ?_
           refine LAC.takeN (i := 6) rfl (by kernel_rfl) (by kernel_rfl) (by kernel_rfl) (by kernel_rfl) (fun w hw => x_mv (v := .bool _) rfl) rfl ?_
           refine LAC.split (dj := 62) (b := _) rfl (fun g62 => ?_) (fun g62 => ?_)
           ·have h62 := dne_t g62
            have hret : lastB (belN N) a b = false := by unfold lastB; rw [if_pos (by omega)]
            refine LAC.takeU (i := 7) rfl (by kernel_rfl) (by kernel_rfl) (by kernel_rfl) (by kernel_rfl) (dj := 62) (b := _) rfl rfl g62 rfl ?_
            refine LAC.takeU (i := 8) rfl (by kernel_rfl) (by kernel_rfl) (by kernel_rfl) (by kernel_rfl) (dj := 62) (b := _) rfl rfl g62 rfl ?_
            refine LAC.takeU (i := 9) rfl (by kernel_rfl) (by kernel_rfl) (by kernel_rfl) (by kernel_rfl) (dj := 62) (b := _) rfl rfl g62 rfl ?_
            refine LAC.takeU (i := 10) rfl (by kernel_rfl) (by kernel_rfl) (by kernel_rfl) (by kernel_rfl) (dj := 62) (b := _) rfl rfl g62 rfl ?_
            refine LAC.takeU (i := 11) rfl (by kernel_rfl) (by kernel_rfl) (by kernel_rfl) (by kernel_rfl) (dj := 62) (b := _) rfl rfl g62 rfl ?_
            refine LAC.takeU (i := 12) rfl (by kernel_rfl) (by kernel_rfl) (by kernel_rfl) (by kernel_rfl) (dj := 62) (b := _) rfl rfl g62 rfl ?_
            refine LAC.takeU (i := 13) rfl (by kernel_rfl) (by kernel_rfl) (by kernel_rfl) (by kernel_rfl) (dj := 62) (b := _) rfl rfl g62 rfl ?_
            refine LAC.takeU (i := 14) rfl (by kernel_rfl) (by kernel_rfl) (by kernel_rfl) (by kernel_rfl) (dj := 62) (b := _) rfl rfl g62 rfl ?_
            refine LAC.takeU (i := 15) rfl (by kernel_rfl) (by kernel_rfl) (by kernel_rfl) (by kernel_rfl) (dj := 62) (b := _) rfl rfl g62 rfl ?_
            refine LAC.takeU (i := 16) rfl (by kernel_rfl) (by kernel_rfl) (by kernel_rfl) (by kernel_rfl) (dj := 62) (b := _) rfl rfl g62 rfl ?_
            refine LAC.takeU (i := 17) rfl (by kernel_rfl) (by kernel_rfl) (by kernel_rfl) (by kernel_rfl) (dj := 62) (b := _) rfl rfl g62 rfl ?_
            refine LAC.takeU (i := 18) rfl (by kernel_rfl) (by kernel_rfl) (by kernel_rfl) (by kernel_rfl) (dj := 62) (b := _) rfl rfl g62 rfl ?_
            refine LAC.takeN (i := 19) rfl (by kernel_rfl) (by kernel_rfl) (by kernel_rfl) (by kernel_rfl) (fun w hw => x_pick_t (v := .bool _) (congrArg Value.bool g62) rfl) rfl ?_
            refine LAC.doneF (by kernel_rfl) hB0 ?_
            have hB := hB.carry hB0; have ha := ha.carry hB0; have hb := hb.carry hB0; have hra := hra.carry hB0; have hrb := hrb.carry hB0; have bx2 := bx2.carry hB0; have bx3 := bx3.carry hB0
            refine thn_n ?_
            refine W.cond (b := true) rfl (fun _ => ?_) (fun h => nomatch h)
            refine W.seq ?_
            refine W.region ?_
            refine L.val (x_as (v := .bool _) rfl) rfl ?_
            refine L.nil ?_
            refine thn_n ?_
            refine W.ret (thn_r (blk_r (thn_r (fin_mk (.inr rfl) ?_))))
            exact ⟨vb (by show false = belB (belN N) a b; rw [hbe, hret]), hB⟩
           ·have h62 := dne_f g62
            have hl : a.parts.length = b.parts.length := by omega
            obtain ⟨bp, op, rfl, hcp⟩ := hra.elem (i := 0) (by omega)
            obtain ⟨bq, oq, rfl, hcq⟩ := hrb.elem (i := 0) (by omega)
            refine LAC.takeG (i := 7) rfl (by kernel_rfl) (by kernel_rfl) (by kernel_rfl) (by kernel_rfl) (dj := 62) (b := _) rfl rfl g62 (fun w hw => x_fa kbelow_fo25_4 rfl) rfl ?_
            refine LAC.takeG (i := 8) rfl (by kernel_rfl) (by kernel_rfl) (by kernel_rfl) (by kernel_rfl) (dj := 62) (b := _) rfl rfl g62 (fun w hw => x_ld (v := .slice _ _ _) kbelow_oc23 rfl (hw.keep (bx2.cell0 rfl))) rfl ?_
            refine LAC.takeG (i := 9) rfl (by kernel_rfl) (by kernel_rfl) (by kernel_rfl) (by kernel_rfl) (dj := 62) (b := _) rfl rfl g62 (fun w hw => x_mv (v := .int _ _) rfl) rfl ?_
            refine LAC.takeG (i := 10) rfl (by kernel_rfl) (by kernel_rfl) (by kernel_rfl) (by kernel_rfl) (dj := 62) (b := _) rfl rfl g62 (fun w hw => x_ia (j := a.parts.length - 1) Tryz.underlying23 kbelow_sz25 rfl rfl (by omega) (by omega)) rfl ?_
            refine LAC.takeG (i := 11) rfl (by kernel_rfl) (by kernel_rfl) (by kernel_rfl) (by kernel_rfl) (dj := 62) (b := _) rfl rfl g62 (fun w hw => x_ldn (vs := rowa (a.parts.length - 1)) kbelow_ag25 rfl (hra.five _ (by omega)) (hw.keepRow (hra.five _ (by omega)) (hra.elemAt (by omega)))) rfl ?_
            refine LAC.takeG (i := 12) rfl (by kernel_rfl) (by kernel_rfl) (by kernel_rfl) (by kernel_rfl) (dj := 62) (b := _) rfl rfl g62 (fun w hw => x_fa kbelow_fo25_4 rfl) rfl ?_
            refine LAC.takeG (i := 13) rfl (by kernel_rfl) (by kernel_rfl) (by kernel_rfl) (by kernel_rfl) (dj := 62) (b := _) rfl rfl g62 (fun w hw => x_ld (v := .slice _ _ _) kbelow_oc23 rfl (hw.keep (bx3.cell0 rfl))) rfl ?_
            refine LAC.takeG (i := 14) rfl (by kernel_rfl) (by kernel_rfl) (by kernel_rfl) (by kernel_rfl) (dj := 62) (b := _) rfl rfl g62 (fun w hw => x_mv (v := .int _ _) rfl) rfl ?_
            refine LAC.takeG (i := 15) rfl (by kernel_rfl) (by kernel_rfl) (by kernel_rfl) (by kernel_rfl) (dj := 62) (b := _) rfl rfl g62 (fun w hw => x_ia (j := a.parts.length - 1) Tryz.underlying23 kbelow_sz25 rfl rfl (by omega) (by omega)) rfl ?_
            refine LAC.takeG (i := 16) rfl (by kernel_rfl) (by kernel_rfl) (by kernel_rfl) (by kernel_rfl) (dj := 62) (b := _) rfl rfl g62 (fun w hw => x_ldn (vs := rowb (a.parts.length - 1)) kbelow_ag25 rfl (hrb.five _ (by omega)) (hw.keepRow (hrb.five _ (by omega)) (hrb.elemAt (by omega)))) rfl ?_
            refine LAC.step (rs := [17]) (fun _ => hB0) (by kernel_rfl) (by simp) ⟨⟨_, rfl, ?_⟩, trivial⟩
            refine L.gyes' (dj := 62) (b := _) rfl rfl g62 ?_
            refine L.ret (x_call kbelow_en64 rfl) rfl (hI (a.parts.length - 1) (a.parts.length - 1) (by omega) (by omega) A B _ _ _ ((hra.each _ (by omega)).carry hB0) ((hrb.each _ (by omega)).carry hB0)) ?_
            rintro _ w73 ⟨rfl, hw⟩
            have hB0 := hB0.carry hw
            refine L.nil ?_
            refine thn_n ?_
            refine LAC.takeG (i := 18) rfl (by kernel_rfl) (by kernel_rfl) (by kernel_rfl) (by kernel_rfl) (dj := 62) (b := _) rfl rfl g62 (fun w hw => x_not rfl) rfl ?_
            refine LAC.takeN (i := 19) rfl (by kernel_rfl) (by kernel_rfl) (by kernel_rfl) (by kernel_rfl) (fun w hw => x_pick_f (v := .bool _) (congrArg Value.bool g62) rfl) rfl ?_
            refine LAC.doneF (by kernel_rfl) hB0 ?_
            have hB := hB.carry hB0; have ha := ha.carry hB0; have hb := hb.carry hB0; have hra := hra.carry hB0; have hrb := hrb.carry hB0; have bx2 := bx2.carry hB0; have bx3 := bx3.carry hB0
            refine thn_n ?_
            refine W.cond (b := _) rfl (fun g74 => ?_) (fun g74 => ?_)
            ·have h74 := (not_t g74)
             have hret : lastB (belN N) a b = false := by unfold lastB; rw [if_neg (by omega), if_pos h74]
             refine W.seq ?_
             refine W.region ?_
             refine L.val (x_as (v := .bool _) rfl) rfl ?_
             refine L.nil ?_
             refine thn_n ?_
             refine W.ret (thn_r (blk_r (thn_r (fin_mk (.inr rfl) ?_))))
             exact ⟨vb (by show false = belB (belN N) a b; rw [hbe, hret]), hB⟩
            ·have h74 := (not_f g74)
             refine W.skip ?_
             refine thn_n ?_
             refine W.seq ?_
             refine W.region ?_
             refine L.val (x_mv (v := .int _ _) rfl) rfl ?_
             refine L.val (x_mv (v := .int _ _) rfl) rfl ?_
             refine L.nil ?_
             refine thn_n ?_
             refine W.block ?_
             refine W.loop (fun m' E w' => ∃ (i : Nat), m' = a.parts.length - 1 - i ∧ E 2 = .pointer (some ⟨w.heap.size, 0, none⟩) ∧ E 3 = .pointer (some ⟨b3, 0, none⟩) ∧ E 76 = .int .i64 ((a.parts.length - 1 : Nat)) ∧ E 77 = .int .i64 (i : Nat) ∧ (Bel w w') ∧ (ShRow A w' (some ⟨bp, op, none⟩) rowa a.parts) ∧ (ShRow B w' (some ⟨bq, oq, none⟩) rowb b.parts) ∧ (Box w' w.heap.size 25 [.int .i64 a.kind, S a.of, S a.name, vna, .slice (some ⟨bp, op, none⟩) a.parts.length cap]) ∧ (Box w' b3 25 [.int .i64 b.kind, S b.of, S b.name, vnb, .slice (some ⟨bq, oq, none⟩) b.parts.length capq]) ∧ (i ≤ a.parts.length - 1) ∧ (((List.range i).all fun i => belN N (b.parts.getD i default) (a.parts.getD i default)) = true)) (a.parts.length - 1) ?_ ?_
             ·exact ⟨0, by omega, by first | rfl | exact vi (by omega), by first | rfl | exact vi (by omega), by first | rfl | exact vi (by omega), by first | rfl | exact vi (by omega), (by first | assumption | omega | rfl), (by first | assumption | omega | rfl), (by first | assumption | omega | rfl), (by first | assumption | omega | rfl), (by first | assumption | omega | rfl), (by first | assumption | omega | rfl), (by rfl)⟩
             ·rintro _ E wL78 ⟨i, em, e2, e3, e76, e77, hB, hra, hrb, bx2, bx3, hi, hall⟩
              rw [upd_self e2, upd_self e3, upd_self e76, upd_self e77]
              refine W.seq ?_
              refine W.region ?_
              refine L.val (x_lss rfl rfl) rfl ?_
              refine L.nil ?_
              refine thn_n ?_
              refine W.seq ?_
              refine W.cond (b := _) rfl (fun g78 => ?_) (fun g78 => ?_)
              ·have h78 := of_decide_eq_true g78
               refine W.skip ?_
               refine thn_n ?_
               refine W.seq ?_
               refine W.block ?_
               refine W.seq ?_
               refine W.region ?_
               refine L.val (x_mv (v := .int _ _) rfl) rfl ?_
               refine L.val (x_as (v := .int _ _) rfl) rfl ?_
               refine L.nil ?_
               refine thn_n ?_
               refine W.seq ?_
               refine W.drawB kbelow_mixed (by kernel_rfl) ?_
               refine LQ.val (fun w hw => x_fa kbelow_fo25_4 rfl) rfl ?_
               refine LQ.val (fun w hw => x_ld (v := .slice _ _ _) kbelow_oc23 rfl (hw.keep (bx3.cell0 rfl))) rfl ?_
               refine LQ.val (fun w hw => x_mv (v := .int _ _) rfl) rfl ?_
               refine LQ.val (fun w hw => x_ia (j := i) Tryz.underlying23 kbelow_sz25 rfl rfl (by omega) (by omega)) rfl ?_
               refine LQ.val (fun w hw => x_ldn (vs := rowb i) kbelow_ag25 rfl (hrb.five _ (by omega)) (hw.keepRow (hrb.five _ (by omega)) (hrb.elemAt (by omega)))) rfl ?_
               refine LQ.val (fun w hw => x_fa kbelow_fo25_4 rfl) rfl ?_
               refine LQ.val (fun w hw => x_ld (v := .slice _ _ _) kbelow_oc23 rfl (hw.keep (bx2.cell0 rfl))) rfl ?_
               refine LQ.val (fun w hw => x_mv (v := .int _ _) rfl) rfl ?_
               refine LQ.val (fun w hw => x_ia (j := i) Tryz.underlying23 kbelow_sz25 rfl rfl (by omega) (by omega)) rfl ?_
               refine LQ.val (fun w hw => x_ldn (vs := rowa i) kbelow_ag25 rfl (hra.five _ (by omega)) (hw.keepRow (hra.five _ (by omega)) (hra.elemAt (by omega)))) rfl ?_
               refine LQ.ret (fun w => x_call kbelow_en64 rfl) (fun w hw => Ret.mono (hJ i i (by omega) (by omega) B A _ _ _ ((hrb.each _ (by omega)).carry hw) ((hra.each _ (by omega)).carry hw)) (fun _ _ h => ⟨h.1, Gr.trans hw h.2⟩)) rfl ?_
               refine LQ.val (fun w hw => x_not rfl) rfl ?_
               refine LQ.nil ?_
               intro w80 hw
               have hB := hB.carry hw; have hra := hra.carry hw; have hrb := hrb.carry hw; have bx2 := bx2.carry hw; have bx3 := bx3.carry hw
               refine thn_n ?_
               refine W.cond (b := _) rfl (fun g91 => ?_) (fun g91 => ?_)
               ·have h91 := (not_t g91)
                refine W.seq ?_
                refine W.region ?_
                refine L.val (x_as (v := .bool _) rfl) rfl ?_
                refine L.nil ?_
                refine thn_n ?_
                refine W.ret (blk_r (thn_r (thn_r (blk_r (blk_r (thn_r (fin_mk (.inr rfl) ?_)))))))
                exact ⟨vb (by show false = belB (belN N) a b; rw [hbe]; unfold lastB; rw [if_neg (by omega), if_neg (by rw [h74]; simp), all_missR (k := i) (by omega) h91]), hB⟩
               ·have h91 := (not_f g91)
                refine W.skip ?_
                refine blk_n ?_
                refine thn_n ?_
                refine W.region ?_
                refine L.val (x_add rfl rfl (wr64 (by omega))) rfl ?_
                refine L.val (x_mv (v := .int _ _) rfl) rfl ?_
                refine L.nil ?_
                refine thn_n ⟨rfl, ?_⟩
                refine ⟨_, ?_, i + 1, rfl, by first | rfl | exact vi (by omega), by first | rfl | exact vi (by omega), by first | rfl | exact vi (by omega), by first | rfl | exact vi (by omega), (by first | assumption | omega | rfl), (by first | assumption | omega | rfl), (by first | assumption | omega | rfl), (by first | assumption | omega | rfl), (by first | assumption | omega | rfl), (by first | assumption | omega | rfl), (by rw [all_succ, hall]; exact h91)⟩
                omega
              ·have h78 := dlt_f g78
               refine W.exit (thn_x (thn_x (blk_hit ?_)))
               refine blk_n ?_
               refine thn_n ?_
               refine W.seq ?_
               refine W.region ?_
               refine L.val (x_as (v := .bool _) rfl) rfl ?_
               refine L.nil ?_
               refine thn_n ?_
               refine W.ret (fin_mk (.inr rfl) ?_)
               first
                 | exact ⟨vb (by show true = belB (belN N) a b; rw [hbe]; unfold lastB; rw [if_neg (by omega), if_neg (by rw [h74]; simp), show a.parts.length - 1 = i by omega, hall]), hB⟩
                 | exact ⟨vb (by show true = belB (belN N) a b; rw [belB, if_neg (by simpa using e1), if_neg (by omega), if_neg (by omega), if_neg (by omega), if_neg (by omega), if_neg (by omega)]), hB⟩
          ·have h51 := of_decide_eq_false g51
           refine W.skip ?_
           refine blk_n ?_
           refine thn_n ?_
           refine W.seq ?_
           refine W.region ?_
           refine L.val (x_as (v := .bool _) rfl) rfl ?_
           refine L.nil ?_
           refine thn_n ?_
           refine W.ret (fin_mk (.inr rfl) ?_)
           first
             | exact ⟨vb (by show true = belB (belN N) a b; rw [hbe]; unfold lastB; rw [if_neg (by omega), if_neg (by rw [h74]; simp), show a.parts.length - 1 = i by omega, hall]), hB⟩
             | exact ⟨vb (by show true = belB (belN N) a b; rw [belB, if_neg (by simpa using e1), if_neg (by omega), if_neg (by omega), if_neg (by omega), if_neg (by omega), if_neg (by omega)]), hB⟩
theorem below_ok (A B : Nat → Prop) (a b : Sh) (xs ys : List Value) (w : World) (ha : ShC A w xs a) (hb : ShC B w ys b) :
    Ret Tryz.prog 27 #[.agg xs.toArray, .agg ys.toArray] w fun v w' => v = .bool (belowR a b) ∧ Bel w w' := by
  have hla := ha.len
  have hlb := hb.len
  refine ret_of_W Tryz.func27 rfl (Nat.le_of_ble_eq_true rfl) (res1 rfl) ?_
  have hB := Gr.refl (fun _ => False) w
  refine W.seq ?_
  refine W.region ?_
  refine L.box (cs := xs) rfl rfl (fun w2 bx2 hw hz2 => ?_)
  have hB := hB.carry hw; have ha := ha.carry hw; have hb := hb.carry hw
  refine L.box (cs := ys) rfl rfl (fun w3 bx3 hw hz3 => ?_)
  have hB := hB.carry hw; have ha := ha.carry hw; have hb := hb.carry hw; have bx2 := bx2.carry hw
  refine L.val (x_as (v := .bool _) rfl) rfl ?_
  refine L.nil ?_
  refine thn_n ?_
  refine W.seq ?_
  refine W.region ?_
  refine L.val (x_ldn (vs := xs) kbelow_ag25 rfl hla (bx2.row hla)) rfl ?_
  refine L.ret (x_call kbelow_en50 rfl) rfl (checkL A a _ _ ha) ?_
  rintro _ w6 ⟨rfl, hw⟩
  have hB := hB.carry hw; have ha := ha.carry hw; have hb := hb.carry hw; have bx2 := bx2.carry hw; have bx3 := bx3.carry hw
  refine L.val (x_eql rfl rfl) rfl ?_
  refine L.val (x_mv (v := .bool _) rfl) rfl ?_
  refine' L.group 3 9 11 11 8 true rfl ?_ ?_ ?_
  rotate_left 1
  ·intro g8 hg8
   have h8 := of_decide_eq_true g8
   refine L.gyes' (dj := 8) (b := _) rfl rfl g8 ?_
   refine L.val (x_ldn (vs := ys) kbelow_ag25 rfl hlb (bx3.row hlb)) rfl ?_
   refine L.gyes' (dj := 8) (b := _) rfl rfl g8 ?_
   refine L.ret (x_call kbelow_en50 rfl) rfl (checkL B b _ _ hb) ?_
   rintro _ w10 ⟨rfl, hw⟩
   have hB := hB.carry hw; have ha := ha.carry hw; have hb := hb.carry hw; have bx2 := bx2.carry hw; have bx3 := bx3.carry hw; have hg8 := hg8.carry hw
   refine L.gyes' (dj := 8) (b := _) rfl rfl g8 ?_
   refine L.val (x_eql rfl rfl) rfl ?_
   refine L.nil ?_
   refine thn_n ⟨rfl, ?_, ?_, fun _ => rfl⟩
   ·exact hg8
   ·repeat (first | exact jeq.refl _ _ _ | refine jeq.upd rfl ?_ | refine jeq.jk rfl rfl ?_)
  ·intro g8
   refine L.gno (dj := 8) (b := _) rfl rfl g8 rfl ?_
   refine L.gno (dj := 8) (b := _) rfl rfl g8 rfl ?_
   refine L.gno (dj := 8) (b := _) rfl rfl g8 rfl ?_
   refine L.nil (thn_n ⟨rfl, Gr.refl _ _, ?_⟩)
   refine ⟨?_, fun h => h.elim⟩
   repeat (first | exact jeq.refl _ _ _ | refine jeq.upd rfl ?_ | refine jeq.jk rfl rfl ?_)
  intro J8 w8 hw j8
  have hB := hB.carry hw; have ha := ha.carry hw; have hb := hb.carry hw; have bx2 := bx2.carry hw; have bx3 := bx3.carry hw
  refine L.val (x_and rfl j8) rfl ?_
  refine L.val (x_mv (v := .bool _) rfl) rfl ?_
  refine' L.group 3 14 16 16 13 true rfl ?_ ?_ ?_
  rotate_left 1
  ·intro g13 hg13
   have h13 := g13
   refine L.gyes' (dj := 13) (b := _) rfl rfl g13 ?_
   refine L.val (x_ldn (vs := xs) kbelow_ag25 rfl hla (bx2.row hla)) rfl ?_
   refine L.gyes' (dj := 13) (b := _) rfl rfl g13 ?_
   refine L.val (x_ldn (vs := ys) kbelow_ag25 rfl hlb (bx3.row hlb)) rfl ?_
   refine L.gyes' (dj := 13) (b := _) rfl rfl g13 ?_
   refine L.ret (x_call kbelow_en64 rfl) rfl (below0 _ a b (Nat.lt_succ_self _) (check_zero (s := a) (by simp at g13; exact g13.1)).2.2 (check_zero (s := b) (by simp at g13; exact g13.2)).2.2 A B _ _ _ ha hb) ?_
   rintro _ w16 ⟨rfl, hw⟩
   have hB := hB.carry hw; have ha := ha.carry hw; have hb := hb.carry hw; have bx2 := bx2.carry hw; have bx3 := bx3.carry hw; have hg13 := hg13.carry hw
   refine L.nil ?_
   refine thn_n ⟨rfl, ?_, ?_, fun _ => rfl⟩
   ·exact hg13
   ·repeat (first | exact jeq.refl _ _ _ | refine jeq.upd rfl ?_ | refine jeq.jk rfl rfl ?_)
  ·intro g13
   refine L.gno (dj := 13) (b := _) rfl rfl g13 rfl ?_
   refine L.gno (dj := 13) (b := _) rfl rfl g13 rfl ?_
   refine L.gno (dj := 13) (b := _) rfl rfl g13 rfl ?_
   refine L.nil (thn_n ⟨rfl, Gr.refl _ _, ?_⟩)
   refine ⟨?_, fun h => h.elim⟩
   repeat (first | exact jeq.refl _ _ _ | refine jeq.upd rfl ?_ | refine jeq.jk rfl rfl ?_)
  intro J13 w13 hw j13
  have hB := hB.carry hw; have ha := ha.carry hw; have hb := hb.carry hw; have bx2 := bx2.carry hw; have bx3 := bx3.carry hw
  refine L.val (x_and rfl j13) rfl ?_
  refine L.val (x_as (v := .bool _) rfl) rfl ?_
  refine L.nil ?_
  refine thn_n ?_
  refine W.ret (fin_mk (.inr rfl) ?_)
  exact ⟨vb below_bel, hB⟩
end Go.Gx
