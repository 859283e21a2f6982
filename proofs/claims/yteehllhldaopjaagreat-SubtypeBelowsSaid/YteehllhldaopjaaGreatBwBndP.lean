/- Joins and meets: the program's walk. Conditions: none. -/
import Derived.Test.YteehllhldaopjaaGreatBwNamB
import Derived.Test.YteehllhldaopjaaGreatBwDrawG
namespace Go.Gx
open Go.Proofs
theorem kbndp_ag25 : aggT Tryz.prog 25 5 = true := by kernel_rfl
theorem kbndp_el25 : elT Tryz.prog 25 5 = true := by kernel_rfl
theorem kbndp_en117 : Go.Proofs.Enters Tryz.prog 117 := Go.Proofs.enters_of Tryz.func117 (by kernel_rfl) rfl
theorem kbndp_en155 : Go.Proofs.Enters Tryz.prog 155 := Go.Proofs.enters_of Tryz.func155 (by kernel_rfl) rfl
theorem kbndp_en156 : Go.Proofs.Enters Tryz.prog 156 := Go.Proofs.enters_of Tryz.func156 (by kernel_rfl) rfl
theorem kbndp_en50 : Go.Proofs.Enters Tryz.prog 50 := Go.Proofs.enters_of Tryz.func50 (by kernel_rfl) rfl
theorem kbndp_en67 : Go.Proofs.Enters Tryz.prog 67 := Go.Proofs.enters_of Tryz.func67 (by kernel_rfl) rfl
theorem kbndp_en75 : Go.Proofs.Enters Tryz.prog 75 := Go.Proofs.enters_of Tryz.func75 (by kernel_rfl) rfl
theorem kbndp_fo25_0 : fieldOff Tryz.prog 25 0 = some 0 := by kernel_rfl
theorem kbndp_fo25_1 : fieldOff Tryz.prog 25 1 = some 1 := by kernel_rfl
theorem kbndp_fo25_2 : fieldOff Tryz.prog 25 2 = some 2 := by kernel_rfl
theorem kbndp_fo25_4 : fieldOff Tryz.prog 25 4 = some 4 := by kernel_rfl
theorem kbndp_mixed : Tryz.prog.follows .mixedOrders = true := by kernel_rfl
theorem kbndp_oc23 : oneCellT Tryz.prog 23 = true := by kernel_rfl
theorem kbndp_oc3 : oneCellT Tryz.prog 3 = true := by kernel_rfl
theorem kbndp_oc9 : oneCellT Tryz.prog 9 = true := by kernel_rfl
theorem kbndp_si25 : structInfo Tryz.prog 25 = some ([(0, 1), (1, 1), (2, 1), (3, 1), (4, 1)], [Value.int .i64 0, S [], S [], Value.slice none 0 0, Value.slice none 0 0]) := by kernel_rfl
theorem kbndp_sz25 : (Tryz.prog.info? 25).map (·.size) = some 5 := by kernel_rfl
theorem kbndp_zr25 : (Tryz.prog.info? 25).bind (·.zero) = some (Value.agg [Value.int .i64 0, S [], S [], Value.slice none 0 0, Value.slice none 0 0].toArray) := by kernel_rfl
set_option maxHeartbeats 1000000 in
theorem bound0 : ∀ (N : Nat) (up : Bool) (a b : Sh), SizeOf.sizeOf a + SizeOf.sizeOf b < N → a.size ≤ 400 → b.size ≤ 400 → a.allB fitsS = true → b.allB fitsS = true → ∀ (A0 B0 : Nat → Prop) (xs ys : List Value) (w : World), ShC A0 w xs a → ShC B0 w ys b →
    Ret Tryz.prog 117 #[.agg xs.toArray, .agg ys.toArray, .bool up] w fun v w' => BndV (bndN uniU N up a b) (fun k => k < w.heap.size ∧ A0 k ∧ B0 k) v w' ∧ Bel w w' := by
  intro N
  induction N with
  | zero => intro up a b h; omega
  | succ N ih =>
    intro up a b hN hMa hMb fa fb A0 B0 xs ys w ha0 hb0
    obtain ⟨M, hM, hM0⟩ : ∃ M : Nat → Prop, (∀ k, w.heap.size ≤ k → M k) ∧ (∀ k, M k ↔ (A0 k ∨ w.heap.size ≤ k) ∧ (B0 k ∨ w.heap.size ≤ k)) := ⟨fun k => (A0 k ∨ w.heap.size ≤ k) ∧ (B0 k ∨ w.heap.size ≤ k), fun k h => ⟨.inr h, .inr h⟩, fun k => Iff.rfl⟩
    have ha : ShC M w xs a := ha0.up.mono fun k _ h => ((hM0 k).1 h).1
    have hb : ShC M w ys b := hb0.up.mono fun k _ h => ((hM0 k).1 h).2
    clear ha0 hb0
    have hRes : ∀ k, k < w.heap.size ∧ A0 k ∧ B0 k → M k := fun k h => (hM0 k).2 ⟨.inl h.2.1, .inl h.2.2⟩
    have hpla := parts_le a
    have hplb := parts_le b
    have hF : BndHyp (bndN uniU N) a b := fun up i j hi hj A B xs ys w hx hy => ih up _ _ (by have := Sh.part_lt hi; have := Sh.part_lt hj; omega) (by have := Sh.part_size hi; omega) (by have := Sh.part_size hj; omega) (part_fit fa hi) (part_fit fb hj) A B xs ys w hx hy
    obtain ⟨vna, vpa, rfl, hnA, hpa, -⟩ := id ha.inv
    obtain ⟨p, cap, rowa, rfl, p1, p2, p3, hra⟩ := hpa
    obtain ⟨vnb, vpb, rfl, hnB, hpb, -⟩ := id hb.inv
    obtain ⟨q, capq, rowb, rfl, q1, q2, q3, hrb⟩ := hpb
    refine ret_of_W_R Tryz.func117 rfl (Nat.le_of_ble_eq_true rfl) ?_
    have hB := Gr.refl (fun _ => False) w
    refine W.seq ?_
    refine W.region ?_
    refine L.box (cs := _) rfl rfl (fun w3 bx3 hw hz3 => ?_)
    have hB := hB.carry hw; have ha := ha.carry hw; have hb := hb.carry hw; have hra := hra.carry hw; have hrb := hrb.carry hw
    refine L.box (cs := _) rfl rfl (fun w4 bx4 hw hz4 => ?_)
    have hB := hB.carry hw; have ha := ha.carry hw; have hb := hb.carry hw; have hra := hra.carry hw; have hrb := hrb.carry hw; have bx3 := bx3.carry hw
    refine L.alloc (cs := [Value.int .i64 0, S [], S [], Value.slice none 0 0, Value.slice none 0 0]) kbndp_zr25 rfl rfl (fun w6 bx6 hw hz6 => ?_)
    have hB := hB.carry hw; have ha := ha.carry hw; have hb := hb.carry hw; have hra := hra.carry hw; have hrb := hrb.carry hw; have bx3 := bx3.carry hw; have bx4 := bx4.carry hw
    obtain ⟨b6, hb6⟩ : ∃ b6, b6 = w4.heap.size := ⟨_, rfl⟩
    rw [← hb6] at bx6 ⊢
    obtain ⟨b4, hb4⟩ : ∃ b4, b4 = w3.heap.size := ⟨_, rfl⟩
    rw [← hb4] at bx4 ⊢
    have z1 : w.heap.size < b4 ∧ b4 < b6 := by omega
    have hx6 := bx6.lt
    clear hb4 hb6 hz3 hz4 hz6
    refine L.val (x_as (v := .bool _) rfl) rfl ?_
    refine L.nil ?_
    refine thn_n ?_
    refine W.seq ?_
    refine W.seq ?_
    refine W.region ?_
    refine L.val (x_fa kbndp_fo25_0 rfl) rfl ?_
    refine L.val (x_ld (v := .int _ _) kbndp_oc3 rfl (bx3.cell0 rfl)) rfl ?_
    refine L.val (x_fa kbndp_fo25_0 rfl) rfl ?_
    refine L.val (x_ld (v := .int _ _) kbndp_oc3 rfl (bx4.cell0 rfl)) rfl ?_
    refine L.val (x_neq rfl rfl) rfl ?_
    refine L.nil ?_
    refine thn_n ?_
    refine W.cond (b := _) rfl (fun g14 => ?_) (fun g14 => ?_)
    ·have h14 := dne_t g14
     refine W.seq ?_
     refine W.region ?_
     refine L.val (x_build (cells := [.int _ _, S _, S _, .slice _ _ _, .slice _ _ _]) kbndp_si25 rfl rfl) rfl ?_
     refine L.setRow kbndp_ag25 rfl rfl bx6 rfl rfl (by simp [Value.oneCell', S]) (fun wl11 bx6 hw hzl11 => ?_)
     have hsz := hB.size
     have hB := hB.set hw (by omega); have ha := ha.carryR hw (fun k e => hM k (by have e : k = _ := e; omega)); have hb := hb.carryR hw (fun k e => hM k (by have e : k = _ := e; omega)); have hra := hra.carryR hw (fun k e => hM k (by have e : k = _ := e; omega)); have hrb := hrb.carryR hw (fun k e => hM k (by have e : k = _ := e; omega)); have bx3 := bx3.carryR hw (by omega); have bx4 := bx4.carryR hw (by omega)
     refine L.val (x_as (v := .bool _) rfl) rfl ?_
     refine L.nil ?_
     refine thn_n ?_
     refine W.ret (thn_r (finR_mk (.inr rfl) ?_))
     exact ⟨_, resST (v := .bool false) rfl kbndp_ag25 rfl rfl bx6 rfl, bndV_none (by show bndF uniU (bndN uniU N) up a b = none; unfold bndF; rw [if_pos h14]), hB⟩
    ·have h14 := dne_f g14
     have e1 : a.kind = b.kind := by omega
     refine W.skip ?_
     refine thn_n ?_
     refine W.seq ?_
     refine W.seq ?_
     refine W.region ?_
     refine L.val (x_fa kbndp_fo25_0 rfl) rfl ?_
     refine L.val (x_ld (v := .int _ _) kbndp_oc3 rfl (bx3.cell0 rfl)) rfl ?_
     refine L.nil ?_
     refine thn_n ?_
     refine W.block ?_
     refine W.seq ?_
     refine W.region ?_
     refine L.val (x_eql rfl rfl) rfl ?_
     refine L.val (x_as (v := .bool _) rfl) rfl ?_
     refine L.nil ?_
     refine thn_n ?_
     refine W.cond (b := _) rfl (fun g19 => ?_) (fun g19 => ?_)
     ·have h19 := of_decide_eq_true g19
      have l1 := fits5 (allB_fit fa) h19
      have l2 := fits5 (allB_fit fb) (by rw [← e1]; exact h19)
      have h0a : 0 < a.parts.length := by omega
      have h0b : 0 < b.parts.length := by omega
      obtain ⟨pb, po, rfl, -⟩ := hra.elem h0a
      obtain ⟨qb, qo, rfl, -⟩ := hrb.elem h0b
      have hbe : bndN uniU (N + 1) up a b = (bndN uniU N up (a.parts.getD 0 default) (b.parts.getD 0 default)).map fun p => .mk 5 [] [] [] [p] := by show bndF uniU (bndN uniU N) up a b = _; unfold bndF; rw [if_neg (by simpa using e1), if_pos h19]
      have hs19 := hB.size
      refine W.cut (fun D' E' w' => D' = [] ∧ ∃ (b8 : Nat) (cs : List Value) (t : Sh), E' 6 = .pointer (some ⟨b6, 0, none⟩) ∧ E' 8 = .pointer (some ⟨b8, 0, none⟩) ∧ E' 9 = .bool (bndN uniU N up (a.parts.getD 0 default) (b.parts.getD 0 default)).isSome ∧ b6 < b8 ∧ (∀ r, bndN uniU N up (a.parts.getD 0 default) (b.parts.getD 0 default) = some r → t = r) ∧ Bel w w' ∧ Box w' b6 25 [.int .i64 0, S [], S [], .slice none 0 0, .slice none 0 0] ∧ Box w' b8 25 cs ∧ ShC (fun k => M k ∧ k ≤ b6) w' cs t) ?_ ?_
      ·refine W.drawF 16 kbndp_mixed (fun wF21 hB0 => ?_)
       refine LAC.takeN (i := 0) rfl (by kernel_rfl) (by kernel_rfl) (by kernel_rfl) (by kernel_rfl) (fun w hw => x_fa kbndp_fo25_4 rfl) rfl ?_
       refine LAC.takeN (i := 1) rfl (by kernel_rfl) (by kernel_rfl) (by kernel_rfl) (by kernel_rfl) (fun w hw => x_ld (v := .slice _ _ _) kbndp_oc23 rfl (hw.keep (bx3.cell0 rfl))) rfl ?_
       refine LAC.takeN (i := 2) rfl (by kernel_rfl) (by kernel_rfl) (by kernel_rfl) (by kernel_rfl) (fun w hw => x_ia (j := 0) Tryz.underlying23 kbndp_sz25 rfl rfl rfl (by omega)) rfl ?_
       refine LAC.takeN (i := 3) rfl (by kernel_rfl) (by kernel_rfl) (by kernel_rfl) (by kernel_rfl) (fun w hw => x_ldn (vs := rowa 0) kbndp_ag25 rfl (hra.five 0 h0a) (hw.keepRow (hra.five 0 h0a) (hra.elemAt h0a))) rfl ?_
       refine LAC.takeN (i := 4) rfl (by kernel_rfl) (by kernel_rfl) (by kernel_rfl) (by kernel_rfl) (fun w hw => x_fa kbndp_fo25_4 rfl) rfl ?_
       refine LAC.takeN (i := 5) rfl (by kernel_rfl) (by kernel_rfl) (by kernel_rfl) (by kernel_rfl) (fun w hw => x_ld (v := .slice _ _ _) kbndp_oc23 rfl (hw.keep (bx4.cell0 rfl))) rfl ?_
       refine LAC.takeN (i := 6) rfl (by kernel_rfl) (by kernel_rfl) (by kernel_rfl) (by kernel_rfl) (fun w hw => x_ia (j := 0) Tryz.underlying23 kbndp_sz25 rfl rfl rfl (by omega)) rfl ?_
       refine LAC.takeN (i := 7) rfl (by kernel_rfl) (by kernel_rfl) (by kernel_rfl) (by kernel_rfl) (fun w hw => x_ldn (vs := rowb 0) kbndp_ag25 rfl (hrb.five 0 h0b) (hw.keepRow (hrb.five 0 h0b) (hrb.elemAt h0b))) rfl ?_
       refine LAC.takeN (i := 8) rfl (by kernel_rfl) (by kernel_rfl) (by kernel_rfl) (by kernel_rfl) (fun w hw => x_mv (v := .bool _) rfl) rfl ?_
       refine LAC.step (rs := [9, 13]) (fun _ => hB0) (by kernel_rfl) (by simp) ⟨⟨_, rfl, ?_⟩, ⟨_, rfl, ?_⟩, trivial⟩
       ·have hs30 := hB0.size
        refine L.ret (x_call kbndp_en117 rfl) rfl (hF up 0 0 h0a h0b M M _ _ _ ((hra.each 0 h0a).carry hB0) ((hrb.each 0 h0b).carry hB0)) ?_
        rintro _ w30 ⟨⟨cs30, s30, rfl, ht, hs30r⟩, hw⟩
        have hB0 := hB0.carry hw
        have hs30b := hw.size
        have ht := ht.up
        refine L.nil ?_
        refine thn_n ?_
        refine LAC.takeN (i := 10) rfl (by kernel_rfl) (by kernel_rfl) (by kernel_rfl) (by kernel_rfl) (fun w hw => x_mv (v := _) rfl) rfl ?_
        refine LAC.takeN (i := 11) rfl (by kernel_rfl) (by kernel_rfl) (by kernel_rfl) (by kernel_rfl) (fun w hw => x_ext (v := _) rfl rfl) rfl ?_
        refine LAC.takeN (i := 12) rfl (by kernel_rfl) (by kernel_rfl) (by kernel_rfl) (by kernel_rfl) (fun w hw => x_ext (v := .bool _) rfl rfl) rfl ?_
        refine LAC.step (rs := [13]) (fun _ => hB0) (by kernel_rfl) (by simp) ⟨⟨_, rfl, ?_⟩, trivial⟩
        have hs8 := hB0.size
        refine L.alloc (cs := [Value.int .i64 0, S [], S [], Value.slice none 0 0, Value.slice none 0 0]) kbndp_zr25 rfl rfl (fun w8 bx8 hw hz8 => ?_)
        have hB0 := hB0.carry hw; have ht := ht.carry hw
        refine L.nil ?_
        refine thn_n ?_
        refine LAC.step (rs := [14]) (fun _ => hB0) (by kernel_rfl) (by simp) ⟨⟨_, rfl, ?_⟩, trivial⟩
        refine L.setRow kbndp_ag25 rfl rfl bx8 rfl ht.len ht.one (fun wl31 bx8 hw hzl31 => ?_)
        have hB0 := hB0.set hw (by omega); have ht := ht.carryR hw (fun j e => by have e : j = _ := e; first | exact .inr (by omega) | exact .inl ⟨by omega, hM _ (by omega), hM _ (by omega)⟩ | exact ⟨hM _ (by omega), by omega⟩ | exact ⟨by omega, hM _ (by omega), hM _ (by omega)⟩)
        refine L.nil ?_
        refine thn_n ?_
        refine LAC.takeN (i := 15) rfl (by kernel_rfl) (by kernel_rfl) (by kernel_rfl) (by kernel_rfl) (fun w hw => x_as (v := .bool _) rfl) rfl ?_
        refine LAC.doneF (by kernel_rfl) hB0 ?_
        have hB := hB.carry hB0; have ha := ha.carry hB0; have hb := hb.carry hB0; have hra := hra.carry hB0; have hrb := hrb.carry hB0; have bx3 := bx3.carry hB0; have bx4 := bx4.carry hB0; have bx6 := bx6.carry hB0
        refine thn_n ?_
        have hx6f := hB0.size
        exact ⟨rfl, _, cs30, s30, rfl, rfl, rfl, by omega, hs30r, hB, bx6, bx8, ht.mono (fun j _ h => .inl ⟨by omega, h.1, h.1⟩)⟩
       ·have hs8 := hB0.size
        refine L.alloc (cs := [Value.int .i64 0, S [], S [], Value.slice none 0 0, Value.slice none 0 0]) kbndp_zr25 rfl rfl (fun w8 bx8 hw hz8 => ?_)
        have hB0 := hB0.carry hw
        refine L.nil ?_
        refine thn_n ?_
        refine LAC.step (rs := [9]) (fun _ => hB0) (by kernel_rfl) (by simp) ⟨⟨_, rfl, ?_⟩, trivial⟩
        have hs30 := hB0.size
        refine L.ret (x_call kbndp_en117 rfl) rfl (hF up 0 0 h0a h0b M M _ _ _ ((hra.each 0 h0a).carry hB0) ((hrb.each 0 h0b).carry hB0)) ?_
        rintro _ w30 ⟨⟨cs30, s30, rfl, ht, hs30r⟩, hw⟩
        have hB0 := hB0.carry hw; have bx8 := bx8.carry hw
        have hs30b := hw.size
        have ht := ht.up
        refine L.nil ?_
        refine thn_n ?_
        refine LAC.takeN (i := 10) rfl (by kernel_rfl) (by kernel_rfl) (by kernel_rfl) (by kernel_rfl) (fun w hw => x_mv (v := _) rfl) rfl ?_
        refine LAC.takeN (i := 11) rfl (by kernel_rfl) (by kernel_rfl) (by kernel_rfl) (by kernel_rfl) (fun w hw => x_ext (v := _) rfl rfl) rfl ?_
        refine LAC.takeN (i := 12) rfl (by kernel_rfl) (by kernel_rfl) (by kernel_rfl) (by kernel_rfl) (fun w hw => x_ext (v := .bool _) rfl rfl) rfl ?_
        refine LAC.step (rs := [14]) (fun _ => hB0) (by kernel_rfl) (by simp) ⟨⟨_, rfl, ?_⟩, trivial⟩
        refine L.setRow kbndp_ag25 rfl rfl bx8 rfl ht.len ht.one (fun wl31 bx8 hw hzl31 => ?_)
        have hB0 := hB0.set hw (by omega); have ht := ht.carryR hw (fun j e => by have e : j = _ := e; first | exact .inr (by omega) | exact .inl ⟨by omega, hM _ (by omega), hM _ (by omega)⟩ | exact ⟨hM _ (by omega), by omega⟩ | exact ⟨by omega, hM _ (by omega), hM _ (by omega)⟩)
        refine L.nil ?_
        refine thn_n ?_
        refine LAC.takeN (i := 15) rfl (by kernel_rfl) (by kernel_rfl) (by kernel_rfl) (by kernel_rfl) (fun w hw => x_as (v := .bool _) rfl) rfl ?_
        refine LAC.doneF (by kernel_rfl) hB0 ?_
        have hB := hB.carry hB0; have ha := ha.carry hB0; have hb := hb.carry hB0; have hra := hra.carry hB0; have hrb := hrb.carry hB0; have bx3 := bx3.carry hB0; have bx4 := bx4.carry hB0; have bx6 := bx6.carry hB0
        refine thn_n ?_
        have hx6f := hB0.size
        exact ⟨rfl, _, cs30, s30, rfl, rfl, rfl, by omega, hs30r, hB, bx6, bx8, ht.mono (fun j _ h => .inl ⟨by omega, h.1, h.1⟩)⟩
      ·rintro D E w33 ⟨rfl, b8, cs, t, e6, e8, e9, z8, htr, hB, bx6, bx8, ht⟩
       rw [upd_self e6, upd_self e8, upd_self e9]
       have hs33 := hB.size
       have hx8 := bx8.lt
       refine W.seq ?_
       refine W.region ?_
       refine L.val (x_ldn (vs := cs) kbndp_ag25 rfl ht.len (bx8.row ht.len)) rfl ?_
       refine L.bs (sz := 5) (cells := cs) Tryz.underlying23 kbndp_el25 rfl (by show (partsOk 5 0 [(0, Value.agg cs.toArray)] && decide ([((0 : Nat), Value.agg cs.toArray)].length = 1) && decide (0 < 1) && decide (1 * 5 ≤ 16777216)) = true; simp [partsOk, ht.len, Value.cells]) (by show ([((0 : Nat), Value.agg cs.toArray)].map fun x => x.2.cells.toList).flatten = cs; simp [Value.cells]) rfl (fun w34 bx34 hw hz34 => ?_)
       have hB := hB.carry hw; have bx6 := bx6.carry hw; have bx8 := bx8.carry hw; have ht := ht.carry hw
       refine L.val (x_build (cells := [.int _ _, S _, S _, .slice _ _ _, .slice _ _ _]) kbndp_si25 rfl rfl) rfl ?_
       refine L.val (x_mv (v := .bool _) rfl) rfl ?_
       refine L.setRow kbndp_ag25 rfl rfl bx6 rfl rfl (by simp [Value.oneCell', S]) (fun wl37 bx6 hw hzl37 => ?_)
       have hsz := hB.size
       have hB := hB.set hw (by omega); have bx8 := bx8.carryR hw (by omega); have ht := ht.carryR hw (fun j e => by have e : j = _ := e; first | exact .inr (by omega) | exact .inl ⟨by omega, hM _ (by omega), hM _ (by omega)⟩ | exact ⟨hM _ (by omega), by omega⟩ | exact ⟨by omega, hM _ (by omega), hM _ (by omega)⟩); have bx34 := bx34.carryR hw (by omega)
       refine L.val (x_as (v := .bool _) rfl) rfl ?_
       refine L.nil ?_
       refine thn_n ?_
       refine W.ret (blk_r (thn_r (finR_mk (.inr rfl) ?_)))
       have ht2 := ht.mono (A' := fun k => k < w.heap.size ∧ A0 k ∧ B0 k) (fun k _ h => ⟨hRes k h, by omega⟩)
       have hps := shs_of_box (A := fun k => k < w.heap.size ∧ A0 k ∧ B0 k) [cs] [t] (by simpa using bx34) (fun h => by omega) (by simp) rfl (each1 ht2)
       refine ⟨_, resST (v := .bool _) rfl kbndp_ag25 rfl rfl bx6 rfl, ⟨_, .mk 5 [] [] [] [t], by rw [hbe, Option.isSome_map]; rfl, ShC.intro (StrsAt.nil _ _ _ _ (by simp)) hps (by simp) (by simp), fun r e => ?_⟩, hB⟩
       rw [hbe] at e
       obtain ⟨r', hr', rfl⟩ := Option.map_eq_some_iff.1 e
       rw [htr r' hr']
     ·have h19 := of_decide_eq_false g19
      refine W.seq ?_
      refine W.region ?_
      refine L.val (x_eql rfl rfl) rfl ?_
      refine L.val (x_as (v := .bool _) rfl) rfl ?_
      refine L.nil ?_
      refine thn_n ?_
      refine W.cond (b := _) rfl (fun g38 => ?_) (fun g38 => ?_)
      ·have h38 := of_decide_eq_true g38
       have hbe : bndN uniU (N + 1) up a b = nmdB uniU (bndN uniU N) up (!up) a b := by show bndF uniU (bndN uniU N) up a b = _; unfold bndF; rw [if_neg (by simpa using e1), if_neg (by omega), if_pos (.inl h38)]; unfold allK; rw [if_pos h38]
       have k1 : a.kind = 6 ∨ a.kind = 7 := .inl h38
       have k2 : b.kind = 6 ∨ b.kind = 7 := by rw [← e1]; exact k1
       refine W.seq ?_
       refine W.region ?_
       refine L.val (x_ldn (vs := _) kbndp_ag25 rfl rfl (bx3.row rfl)) rfl ?_
       refine L.val (x_ldn (vs := _) kbndp_ag25 rfl rfl (bx4.row rfl)) rfl ?_
       refine L.val (x_mv (v := .bool _) rfl) rfl ?_
       refine L.val (x_mv (v := .bool _) rfl) rfl ?_
       refine L.val (x_not rfl) rfl ?_
       have hx6a := bx6.lt
       have hsa := hB.size
       refine L.ret (x_call kbndp_en155 rfl) rfl (named_ok2 (bndN uniU N) up (!up) a b (rec_nodup (allB_fit fa) k1) (rec_nodup (allB_fit fb) k2) (rec_len (allB_fit fa) k1) (rec_len (allB_fit fb) k2) (by omega) (by omega) hF M M _ _ _ ha hb) ?_
       rintro _ w44 ⟨⟨cs44, s44, rfl, ht, hsr⟩, hw⟩
       have hB := hB.carry hw; have ha := ha.carry hw; have hb := hb.carry hw; have hra := hra.carry hw; have hrb := hrb.carry hw; have bx3 := bx3.carry hw; have bx4 := bx4.carry hw; have bx6 := bx6.carry hw
       have hlt := ht.len
       refine L.val (x_ext (v := _) rfl rfl) rfl ?_
       refine L.val (x_ext (v := .bool _) rfl rfl) rfl ?_
       refine L.setRow kbndp_ag25 rfl rfl bx6 rfl hlt ht.one (fun wl49 bx6 hw hzl49 => ?_)
       have hsz := hB.size
       have hB := hB.set hw (by omega); have ha := ha.carryR hw (fun k e => hM k (by have e : k = _ := e; omega)); have hb := hb.carryR hw (fun k e => hM k (by have e : k = _ := e; omega)); have hra := hra.carryR hw (fun k e => hM k (by have e : k = _ := e; omega)); have hrb := hrb.carryR hw (fun k e => hM k (by have e : k = _ := e; omega)); have bx3 := bx3.carryR hw (by omega); have bx4 := bx4.carryR hw (by omega); have ht := ht.carryR hw (fun j e => by have e : j = _ := e; first | exact .inr (by omega) | exact .inl ⟨by omega, hM _ (by omega), hM _ (by omega)⟩ | exact ⟨hM _ (by omega), by omega⟩ | exact ⟨by omega, hM _ (by omega), hM _ (by omega)⟩)
       refine L.val (x_as (v := .bool _) rfl) rfl ?_
       refine L.nil ?_
       refine thn_n ?_
       refine W.ret (blk_r (thn_r (finR_mk (.inr rfl) ?_)))
       exact ⟨_, resST (v := .bool _) rfl kbndp_ag25 rfl rfl bx6 hlt, ⟨cs44, s44, by rw [hbe], ht.mono (fun k _ h => ⟨by omega, hRes k h, hRes k h⟩), fun r e => hsr r (by rw [← hbe]; exact e)⟩, hB⟩
      ·have h38 := of_decide_eq_false g38
       refine W.seq ?_
       refine W.region ?_
       refine L.val (x_eql rfl rfl) rfl ?_
       refine L.val (x_as (v := .bool _) rfl) rfl ?_
       refine L.nil ?_
       refine thn_n ?_
       refine W.cond (b := _) rfl (fun g48 => ?_) (fun g48 => ?_)
       ·have h48 := of_decide_eq_true g48
        have hbe : bndN uniU (N + 1) up a b = nmdB uniU (bndN uniU N) up up a b := by show bndF uniU (bndN uniU N) up a b = _; unfold bndF; rw [if_neg (by simpa using e1), if_neg (by omega), if_pos (.inr h48)]; unfold allK; rw [if_neg (by omega)]
        have k1 : a.kind = 6 ∨ a.kind = 7 := .inr h48
        have k2 : b.kind = 6 ∨ b.kind = 7 := by rw [← e1]; exact k1
        refine W.seq ?_
        refine W.region ?_
        refine L.val (x_ldn (vs := _) kbndp_ag25 rfl rfl (bx3.row rfl)) rfl ?_
        refine L.val (x_ldn (vs := _) kbndp_ag25 rfl rfl (bx4.row rfl)) rfl ?_
        refine L.val (x_mv (v := .bool _) rfl) rfl ?_
        refine L.val (x_mv (v := .bool _) rfl) rfl ?_
        have hx6a := bx6.lt
        have hsa := hB.size
        refine L.ret (x_call kbndp_en155 rfl) rfl (named_ok2 (bndN uniU N) up up a b (rec_nodup (allB_fit fa) k1) (rec_nodup (allB_fit fb) k2) (rec_len (allB_fit fa) k1) (rec_len (allB_fit fb) k2) (by omega) (by omega) hF M M _ _ _ ha hb) ?_
        rintro _ w53 ⟨⟨cs44, s44, rfl, ht, hsr⟩, hw⟩
        have hB := hB.carry hw; have ha := ha.carry hw; have hb := hb.carry hw; have hra := hra.carry hw; have hrb := hrb.carry hw; have bx3 := bx3.carry hw; have bx4 := bx4.carry hw; have bx6 := bx6.carry hw
        have hlt := ht.len
        refine L.val (x_ext (v := _) rfl rfl) rfl ?_
        refine L.val (x_ext (v := .bool _) rfl rfl) rfl ?_
        refine L.setRow kbndp_ag25 rfl rfl bx6 rfl hlt ht.one (fun wl60 bx6 hw hzl60 => ?_)
        have hsz := hB.size
        have hB := hB.set hw (by omega); have ha := ha.carryR hw (fun k e => hM k (by have e : k = _ := e; omega)); have hb := hb.carryR hw (fun k e => hM k (by have e : k = _ := e; omega)); have hra := hra.carryR hw (fun k e => hM k (by have e : k = _ := e; omega)); have hrb := hrb.carryR hw (fun k e => hM k (by have e : k = _ := e; omega)); have bx3 := bx3.carryR hw (by omega); have bx4 := bx4.carryR hw (by omega); have ht := ht.carryR hw (fun j e => by have e : j = _ := e; first | exact .inr (by omega) | exact .inl ⟨by omega, hM _ (by omega), hM _ (by omega)⟩ | exact ⟨hM _ (by omega), by omega⟩ | exact ⟨by omega, hM _ (by omega), hM _ (by omega)⟩)
        refine L.val (x_as (v := .bool _) rfl) rfl ?_
        refine L.nil ?_
        refine thn_n ?_
        refine W.ret (blk_r (thn_r (finR_mk (.inr rfl) ?_)))
        exact ⟨_, resST (v := .bool _) rfl kbndp_ag25 rfl rfl bx6 hlt, ⟨cs44, s44, by rw [hbe], ht.mono (fun k _ h => ⟨by omega, hRes k h, hRes k h⟩), fun r e => hsr r (by rw [← hbe]; exact e)⟩, hB⟩
       ·have h48 := of_decide_eq_false g48
        refine W.seq ?_
        refine W.region ?_
        refine L.val (x_eql rfl rfl) rfl ?_
        refine L.val (x_as (v := .bool _) rfl) rfl ?_
        refine L.nil ?_
        refine thn_n ?_
        refine W.cond (b := _) rfl (fun g57 => ?_) (fun g57 => ?_)
        ·have h57 := of_decide_eq_true g57
         have hbe : bndN uniU (N + 1) up a b = funB (bndN uniU N) up a b := by show bndF uniU (bndN uniU N) up a b = _; unfold bndF; rw [if_neg (by simpa using e1), if_neg (by omega), if_neg (by omega), if_pos h57]
         refine W.seq ?_
         refine W.region ?_
         refine L.val (x_ldn (vs := _) kbndp_ag25 rfl rfl (bx3.row rfl)) rfl ?_
         refine L.val (x_ldn (vs := _) kbndp_ag25 rfl rfl (bx4.row rfl)) rfl ?_
         refine L.val (x_mv (v := .bool _) rfl) rfl ?_
         have hx6a := bx6.lt
         have hsa := hB.size
         refine L.ret (x_call kbndp_en156 rfl) rfl (function_ok (bndN uniU N) up a b (by omega) hF M M _ _ _ ha hb) ?_
         rintro _ w61 ⟨⟨cs44, s44, rfl, ht, hsr⟩, hw⟩
         have hB := hB.carry hw; have ha := ha.carry hw; have hb := hb.carry hw; have hra := hra.carry hw; have hrb := hrb.carry hw; have bx3 := bx3.carry hw; have bx4 := bx4.carry hw; have bx6 := bx6.carry hw
         have hlt := ht.len
         refine L.val (x_ext (v := _) rfl rfl) rfl ?_
         refine L.val (x_ext (v := .bool _) rfl rfl) rfl ?_
         refine L.setRow kbndp_ag25 rfl rfl bx6 rfl hlt ht.one (fun wl70 bx6 hw hzl70 => ?_)
         have hsz := hB.size
         have hB := hB.set hw (by omega); have ha := ha.carryR hw (fun k e => hM k (by have e : k = _ := e; omega)); have hb := hb.carryR hw (fun k e => hM k (by have e : k = _ := e; omega)); have hra := hra.carryR hw (fun k e => hM k (by have e : k = _ := e; omega)); have hrb := hrb.carryR hw (fun k e => hM k (by have e : k = _ := e; omega)); have bx3 := bx3.carryR hw (by omega); have bx4 := bx4.carryR hw (by omega); have ht := ht.carryR hw (fun j e => by have e : j = _ := e; first | exact .inr (by omega) | exact .inl ⟨by omega, hM _ (by omega), hM _ (by omega)⟩ | exact ⟨hM _ (by omega), by omega⟩ | exact ⟨by omega, hM _ (by omega), hM _ (by omega)⟩)
         refine L.val (x_as (v := .bool _) rfl) rfl ?_
         refine L.nil ?_
         refine thn_n ?_
         refine W.ret (blk_r (thn_r (finR_mk (.inr rfl) ?_)))
         exact ⟨_, resST (v := .bool _) rfl kbndp_ag25 rfl rfl bx6 hlt, ⟨cs44, s44, by rw [hbe], ht.mono (fun k _ h => ⟨by omega, hRes k h, hRes k h⟩), fun r e => hsr r (by rw [← hbe]; exact e)⟩, hB⟩
        ·have h57 := of_decide_eq_false g57
         have hbe : bndN uniU (N + 1) up a b = if a.of = b.of ∧ a.name = b.name then some a else none := by show bndF uniU (bndN uniU N) up a b = _; unfold bndF; rw [if_neg (by simpa using e1), if_neg (by omega), if_neg (by omega), if_neg (by omega)]
         have hsa := hB.size
         have hx6a := bx6.lt
         refine W.skip ?_
         refine blk_n ?_
         refine thn_n ?_
         refine W.seq ?_
         refine W.drawD (fun k => k = b6 ∨ k = b6) (fun _ => False) 13 kbndp_mixed (fun wD64 hw => ?_)
         have hB := hB.carry hw; have ha := ha.carry hw; have bx3 := bx3.carry hw; have bx4 := bx4.carry hw; have bx6 := bx6.carry hw
         have hB0 := Gr.refl (fun _ => False) wD64; have hR0 := Gr.refl (fun k => k = b6 ∨ k = b6) wD64
         refine LAD.take0 (i := 0) rfl (by kernel_rfl) (by kernel_rfl) (by kernel_rfl) (by kernel_rfl) (fun w hw => x_ldn (vs := _) kbndp_ag25 rfl rfl (hw.keepRowR (by rintro (e | e) <;> (have e : (_ : Nat) = _ := e; (try dsimp only at e); omega)) rfl (bx3.row rfl))) rfl ?_
         refine LAD.take0 (i := 1) rfl (by kernel_rfl) (by kernel_rfl) (by kernel_rfl) (by kernel_rfl) (fun w hw => x_fa kbndp_fo25_1 rfl) rfl ?_
         refine LAD.take0 (i := 2) rfl (by kernel_rfl) (by kernel_rfl) (by kernel_rfl) (by kernel_rfl) (fun w hw => x_ld (v := S _) kbndp_oc9 rfl (hw.keepR (by rintro (e | e) <;> (have e : (_ : Nat) = _ := e; (try dsimp only at e); omega)) (bx3.cell0 rfl))) rfl ?_
         refine LAD.take0 (i := 3) rfl (by kernel_rfl) (by kernel_rfl) (by kernel_rfl) (by kernel_rfl) (fun w hw => x_fa kbndp_fo25_1 rfl) rfl ?_
         refine LAD.take0 (i := 4) rfl (by kernel_rfl) (by kernel_rfl) (by kernel_rfl) (by kernel_rfl) (fun w hw => x_ld (v := S _) kbndp_oc9 rfl (hw.keepR (by rintro (e | e) <;> (have e : (_ : Nat) = _ := e; (try dsimp only at e); omega)) (bx4.cell0 rfl))) rfl ?_
         refine LAD.take0 (i := 5) rfl (by kernel_rfl) (by kernel_rfl) (by kernel_rfl) (by kernel_rfl) (fun w hw => x_eqs rfl rfl) rfl ?_
         refine LAD.take0 (i := 6) rfl (by kernel_rfl) (by kernel_rfl) (by kernel_rfl) (by kernel_rfl) (fun w hw => x_mv (v := .bool _) rfl) rfl ?_
         refine LAD.split (dj := 70) (b := _) rfl (fun g70 => ?_) (fun g70 => ?_)
         ·have h70 := seq_t g70
          refine LAD.takeG (i := 7) rfl (by kernel_rfl) (by kernel_rfl) (by kernel_rfl) (by kernel_rfl) (dj := 70) (b := _) rfl rfl g70 (fun w hw => x_fa kbndp_fo25_2 rfl) rfl ?_
          refine LAD.takeG (i := 8) rfl (by kernel_rfl) (by kernel_rfl) (by kernel_rfl) (by kernel_rfl) (dj := 70) (b := _) rfl rfl g70 (fun w hw => x_ld (v := S _) kbndp_oc9 rfl (hw.keepR (by rintro (e | e) <;> (have e : (_ : Nat) = _ := e; (try dsimp only at e); omega)) (bx3.cell0 rfl))) rfl ?_
          refine LAD.takeG (i := 9) rfl (by kernel_rfl) (by kernel_rfl) (by kernel_rfl) (by kernel_rfl) (dj := 70) (b := _) rfl rfl g70 (fun w hw => x_fa kbndp_fo25_2 rfl) rfl ?_
          refine LAD.takeG (i := 10) rfl (by kernel_rfl) (by kernel_rfl) (by kernel_rfl) (by kernel_rfl) (dj := 70) (b := _) rfl rfl g70 (fun w hw => x_ld (v := S _) kbndp_oc9 rfl (hw.keepR (by rintro (e | e) <;> (have e : (_ : Nat) = _ := e; (try dsimp only at e); omega)) (bx4.cell0 rfl))) rfl ?_
          refine LAD.takeG (i := 11) rfl (by kernel_rfl) (by kernel_rfl) (by kernel_rfl) (by kernel_rfl) (dj := 70) (b := _) rfl rfl g70 (fun w hw => x_eqs rfl rfl) rfl ?_
          refine LAD.take0 (i := 12) rfl (by kernel_rfl) (by kernel_rfl) (by kernel_rfl) (by kernel_rfl) (fun w hw => x_pick_t (v := .bool _) (congrArg Value.bool g70) rfl) rfl ?_
          refine LAD.step (rs := [13]) hR0 (fun _ => hB0) (by kernel_rfl) (by simp) ⟨⟨_, rfl, ?_⟩, trivial⟩
          refine L.setRow kbndp_ag25 rfl rfl bx6 rfl rfl ha.one (fun wl85 bx6 hw hzl85 => ?_)
          have hR0 := hR0.into hw (by first | exact .inl rfl | exact .inr rfl)
          refine L.nil ?_
          refine thn_n ?_
          refine LAD.take0 (i := 14) rfl (by kernel_rfl) (by kernel_rfl) (by kernel_rfl) (by kernel_rfl) (fun w hw => x_as (v := .bool _) rfl) rfl ?_
          refine LAD.done (by kernel_rfl) (by kernel_rfl) hR0 ?_
          have hB := hB.step hR0 (fun i hi e => by rcases e with e | e <;> omega)
          have ha := ha.carryR hR0 (fun k e => hM k (by have e : k = b6 := e.elim id id; omega))
          have bx3 := bx3.carryR hR0 (fun e => by rcases e with e | e <;> omega)
          have bx4 := bx4.carryR hR0 (fun e => by rcases e with e | e <;> omega)
          refine thn_n ?_
          refine W.ret (finR_mk (.inr rfl) ?_)
          refine ⟨_, resST (v := .bool _) rfl kbndp_ag25 rfl rfl bx6 rfl, ⟨_, a, ?_, ha.mono (fun k _ h => hRes k h), fun r e => ?_⟩, hB⟩
          · rw [hbe]
            first
              | rw [if_pos ⟨by simpa using g70, by assumption⟩]; rfl
              | (congr 3; by_cases h1 : a.of = b.of <;> by_cases h2 : a.name = b.name <;> simp_all)
          · rw [hbe] at e
            split at e
            · exact Option.some.inj e
            · cases e
         ·have h70 := seq_f g70
          refine LAD.takeU (i := 7) rfl (by kernel_rfl) (by kernel_rfl) (by kernel_rfl) (by kernel_rfl) (dj := 70) (b := _) rfl rfl g70 rfl ?_
          refine LAD.takeU (i := 8) rfl (by kernel_rfl) (by kernel_rfl) (by kernel_rfl) (by kernel_rfl) (dj := 70) (b := _) rfl rfl g70 rfl ?_
          refine LAD.takeU (i := 9) rfl (by kernel_rfl) (by kernel_rfl) (by kernel_rfl) (by kernel_rfl) (dj := 70) (b := _) rfl rfl g70 rfl ?_
          refine LAD.takeU (i := 10) rfl (by kernel_rfl) (by kernel_rfl) (by kernel_rfl) (by kernel_rfl) (dj := 70) (b := _) rfl rfl g70 rfl ?_
          refine LAD.takeU (i := 11) rfl (by kernel_rfl) (by kernel_rfl) (by kernel_rfl) (by kernel_rfl) (dj := 70) (b := _) rfl rfl g70 rfl ?_
          refine LAD.take0 (i := 12) rfl (by kernel_rfl) (by kernel_rfl) (by kernel_rfl) (by kernel_rfl) (fun w hw => x_pick_f (v := .bool _) (congrArg Value.bool g70) rfl) rfl ?_
          refine LAD.step (rs := [13]) hR0 (fun _ => hB0) (by kernel_rfl) (by simp) ⟨⟨_, rfl, ?_⟩, trivial⟩
          refine L.setRow kbndp_ag25 rfl rfl bx6 rfl rfl ha.one (fun wl85 bx6 hw hzl85 => ?_)
          have hR0 := hR0.into hw (by first | exact .inl rfl | exact .inr rfl)
          refine L.nil ?_
          refine thn_n ?_
          refine LAD.take0 (i := 14) rfl (by kernel_rfl) (by kernel_rfl) (by kernel_rfl) (by kernel_rfl) (fun w hw => x_as (v := .bool _) rfl) rfl ?_
          refine LAD.done (by kernel_rfl) (by kernel_rfl) hR0 ?_
          have hB := hB.step hR0 (fun i hi e => by rcases e with e | e <;> omega)
          have ha := ha.carryR hR0 (fun k e => hM k (by have e : k = b6 := e.elim id id; omega))
          have bx3 := bx3.carryR hR0 (fun e => by rcases e with e | e <;> omega)
          have bx4 := bx4.carryR hR0 (fun e => by rcases e with e | e <;> omega)
          refine thn_n ?_
          refine W.ret (finR_mk (.inr rfl) ?_)
          refine ⟨_, resST (v := .bool _) rfl kbndp_ag25 rfl rfl bx6 rfl, ⟨_, a, ?_, ha.mono (fun k _ h => hRes k h), fun r e => ?_⟩, hB⟩
          · rw [hbe]
            first
              | rw [if_pos ⟨by simpa using g70, by assumption⟩]; rfl
              | (congr 3; by_cases h1 : a.of = b.of <;> by_cases h2 : a.name = b.name <;> simp_all)
          · rw [hbe] at e
            split at e
            · exact Option.some.inj e
            · cases e
theorem madeJ_ok (A B : Nat → Prop) (up : Bool) (a b : Sh) (xs ys : List Value) (w : World) (ha : ShC A w xs a) (hb : ShC B w ys b) :
    Ret Tryz.prog 67 #[.agg xs.toArray, .agg ys.toArray, .bool up] w fun v w' => ∃ cs', v = .tuple #[.agg cs'.toArray, .bool (jmS up a b).2] ∧ ShC (fun k => k < w.heap.size ∧ A k ∧ B k) w' cs' (jmS up a b).1 ∧ Bel w w' := by
  have hla := ha.len
  have hlb := hb.len
  have ha := ha.up
  have hb := hb.up
  refine ret_of_W_R Tryz.func67 rfl (Nat.le_of_ble_eq_true rfl) ?_
  have hB := Gr.refl (fun _ => False) w
  refine W.seq ?_
  refine W.region ?_
  refine L.box (cs := xs) rfl rfl (fun w3 bx3 hw hz3 => ?_)
  have hB := hB.carry hw; have ha := ha.carry hw; have hb := hb.carry hw
  refine L.box (cs := ys) rfl rfl (fun w4 bx4 hw hz4 => ?_)
  have hB := hB.carry hw; have ha := ha.carry hw; have hb := hb.carry hw; have bx3 := bx3.carry hw
  refine L.alloc (cs := [Value.int .i64 0, S [], S [], Value.slice none 0 0, Value.slice none 0 0]) kbndp_zr25 rfl rfl (fun w6 bx6 hw hz6 => ?_)
  have hB := hB.carry hw; have ha := ha.carry hw; have hb := hb.carry hw; have bx3 := bx3.carry hw; have bx4 := bx4.carry hw
  have hsz6 := hB.size
  refine L.val (x_as (v := .bool _) rfl) rfl ?_
  refine L.nil ?_
  refine thn_n ?_
  refine W.seq ?_
  refine W.seq ?_
  refine W.region ?_
  refine L.val (x_ldn (vs := xs) kbndp_ag25 rfl hla (bx3.row hla)) rfl ?_
  refine L.ret (x_call kbndp_en50 rfl) rfl (checkL _ a _ _ ha) ?_
  rintro _ w11 ⟨rfl, hw⟩
  have hB := hB.carry hw; have ha := ha.carry hw; have hb := hb.carry hw; have bx3 := bx3.carry hw; have bx4 := bx4.carry hw; have bx6 := bx6.carry hw
  refine L.val (x_neq rfl rfl) rfl ?_
  refine L.val (x_mv (v := .bool _) rfl) rfl ?_
  refine' L.group 3 14 16 16 13 false rfl ?_ ?_ ?_
  rotate_left 1
  ·intro g13 hg13
   have h13 := dne_f g13
   refine L.gyes' (dj := 13) (b := _) rfl rfl g13 ?_
   refine L.val (x_ldn (vs := ys) kbndp_ag25 rfl hlb (bx4.row hlb)) rfl ?_
   refine L.gyes' (dj := 13) (b := _) rfl rfl g13 ?_
   refine L.ret (x_call kbndp_en50 rfl) rfl (checkL _ b _ _ hb) ?_
   rintro _ w15 ⟨rfl, hw⟩
   have hB := hB.carry hw; have ha := ha.carry hw; have hb := hb.carry hw; have bx3 := bx3.carry hw; have bx4 := bx4.carry hw; have bx6 := bx6.carry hw; have hg13 := hg13.carry hw
   refine L.gyes' (dj := 13) (b := _) rfl rfl g13 ?_
   refine L.val (x_neq rfl rfl) rfl ?_
   refine L.nil ?_
   refine thn_n ⟨rfl, ?_, ?_, fun _ => rfl⟩
   ·exact hg13
   ·repeat (first | exact jeq.refl _ _ _ | refine jeq.upd rfl ?_ | refine jeq.jk rfl rfl ?_)
  ·intro g13
   refine L.gno (dj := 13) (b := _) rfl rfl g13 rfl ?_
   refine L.gno (dj := 13) (b := _) rfl rfl g13 rfl ?_
   refine L.gno (dj := 13) (b := _) rfl rfl g13 rfl ?_
   refine L.nil (thn_n ⟨rfl, Gr.refl _ _, ?_⟩)
   refine ⟨?_, fun h => h.elim⟩
   repeat (first | exact jeq.refl _ _ _ | refine jeq.upd rfl ?_ | refine jeq.jk rfl rfl ?_)
  intro J13 w13 hw j13
  have hB := hB.carry hw; have ha := ha.carry hw; have hb := hb.carry hw; have bx3 := bx3.carry hw; have bx4 := bx4.carry hw; have bx6 := bx6.carry hw
  refine L.val (x_or rfl j13) rfl ?_
  refine L.nil ?_
  refine thn_n ?_
  refine W.cond (b := _) rfl (fun g17 => ?_) (fun g17 => ?_)
  ·have h17 := g17
   refine W.seq ?_
   refine W.region ?_
   refine L.val (x_build (cells := [.int _ _, S _, S _, .slice _ _ _, .slice _ _ _]) kbndp_si25 rfl rfl) rfl ?_
   refine L.setRow kbndp_ag25 rfl rfl bx6 rfl rfl (by simp [Value.oneCell', S]) (fun wl14 bx6 hw hzl14 => ?_)
   have hsz := hB.size
   have hB := hB.set hw (by omega); have ha := ha.carryR hw (fun j e => .inr (by have e : j = _ := e; omega)); have hb := hb.carryR hw (fun j e => .inr (by have e : j = _ := e; omega)); have bx3 := bx3.carryR hw (by omega); have bx4 := bx4.carryR hw (by omega)
   refine L.val (x_as (v := .bool _) rfl) rfl ?_
   refine L.nil ?_
   refine thn_n ?_
   refine W.ret (thn_r (finR_mk (.inr rfl) ?_))
   have e : jmS up a b = (zeroS, false) := by unfold jmS; rw [if_neg (fun h => by simp [h.1, h.2] at g17)]
   refine ⟨_, resST (v := .bool false) rfl kbndp_ag25 rfl rfl bx6 rfl, zeroL, by rw [e], by rw [e]; exact zeroC _ _, hB⟩
  ·have h17 := g17
   have hx6d := bx6.lt
   have hsz17 := hB.size
   have hca : checkS a = 0 := by simp at g17; exact g17.1
   have hcb : checkS b = 0 := by simp at g17; exact g17.2
   have c1 := check_zero hca
   have c2 := check_zero hcb
   have hj : jmS up a b = wholeS (bndS up a b) := by unfold jmS; rw [if_pos ⟨hca, hcb⟩]
   refine W.skip ?_
   refine thn_n ?_
   refine W.seq ?_
   refine W.region ?_
   refine L.val (x_ldn (vs := xs) kbndp_ag25 rfl hla (bx3.row hla)) rfl ?_
   refine L.val (x_ldn (vs := ys) kbndp_ag25 rfl hlb (bx4.row hlb)) rfl ?_
   refine L.val (x_mv (v := .bool _) rfl) rfl ?_
   refine L.ret (x_call kbndp_en117 rfl) rfl (bound0 _ up a b (Nat.lt_succ_self _) c1.1 c2.1 c1.2.2 c2.2.2 _ _ xs ys _ ha hb) ?_
   rintro _ w23 ⟨⟨cs23, s23, rfl, hs, hsr⟩, hw⟩
   have hB := hB.carry hw; have ha := ha.carry hw; have hb := hb.carry hw; have bx3 := bx3.carry hw; have bx4 := bx4.carry hw; have bx6 := bx6.carry hw
   have hls := hs.len
   have hs := hs.up
   have hx6 := bx6.lt
   have hz23 := hB.size
   refine L.val (x_mv (v := _) rfl) rfl ?_
   refine L.val (x_ext (v := _) rfl rfl) rfl ?_
   refine L.val (x_ext (v := .bool _) rfl rfl) rfl ?_
   have hsz6b := hB.size
   have hx6c := bx6.lt
   refine L.alloc (cs := [Value.int .i64 0, S [], S [], Value.slice none 0 0, Value.slice none 0 0]) kbndp_zr25 rfl rfl (fun w8 bx8 hw hz8 => ?_)
   have hB := hB.carry hw; have ha := ha.carry hw; have hb := hb.carry hw; have bx3 := bx3.carry hw; have bx4 := bx4.carry hw; have bx6 := bx6.carry hw; have hs := hs.carry hw
   refine L.setRow kbndp_ag25 rfl rfl bx8 rfl hls hs.one (fun wl24 bx8 hw hzl24 => ?_)
   have hsz := hB.size
   have hB := hB.set hw (by omega); have ha := ha.carryR hw (fun j e => .inr (by have e : j = _ := e; omega)); have hb := hb.carryR hw (fun j e => .inr (by have e : j = _ := e; omega)); have bx3 := bx3.carryR hw (by omega); have bx4 := bx4.carryR hw (by omega); have bx6 := bx6.carryR hw (by omega); have hs := hs.carryR hw (fun j e => by have e : j = _ := e; first | exact .inr (by omega) | exact .inl ⟨by omega, .inr (by omega), .inr (by omega)⟩)
   refine L.val (x_as (v := .bool _) rfl) rfl ?_
   refine L.nil ?_
   refine thn_n ?_
   refine W.seq ?_
   refine W.seq ?_
   refine W.region ?_
   refine L.val (x_mv (v := .bool _) rfl) rfl ?_
   refine L.val (x_not rfl) rfl ?_
   refine L.val (x_mv (v := .bool _) rfl) rfl ?_
   refine' L.group 3 29 31 31 28 false rfl ?_ ?_ ?_
   rotate_left 1
   ·intro g28 hg28
    have h28 := (not_f g28)
    refine L.gyes' (dj := 28) (b := _) rfl rfl g28 ?_
    refine L.val (x_ldn (vs := cs23) kbndp_ag25 rfl hls (bx8.row hls)) rfl ?_
    refine L.gyes' (dj := 28) (b := _) rfl rfl g28 ?_
    refine L.ret (x_call kbndp_en50 rfl) rfl (checkL _ _ _ _ hs) ?_
    rintro _ w30 ⟨rfl, hw⟩
    have hB := hB.carry hw; have ha := ha.carry hw; have hb := hb.carry hw; have bx3 := bx3.carry hw; have bx4 := bx4.carry hw; have bx6 := bx6.carry hw; have hs := hs.carry hw; have bx8 := bx8.carry hw; have hg28 := hg28.carry hw
    refine L.gyes' (dj := 28) (b := _) rfl rfl g28 ?_
    refine L.val (x_neq rfl rfl) rfl ?_
    refine L.nil ?_
    refine thn_n ⟨rfl, ?_, ?_, fun _ => rfl⟩
    ·exact hg28
    ·repeat (first | exact jeq.refl _ _ _ | refine jeq.upd rfl ?_ | refine jeq.jk rfl rfl ?_)
   ·intro g28
    refine L.gno (dj := 28) (b := _) rfl rfl g28 rfl ?_
    refine L.gno (dj := 28) (b := _) rfl rfl g28 rfl ?_
    refine L.gno (dj := 28) (b := _) rfl rfl g28 rfl ?_
    refine L.nil (thn_n ⟨rfl, Gr.refl _ _, ?_⟩)
    refine ⟨?_, fun h => h.elim⟩
    repeat (first | exact jeq.refl _ _ _ | refine jeq.upd rfl ?_ | refine jeq.jk rfl rfl ?_)
   intro J28 w28 hw j28
   have hB := hB.carry hw; have ha := ha.carry hw; have hb := hb.carry hw; have bx3 := bx3.carry hw; have bx4 := bx4.carry hw; have bx6 := bx6.carry hw; have hs := hs.carry hw; have bx8 := bx8.carry hw
   refine L.val (x_or rfl j28) rfl ?_
   refine L.nil ?_
   refine thn_n ?_
   refine W.cond (b := _) rfl (fun g32 => ?_) (fun g32 => ?_)
   ·have h32 := g32
    refine W.seq ?_
    refine W.region ?_
    refine L.val (x_build (cells := [.int _ _, S _, S _, .slice _ _ _, .slice _ _ _]) kbndp_si25 rfl rfl) rfl ?_
    refine L.setRow kbndp_ag25 rfl rfl bx6 rfl rfl (by simp [Value.oneCell', S]) (fun wl34 bx6 hw hzl34 => ?_)
    have hsz := hB.size
    have hB := hB.set hw (by omega); have ha := ha.carryR hw (fun j e => .inr (by have e : j = _ := e; omega)); have hb := hb.carryR hw (fun j e => .inr (by have e : j = _ := e; omega)); have bx3 := bx3.carryR hw (by omega); have bx4 := bx4.carryR hw (by omega); have hs := hs.carryR hw (fun j e => by have e : j = _ := e; first | exact .inr (by omega) | exact .inl ⟨by omega, .inr (by omega), .inr (by omega)⟩); have bx8 := bx8.carryR hw (by omega)
    refine L.val (x_as (v := .bool _) rfl) rfl ?_
    refine L.nil ?_
    refine thn_n ?_
    refine W.ret (thn_r (finR_mk (.inr rfl) ?_))
    have e : jmS up a b = (zeroS, false) := by
      rw [hj]
      unfold wholeS
      cases ho : bndS up a b with
      | none => rfl
      | some j =>
        have e2 : s23 = j := hsr j ho
        subst e2
        have hsome : (bndN uniU (SizeOf.sizeOf a + SizeOf.sizeOf b + 1) up a b).isSome = true := by
          show (bndS up a b).isSome = true
          rw [ho]; rfl
        have : checkS s23 ≠ 0 := fun h => by simp [hsome, h] at g32
        simp only
        rw [if_neg this]
    refine ⟨_, resST (v := .bool false) rfl kbndp_ag25 rfl rfl bx6 rfl, zeroL, by rw [e], by rw [e]; exact zeroC _ _, hB⟩
   ·have h32 := g32
    have hsome : (bndS up a b).isSome = true := by simp at g32; exact g32.1
    obtain ⟨j, ho⟩ := Option.isSome_iff_exists.1 hsome
    have e2 : s23 = j := hsr j ho
    subst e2
    have hc0 : checkS s23 = 0 := by simp at g32; exact g32.2
    have e : jmS up a b = (s23.sort, true) := jm_of hca hcb ho hc0
    refine W.skip ?_
    refine thn_n ?_
    refine W.seq ?_
    refine W.region ?_
    refine L.val (x_ldn (vs := cs23) kbndp_ag25 rfl hls (bx8.row hls)) rfl ?_
    have hx6a := bx6.lt
    refine L.ret (x_call kbndp_en75 rfl) rfl (sort_okL _ _ _ _ hs) ?_
    rintro _ w35 ⟨cs35, rfl, ht, hw⟩
    have hB := hB.carry hw; have ha := ha.carry hw; have hb := hb.carry hw; have bx3 := bx3.carry hw; have bx4 := bx4.carry hw; have bx6 := bx6.carry hw; have hs := hs.carry hw; have bx8 := bx8.carry hw
    have hlt := ht.len
    have hsz35 := hB.size
    have hx6b := bx6.lt
    refine L.setRow kbndp_ag25 rfl rfl bx6 rfl hlt ht.one (fun wl38 bx6 hw hzl38 => ?_)
    have hsz := hB.size
    have hB := hB.set hw (by omega); have ha := ha.carryR hw (fun j e => .inr (by have e : j = _ := e; omega)); have hb := hb.carryR hw (fun j e => .inr (by have e : j = _ := e; omega)); have bx3 := bx3.carryR hw (by omega); have bx4 := bx4.carryR hw (by omega); have hs := hs.carryR hw (fun j e => by have e : j = _ := e; first | exact .inr (by omega) | exact .inl ⟨by omega, .inr (by omega), .inr (by omega)⟩); have bx8 := bx8.carryR hw (by omega); have ht := ht.carryR hw (fun j e => by have e : j = _ := e; exact ⟨.inl ⟨by omega, .inr (by omega), .inr (by omega)⟩, by omega⟩)
    refine L.val (x_as (v := .bool _) rfl) rfl ?_
    refine L.nil ?_
    refine thn_n ?_
    refine W.ret (finR_mk (.inr rfl) ?_)
    have e3 : sortS s23 = s23.sort := by unfold sortS; rw [if_pos hc0]
    rw [e3] at ht
    refine ⟨_, resST (v := .bool true) rfl kbndp_ag25 rfl rfl bx6 hlt, cs35, by rw [e], by rw [e]; exact ht.mono (fun k _ h => ⟨.inl ⟨by omega, .inl h.2.1, .inl h.2.2⟩, by omega⟩), hB⟩
theorem join_ok (A B : Nat → Prop) (a b : Sh) (xs ys : List Value) (w : World) (ha : ShC A w xs a) (hb : ShC B w ys b) :
    Ret Tryz.prog 30 #[.agg xs.toArray, .agg ys.toArray] w fun v w' => ∃ cs', v = .tuple #[.agg cs'.toArray, .bool (jmS true a b).2] ∧ ShC (fun k => k < w.heap.size ∧ A k ∧ B k) w' cs' (jmS true a b).1 ∧ Bel w w' := by
  have hla := ha.len
  have hlb := hb.len
  have ha := ha.up
  have hb := hb.up
  refine ret_of_W_R Tryz.func30 rfl (Nat.le_of_ble_eq_true rfl) ?_
  have hB := Gr.refl (fun _ => False) w
  refine W.seq ?_
  refine W.region ?_
  refine L.box (cs := xs) rfl rfl (fun w2 bx2 hw hz2 => ?_)
  have hB := hB.carry hw; have ha := ha.carry hw; have hb := hb.carry hw
  refine L.box (cs := ys) rfl rfl (fun w3 bx3 hw hz3 => ?_)
  have hB := hB.carry hw; have ha := ha.carry hw; have hb := hb.carry hw; have bx2 := bx2.carry hw
  have hsz4b := hB.size
  refine L.alloc (cs := [Value.int .i64 0, S [], S [], Value.slice none 0 0, Value.slice none 0 0]) kbndp_zr25 rfl rfl (fun w4 bx4 hw hz4 => ?_)
  have hB := hB.carry hw; have ha := ha.carry hw; have hb := hb.carry hw; have bx2 := bx2.carry hw; have bx3 := bx3.carry hw
  have hsz4 := hB.size
  have hx4 := bx4.lt
  refine L.val (x_as (v := .bool _) rfl) rfl ?_
  refine L.nil ?_
  refine thn_n ?_
  refine W.seq ?_
  refine W.region ?_
  refine L.val (x_ldn (vs := xs) kbndp_ag25 rfl hla (bx2.row hla)) rfl ?_
  refine L.val (x_ldn (vs := ys) kbndp_ag25 rfl hlb (bx3.row hlb)) rfl ?_
  have hsz8 := hB.size
  refine L.ret (x_call kbndp_en67 rfl) rfl (madeJ_ok _ _ true a b xs ys _ ha hb) ?_
  rintro _ w8 ⟨cs8, rfl, ht, hw⟩
  have hB := hB.carry hw; have bx2 := bx2.carry hw; have bx3 := bx3.carry hw; have bx4 := bx4.carry hw; have ha := ha.carry hw; have hb := hb.carry hw
  have hlt := ht.len
  have ht := ht.up
  refine L.val (x_ext (v := _) rfl rfl) rfl ?_
  refine L.val (x_ext (v := .bool _) rfl rfl) rfl ?_
  refine L.setRow kbndp_ag25 rfl rfl bx4 rfl hlt ht.one (fun wl10 bx4 hw hzl10 => ?_)
  have hsz := hB.size
  have hB := hB.set hw (by omega); have bx2 := bx2.carryR hw (by omega); have bx3 := bx3.carryR hw (by omega); have ht := ht.carryR hw (fun j e => by have e : j = _ := e; exact .inl ⟨by omega, .inr (by omega), .inr (by omega)⟩)
  refine L.val (x_as (v := .bool _) rfl) rfl ?_
  refine L.nil ?_
  refine thn_n ?_
  refine W.ret (finR_mk (.inr rfl) ?_)
  exact ⟨_, resST (v := .bool (jmS true a b).2) rfl kbndp_ag25 rfl rfl bx4 hlt, cs8, rfl, ht.mono (fun k _ h => .inl ⟨by omega, .inl h.2.1, .inl h.2.2⟩), hB⟩
theorem meet_okJ (A B : Nat → Prop) (a b : Sh) (xs ys : List Value) (w : World) (ha : ShC A w xs a) (hb : ShC B w ys b) :
    Ret Tryz.prog 32 #[.agg xs.toArray, .agg ys.toArray] w fun v w' => ∃ cs', v = .tuple #[.agg cs'.toArray, .bool (jmS false a b).2] ∧ ShC (fun k => k < w.heap.size ∧ A k ∧ B k) w' cs' (jmS false a b).1 ∧ Bel w w' := by
  have hla := ha.len
  have hlb := hb.len
  have ha := ha.up
  have hb := hb.up
  refine ret_of_W_R Tryz.func32 rfl (Nat.le_of_ble_eq_true rfl) ?_
  have hB := Gr.refl (fun _ => False) w
  refine W.seq ?_
  refine W.region ?_
  refine L.box (cs := xs) rfl rfl (fun w2 bx2 hw hz2 => ?_)
  have hB := hB.carry hw; have ha := ha.carry hw; have hb := hb.carry hw
  refine L.box (cs := ys) rfl rfl (fun w3 bx3 hw hz3 => ?_)
  have hB := hB.carry hw; have ha := ha.carry hw; have hb := hb.carry hw; have bx2 := bx2.carry hw
  have hsz4b := hB.size
  refine L.alloc (cs := [Value.int .i64 0, S [], S [], Value.slice none 0 0, Value.slice none 0 0]) kbndp_zr25 rfl rfl (fun w4 bx4 hw hz4 => ?_)
  have hB := hB.carry hw; have ha := ha.carry hw; have hb := hb.carry hw; have bx2 := bx2.carry hw; have bx3 := bx3.carry hw
  have hsz4 := hB.size
  have hx4 := bx4.lt
  refine L.val (x_as (v := .bool _) rfl) rfl ?_
  refine L.nil ?_
  refine thn_n ?_
  refine W.seq ?_
  refine W.region ?_
  refine L.val (x_ldn (vs := xs) kbndp_ag25 rfl hla (bx2.row hla)) rfl ?_
  refine L.val (x_ldn (vs := ys) kbndp_ag25 rfl hlb (bx3.row hlb)) rfl ?_
  have hsz8 := hB.size
  refine L.ret (x_call kbndp_en67 rfl) rfl (madeJ_ok _ _ false a b xs ys _ ha hb) ?_
  rintro _ w8 ⟨cs8, rfl, ht, hw⟩
  have hB := hB.carry hw; have bx2 := bx2.carry hw; have bx3 := bx3.carry hw; have bx4 := bx4.carry hw; have ha := ha.carry hw; have hb := hb.carry hw
  have hlt := ht.len
  have ht := ht.up
  refine L.val (x_ext (v := _) rfl rfl) rfl ?_
  refine L.val (x_ext (v := .bool _) rfl rfl) rfl ?_
  refine L.setRow kbndp_ag25 rfl rfl bx4 rfl hlt ht.one (fun wl10 bx4 hw hzl10 => ?_)
  have hsz := hB.size
  have hB := hB.set hw (by omega); have bx2 := bx2.carryR hw (by omega); have bx3 := bx3.carryR hw (by omega); have ht := ht.carryR hw (fun j e => by have e : j = _ := e; exact .inl ⟨by omega, .inr (by omega), .inr (by omega)⟩)
  refine L.val (x_as (v := .bool _) rfl) rfl ?_
  refine L.nil ?_
  refine thn_n ?_
  refine W.ret (finR_mk (.inr rfl) ?_)
  exact ⟨_, resST (v := .bool (jmS false a b).2) rfl kbndp_ag25 rfl rfl bx4 hlt, cs8, rfl, ht.mono (fun k _ h => .inl ⟨by omega, .inl h.2.1, .inl h.2.2⟩), hB⟩
end Go.Gx
