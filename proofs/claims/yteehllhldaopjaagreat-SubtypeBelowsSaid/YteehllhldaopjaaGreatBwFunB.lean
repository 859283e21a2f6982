/- Joins and meets of functions: the program's walk. Conditions: none. -/
import Derived.Test.YteehllhldaopjaaGreatBwSort3
import Derived.Test.YteehllhldaopjaaGreatBwBelow
import Derived.Test.YteehllhldaopjaaGreatBwDrawD
namespace Go.Gx
open Go.Proofs
theorem kfunb_ag25 : aggT Tryz.prog 25 5 = true := by kernel_rfl
theorem kfunb_el25 : elT Tryz.prog 25 5 = true := by kernel_rfl
theorem kfunb_en117 : Go.Proofs.Enters Tryz.prog 117 := Go.Proofs.enters_of Tryz.func117 (by kernel_rfl) rfl
theorem kfunb_fo25_4 : fieldOff Tryz.prog 25 4 = some 4 := by kernel_rfl
theorem kfunb_mixed : Tryz.prog.follows .mixedOrders = true := by kernel_rfl
theorem kfunb_oc23 : oneCellT Tryz.prog 23 = true := by kernel_rfl
theorem kfunb_si25 : structInfo Tryz.prog 25 = some ([(0, 1), (1, 1), (2, 1), (3, 1), (4, 1)], [Value.int .i64 0, S [], S [], Value.slice none 0 0, Value.slice none 0 0]) := by kernel_rfl
theorem kfunb_sz23 : (Tryz.prog.info? 23).map (·.size) = some 1 := by kernel_rfl
theorem kfunb_sz25 : (Tryz.prog.info? 25).map (·.size) = some 5 := by kernel_rfl
theorem kfunb_zr25 : (Tryz.prog.info? 25).bind (·.zero) = some (Value.agg [Value.int .i64 0, S [], S [], Value.slice none 0 0, Value.slice none 0 0].toArray) := by kernel_rfl
def BndV (o : Option Sh) (M : Nat → Prop) (v : Value) (w' : World) : Prop := ∃ cs' s', v = .tuple #[.agg cs'.toArray, .bool o.isSome] ∧ ShC M w' cs' s' ∧ ∀ r, o = some r → s' = r
theorem BndV.mono {o : Option Sh} {M M' : Nat → Prop} {v : Value} {w' : World} (h : BndV o M v w') (hM : ∀ k, k < w'.heap.size → M' k → M k) : BndV o M' v w' := by
  obtain ⟨cs, s, h1, h2, h3⟩ := h
  exact ⟨cs, s, h1, h2.mono hM, h3⟩
def BndHyp (F : Bool → Sh → Sh → Option Sh) (a b : Sh) : Prop := ∀ (up : Bool) (i j : Nat), i < a.parts.length → j < b.parts.length → ∀ (A B : Nat → Prop) (xs ys : List Value) (w : World), ShC A w xs (a.parts.getD i default) → ShC B w ys (b.parts.getD j default) →
  Ret Tryz.prog 117 #[.agg xs.toArray, .agg ys.toArray, .bool up] w fun v w' => BndV (F up (a.parts.getD i default) (b.parts.getD j default)) (fun k => k < w.heap.size ∧ A k ∧ B k) v w' ∧ Bel w w'
theorem avc_of {M : Nat → Prop} {n base : Nat} {wc w1 w2 : World} {vN vP : Value} {k : Nat} (hM : ∀ k, n ≤ k → M k) (h0 : n ≤ base) (hb : base ≤ wc.heap.size) (hN : ∀ j, some j = vN.ownBlock → base ≤ j ∧ j < wc.heap.size) (hP : ∀ j, some j = vP.ownBlock → base ≤ j ∧ j < wc.heap.size) (hs : w1.heap.size ≤ w2.heap.size)
    (h : AvC M n base w2 vN vP k) : (k < wc.heap.size ∧ M k ∧ M k) ∨ w1.heap.size ≤ k := by
  rcases h with h | h | h | h | h
  · exact .inl ⟨by omega, h.2, h.2⟩
  · exact .inl ⟨by omega, hM k h.1, hM k h.1⟩
  · have := hN k h; exact .inl ⟨by omega, hM k (by omega), hM k (by omega)⟩
  · have := hP k h; exact .inl ⟨by omega, hM k (by omega), hM k (by omega)⟩
  · exact .inr (by omega)
theorem avc_M {M : Nat → Prop} {n base : Nat} {w2 : World} {vN vP : Value} {k : Nat} (hM : ∀ k, n ≤ k → M k) (h0 : n ≤ base) (hN : ∀ j, some j = vN.ownBlock → base ≤ j) (hP : ∀ j, some j = vP.ownBlock → base ≤ j) (hs : n ≤ w2.heap.size) (h : AvC M n base w2 vN vP k) : M k := by
  rcases h with h | h | h | h | h
  · exact h.2
  · exact hM k h.1
  · exact hM k (by have := hN k h; omega)
  · exact hM k (by have := hP k h; omega)
  · exact hM k (by omega)
abbrev zeroL : List Value := [.int .i64 0, S [], S [], .slice none 0 0, .slice none 0 0]
theorem bndV_none {o : Option Sh} {M : Nat → Prop} {w' : World} (h : o = none) : BndV o M (.tuple #[.agg zeroL.toArray, .bool false]) w' := ⟨zeroL, zeroS, by rw [h]; rfl, zeroC _ _, fun r e => by rw [h] at e; cases e⟩
set_option maxHeartbeats 1000000 in
theorem function_ok (F : Bool → Sh → Sh → Option Sh) (up : Bool) (a b : Sh) (hna : a.parts.length ≤ 400) (hF : BndHyp F a b) (A0 B0 : Nat → Prop) (xs ys : List Value) (w : World) (ha0 : ShC A0 w xs a) (hb0 : ShC B0 w ys b) :
    Ret Tryz.prog 156 #[.agg xs.toArray, .agg ys.toArray, .bool up] w fun v w' => BndV (funB F up a b) (fun k => k < w.heap.size ∧ A0 k ∧ B0 k) v w' ∧ Bel w w' := by
  obtain ⟨M, hM, hM0⟩ : ∃ M : Nat → Prop, (∀ k, w.heap.size ≤ k → M k) ∧ (∀ k, M k ↔ (A0 k ∨ w.heap.size ≤ k) ∧ (B0 k ∨ w.heap.size ≤ k)) := ⟨fun k => (A0 k ∨ w.heap.size ≤ k) ∧ (B0 k ∨ w.heap.size ≤ k), fun k h => ⟨.inr h, .inr h⟩, fun k => Iff.rfl⟩
  have ha : ShC M w xs a := ha0.up.mono fun k _ h => ((hM0 k).1 h).1
  have hb : ShC M w ys b := hb0.up.mono fun k _ h => ((hM0 k).1 h).2
  clear ha0 hb0
  have hRes : ∀ k, k < w.heap.size ∧ A0 k ∧ B0 k → M k := fun k h => (hM0 k).2 ⟨.inl h.2.1, .inl h.2.2⟩
  obtain ⟨vna, vpa, rfl, hnA, hpa, -⟩ := id ha.inv
  obtain ⟨p, cap, rowa, rfl, p1, p2, p3, hra⟩ := hpa
  obtain ⟨vnb, vpb, rfl, hnB, hpb, -⟩ := id hb.inv
  obtain ⟨q, capq, rowb, rfl, q1, q2, q3, hrb⟩ := hpb
  refine ret_of_W_R Tryz.func156 rfl (Nat.le_of_ble_eq_true rfl) ?_
  have hB := Gr.refl (fun _ => False) w
  refine W.seq ?_
  refine W.region ?_
  refine L.box (cs := _) rfl rfl (fun w3 bx3 hw hz3 => ?_)
  have hB := hB.carry hw; have hra := hra.carry hw; have hrb := hrb.carry hw
  refine L.box (cs := _) rfl rfl (fun w4 bx4 hw hz4 => ?_)
  have hB := hB.carry hw; have hra := hra.carry hw; have hrb := hrb.carry hw; have bx3 := bx3.carry hw
  refine L.alloc (cs := [Value.int .i64 0, S [], S [], Value.slice none 0 0, Value.slice none 0 0]) kfunb_zr25 rfl rfl (fun w6 bx6 hw hz6 => ?_)
  have hB := hB.carry hw; have hra := hra.carry hw; have hrb := hrb.carry hw; have bx3 := bx3.carry hw; have bx4 := bx4.carry hw
  obtain ⟨b6, hb6⟩ : ∃ b6, b6 = w4.heap.size := ⟨_, rfl⟩
  rw [← hb6] at bx6 ⊢
  obtain ⟨b4, hb4⟩ : ∃ b4, b4 = w3.heap.size := ⟨_, rfl⟩
  rw [← hb4] at bx4 ⊢
  have z1 : w.heap.size < b4 ∧ b4 < b6 := by omega
  have hx6 := bx6.lt
  clear hb4 hb6 hz3 hz4 hz6
  refine L.val (x_as (v := .bool _) rfl) rfl ?_
  refine L.nil ?_
  refine thn_n ?_
  refine W.seq ?_
  refine W.seq ?_
  refine W.region ?_
  refine L.val (x_fa kfunb_fo25_4 rfl) rfl ?_
  refine L.val (x_ld (v := .slice _ _ _) kfunb_oc23 rfl (bx3.cell0 rfl)) rfl ?_
  refine L.val (x_len_slice Tryz.underlying23 rfl) rfl ?_
  refine L.val (x_fa kfunb_fo25_4 rfl) rfl ?_
  refine L.val (x_ld (v := .slice _ _ _) kfunb_oc23 rfl (bx4.cell0 rfl)) rfl ?_
  refine L.val (x_len_slice Tryz.underlying23 rfl) rfl ?_
  refine L.val (x_neq rfl rfl) rfl ?_
  refine L.nil ?_
  refine thn_n ?_
  refine W.cond (b := _) rfl (fun g18 => ?_) (fun g18 => ?_)
  ·have h18 := dne_t g18
   refine W.seq ?_
   refine W.region ?_
   refine L.val (x_build (cells := [.int _ _, S _, S _, .slice _ _ _, .slice _ _ _]) kfunb_si25 rfl rfl) rfl ?_
   refine L.setRow kfunb_ag25 rfl rfl bx6 rfl rfl (by simp [Value.oneCell', S]) (fun wl13 bx6 hw hzl13 => ?_)
   have hsz := hB.size
   have hB := hB.set hw (by omega); have hra := hra.carryR hw (fun k e => hM k (by have e : k = _ := e; omega)); have hrb := hrb.carryR hw (fun k e => hM k (by have e : k = _ := e; omega)); have bx3 := bx3.carryR hw (by omega); have bx4 := bx4.carryR hw (by omega)
   refine L.val (x_as (v := .bool _) rfl) rfl ?_
   refine L.nil ?_
   refine thn_n ?_
   refine W.ret (thn_r (finR_mk (.inr rfl) ?_))
   exact ⟨_, resST (v := .bool false) rfl kfunb_ag25 rfl rfl bx6 rfl, bndV_none (by unfold funB; rw [if_pos (by omega)]), hB⟩
  ·have h18 := dne_f g18
   have hll : a.parts.length = b.parts.length := by omega
   have hfe : funB F up a b = if (List.range a.parts.length).all (fun i => (funG F up a b i).isSome) = true then some (.mk 8 [] [] [] ((List.range a.parts.length).map fun i => (funG F up a b i).getD default)) else none := by unfold funB; rw [if_neg (by simpa using hll)]
   refine W.skip ?_
   refine thn_n ?_
   refine W.seq ?_
   refine W.region ?_
   refine L.val (x_build (cells := [.int _ _, S _, S _, .slice _ _ _, .slice _ _ _]) kfunb_si25 rfl rfl) rfl ?_
   refine L.alloc (cs := [Value.int .i64 0, S [], S [], Value.slice none 0 0, Value.slice none 0 0]) kfunb_zr25 rfl rfl (fun w8 bx8 hw hz8 => ?_)
   have hB := hB.carry hw; have hra := hra.carry hw; have hrb := hrb.carry hw; have bx3 := bx3.carry hw; have bx4 := bx4.carry hw; have bx6 := bx6.carry hw
   obtain ⟨b8, hb8⟩ : ∃ b8, b8 = w6.heap.size := ⟨_, rfl⟩
   rw [← hb8] at bx8 ⊢
   refine L.setRow kfunb_ag25 rfl rfl bx8 rfl rfl (by simp [Value.oneCell', S]) (fun wl17 bx8 hw hzl17 => ?_)
   have hsz := hB.size
   have hB := hB.set hw (by omega); have hra := hra.carryR hw (fun k e => hM k (by have e : k = _ := e; omega)); have hrb := hrb.carryR hw (fun k e => hM k (by have e : k = _ := e; omega)); have bx3 := bx3.carryR hw (by omega); have bx4 := bx4.carryR hw (by omega); have bx6 := bx6.carryR hw (by omega)
   obtain ⟨base, hbase⟩ : ∃ base, base = wl17.heap.size := ⟨_, rfl⟩
   have z5 : w.heap.size < base ∧ b4 < b8 ∧ b6 < b8 ∧ b8 < base ∧ w.heap.size < b8 := by have e : wl17.heap.size = w8.heap.size := hzl17; omega
   have hG : Ge base wl17 := by rw [hbase]; exact Nat.le_refl _
   clear hbase hb8
   refine L.nil ?_
   refine thn_n ?_
   refine W.seq ?_
   refine W.seq ?_
   refine W.region ?_
   refine L.val (x_fa kfunb_fo25_4 rfl) rfl ?_
   refine L.val (x_ld (v := .slice _ _ _) kfunb_oc23 rfl (bx3.cell0 rfl)) rfl ?_
   refine L.val (x_len_slice Tryz.underlying23 rfl) rfl ?_
   refine L.val (x_mv (v := .int _ _) rfl) rfl ?_
   refine L.nil ?_
   refine thn_n ?_
   refine W.block ?_
   refine W.loop (fun m' E w' => ∃ (i : Nat) (vP : Value), m' = a.parts.length - i ∧ E 2 = .bool up ∧ E 3 = .pointer (some ⟨w.heap.size, 0, none⟩) ∧ E 4 = .pointer (some ⟨b4, 0, none⟩) ∧ E 6 = .pointer (some ⟨b6, 0, none⟩) ∧ E 8 = .pointer (some ⟨b8, 0, none⟩) ∧ E 22 = .slice p a.parts.length cap ∧ E 23 = .int .i64 (a.parts.length : Nat) ∧ E 24 = .int .i64 (i : Nat) ∧ (Bel w w') ∧ (ShRow M w' p rowa a.parts) ∧ (ShRow M w' q rowb b.parts) ∧ (Box w' w.heap.size 25 [.int .i64 a.kind, S a.of, S a.name, vna, .slice p a.parts.length cap]) ∧ (Box w' b4 25 [.int .i64 b.kind, S b.of, S b.name, vnb, .slice q b.parts.length capq]) ∧ (Box w' b6 25 [.int .i64 0, S [], S [], .slice none 0 0, .slice none 0 0]) ∧ (Box w' b8 25 [.int .i64 8, S [], S [], .slice none 0 0, vP]) ∧ (Ge base w') ∧ (i ≤ a.parts.length) ∧ ((List.range i).all (fun i => (funG F up a b i).isSome) = true) ∧ (ShsOwn (AvC M w.heap.size base w' (.slice none 0 0) vP) w' base 25 vP ((List.range i).map fun i => (funG F up a b i).getD default))) (a.parts.length) ?_ ?_
   ·exact ⟨0, .slice none 0 0, by omega, by first | rfl | exact vi (by omega), by first | rfl | exact vi (by omega), by first | rfl | exact vi (by omega), by first | rfl | exact vi (by omega), by first | rfl | exact vi (by omega), by first | rfl | exact vi (by omega), by first | rfl | exact vi (by omega), by first | rfl | exact vi (by omega), (by first | assumption | omega | rfl), (by first | assumption | omega | rfl), (by first | assumption | omega | rfl), (by first | assumption | omega | rfl), (by first | assumption | omega | rfl), (by first | assumption | omega | rfl), (by first | assumption | omega | rfl), (by first | assumption | omega | rfl), (by first | assumption | omega | rfl), (by rfl), (by exact ShsOwn.nil)⟩
   ·rintro _ E wL25 ⟨i, vP, em, e2, e3, e4, e6, e8, e22, e23, e24, hB, hra, hrb, bx3, bx4, bx6, bx8, hG, hi, hall, hP⟩
    rw [upd_self e2, upd_self e3, upd_self e4, upd_self e6, upd_self e8, upd_self e22, upd_self e23, upd_self e24]
    refine W.seq ?_
    refine W.region ?_
    refine L.val (x_lss rfl rfl) rfl ?_
    refine L.nil ?_
    refine thn_n ?_
    refine W.seq ?_
    refine W.cond (b := _) rfl (fun g25 => ?_) (fun g25 => ?_)
    ·have h25 := of_decide_eq_true g25
     have hip : i < a.parts.length := by omega
     have hjp : i < b.parts.length := by omega
     obtain ⟨pb, po, rfl, -⟩ := hra.elem hip
     obtain ⟨qb, qo, rfl, -⟩ := hrb.elem hjp
     obtain ⟨xsP, hPo⟩ := hP.own
     obtain ⟨aP, cP, rfl, hcP⟩ := own_shape hPo
     clear hPo xsP
     have hloP : ∀ j, some j = (Value.slice aP ((List.range i).map fun i => (funG F up a b i).getD default).length cP).ownBlock → base ≤ j := fun j h => (hP.lt h).1
     have hqP : ∀ j, some j = (Value.slice aP ((List.range i).map fun i => (funG F up a b i).getD default).length cP).ownBlock → j < wL25.heap.size := fun j h => (hP.lt h).2
     have hflag : (up == decide ((i : Int) = (a.parts.length : Int) - 1)) = (up == decide (i + 1 = a.parts.length)) := by
       have : decide ((i : Int) = (a.parts.length : Int) - 1) = decide (i + 1 = a.parts.length) := decide_eq_decide.2 (by omega)
       rw [this]
     have hfe2 : F (up == decide ((i : Int) = (a.parts.length : Int) - 1)) (a.parts.getD i default) (b.parts.getD i default) = funG F up a b i := by unfold funG; rw [hflag]
     have hPl : ((List.range i).map fun i => (funG F up a b i).getD default).length = i := by simp
     have hsL := hB.size
     refine W.skip ?_
     refine thn_n ?_
     refine W.seq ?_
     refine W.block ?_
     refine W.seq ?_
     refine W.region ?_
     refine L.val (x_mv (v := .int _ _) rfl) rfl ?_
     refine L.val (x_as (v := .int _ _) rfl) rfl ?_
     refine L.nil ?_
     refine thn_n ?_
     refine W.cut (fun D' E' w' => D' = [] ∧ ∃ (b10 : Nat) (cs : List Value) (t : Sh), E' 2 = .bool up ∧ E' 3 = .pointer (some ⟨w.heap.size, 0, none⟩) ∧ E' 4 = .pointer (some ⟨b4, 0, none⟩) ∧ E' 6 = .pointer (some ⟨b6, 0, none⟩) ∧ E' 8 = .pointer (some ⟨b8, 0, none⟩) ∧ E' 10 = .pointer (some ⟨b10, 0, none⟩) ∧ E' 11 = .bool (funG F up a b i).isSome ∧ E' 22 = .slice (some ⟨pb, po, none⟩) a.parts.length cap ∧ E' 23 = .int .i64 (a.parts.length : Nat) ∧ E' 24 = .int .i64 (i : Nat) ∧ wL25.heap.size ≤ b10 ∧ (∀ r, funG F up a b i = some r → t = r) ∧ Bel w w' ∧ Bel wL25 w' ∧ ShRow M w' (some ⟨pb, po, none⟩) rowa a.parts ∧ ShRow M w' (some ⟨qb, qo, none⟩) rowb b.parts ∧ Box w' w.heap.size 25 [.int .i64 a.kind, S a.of, S a.name, vna, .slice (some ⟨pb, po, none⟩) a.parts.length cap] ∧ Box w' b4 25 [.int .i64 b.kind, S b.of, S b.name, vnb, .slice (some ⟨qb, qo, none⟩) b.parts.length capq] ∧ Box w' b6 25 [.int .i64 0, S [], S [], .slice none 0 0, .slice none 0 0] ∧ Box w' b8 25 [.int .i64 8, S [], S [], .slice none 0 0, (.slice aP ((List.range i).map fun i => (funG F up a b i).getD default).length cP)] ∧ Ge base w' ∧ ShsOwn (AvC M w.heap.size base wL25 (.slice none 0 0) (.slice aP ((List.range i).map fun i => (funG F up a b i).getD default).length cP)) w' base 25 (.slice aP ((List.range i).map fun i => (funG F up a b i).getD default).length cP) ((List.range i).map fun i => (funG F up a b i).getD default) ∧ Box w' b10 25 cs ∧ ShC (AvC M w.heap.size base w' (.slice none 0 0) (.slice aP ((List.range i).map fun i => (funG F up a b i).getD default).length cP)) w' cs t) ?_ ?_
     ·refine W.drawF 25 kfunb_mixed (fun wF28 hB0 => ?_)
      refine LAC.takeN (i := 0) rfl (by kernel_rfl) (by kernel_rfl) (by kernel_rfl) (by kernel_rfl) (fun w hw => x_fa kfunb_fo25_4 rfl) rfl ?_
      refine LAC.takeN (i := 1) rfl (by kernel_rfl) (by kernel_rfl) (by kernel_rfl) (by kernel_rfl) (fun w hw => x_ld (v := .slice _ _ _) kfunb_oc23 rfl (hw.keep (bx3.cell0 rfl))) rfl ?_
      refine LAC.takeN (i := 2) rfl (by kernel_rfl) (by kernel_rfl) (by kernel_rfl) (by kernel_rfl) (fun w hw => x_mv (v := .int _ _) rfl) rfl ?_
      refine LAC.takeN (i := 3) rfl (by kernel_rfl) (by kernel_rfl) (by kernel_rfl) (by kernel_rfl) (fun w hw => x_ia (j := i) Tryz.underlying23 kfunb_sz25 rfl rfl (by omega) (by omega)) rfl ?_
      refine LAC.takeN (i := 4) rfl (by kernel_rfl) (by kernel_rfl) (by kernel_rfl) (by kernel_rfl) (fun w hw => x_ldn (vs := rowa i) kfunb_ag25 rfl (hra.five i hip) (hw.keepRow (hra.five i hip) (hra.elemAt hip))) rfl ?_
      refine LAC.takeN (i := 5) rfl (by kernel_rfl) (by kernel_rfl) (by kernel_rfl) (by kernel_rfl) (fun w hw => x_fa kfunb_fo25_4 rfl) rfl ?_
      refine LAC.takeN (i := 6) rfl (by kernel_rfl) (by kernel_rfl) (by kernel_rfl) (by kernel_rfl) (fun w hw => x_ld (v := .slice _ _ _) kfunb_oc23 rfl (hw.keep (bx4.cell0 rfl))) rfl ?_
      refine LAC.takeN (i := 7) rfl (by kernel_rfl) (by kernel_rfl) (by kernel_rfl) (by kernel_rfl) (fun w hw => x_mv (v := .int _ _) rfl) rfl ?_
      refine LAC.takeN (i := 8) rfl (by kernel_rfl) (by kernel_rfl) (by kernel_rfl) (by kernel_rfl) (fun w hw => x_ia (j := i) Tryz.underlying23 kfunb_sz25 rfl rfl (by omega) (by omega)) rfl ?_
      refine LAC.takeN (i := 9) rfl (by kernel_rfl) (by kernel_rfl) (by kernel_rfl) (by kernel_rfl) (fun w hw => x_ldn (vs := rowb i) kfunb_ag25 rfl (hrb.five i hjp) (hw.keepRow (hrb.five i hjp) (hrb.elemAt hjp))) rfl ?_
      refine LAC.takeN (i := 10) rfl (by kernel_rfl) (by kernel_rfl) (by kernel_rfl) (by kernel_rfl) (fun w hw => x_mv (v := .bool _) rfl) rfl ?_
      refine LAC.takeN (i := 11) rfl (by kernel_rfl) (by kernel_rfl) (by kernel_rfl) (by kernel_rfl) (fun w hw => x_mv (v := .int _ _) rfl) rfl ?_
      refine LAC.takeN (i := 12) rfl (by kernel_rfl) (by kernel_rfl) (by kernel_rfl) (by kernel_rfl) (fun w hw => x_fa kfunb_fo25_4 rfl) rfl ?_
      refine LAC.takeN (i := 13) rfl (by kernel_rfl) (by kernel_rfl) (by kernel_rfl) (by kernel_rfl) (fun w hw => x_ld (v := .slice _ _ _) kfunb_oc23 rfl (hw.keep (bx3.cell0 rfl))) rfl ?_
      refine LAC.takeN (i := 14) rfl (by kernel_rfl) (by kernel_rfl) (by kernel_rfl) (by kernel_rfl) (fun w hw => x_len_slice Tryz.underlying23 rfl) rfl ?_
      refine LAC.takeN (i := 15) rfl (by kernel_rfl) (by kernel_rfl) (by kernel_rfl) (by kernel_rfl) (fun w hw => x_sub rfl rfl (wr64 (by omega))) rfl ?_
      refine LAC.takeN (i := 16) rfl (by kernel_rfl) (by kernel_rfl) (by kernel_rfl) (by kernel_rfl) (fun w hw => x_eql rfl rfl) rfl ?_
      refine LAC.takeN (i := 17) rfl (by kernel_rfl) (by kernel_rfl) (by kernel_rfl) (by kernel_rfl) (fun w hw => x_eqb Tryz.underlying4 rfl rfl) rfl ?_
      refine LAC.step (rs := [18, 22]) (fun _ => hB0) (by kernel_rfl) (by simp) ⟨⟨_, rfl, ?_⟩, ⟨_, rfl, ?_⟩, trivial⟩
      ·have hs46 := hB0.size
       refine L.ret (x_call kfunb_en117 rfl) rfl (hF (up == decide ((i : Int) = (a.parts.length : Int) - 1)) i i hip hjp M M _ _ _ ((hra.each i hip).carry hB0) ((hrb.each i hjp).carry hB0)) ?_
       rintro _ w46 ⟨⟨cs46, s46, rfl, ht, hs46r⟩, hw⟩
       have hB0 := hB0.carry hw
       have hs46b := hw.size
       have ht := ht.up
       refine L.nil ?_
       refine thn_n ?_
       refine LAC.takeN (i := 19) rfl (by kernel_rfl) (by kernel_rfl) (by kernel_rfl) (by kernel_rfl) (fun w hw => x_mv (v := _) rfl) rfl ?_
       refine LAC.takeN (i := 20) rfl (by kernel_rfl) (by kernel_rfl) (by kernel_rfl) (by kernel_rfl) (fun w hw => x_ext (v := _) rfl rfl) rfl ?_
       refine LAC.takeN (i := 21) rfl (by kernel_rfl) (by kernel_rfl) (by kernel_rfl) (by kernel_rfl) (fun w hw => x_ext (v := .bool _) rfl rfl) rfl ?_
       refine LAC.step (rs := [22]) (fun _ => hB0) (by kernel_rfl) (by simp) ⟨⟨_, rfl, ?_⟩, trivial⟩
       have hs10 := hB0.size
       refine L.alloc (cs := [Value.int .i64 0, S [], S [], Value.slice none 0 0, Value.slice none 0 0]) kfunb_zr25 rfl rfl (fun w10 bx10 hw hz10 => ?_)
       have hB0 := hB0.carry hw; have ht := ht.carry hw
       refine L.nil ?_
       refine thn_n ?_
       refine LAC.step (rs := [23]) (fun _ => hB0) (by kernel_rfl) (by simp) ⟨⟨_, rfl, ?_⟩, trivial⟩
       refine L.setRow kfunb_ag25 rfl rfl bx10 rfl ht.len ht.one (fun wl48 bx10 hw hzl48 => ?_)
       have hB0 := hB0.set hw (by omega); have ht := ht.carryR hw (fun j e => by have e : j = _ := e; first | exact .inr (.inl (by omega)) | exact .inr (by omega) | exact .inl ⟨by omega, hM _ (by omega), hM _ (by omega)⟩)
       refine L.nil ?_
       refine thn_n ?_
       refine LAC.takeN (i := 24) rfl (by kernel_rfl) (by kernel_rfl) (by kernel_rfl) (by kernel_rfl) (fun w hw => x_as (v := .bool _) rfl) rfl ?_
       refine LAC.doneF (by kernel_rfl) hB0 ?_
       have hB := hB.carry hB0; have hra := hra.carry hB0; have hrb := hrb.carry hB0; have bx3 := bx3.carry hB0; have bx4 := bx4.carry hB0; have bx6 := bx6.carry hB0; have bx8 := bx8.carry hB0; have hG := hG.carry hB0; have hP := hP.carry hB0
       refine thn_n ?_
       have hse := hB0.size
       have hGL : base ≤ wL25.heap.size := ‹Ge base wL25›
       refine ⟨rfl, _, cs46, s46, rfl, rfl, rfl, rfl, rfl, rfl, vb (by rw [hfe2]), rfl, rfl, rfl, by omega, fun r e => hs46r r (by rw [hfe2]; exact e), hB, hB0, hra, hrb, bx3, bx4, bx6, bx8, hG, hP, bx10, ht.mono (fun j _ h => ?_)⟩
       exact avc_of (vN := .slice none 0 0) hM (by omega) (by omega) (fun j h => by cases h) (fun j h => ⟨hloP j h, by have := hqP j h; omega⟩) (by omega) h
      ·have hs10 := hB0.size
       refine L.alloc (cs := [Value.int .i64 0, S [], S [], Value.slice none 0 0, Value.slice none 0 0]) kfunb_zr25 rfl rfl (fun w10 bx10 hw hz10 => ?_)
       have hB0 := hB0.carry hw
       refine L.nil ?_
       refine thn_n ?_
       refine LAC.step (rs := [18]) (fun _ => hB0) (by kernel_rfl) (by simp) ⟨⟨_, rfl, ?_⟩, trivial⟩
       have hs46 := hB0.size
       refine L.ret (x_call kfunb_en117 rfl) rfl (hF (up == decide ((i : Int) = (a.parts.length : Int) - 1)) i i hip hjp M M _ _ _ ((hra.each i hip).carry hB0) ((hrb.each i hjp).carry hB0)) ?_
       rintro _ w46 ⟨⟨cs46, s46, rfl, ht, hs46r⟩, hw⟩
       have hB0 := hB0.carry hw; have bx10 := bx10.carry hw
       have hs46b := hw.size
       have ht := ht.up
       refine L.nil ?_
       refine thn_n ?_
       refine LAC.takeN (i := 19) rfl (by kernel_rfl) (by kernel_rfl) (by kernel_rfl) (by kernel_rfl) (fun w hw => x_mv (v := _) rfl) rfl ?_
       refine LAC.takeN (i := 20) rfl (by kernel_rfl) (by kernel_rfl) (by kernel_rfl) (by kernel_rfl) (fun w hw => x_ext (v := _) rfl rfl) rfl ?_
       refine LAC.takeN (i := 21) rfl (by kernel_rfl) (by kernel_rfl) (by kernel_rfl) (by kernel_rfl) (fun w hw => x_ext (v := .bool _) rfl rfl) rfl ?_
       refine LAC.step (rs := [23]) (fun _ => hB0) (by kernel_rfl) (by simp) ⟨⟨_, rfl, ?_⟩, trivial⟩
       refine L.setRow kfunb_ag25 rfl rfl bx10 rfl ht.len ht.one (fun wl48 bx10 hw hzl48 => ?_)
       have hB0 := hB0.set hw (by omega); have ht := ht.carryR hw (fun j e => by have e : j = _ := e; first | exact .inr (.inl (by omega)) | exact .inr (by omega) | exact .inl ⟨by omega, hM _ (by omega), hM _ (by omega)⟩)
       refine L.nil ?_
       refine thn_n ?_
       refine LAC.takeN (i := 24) rfl (by kernel_rfl) (by kernel_rfl) (by kernel_rfl) (by kernel_rfl) (fun w hw => x_as (v := .bool _) rfl) rfl ?_
       refine LAC.doneF (by kernel_rfl) hB0 ?_
       have hB := hB.carry hB0; have hra := hra.carry hB0; have hrb := hrb.carry hB0; have bx3 := bx3.carry hB0; have bx4 := bx4.carry hB0; have bx6 := bx6.carry hB0; have bx8 := bx8.carry hB0; have hG := hG.carry hB0; have hP := hP.carry hB0
       refine thn_n ?_
       have hse := hB0.size
       have hGL : base ≤ wL25.heap.size := ‹Ge base wL25›
       refine ⟨rfl, _, cs46, s46, rfl, rfl, rfl, rfl, rfl, rfl, vb (by rw [hfe2]), rfl, rfl, rfl, by omega, fun r e => hs46r r (by rw [hfe2]; exact e), hB, hB0, hra, hrb, bx3, bx4, bx6, bx8, hG, hP, bx10, ht.mono (fun j _ h => ?_)⟩
       exact avc_of (vN := .slice none 0 0) hM (by omega) (by omega) (fun j h => by cases h) (fun j h => ⟨hloP j h, by have := hqP j h; omega⟩) (by omega) h
     ·rintro D E w49 ⟨rfl, b10, cs, t, e2, e3, e4, e6, e8, e10, e11, e22, e23, e24, z10, htr, hB, hBL, hra, hrb, bx3, bx4, bx6, bx8, hG, hP, bx10, ht⟩
      rw [upd_self e2, upd_self e3, upd_self e4, upd_self e6, upd_self e8, upd_self e10, upd_self e11, upd_self e22, upd_self e23, upd_self e24]
      have hGL : base ≤ w49.heap.size := hG
      have hBLs := hBL.size
      have hsB := hB.size
      refine W.seq ?_
      refine W.seq ?_
      refine W.region ?_
      refine L.val (x_mv (v := .bool _) rfl) rfl ?_
      refine L.val (x_not rfl) rfl ?_
      refine L.nil ?_
      refine thn_n ?_
      refine W.cond (b := _) rfl (fun g50 => ?_) (fun g50 => ?_)
      ·have h50 := (not_t g50)
       have hnone : funG F up a b i = none := by simpa using h50
       refine W.seq ?_
       refine W.region ?_
       refine L.val (x_build (cells := [.int _ _, S _, S _, .slice _ _ _, .slice _ _ _]) kfunb_si25 rfl rfl) rfl ?_
       refine L.setRow kfunb_ag25 rfl rfl bx6 rfl rfl (by simp [Value.oneCell', S]) (fun wl53 bx6 hw hzl53 => ?_)
       have hsz := hB.size
       have hB := hB.set hw (by omega)
       refine L.val (x_as (v := .bool _) rfl) rfl ?_
       refine L.nil ?_
       refine thn_n ?_
       refine W.ret (thn_r (blk_r (thn_r (thn_r (blk_r (thn_r (finR_mk (.inr rfl) ?_)))))))
       exact ⟨_, resST (v := .bool false) rfl kfunb_ag25 rfl rfl bx6 rfl, bndV_none (by rw [hfe, if_neg]; rw [all_missR hip (by rw [hnone]; rfl)]; simp), hB⟩
      ·have h50 := (not_f g50)
       have hsome : (funG F up a b i).isSome = true := by simpa using h50
       have hte : t = (funG F up a b i).getD default := by obtain ⟨r, hr⟩ := Option.isSome_iff_exists.1 hsome; rw [htr r hr, hr]; rfl
       obtain ⟨rows, r1, r2, r3, r4⟩ := hP
       have hR0 := Gr.refl (fun k => k = b8 ∨ some k = (Value.slice aP ((List.range i).map fun i => (funG F up a b i).getD default).length cP).ownBlock) w49
       refine W.skip ?_
       refine thn_n ?_
       refine W.region ?_
       refine L.val (x_fa kfunb_fo25_4 rfl) rfl ?_
       refine L.val (x_ld (v := .slice _ _ _) kfunb_oc23 rfl (bx8.cell0 rfl)) rfl ?_
       refine L.val (x_ldn (vs := cs) kfunb_ag25 rfl ht.len (bx10.row ht.len)) rfl ?_
       refine L.bs (sz := 5) (cells := cs) Tryz.underlying23 kfunb_el25 rfl (by show (partsOk 5 0 [(0, Value.agg cs.toArray)] && decide ([((0 : Nat), Value.agg cs.toArray)].length = 1) && decide (0 < 1) && decide (1 * 5 ≤ 16777216)) = true; simp [partsOk, ht.len, Value.cells]) (by show ([((0 : Nat), Value.agg cs.toArray)].map fun x => x.2.cells.toList).flatten = cs; simp [Value.cells]) rfl (fun w55 bx55 hw hz55 => ?_)
       have hB := hB.carry hw; have hra := hra.carry hw; have hrb := hrb.carry hw; have bx3 := bx3.carry hw; have bx4 := bx4.carry hw; have bx6 := bx6.carry hw; have bx8 := bx8.carry hw; have bx10 := bx10.carry hw; have hG := hG.carry hw; have r2 := r2.carry hw; have ht := ht.carry hw; have hR0 := hR0.carry hw
       have hs56 := hR0.size
       refine L.append (m := 1) Tryz.underlying23 kfunb_el25 rfl rfl rfl r2 ht.len bx55.news (ShC.one ht) (by omega) (Nat.le_trans hGL hs56) (fun v56 w56 hO56 hg hiff56 hob56 => ?_)
       obtain ⟨g56, c56, rfl⟩ := own_form hO56
       have hav : (Value.slice (some ⟨g56, 0, none⟩) (((List.range i).map fun i => (funG F up a b i).getD default).length + 1) c56).ownBlock = (Value.slice aP ((List.range i).map fun i => (funG F up a b i).getD default).length cP).ownBlock ∨ ∀ k, some k = (Value.slice (some ⟨g56, 0, none⟩) (((List.range i).map fun i => (funG F up a b i).getD default).length + 1) c56).ownBlock → w49.heap.size ≤ k :=
         hob56.imp id (fun h k e => by have e2 := Option.some.inj (e.trans h); omega)
       have hsB5 := hB.size
       have hB := hB.step hg (fun k hk e => by have := hloP k e; omega)
       have hra := hra.carryR hg (fun k e => hM k (by have := hloP k e; omega))
       have hrb := hrb.carryR hg (fun k e => hM k (by have := hloP k e; omega))
       have bx3 := bx3.carryR hg (fun e => by have := hloP _ e; omega)
       have bx4 := bx4.carryR hg (fun e => by have := hloP _ e; omega)
       have bx6 := bx6.carryR hg (fun e => by have := hloP _ e; omega)
       have bx8 := bx8.carryR hg (fun e => by have := hloP _ e; omega)
       have hG := hG.carryR hg
       have ht := ht.carryR hg (fun k e => .inr (.inr (.inr (.inl e))))
       have hR0 := hR0.trans (hg.mono fun k _ e => .inr e)
       refine L.val (x_fa kfunb_fo25_4 rfl) rfl ?_
       refine L.set (v := .slice _ _ _) kfunb_sz23 rfl rfl rfl bx8 rfl (fun wl61 bx8 hw hzl61 => ?_)
       have hsz := hB.size
       have hB := hB.set hw (by omega); have hra := hra.carryR hw (fun k e => hM k (by have e : k = _ := e; omega)); have hrb := hrb.carryR hw (fun k e => hM k (by have e : k = _ := e; omega)); have bx3 := bx3.carryR hw (by omega); have bx4 := bx4.carryR hw (by omega); have bx6 := bx6.carryR hw (by omega); have hG := hG.carryR hw; have ht := ht.carryR hw (fun j e => by have e : j = _ := e; first | exact .inr (.inl (by omega)) | exact .inr (by omega) | exact .inl ⟨by omega, hM _ (by omega), hM _ (by omega)⟩); have hR0 := hR0.trans (hw.mono fun k _ e => .inl e); have hO56 := Own.carryR hO56 hw (fun j hj e => by have e : j = _ := e; have h1 := (Own.lt hO56 hj).1; omega)
       have hi' : i + 1 ≤ a.parts.length := hip
       have hsl := hR0.size
       have hP : ShsOwn (AvC M w.heap.size base wl61 (.slice none 0 0) (.slice (some ⟨g56, 0, none⟩) (((List.range i).map fun i => (funG F up a b i).getD default).length + 1) c56)) wl61 base 25 (.slice (some ⟨g56, 0, none⟩) (((List.range i).map fun i => (funG F up a b i).getD default).length + 1) c56) ((List.range (i + 1)).map fun i => (funG F up a b i).getD default) := by
         rw [map_range_succ, ← hte]
         exact ShsOwn.snocW r1 r3 r4 (ht.mono (fun j _ h => avc_step hsl (.inl rfl) hav h)) hO56 hR0 (fun j e => by
           rcases e with e | e
           · exact .inr (.inl (by omega))
           · exact .inr (.inr (.inr (.inl e)))) (fun j h => avc_step (by omega) (.inl rfl) (hav.imp id (fun h k e => by have := h k e; omega)) h)
       refine L.nil ?_
       refine blk_n ?_
       refine thn_n ?_
       refine W.region ?_
       refine L.val (x_add rfl rfl (wr64 (by omega))) rfl ?_
       refine L.val (x_mv (v := .int _ _) rfl) rfl ?_
       refine L.nil ?_
       refine thn_n ⟨rfl, ?_⟩
       refine ⟨_, ?_, i + 1, _, rfl, by first | rfl | exact vi (by omega), by first | rfl | exact vi (by omega), by first | rfl | exact vi (by omega), by first | rfl | exact vi (by omega), by first | rfl | exact vi (by omega), by first | rfl | exact vi (by omega), by first | rfl | exact vi (by omega), by first | rfl | exact vi (by omega), (by first | assumption | omega | rfl), (by first | assumption | omega | rfl), (by first | assumption | omega | rfl), (by first | assumption | omega | rfl), (by first | assumption | omega | rfl), (by first | assumption | omega | rfl), (by first | assumption | omega | rfl), (by first | assumption | omega | rfl), (by first | assumption | omega | rfl), (by rw [all_succ, hall, hsome]; rfl), (by first | assumption | omega | rfl)⟩
       omega
    ·have h25 := dlt_f g25
     refine W.exit (thn_x (thn_x (blk_hit ?_)))
     refine thn_n ?_
     refine W.seq ?_
     refine W.region ?_
     have hii : i = a.parts.length := by omega
     obtain ⟨xsP, hPo⟩ := hP.own
     refine L.val (x_ldn (vs := _) kfunb_ag25 rfl rfl (bx8.row rfl)) rfl ?_
     refine L.setRow kfunb_ag25 rfl rfl bx6 rfl rfl (by intro v hv; simp only [List.mem_cons, List.not_mem_nil, or_false] at hv; rcases hv with rfl | rfl | rfl | rfl | rfl <;> first | rfl | exact own_one hPo) (fun wl65 bx6 hw hzl65 => ?_)
     have hsz := hB.size
     have hB := hB.set hw (by omega); have bx8 := bx8.carryR hw (by omega); have hG := hG.carryR hw; have hP := hP.carryA (A' := _) hw (fun j hj e => by have e : j = _ := e; have h1 := (hP.lt hj).1; omega) (fun j e => by have e : j = _ := e; exact .inr (.inl (by omega))) (fun _ h => h)
     refine L.val (x_as (v := .bool _) rfl) rfl ?_
     refine L.nil ?_
     refine thn_n ?_
     refine W.ret (finR_mk (.inr rfl) ?_)
     have hall2 : (List.range a.parts.length).all (fun i => (funG F up a b i).isSome) = true := by rw [← hii]; exact hall
     have he : funB F up a b = some (.mk 8 [] [] [] ((List.range i).map fun i => (funG F up a b i).getD default)) := by rw [hfe, if_pos hall2, hii]
     refine ⟨_, resST (v := .bool true) rfl kfunb_ag25 rfl rfl bx6 rfl, ⟨_, _, by rw [he]; rfl, ?_, fun r e => by rw [he] at e; exact Option.some.inj e⟩, hB⟩
     exact ShC.intro (StrsAt.nil _ _ _ _ (by simp)) (hP.done (by simp; omega) (fun j h => .inl ⟨h.1, hRes j h⟩) (fun j h => by omega)) (by simp) (by simp)
end Go.Gx
namespace Go.Gx
open Go.Sort
variable {w : World}
theorem sorted_strs {base : Nat} {v : Value} {ss : List Str} (h : SortedNew base w v ss) (hx : ∀ x ∈ ss, x.length ≤ 9223372036854775807) (hl : ss.length ≤ 70368744177664) :
    ∃ p cap, v = .slice p (sortNames ss).length cap ∧ StrsAt (fun k => k < base) w (.slice p (sortNames ss).length cap) (sortNames ss) := by
  rcases h with ⟨rfl, rfl⟩ | ⟨b, cap, tl, d, hb, h1, hc, rfl, hR, hd, hp, hs, hcm⟩
  · exact ⟨none, 0, rfl, StrsAt.nil _ _ _ _ (by simp)⟩
  · have hlen : (sortNames ss).length = ss.length := sortNames_perm.length_eq
    have hperm : d.toList.Perm ss := by
      obtain ⟨p1, -, p3⟩ := hp
      have e1 : (d.extract 0 ss.length).toList = d.toList := by simp [← hd]
      have e2 : (ss.toArray.extract 0 ss.length).toList = ss := by simp
      rwa [e1, e2] at p3
    have hsort : d.toList.Pairwise fun a b => ltStr b a = false := by
      rw [List.pairwise_iff_getElem]
      intro i j hi hj hij
      have hi' : i < d.size := by simpa using hi
      have hj' : j < d.size := by simpa using hj
      have := hs i j (by omega) hij (by omega)
      rw [getElem!_pos d i hi', getElem!_pos d j hj'] at this
      simpa using this
    have he : d.toList = sortNames ss := sortNames_one hperm hsort
    refine ⟨some ⟨b, 0, none⟩, cap, by rw [hlen], some ⟨b, 0, none⟩, cap, rfl, by omega, hcm, by omega, fun x hx' => hx x (sortNames_perm.mem_iff.1 hx'), fun _ => ⟨b, 0, rfl, by omega, fun i hi => ?_⟩⟩
    have hi' : i < d.size := by omega
    have := hR.at (i := i) hi'
    rw [this]
    have e : d[i]! = (sortNames ss).getD i [] := by
      rw [getElem!_pos d i hi', ← he]; simp [List.getD_eq_getElem?_getD, hi']
    rw [e]
theorem idxM_eq {x : Str} : ∀ {l : List (Str × Value)}, idxM x l = idxS x (l.map (·.1))
  | [] => rfl
  | y :: l => by simp only [idxM, List.map_cons, idxS, idxM_eq (l := l)]
theorem putM_keys {l : List (Str × Value)} {x : Str} {v : Value} : (putM l x v).map (·.1) = if x ∈ l.map (·.1) then l.map (·.1) else l.map (·.1) ++ [x] := by
  unfold putM
  rw [idxM_eq]
  have hlen : l.length = (l.map (·.1)).length := by simp
  by_cases h : idxS x (l.map (·.1)) < l.length
  · rw [if_pos h, if_pos (idxS_lt.1 (by rw [← hlen]; exact h)), List.map_set]
    have hg := idxS_get (x := x) (l := l.map (·.1)) (by rw [← hlen]; exact h)
    apply List.ext_getElem
    · simp
    · intro i h1 h2
      rw [List.getElem_set]
      split
      · next e =>
        subst e
        rw [List.getD_eq_getElem?_getD, List.getElem?_eq_getElem h2] at hg
        exact hg.symm
      · rfl
  · rw [if_neg h, if_neg (fun hm => h (by rw [hlen]; exact idxS_lt.2 hm)), List.map_append]; rfl
theorem putAll_keys : ∀ (vis m : List (Str × Value)), (m.map (·.1)).Nodup → ((putAll m vis).map (·.1)).Nodup ∧ ∀ x, x ∈ (putAll m vis).map (·.1) ↔ x ∈ m.map (·.1) ∨ x ∈ vis.map (·.1)
  | [], m, h => ⟨h, fun x => by simp [putAll]⟩
  | kv :: vis, m, h => by
    have hk := putM_keys (l := m) (x := kv.1) (v := kv.2)
    have hn : ((putM m kv.1 kv.2).map (·.1)).Nodup := by
      rw [hk]
      split
      · exact h
      · next hx => exact List.nodup_append.2 ⟨h, by simp, fun a ha b hb e => by
          rw [List.mem_singleton.1 hb] at e; exact hx (e ▸ ha)⟩
    obtain ⟨h1, h2⟩ := putAll_keys vis (putM m kv.1 kv.2) hn
    refine ⟨h1, fun x => ?_⟩
    have : putAll m (kv :: vis) = putAll (putM m kv.1 kv.2) vis := rfl
    rw [this, h2 x, hk, List.map_cons, List.mem_cons]
    split
    · next hx =>
      constructor
      · rintro (h | h)
        · exact .inl h
        · exact .inr (.inr h)
      · rintro (h | h | h)
        · exact .inl h
        · exact .inl (h ▸ hx)
        · exact .inr h
    · rw [List.mem_append, List.mem_singleton, or_assoc]
theorem fieldsF_keys : ∀ {l : List Str} {n : Nat}, (fieldsF n l).map (·.1) = l
  | [], _ => rfl
  | x :: l, n => by rw [fieldsF, List.map_cons, fieldsF_keys]
theorem keys_uni {a b : Sh} {vis : List (Str × Value)} (na : a.names.Nodup) (nb : b.names.Nodup) (h : vis.Perm (fieldsF 0 b.names)) : ((putAll (fieldsF 0 a.names) vis).map (·.1)).Perm (uniV a b) := by
  obtain ⟨h1, h2⟩ := putAll_keys vis (fieldsF 0 a.names) (by rw [fieldsF_keys]; exact na)
  obtain ⟨h3, h4⟩ := uniV_ok a b na nb
  refine (List.perm_ext_iff_of_nodup h1 h3).2 fun x => ?_
  have h5 := (h.map (·.1)).mem_iff (a := x)
  rw [fieldsF_keys] at h5
  rw [h2, h4, fieldsF_keys, h5]
theorem sortNames_perm_eq {l m : List Str} (h : l.Perm m) : sortNames l = sortNames m := sortNames_one (sortNames_perm.trans h) sortNames_sorted
theorem uniV_len {a b : Sh} : (uniV a b).length ≤ a.names.length + b.names.length := by
  unfold uniV
  rw [List.length_append]
  have := List.length_filter_le (fun x => !decide (x ∈ a.names)) b.names
  omega
theorem uniU_len {a b : Sh} : (uniU a b).length ≤ a.names.length + b.names.length := by
  unfold uniU; rw [sortNames_perm.length_eq]; exact uniV_len
def selT (F : Bool → Sh → Sh → Option Sh) (up all : Bool) (a b : Sh) (U : List Str) (k : Nat) : List (Str × Sh) := (U.take k).filterMap fun x => (pickB F up all a b x).map fun r => (x, r)
theorem selT_some {F : Bool → Sh → Sh → Option Sh} {up all : Bool} {a b : Sh} {U : List Str} {k : Nat} {t : Sh} (hk : k < U.length) (h : pickB F up all a b (U.getD k []) = some t) : selT F up all a b U (k + 1) = selT F up all a b U k ++ [(U.getD k [], t)] := by
  unfold selT
  have e : U.take (k + 1) = U.take k ++ [U.getD k []] := take_snoc (d := []) hk
  rw [e, List.filterMap_append]
  simp only [List.filterMap_cons, List.filterMap_nil, h, Option.map_some]
theorem selT_none {F : Bool → Sh → Sh → Option Sh} {up all : Bool} {a b : Sh} {U : List Str} {k : Nat} (hk : k < U.length) (h : pickB F up all a b (U.getD k []) = none) : selT F up all a b U (k + 1) = selT F up all a b U k := by
  unfold selT
  have e : U.take (k + 1) = U.take k ++ [U.getD k []] := take_snoc (d := []) hk
  rw [e, List.filterMap_append]
  simp only [List.filterMap_cons, List.filterMap_nil, h, Option.map_none, List.append_nil]
theorem selT_len {F : Bool → Sh → Sh → Option Sh} {up all : Bool} {a b : Sh} {U : List Str} {k : Nat} : (selT F up all a b U k).length ≤ U.length := by
  unfold selT
  have := List.length_filterMap_le (fun x => (pickB F up all a b x).map fun r => (x, r)) (U.take k)
  simp at this ⊢; omega
theorem selT_names {F : Bool → Sh → Sh → Option Sh} {up all : Bool} {a b : Sh} {U : List Str} {k : Nat} {x : Str} (h : x ∈ (selT F up all a b U k).map (·.1)) : x ∈ U := by
  obtain ⟨⟨y, r⟩, hy, rfl⟩ := List.mem_map.1 h
  unfold selT at hy
  obtain ⟨z, hz, e⟩ := List.mem_filterMap.1 hy
  obtain ⟨r', -, e2⟩ := Option.map_eq_some_iff.1 e
  cases e2
  exact List.mem_of_mem_take hz
theorem any_take {q : Str → Bool} {U : List Str} {k : Nat} (hk : k < U.length) : (U.take (k + 1)).any q = ((U.take k).any q || q (U.getD k [])) := by
  have e : U.take (k + 1) = U.take k ++ [U.getD k []] := take_snoc (d := []) hk
  rw [e, List.any_append]; simp
end Go.Gx
