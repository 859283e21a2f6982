/- The answers that the document fixes (layer 12). Conditions: none. -/
import Derived.Test.YteehllhldaopjaaGreatBwBndP
namespace Go.Gx
open Go.Proofs
theorem kawake12_ag25 : aggT Tryz.prog 25 5 = true := by kernel_rfl
theorem kawake12_el25 : elT Tryz.prog 25 5 = true := by kernel_rfl
theorem kawake12_el9 : elT Tryz.prog 9 1 = true := by kernel_rfl
theorem kawake12_en26 : Go.Proofs.Enters Tryz.prog 26 := Go.Proofs.enters_of Tryz.func26 (by kernel_rfl) rfl
theorem kawake12_en27 : Go.Proofs.Enters Tryz.prog 27 := Go.Proofs.enters_of Tryz.func27 (by kernel_rfl) rfl
theorem kawake12_en30 : Go.Proofs.Enters Tryz.prog 30 := Go.Proofs.enters_of Tryz.func30 (by kernel_rfl) rfl
theorem kawake12_en32 : Go.Proofs.Enters Tryz.prog 32 := Go.Proofs.enters_of Tryz.func32 (by kernel_rfl) rfl
theorem kawake12_en66 : Go.Proofs.Enters Tryz.prog 66 := Go.Proofs.enters_of Tryz.func66 (by kernel_rfl) rfl
theorem kawake12_fo25_3 : fieldOff Tryz.prog 25 3 = some 3 := by kernel_rfl
theorem kawake12_fo25_4 : fieldOff Tryz.prog 25 4 = some 4 := by kernel_rfl
theorem kawake12_mixed : Tryz.prog.follows .mixedOrders = true := by kernel_rfl
theorem kawake12_oc22 : oneCellT Tryz.prog 22 = true := by kernel_rfl
theorem kawake12_oc23 : oneCellT Tryz.prog 23 = true := by kernel_rfl
theorem kawake12_oc9 : oneCellT Tryz.prog 9 = true := by kernel_rfl
theorem kawake12_si25 : structInfo Tryz.prog 25 = some ([(0, 1), (1, 1), (2, 1), (3, 1), (4, 1)], [Value.int .i64 0, S [], S [], Value.slice none 0 0, Value.slice none 0 0]) := by kernel_rfl
theorem kawake12_sz22 : (Tryz.prog.info? 22).map (·.size) = some 1 := by kernel_rfl
theorem kawake12_sz23 : (Tryz.prog.info? 23).map (·.size) = some 1 := by kernel_rfl
theorem kawake12_sz9 : (Tryz.prog.info? 9).map (·.size) = some 1 := by kernel_rfl
theorem kawake12_zr25 : (Tryz.prog.info? 25).bind (·.zero) = some (Value.agg [Value.int .i64 0, S [], S [], Value.slice none 0 0, Value.slice none 0 0].toArray) := by kernel_rfl
def shI : Sh := .mk 1 [] [] [] []
def recI (l : List Str) : Sh := .mk 6 [] [] l (l.map fun _ => shI)
theorem strs_avoid {A : Nat → Prop} {w : World} {b o n cap : Nat} {l : List Str} (h : StrsAt A w (.slice (some ⟨b, o, none⟩) n cap) l) (hl : l ≠ []) : ¬ A b := by
  obtain ⟨p, c, hv, -, -, -, -, h4⟩ := h
  obtain ⟨b', o', hp, hA, -⟩ := h4 hl
  simp only [Value.slice.injEq] at hv
  rw [← hv.1] at hp
  simp only [Option.some.injEq, Addr.mk.injEq] at hp
  rw [hp.1]; exact hA
theorem record_ok (A0 : Nat → Prop) (v : Value) (l : List Str) (w : World) (hl0 : StrsAt A0 w v l) (hn : l.length ≤ 100) :
    Ret Tryz.prog 66 #[v] w fun v w' => ∃ cs, v = .agg cs.toArray ∧ ShC (fun k => k < w.heap.size) w' cs (recI l) ∧ Bel w w' := by
  obtain ⟨A, hl, hA⟩ : ∃ A : Nat → Prop, StrsAt A w v l ∧ (∀ k, w.heap.size ≤ k → A k) := ⟨_, hl0.up, fun _ => .inr⟩
  clear hl0
  obtain ⟨p, cap, rfl, n1, n2, n3, hL, -⟩ := id hl
  refine ret_of_W_R Tryz.func66 rfl (Nat.le_of_ble_eq_true rfl) ?_
  have hB := Gr.refl (fun _ => False) w
  refine W.seq ?_
  refine W.region ?_
  refine L.alloc (cs := [Value.int .i64 0, S [], S [], Value.slice none 0 0, Value.slice none 0 0]) kawake12_zr25 rfl rfl (fun w2 bx2 hw hz2 => ?_)
  have hB := hB.carry hw; have hl := hl.carry hw
  refine L.nil ?_
  refine thn_n ?_
  refine W.seq ?_
  refine W.region ?_
  refine L.val (x_build (cells := [.int _ _, S _, S _, .slice _ _ _, .slice _ _ _]) kawake12_si25 rfl rfl) rfl ?_
  refine L.alloc (cs := [Value.int .i64 0, S [], S [], Value.slice none 0 0, Value.slice none 0 0]) kawake12_zr25 rfl rfl (fun w3 bx3 hw hz3 => ?_)
  have hB := hB.carry hw; have hl := hl.carry hw; have bx2 := bx2.carry hw
  obtain ⟨b3, hb3⟩ : ∃ b3, b3 = w2.heap.size := ⟨_, rfl⟩
  rw [← hb3] at bx3 ⊢
  refine L.setRow kawake12_ag25 rfl rfl bx3 rfl rfl (by simp [Value.oneCell', S]) (fun wl4 bx3 hw hzl4 => ?_)
  have hsz := hB.size
  have hB := hB.set hw (by omega); have hl := hl.carryR hw (fun j e => hA j (by have e : j = _ := e; omega)); have bx2 := bx2.carryR hw (by omega)
  obtain ⟨base, hbase⟩ : ∃ base, base = wl4.heap.size := ⟨_, rfl⟩
  have z5 : w.heap.size < b3 ∧ b3 < base := by have e : wl4.heap.size = w3.heap.size := hzl4; omega
  have hG : Ge base wl4 := by rw [hbase]; exact Nat.le_refl _
  clear hbase hb3
  refine L.nil ?_
  refine thn_n ?_
  refine W.seq ?_
  refine W.seq ?_
  refine W.region ?_
  refine L.val (x_as (v := .int _ _) rfl) rfl ?_
  refine L.nil ?_
  refine thn_n ?_
  refine W.block ?_
  refine W.loop (fun m' E w' => ∃ (i : Nat) (vN vP : Value), m' = l.length - i ∧ E 0 = .slice p l.length cap ∧ E 2 = .pointer (some ⟨w.heap.size, 0, none⟩) ∧ E 3 = .pointer (some ⟨b3, 0, none⟩) ∧ E 4 = .int .i64 (i : Nat) ∧ (Bel w w') ∧ (StrsAt A w' (.slice p l.length cap) l) ∧ (Box w' w.heap.size 25 [.int .i64 0, S [], S [], .slice none 0 0, .slice none 0 0]) ∧ (Box w' b3 25 [.int .i64 6, S [], S [], vN, vP]) ∧ (Ge base w') ∧ (i ≤ l.length) ∧ (Own w' base 9 1 vN i ((l.take i).map S)) ∧ (ShsOwn (fun _ => True) w' base 25 vP ((List.range i).map fun _ => shI))) (l.length) ?_ ?_
  ·exact ⟨0, .slice none 0 0, .slice none 0 0, by omega, by first | rfl | exact vi (by omega), by first | rfl | exact vi (by omega), by first | rfl | exact vi (by omega), by first | rfl | exact vi (by omega), (by first | assumption | omega | rfl), (by first | assumption | omega | rfl), (by first | assumption | omega | rfl), (by first | assumption | omega | rfl), (by first | assumption | omega | rfl), (by first | assumption | omega | rfl), (by exact own_nil), (by exact ShsOwn.nil)⟩
  ·rintro _ E wL6 ⟨i, vN, vP, em, e0, e2, e3, e4, hB, hl, bx2, bx3, hG, hi, hN, hP⟩
   rw [upd_self e0, upd_self e2, upd_self e3, upd_self e4]
   refine W.seq ?_
   refine W.seq ?_
   refine W.region ?_
   refine L.val (x_mv (v := .int _ _) rfl) rfl ?_
   refine L.val (x_mv (v := .slice _ _ _) rfl) rfl ?_
   refine L.val (x_len_slice Tryz.underlying22 rfl) rfl ?_
   refine L.val (x_lss rfl rfl) rfl ?_
   refine L.nil ?_
   refine thn_n ?_
   refine W.cond (b := _) rfl (fun g9 => ?_) (fun g9 => ?_)
   ·have h9 := of_decide_eq_true g9
    have hlt : i < l.length := by omega
    obtain ⟨lb, lo, rfl, hcl⟩ := hl.elem hlt
    have hnL := strs_avoid hl (fun e => by rw [e] at hlt; simp at hlt)
    obtain ⟨aN, cN, rfl, hcN⟩ := own_shape hN
    obtain ⟨xsP, hPo⟩ := hP.own
    obtain ⟨aP, cP, rfl, hcP⟩ := own_shape hPo
    have hNP : ∀ j, some j = (Value.slice aP ((List.range i).map fun _ => shI).length cP).ownBlock → ¬ some j = (Value.slice aN i cN).ownBlock := fun j hj => own_ne hPo hN rfl hj
    clear hPo xsP
    have hloN : ∀ j, some j = (Value.slice aN i cN).ownBlock → base ≤ j := fun j h => (Own.lt hN h).1
    have hloP : ∀ j, some j = (Value.slice aP ((List.range i).map fun _ => shI).length cP).ownBlock → base ≤ j := fun j h => (hP.lt h).1
    have hqN : ∀ j, some j = (Value.slice aN i cN).ownBlock → j < wL6.heap.size := fun j h => (Own.lt hN h).2
    have hPl : ((List.range i).map fun _ => shI).length = i := by simp
    refine W.skip ?_
    refine thn_n ?_
    refine W.seq ?_
    refine W.block ?_
    refine W.seq ?_
    refine W.drawD (fun k => k = b3 ∨ some k = (Value.slice aN i cN).ownBlock) (fun k => some k = (Value.slice aN i cN).ownBlock) 9 kawake12_mixed (fun wD12 hw => ?_)
    have hB := hB.carry hw; have hl := hl.carry hw; have bx2 := bx2.carry hw; have bx3 := bx3.carry hw; have hG := hG.carry hw; have hN := hN.carry hw; have hP := hP.carry hw
    have hB0 := Gr.refl (fun k => some k = (Value.slice aN i cN).ownBlock) wD12; have hR0 := Gr.refl (fun k => k = b3 ∨ some k = (Value.slice aN i cN).ownBlock) wD12
    have hGD : base ≤ wD12.heap.size := hG
    have hcl := hw.keep hcl
    refine LAD.take0 (i := 0) rfl (by kernel_rfl) (by kernel_rfl) (by kernel_rfl) (by kernel_rfl) (fun w hw => x_fa kawake12_fo25_3 rfl) rfl ?_
    refine LAD.take1 (i := 1) rfl (by kernel_rfl) (by kernel_rfl) (by kernel_rfl) (by kernel_rfl) (by kernel_rfl) (by kernel_rfl) (fun w hw => x_ld (v := .slice _ _ _) kawake12_oc22 rfl (hw.keepR (fun e => by have := hloN _ e; (try dsimp only at this); omega) (bx3.cell0 rfl))) rfl ?_
    refine LAD.take0 (i := 2) rfl (by kernel_rfl) (by kernel_rfl) (by kernel_rfl) (by kernel_rfl) (fun w hw => x_mv (v := .slice _ _ _) rfl) rfl ?_
    refine LAD.take0 (i := 3) rfl (by kernel_rfl) (by kernel_rfl) (by kernel_rfl) (by kernel_rfl) (fun w hw => x_mv (v := .int _ _) rfl) rfl ?_
    refine LAD.take0 (i := 4) rfl (by kernel_rfl) (by kernel_rfl) (by kernel_rfl) (by kernel_rfl) (fun w hw => x_ia1 (j := i) Tryz.underlying22 kawake12_sz9 rfl rfl (by omega) (by omega)) rfl ?_
    refine LAD.take0 (i := 5) rfl (by kernel_rfl) (by kernel_rfl) (by kernel_rfl) (by kernel_rfl) (fun w hw => x_ld (v := S _) kawake12_oc9 rfl (hw.keepR (by rintro (e | e); (have e : (_ : Nat) = _ := e; (try dsimp only at e); first | omega | exact hnL (hA _ (by omega))); (have := hloN _ e; (try dsimp only at this); first | omega | exact hnL (hA _ (by omega)))) hcl)) rfl ?_
    refine LAD.step (rs := [6]) hR0 (fun _ => hB0) (by kernel_rfl) (by simp) ⟨⟨_, rfl, ?_⟩, trivial⟩
    refine L.bs (sz := 1) (cells := [S (l.getD i [])]) Tryz.underlying22 kawake12_el9 rfl rfl rfl rfl (fun w18 bx18 hw hz18 => ?_)
    have hB0 := hB0.carry hw; have hR0 := hR0.carry hw; have bx3 := bx3.carry hw; have hN := hN.carry hw
    refine L.nil ?_
    refine thn_n ?_
    refine LAD.step (rs := [7]) hR0 (fun _ => hB0) (by kernel_rfl) (by simp) ⟨⟨_, rfl, ?_⟩, trivial⟩
    refine L.append (m := 1) Tryz.underlying22 kawake12_el9 rfl rfl rfl hN rfl bx18.news (by simp [Value.oneCell', S]) (by omega) (Nat.le_trans hGD hR0.size) (fun v19 w19 hO19 hg hiff19 hob19 => ?_)
    obtain ⟨g19, c19, rfl⟩ := own_form hO19
    have bx3 := bx3.carryR hg (fun e => by have := hloN _ e; omega)
    have hB0 := hB0.intoR hg (fun k e => e)
    have hR0 := hR0.intoR hg (fun k e => .inr e)
    refine L.nil ?_
    refine thn_n ?_
    refine LAD.take0 (i := 8) rfl (by kernel_rfl) (by kernel_rfl) (by kernel_rfl) (by kernel_rfl) (fun w hw => x_fa kawake12_fo25_3 rfl) rfl ?_
    refine LAD.step (rs := [9]) hR0 (fun _ => hB0) (by kernel_rfl) (by simp) ⟨⟨_, rfl, ?_⟩, trivial⟩
    refine L.set (v := .slice _ _ _) kawake12_sz22 rfl rfl rfl bx3 rfl (fun wl19 bx3 hw hzl19 => ?_)
    have hR0 := hR0.into hw (by first | exact .inl rfl | exact .inr rfl); have hO19 := Own.carryR hO19 hw (fun j hj e => by have e : j = _ := e; have h1 := (Own.lt hO19 hj).1; omega)
    refine L.nil ?_
    refine thn_n ?_
    refine LAD.done (by kernel_rfl) (by kernel_rfl) hR0 ?_
    have hB := hB.step hR0 (fun i hi e => by rcases e with e | e; (have e : (_ : Nat) = _ := e; omega); (have := hloN _ e; omega))
    have hl := hl.carryR hR0 (fun k e => hA k (by rcases e with e | e; (have e : (_ : Nat) = _ := e; omega); (have := hloN _ e; omega)))
    have bx2 := bx2.carryR hR0 (fun e => by rcases e with e | e; (have e : (_ : Nat) = _ := e; omega); (have := hloN _ e; omega))
    have hG := hG.carryR hR0
    have hP := hP.carryA (A' := _) hR0 (fun j hj e => by rcases e with e | e; (have e : (_ : Nat) = _ := e; have := hloP _ hj; omega); exact hNP j hj e) (fun _ _ => trivial) (fun _ h => h)
    refine thn_n ?_
    refine W.region ?_
    obtain ⟨rows, r1, r2, r3, r4⟩ := hP
    have hR0 := Gr.refl (fun k => k = b3 ∨ some k = (Value.slice aP ((List.range i).map fun _ => shI).length cP).ownBlock) wl19
    refine L.val (x_fa kawake12_fo25_4 rfl) rfl ?_
    refine L.val (x_ld (v := .slice _ _ _) kawake12_oc23 rfl (bx3.cell0 rfl)) rfl ?_
    refine L.val (x_build (cells := [.int _ _, S _, S _, .slice _ _ _, .slice _ _ _]) kawake12_si25 rfl rfl) rfl ?_
    refine L.bs (sz := 5) (cells := leafC 1) Tryz.underlying23 kawake12_el25 rfl rfl rfl rfl (fun w24 bx24 hw hz24 => ?_)
    have hB := hB.carry hw; have hl := hl.carry hw; have bx2 := bx2.carry hw; have bx3 := bx3.carry hw; have hG := hG.carry hw; have hO19 := hO19.carry hw; have r2 := r2.carry hw; have hR0 := hR0.carry hw
    have hs25 := hR0.size
    have hG25 : base ≤ w24.heap.size := hG
    refine L.append (m := 1) Tryz.underlying23 kawake12_el25 rfl rfl rfl r2 rfl bx24.news (by simp [Value.oneCell', S]) (by omega) hG25 (fun v25 w25 hO25 hg hiff25 hob25 => ?_)
    obtain ⟨g25, c25, rfl⟩ := own_form hO25
    have hB := hB.step hg (fun k hk e => by have := hloP k e; omega)
    have hl := hl.carryR hg (fun k e => hA k (by have := hloP k e; omega))
    have bx2 := bx2.carryR hg (fun e => by have := hloP _ e; omega)
    have bx3 := bx3.carryR hg (fun e => by have := hloP _ e; omega)
    have hG := hG.carryR hg
    have hO19 := Own.carryR hO19 hg (fun j hj hj' => own_ne hO19 r2 rfl hj hj')
    have hR0 := hR0.trans (hg.mono fun k _ e => .inr e)
    refine L.val (x_fa kawake12_fo25_4 rfl) rfl ?_
    refine L.set (v := .slice _ _ _) kawake12_sz23 rfl rfl rfl bx3 rfl (fun wl26 bx3 hw hzl26 => ?_)
    have hsz := hB.size
    have hB := hB.set hw (by omega); have hl := hl.carryR hw (fun j e => hA j (by have e : j = _ := e; omega)); have bx2 := bx2.carryR hw (by omega); have hG := hG.carryR hw; have hO19 := Own.carryR hO19 hw (fun j hj e => by have e : j = _ := e; have h1 := (Own.lt hO19 hj).1; omega); have hR0 := hR0.trans (hw.mono fun k _ e => .inl e); have hO25 := Own.carryR hO25 hw (fun j hj e => by have e : j = _ := e; have h1 := (Own.lt hO25 hj).1; omega)
    have hi' : i + 1 ≤ l.length := hlt
    have hN : Own wl26 base 9 1 (.slice (some ⟨g19, 0, none⟩) (i + 1) c19) (i + 1) ((l.take (i + 1)).map S) := by
      rw [List.take_succ_eq_append_getElem hlt, List.map_append]
      simpa [List.getD_eq_getElem?_getD, hlt] using hO19
    have hP : ShsOwn (fun _ => True) wl26 base 25 (.slice (some ⟨g25, 0, none⟩) (((List.range i).map fun _ => shI).length + 1) c25) ((List.range (i + 1)).map fun _ => shI) := by
      rw [map_range_succ]
      exact ShsOwn.snocW r1 r3 r4 (leaf _ _ 1) hO25 hR0 (fun _ _ => trivial) (fun _ h => h)
    refine L.nil ?_
    refine blk_n ?_
    refine thn_n ?_
    refine W.region ?_
    refine L.val (x_mv (v := .int _ _) rfl) rfl ?_
    refine L.val (x_add rfl rfl (wr64 (by omega))) rfl ?_
    refine L.val (x_as (v := .int _ _) rfl) rfl ?_
    refine L.nil ?_
    refine thn_n ⟨rfl, ?_⟩
    refine ⟨_, ?_, i + 1, _, _, rfl, by first | rfl | exact vi (by omega), by first | rfl | exact vi (by omega), by first | rfl | exact vi (by omega), by first | rfl | exact vi (by omega), (by first | assumption | omega | rfl), (by first | assumption | omega | rfl), (by first | assumption | omega | rfl), (by first | assumption | omega | rfl), (by first | assumption | omega | rfl), (by first | assumption | omega | rfl), (by first | assumption | omega | rfl), (by first | assumption | omega | rfl)⟩
    omega
   ·have h9 := dlt_f g9
    refine W.exit (thn_x (thn_x (blk_hit ?_)))
    refine thn_n ?_
    refine W.seq ?_
    refine W.region ?_
    have hii : i = l.length := by omega
    obtain ⟨xsP, hPo⟩ := hP.own
    refine L.val (x_ldn (vs := _) kawake12_ag25 rfl rfl (bx3.row rfl)) rfl ?_
    refine L.setRow kawake12_ag25 rfl rfl bx2 rfl rfl (by intro v hv; simp only [List.mem_cons, List.not_mem_nil, or_false] at hv; rcases hv with rfl | rfl | rfl | rfl | rfl <;> first | rfl | exact own_one hN | exact own_one hPo) (fun wl31 bx2 hw hzl31 => ?_)
    have hsz := hB.size
    have hB := hB.set hw (by omega); have bx3 := bx3.carryR hw (by omega); have hG := hG.carryR hw
    have hN := Own.carryR hN hw (fun j hj e => by have e : j = _ := e; have h1 := (Own.lt hN hj).1; omega)
    have hP := hP.carryA (A' := fun _ => True) hw (fun j hj e => by have e : j = _ := e; have h1 := (hP.lt hj).1; omega) (fun _ _ => trivial) (fun _ h => h)
    refine L.nil ?_
    refine thn_n ?_
    refine W.ret (finR_mk (.inr rfl) ?_)
    subst hii
    rw [List.take_length] at hN
    refine ⟨_, resS rfl kawake12_ag25 rfl bx2 rfl, _, rfl, ?_, hB⟩
    have e : recI l = .mk 6 [] [] l ((List.range l.length).map fun _ => shI) := by
      unfold recI
      congr 1
      apply List.ext_getElem
      · simp
      · intro i h1 h2; simp
    rw [e]
    exact ShC.intro (k := 6) (of := []) (nm := []) (strs_done hN (by omega) hL (fun j h h2 => by omega)) (hP.done (by simp; omega) (fun _ _ => trivial) (fun j h => by omega)) (by simp) (by simp)
theorem jAC : jmS true (recI [[97], [98]]) (recI [[98], [99]]) = (recI [[98]], true) := by kernel_rfl
theorem jCA : jmS false (recI [[98], [99]]) (recI [[97], [98]]) = (recI [[97], [98], [99]], true) := by kernel_rfl
theorem j13 : jmS true (.mk 1 [] [] [] []) (.mk 3 [] [] [] []) = (zeroS, false) := by kernel_rfl
theorem bA : belowR (recI [[97], [98]]) (recI [[97]]) = true := by decide +kernel
theorem bA' : belowR (recI [[97]]) (recI [[97], [98]]) = false := by decide +kernel
set_option maxHeartbeats 1000000 in
theorem awake12 (w : World) : Ret Tryz.prog 29 #[] w fun v w' => v = .bool true ∧ Bel w w' := by
  refine ret_of_W Tryz.func29 rfl (Nat.le_of_ble_eq_true rfl) (res1 rfl) ?_
  have hB := Gr.refl (fun _ => False) w
  refine W.seq ?_
  refine W.region ?_
  refine L.val (x_as (v := .bool _) rfl) rfl ?_
  refine L.nil ?_
  refine thn_n ?_
  refine W.seq ?_
  refine W.region ?_
  refine L.bs (sz := 1) (cells := [S [97], S [98]]) Tryz.underlying22 kawake12_el9 rfl rfl rfl rfl (fun w9 bx9 hw hz9 => ?_)
  have hB := hB.carry hw
  refine L.ret (x_call kawake12_en66 rfl) rfl (record_ok (fun _ => False) _ [[97], [98]] _ (strs_of_box [[97], [98]] bx9 (fun f => f) (by simp) (by simp)) (by simp)) ?_
  rintro _ w10 ⟨cs10, rfl, hA, hw⟩
  have hB := hB.carry hw; have bx9 := bx9.carry hw
  have hlA := hA.len
  have hA := hA.up
  refine L.bs (sz := 1) (cells := [S [98], S [99]]) Tryz.underlying22 kawake12_el9 rfl rfl rfl rfl (fun w11 bx11 hw hz11 => ?_)
  have hB := hB.carry hw; have hA := hA.carry hw
  refine L.ret (x_call kawake12_en66 rfl) rfl (record_ok (fun _ => False) _ [[98], [99]] _ (strs_of_box [[98], [99]] bx11 (fun f => f) (by simp) (by simp)) (by simp)) ?_
  rintro _ w12 ⟨cs12, rfl, hC, hw⟩
  have hB := hB.carry hw; have hA := hA.carry hw; have bx11 := bx11.carry hw
  have hlC := hC.len
  have hC := hC.up
  have hsz12 := hw.size
  have hszB := hB.size
  refine L.alloc (cs := [Value.int .i64 0, S [], S [], Value.slice none 0 0, Value.slice none 0 0]) kawake12_zr25 rfl rfl (fun w1 bx1 hw hz1 => ?_)
  have hB := hB.carry hw; have hA := hA.carry hw; have hC := hC.carry hw
  refine L.alloc (cs := [Value.int .i64 0, S [], S [], Value.slice none 0 0, Value.slice none 0 0]) kawake12_zr25 rfl rfl (fun w2 bx2 hw hz2 => ?_)
  have hB := hB.carry hw; have hA := hA.carry hw; have hC := hC.carry hw; have bx1 := bx1.carry hw
  refine L.setRow kawake12_ag25 rfl rfl bx1 rfl hlA hA.one (fun wl8 bx1 hw hzl8 => ?_)
  have hsz := hB.size
  have hB := hB.set hw (by omega); have hA := hA.carryR hw (fun j e => .inr (by have e : j = _ := e; omega)); have hC := hC.carryR hw (fun j e => .inr (by have e : j = _ := e; omega)); have bx2 := bx2.carryR hw (by omega)
  refine L.setRow kawake12_ag25 rfl rfl bx2 rfl hlC hC.one (fun wl9 bx2 hw hzl9 => ?_)
  have hsz := hB.size
  have hB := hB.set hw (by omega); have hA := hA.carryR hw (fun j e => .inr (by have e : j = _ := e; omega)); have hC := hC.carryR hw (fun j e => .inr (by have e : j = _ := e; omega)); have bx1 := bx1.carryR hw (by omega)
  refine L.nil ?_
  refine thn_n ?_
  refine W.seq ?_
  refine W.region ?_
  refine L.val (x_ldn (vs := cs10) kawake12_ag25 rfl hlA (bx1.row hlA)) rfl ?_
  refine L.val (x_ldn (vs := cs12) kawake12_ag25 rfl hlC (bx2.row hlC)) rfl ?_
  refine L.ret (x_call kawake12_en30 rfl) rfl (join_ok _ _ (recI [[97], [98]]) (recI [[98], [99]]) _ _ _ hA hC) ?_
  rintro _ w16 ⟨cs16, rfl, hj, hw⟩
  have hB := hB.carry hw; have bx1 := bx1.carry hw; have bx2 := bx2.carry hw; have hA := hA.carry hw; have hC := hC.carry hw
  rw [jAC] at hj ⊢
  have hlj := hj.len
  have hj := hj.up
  have hsz16 := hw.size
  have hx1 := bx1.lt
  have hx2 := bx2.lt
  refine L.val (x_mv (v := _) rfl) rfl ?_
  refine L.val (x_ext (v := _) rfl rfl) rfl ?_
  refine L.val (x_ext (v := .bool _) rfl rfl) rfl ?_
  refine L.alloc (cs := [Value.int .i64 0, S [], S [], Value.slice none 0 0, Value.slice none 0 0]) kawake12_zr25 rfl rfl (fun w3 bx3 hw hz3 => ?_)
  have hB := hB.carry hw; have bx1 := bx1.carry hw; have bx2 := bx2.carry hw; have hA := hA.carry hw; have hC := hC.carry hw; have hj := hj.carry hw
  refine L.setRow kawake12_ag25 rfl rfl bx3 rfl hlj hj.one (fun wl17 bx3 hw hzl17 => ?_)
  have hsz := hB.size
  have hB := hB.set hw (by omega); have bx1 := bx1.carryR hw (by omega); have bx2 := bx2.carryR hw (by omega); have hA := hA.carryR hw (fun j e => .inr (by have e : j = _ := e; omega)); have hC := hC.carryR hw (fun j e => .inr (by have e : j = _ := e; omega)); have hj := hj.carryR hw (fun j e => .inr (by have e : j = _ := e; omega))
  refine L.val (x_as (v := .bool _) rfl) rfl ?_
  refine L.nil ?_
  refine thn_n ?_
  refine W.seq ?_
  refine W.region ?_
  refine L.val (x_ldn (vs := cs12) kawake12_ag25 rfl hlC (bx2.row hlC)) rfl ?_
  refine L.val (x_ldn (vs := cs10) kawake12_ag25 rfl hlA (bx1.row hlA)) rfl ?_
  refine L.ret (x_call kawake12_en32 rfl) rfl (meet_okJ _ _ (recI [[98], [99]]) (recI [[97], [98]]) _ _ _ hC hA) ?_
  rintro _ w22 ⟨cs22, rfl, hm, hw⟩
  have hB := hB.carry hw; have bx1 := bx1.carry hw; have bx2 := bx2.carry hw; have hA := hA.carry hw; have hC := hC.carry hw; have hj := hj.carry hw; have bx3 := bx3.carry hw
  rw [jCA] at hm ⊢
  have hlm := hm.len
  have hm := hm.up
  have hsz22 := hw.size
  have hx3 := bx3.lt
  have hsq := hB.size
  refine L.val (x_mv (v := _) rfl) rfl ?_
  refine L.val (x_ext (v := _) rfl rfl) rfl ?_
  refine L.val (x_ext (v := .bool _) rfl rfl) rfl ?_
  refine L.alloc (cs := [Value.int .i64 0, S [], S [], Value.slice none 0 0, Value.slice none 0 0]) kawake12_zr25 rfl rfl (fun w5 bx5 hw hz5 => ?_)
  have hB := hB.carry hw; have bx1 := bx1.carry hw; have bx2 := bx2.carry hw; have hA := hA.carry hw; have hC := hC.carry hw; have hj := hj.carry hw; have bx3 := bx3.carry hw; have hm := hm.carry hw
  refine L.setRow kawake12_ag25 rfl rfl bx5 rfl hlm hm.one (fun wl26 bx5 hw hzl26 => ?_)
  have hsz := hB.size
  have hB := hB.set hw (by omega); have bx1 := bx1.carryR hw (by omega); have bx2 := bx2.carryR hw (by omega); have hA := hA.carryR hw (fun j e => .inr (by have e : j = _ := e; omega)); have hC := hC.carryR hw (fun j e => .inr (by have e : j = _ := e; omega)); have hj := hj.carryR hw (fun j e => .inr (by have e : j = _ := e; omega)); have bx3 := bx3.carryR hw (by omega); have hm := hm.carryR hw (fun j e => .inr (by have e : j = _ := e; omega))
  refine L.val (x_as (v := .bool _) rfl) rfl ?_
  refine L.nil ?_
  refine thn_n ?_
  refine W.seq ?_
  refine W.region ?_
  refine L.val (x_build (cells := [.int _ _, S _, S _, .slice _ _ _, .slice _ _ _]) kawake12_si25 rfl rfl) rfl ?_
  refine L.val (x_build (cells := [.int _ _, S _, S _, .slice _ _ _, .slice _ _ _]) kawake12_si25 rfl rfl) rfl ?_
  refine L.ret (x_call kawake12_en30 rfl) rfl (join_ok (fun _ => False) (fun _ => False) (.mk 1 [] [] [] []) (.mk 3 [] [] [] []) _ _ _ (leaf _ _ 1) (leaf _ _ 3)) ?_
  rintro _ w28 ⟨cs28, rfl, h28, hw⟩
  have hB := hB.carry hw; have bx1 := bx1.carry hw; have bx2 := bx2.carry hw; have hA := hA.carry hw; have hC := hC.carry hw; have hj := hj.carry hw; have bx3 := bx3.carry hw; have hm := hm.carry hw; have bx5 := bx5.carry hw
  rw [j13] at h28 ⊢
  have hl28 := h28.len
  have hsz28 := hw.size
  have hx5 := bx5.lt
  have hsr := hB.size
  refine L.val (x_mv (v := _) rfl) rfl ?_
  refine L.val (x_ext (v := _) rfl rfl) rfl ?_
  refine L.val (x_ext (v := .bool _) rfl rfl) rfl ?_
  refine L.alloc (cs := [Value.int .i64 0, S [], S [], Value.slice none 0 0, Value.slice none 0 0]) kawake12_zr25 rfl rfl (fun w7 bx7 hw hz7 => ?_)
  have hB := hB.carry hw; have bx1 := bx1.carry hw; have bx2 := bx2.carry hw; have hA := hA.carry hw; have hC := hC.carry hw; have hj := hj.carry hw; have bx3 := bx3.carry hw; have hm := hm.carry hw; have bx5 := bx5.carry hw; have h28 := h28.carry hw
  refine L.setRow kawake12_ag25 rfl rfl bx7 rfl hl28 h28.one (fun wl35 bx7 hw hzl35 => ?_)
  have hsz := hB.size
  have hB := hB.set hw (by omega); have bx1 := bx1.carryR hw (by omega); have bx2 := bx2.carryR hw (by omega); have hA := hA.carryR hw (fun j e => .inr (by have e : j = _ := e; omega)); have hC := hC.carryR hw (fun j e => .inr (by have e : j = _ := e; omega)); have hj := hj.carryR hw (fun j e => .inr (by have e : j = _ := e; omega)); have bx3 := bx3.carryR hw (by omega); have hm := hm.carryR hw (fun j e => .inr (by have e : j = _ := e; omega)); have bx5 := bx5.carryR hw (by omega); have h28 := h28
  refine L.val (x_as (v := .bool _) rfl) rfl ?_
  refine L.nil ?_
  refine thn_n ?_
  refine W.seq ?_
  refine W.drawF 34 kawake12_mixed (fun wF31 hB0 => ?_)
  refine LAC.takeN (i := 0) rfl (by kernel_rfl) (by kernel_rfl) (by kernel_rfl) (by kernel_rfl) (fun w hw => x_ldn (vs := cs10) kawake12_ag25 rfl hlA (hw.keepRow hlA (bx1.row hlA))) rfl ?_
  refine LAC.step (rs := [1]) (fun _ => hB0) (by kernel_rfl) (by simp) ⟨⟨_, rfl, ?_⟩, trivial⟩
  refine L.bs (sz := 1) (cells := [S [97]]) Tryz.underlying22 kawake12_el9 rfl rfl rfl rfl (fun w32 bx32 hw hz32 => ?_)
  have hB0 := hB0.carry hw
  refine L.nil ?_
  refine thn_n ?_
  refine LAC.step (rs := [2]) (fun _ => hB0) (by kernel_rfl) (by simp) ⟨⟨_, rfl, ?_⟩, trivial⟩
  refine L.ret (x_call kawake12_en66 rfl) rfl (record_ok (fun _ => False) _ [[97]] _ (strs_of_box [[97]] bx32 (fun f => f) (by simp) (by simp)) (by simp)) ?_
  rintro _ w33 ⟨cs33, rfl, h33, hw⟩
  have hB0 := hB0.carry hw; have bx32 := bx32.carry hw
  refine L.nil ?_
  refine thn_n ?_
  refine LAC.step (rs := [3]) (fun _ => hB0) (by kernel_rfl) (by simp) ⟨⟨_, rfl, ?_⟩, trivial⟩
  refine L.ret (x_call kawake12_en27 rfl) rfl (below_ok _ _ (recI [[97], [98]]) (recI [[97]]) _ _ _ (hA.carry hB0) h33) ?_
  rintro _ w34 ⟨rfl, hw⟩
  have hB0 := hB0.carry hw; have bx32 := bx32.carry hw; have h33 := h33.carry hw
  refine L.nil ?_
  refine thn_n ?_
  refine LAC.takeN (i := 4) rfl (by kernel_rfl) (by kernel_rfl) (by kernel_rfl) (by kernel_rfl) (fun w hw => x_mv (v := .bool _) rfl) rfl ?_
  refine LAC.split (dj := 35) (b := _) rfl (fun g35 => ?_) (fun g35 => ?_)
  ·have h35 := g35
   refine LAC.takeG (i := 7) rfl (by kernel_rfl) (by kernel_rfl) (by kernel_rfl) (by kernel_rfl) (dj := 35) (b := _) rfl rfl g35 (fun w hw => x_ldn (vs := cs10) kawake12_ag25 rfl hlA (hw.keepRow hlA (bx1.row hlA))) rfl ?_
   refine LAC.step (rs := [5]) (fun _ => hB0) (by kernel_rfl) (by simp) ⟨⟨_, rfl, ?_⟩, trivial⟩
   refine L.gyes' (dj := 35) (b := _) rfl rfl g35 ?_
   refine L.bs (sz := 1) (cells := [S [97]]) Tryz.underlying22 kawake12_el9 rfl rfl rfl rfl (fun w36 bx36 hw hz36 => ?_)
   have hB0 := hB0.carry hw; have bx32 := bx32.carry hw; have h33 := h33.carry hw
   refine L.nil ?_
   refine thn_n ?_
   refine LAC.step (rs := [6]) (fun _ => hB0) (by kernel_rfl) (by simp) ⟨⟨_, rfl, ?_⟩, trivial⟩
   refine L.gyes' (dj := 35) (b := _) rfl rfl g35 ?_
   refine L.ret (x_call kawake12_en66 rfl) rfl (record_ok (fun _ => False) _ [[97]] _ (strs_of_box [[97]] bx36 (fun f => f) (by simp) (by simp)) (by simp)) ?_
   rintro _ w37 ⟨cs37, rfl, h37, hw⟩
   have hB0 := hB0.carry hw; have bx32 := bx32.carry hw; have h33 := h33.carry hw; have bx36 := bx36.carry hw
   refine L.nil ?_
   refine thn_n ?_
   refine LAC.step (rs := [8]) (fun _ => hB0) (by kernel_rfl) (by simp) ⟨⟨_, rfl, ?_⟩, trivial⟩
   refine L.gyes' (dj := 35) (b := _) rfl rfl g35 ?_
   refine L.ret (x_call kawake12_en27 rfl) rfl (below_ok _ _ (recI [[97]]) (recI [[97], [98]]) _ _ _ h37 (hA.carry hB0)) ?_
   rintro _ w39 ⟨rfl, hw⟩
   have hB0 := hB0.carry hw; have bx32 := bx32.carry hw; have h33 := h33.carry hw; have bx36 := bx36.carry hw; have h37 := h37.carry hw
   refine L.nil ?_
   refine thn_n ?_
   refine LAC.takeG (i := 9) rfl (by kernel_rfl) (by kernel_rfl) (by kernel_rfl) (by kernel_rfl) (dj := 35) (b := _) rfl rfl g35 (fun w hw => x_not rfl) rfl ?_
   refine LAC.takeN (i := 10) rfl (by kernel_rfl) (by kernel_rfl) (by kernel_rfl) (by kernel_rfl) (fun w hw => x_pick_t (v := .bool _) (congrArg Value.bool g35) rfl) rfl ?_
   refine LAC.takeN (i := 11) rfl (by kernel_rfl) (by kernel_rfl) (by kernel_rfl) (by kernel_rfl) (fun w hw => x_mv (v := .bool _) rfl) rfl ?_
   refine LAC.split (dj := 42) (b := _) rfl (fun g42 => ?_) (fun g42 => ?_)
   ·have h42 := (not_t g42)
    refine LAC.takeG (i := 12) rfl (by kernel_rfl) (by kernel_rfl) (by kernel_rfl) (by kernel_rfl) (dj := 42) (b := _) rfl rfl g42 (fun w hw => x_mv (v := .bool _) rfl) rfl ?_
    refine LAC.takeN (i := 13) rfl (by kernel_rfl) (by kernel_rfl) (by kernel_rfl) (by kernel_rfl) (fun w hw => x_pick_t (v := .bool _) (congrArg Value.bool g42) rfl) rfl ?_
    refine LAC.takeN (i := 14) rfl (by kernel_rfl) (by kernel_rfl) (by kernel_rfl) (by kernel_rfl) (fun w hw => x_mv (v := .bool _) rfl) rfl ?_
    refine LAC.split (dj := 45) (b := _) rfl (fun g45 => ?_) (fun g45 => ?_)
    ·have h45 := g45
     refine LAC.takeG (i := 15) rfl (by kernel_rfl) (by kernel_rfl) (by kernel_rfl) (by kernel_rfl) (dj := 45) (b := _) rfl rfl g45 (fun w hw => x_mv (v := .bool _) rfl) rfl ?_
     refine LAC.takeN (i := 16) rfl (by kernel_rfl) (by kernel_rfl) (by kernel_rfl) (by kernel_rfl) (fun w hw => x_pick_t (v := .bool _) (congrArg Value.bool g45) rfl) rfl ?_
     refine LAC.takeN (i := 17) rfl (by kernel_rfl) (by kernel_rfl) (by kernel_rfl) (by kernel_rfl) (fun w hw => x_mv (v := .bool _) rfl) rfl ?_
     refine LAC.split (dj := 48) (b := _) rfl (fun g48 => ?_) (fun g48 => ?_)
     ·have h48 := g48
      refine LAC.takeG (i := 18) rfl (by kernel_rfl) (by kernel_rfl) (by kernel_rfl) (by kernel_rfl) (dj := 48) (b := _) rfl rfl g48 (fun w hw => x_mv (v := .bool _) rfl) rfl ?_
      refine LAC.takeG (i := 19) rfl (by kernel_rfl) (by kernel_rfl) (by kernel_rfl) (by kernel_rfl) (dj := 48) (b := _) rfl rfl g48 (fun w hw => x_not rfl) rfl ?_
      refine LAC.takeN (i := 20) rfl (by kernel_rfl) (by kernel_rfl) (by kernel_rfl) (by kernel_rfl) (fun w hw => x_pick_t (v := .bool _) (congrArg Value.bool g48) rfl) rfl ?_
      refine LAC.takeN (i := 21) rfl (by kernel_rfl) (by kernel_rfl) (by kernel_rfl) (by kernel_rfl) (fun w hw => x_mv (v := .bool _) rfl) rfl ?_
      refine LAC.split (dj := 52) (b := _) rfl (fun g52 => ?_) (fun g52 => ?_)
      ·have h52 := (not_t g52)
       refine LAC.takeG (i := 22) rfl (by kernel_rfl) (by kernel_rfl) (by kernel_rfl) (by kernel_rfl) (dj := 52) (b := _) rfl rfl g52 (fun w hw => x_ldn (vs := cs16) kawake12_ag25 rfl hlj (hw.keepRow hlj (bx3.row hlj))) rfl ?_
       refine LAC.step (rs := [23]) (fun _ => hB0) (by kernel_rfl) (by simp) ⟨⟨_, rfl, ?_⟩, trivial⟩
       refine L.gyes' (dj := 52) (b := _) rfl rfl g52 ?_
       refine L.bs (sz := 1) (cells := [S [98]]) Tryz.underlying22 kawake12_el9 rfl rfl rfl rfl (fun w54 bx54 hw hz54 => ?_)
       have hB0 := hB0.carry hw; have bx32 := bx32.carry hw; have h33 := h33.carry hw; have bx36 := bx36.carry hw; have h37 := h37.carry hw
       refine L.nil ?_
       refine thn_n ?_
       refine LAC.step (rs := [24]) (fun _ => hB0) (by kernel_rfl) (by simp) ⟨⟨_, rfl, ?_⟩, trivial⟩
       refine L.gyes' (dj := 52) (b := _) rfl rfl g52 ?_
       refine L.ret (x_call kawake12_en66 rfl) rfl (record_ok (fun _ => False) _ [[98]] _ (strs_of_box [[98]] bx54 (fun f => f) (by simp) (by simp)) (by simp)) ?_
       rintro _ w55 ⟨cs55, rfl, h55, hw⟩
       have hB0 := hB0.carry hw; have bx32 := bx32.carry hw; have h33 := h33.carry hw; have bx36 := bx36.carry hw; have h37 := h37.carry hw; have bx54 := bx54.carry hw
       refine L.nil ?_
       refine thn_n ?_
       refine LAC.step (rs := [25]) (fun _ => hB0) (by kernel_rfl) (by simp) ⟨⟨_, rfl, ?_⟩, trivial⟩
       refine L.gyes' (dj := 52) (b := _) rfl rfl g52 ?_
       refine L.ret (x_call kawake12_en26 rfl) rfl (equal07 _ (recI [[98]]) (recI [[98]]) (Nat.lt_succ_self _) _ _ _ _ _ (hj.carry hB0) h55) ?_
       rintro _ w56 ⟨rfl, hw⟩
       have hB0 := hB0.carry hw; have bx32 := bx32.carry hw; have h33 := h33.carry hw; have bx36 := bx36.carry hw; have h37 := h37.carry hw; have bx54 := bx54.carry hw; have h55 := h55.carry hw
       refine L.nil ?_
       refine thn_n ?_
       refine LAC.takeN (i := 26) rfl (by kernel_rfl) (by kernel_rfl) (by kernel_rfl) (by kernel_rfl) (fun w hw => x_pick_t (v := .bool _) (congrArg Value.bool g52) rfl) rfl ?_
       refine LAC.takeN (i := 27) rfl (by kernel_rfl) (by kernel_rfl) (by kernel_rfl) (by kernel_rfl) (fun w hw => x_mv (v := .bool _) rfl) rfl ?_
       refine LAC.split (dj := 58) (b := _) rfl (fun g58 => ?_) (fun g58 => ?_)
       ·have h58 := g58
        refine LAC.takeG (i := 28) rfl (by kernel_rfl) (by kernel_rfl) (by kernel_rfl) (by kernel_rfl) (dj := 58) (b := _) rfl rfl g58 (fun w hw => x_ldn (vs := cs22) kawake12_ag25 rfl hlm (hw.keepRow hlm (bx5.row hlm))) rfl ?_
        refine LAC.step (rs := [29]) (fun _ => hB0) (by kernel_rfl) (by simp) ⟨⟨_, rfl, ?_⟩, trivial⟩
        refine L.gyes' (dj := 58) (b := _) rfl rfl g58 ?_
        refine L.bs (sz := 1) (cells := [S [97], S [98], S [99]]) Tryz.underlying22 kawake12_el9 rfl rfl rfl rfl (fun w60 bx60 hw hz60 => ?_)
        have hB0 := hB0.carry hw; have bx32 := bx32.carry hw; have h33 := h33.carry hw; have bx36 := bx36.carry hw; have h37 := h37.carry hw; have bx54 := bx54.carry hw; have h55 := h55.carry hw
        refine L.nil ?_
        refine thn_n ?_
        refine LAC.step (rs := [30]) (fun _ => hB0) (by kernel_rfl) (by simp) ⟨⟨_, rfl, ?_⟩, trivial⟩
        refine L.gyes' (dj := 58) (b := _) rfl rfl g58 ?_
        refine L.ret (x_call kawake12_en66 rfl) rfl (record_ok (fun _ => False) _ [[97], [98], [99]] _ (strs_of_box [[97], [98], [99]] bx60 (fun f => f) (by simp) (by simp)) (by simp)) ?_
        rintro _ w61 ⟨cs61, rfl, h61, hw⟩
        have hB0 := hB0.carry hw; have bx32 := bx32.carry hw; have h33 := h33.carry hw; have bx36 := bx36.carry hw; have h37 := h37.carry hw; have bx54 := bx54.carry hw; have h55 := h55.carry hw; have bx60 := bx60.carry hw
        refine L.nil ?_
        refine thn_n ?_
        refine LAC.step (rs := [31]) (fun _ => hB0) (by kernel_rfl) (by simp) ⟨⟨_, rfl, ?_⟩, trivial⟩
        refine L.gyes' (dj := 58) (b := _) rfl rfl g58 ?_
        refine L.ret (x_call kawake12_en26 rfl) rfl (equal07 _ (recI [[97], [98], [99]]) (recI [[97], [98], [99]]) (Nat.lt_succ_self _) _ _ _ _ _ (hm.carry hB0) h61) ?_
        rintro _ w62 ⟨rfl, hw⟩
        have hB0 := hB0.carry hw; have bx32 := bx32.carry hw; have h33 := h33.carry hw; have bx36 := bx36.carry hw; have h37 := h37.carry hw; have bx54 := bx54.carry hw; have h55 := h55.carry hw; have bx60 := bx60.carry hw; have h61 := h61.carry hw
        refine L.nil ?_
        refine thn_n ?_
        refine LAC.takeN (i := 32) rfl (by kernel_rfl) (by kernel_rfl) (by kernel_rfl) (by kernel_rfl) (fun w hw => x_pick_t (v := .bool _) (congrArg Value.bool g58) rfl) rfl ?_
        refine LAC.takeN (i := 33) rfl (by kernel_rfl) (by kernel_rfl) (by kernel_rfl) (by kernel_rfl) (fun w hw => x_as (v := .bool _) rfl) rfl ?_
        refine LAC.doneF (by kernel_rfl) hB0 ?_
        have hB := hB.carry hB0; have bx1 := bx1.carry hB0; have bx2 := bx2.carry hB0; have bx3 := bx3.carry hB0; have bx5 := bx5.carry hB0; have hA := hA.carry hB0; have hC := hC.carry hB0; have hj := hj.carry hB0; have hm := hm.carry hB0
        refine thn_n ?_
        refine W.ret (fin_mk (.inr rfl) ?_)
        exact ⟨vb (eqS_t rfl), hB⟩
       ·have h58 := g58
        rw [eqS_t rfl] at g58; cases g58
      ·have h52 := (not_f g52)
       simp at g52
     ·have h48 := g48
      simp at g48
    ·have h45 := g45
     simp at g45
   ·have h42 := (not_f g42)
    rw [bA'] at g42; cases g42
  ·have h35 := g35
   rw [bA] at g35; cases g35
end Go.Gx
