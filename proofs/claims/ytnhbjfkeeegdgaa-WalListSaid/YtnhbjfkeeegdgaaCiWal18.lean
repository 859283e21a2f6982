/- The bodies behind an act. Conditions: none. -/
import Derived.Test.YtnhbjfkeeegdgaaCiWalA
namespace Go.Gx
open Go.Proofs
theorem kwal18_el9 : elT Try.prog 9 1 = true := by kernel_rfl
theorem kwal18_fo76_0 : fieldOff Try.prog 76 0 = some 0 := by kernel_rfl
theorem kwal18_fo76_1 : fieldOff Try.prog 76 1 = some 1 := by kernel_rfl
theorem kwal18_mixed : Try.prog.follows .mixedOrders = true := by kernel_rfl
theorem kwal18_oc3 : oneCellT Try.prog 3 = true := by kernel_rfl
theorem kwal18_oc37 : oneCellT Try.prog 37 = true := by kernel_rfl
theorem strs_own {n0 base : Nat} {w : World} {v : Value} {l : List Str} (h : Own w base 9 1 v l.length (l.map S)) (hl : l.length ≤ 70368744177664) (hx : ∀ x ∈ l, x.length ≤ 9223372036854775807) : StrsAt (DkB lgTy n0 w) w v l := by
  have hn := DkB.no_own (ty := lgTy) (n0 := n0) h (by kernel_rfl)
  rcases h.open with ⟨rfl, hk, -⟩ | ⟨b, cap, tl, rfl, hbb, hcap, hcm, hbx⟩
  · have hn : l = [] := List.eq_nil_of_length_eq_zero hk
    subst hn
    exact StrsAt.nil _ _ _ _ (by simp)
  · refine ⟨_, cap, rfl, hcap, hcm, hl, hx, fun _ => ⟨b, 0, rfl, hn b rfl, fun i hi => hbx.cell0 ?_⟩⟩
    rw [List.getElem?_append_left (by simpa using hi)]
    simp [hi]
theorem ones_S (l : List Str) : ∀ u ∈ l.map S, u.oneCell' = true := fun u hu => by obtain ⟨s, -, rfl⟩ := List.mem_map.1 hu; rfl
theorem goes21 (n0 : Nat) (A : Nat → Prop) (v : Value) (all : List Str) (cs : List Value) (a : Wc) (w : World) (hv : StrsAt (DkB lgTy n0 w) w v all) (hs : WcC A w cs a) (hlen : all.length + a.bods.length ≤ 1000000) :
    Ret Try.prog 35 #[v, .agg cs.toArray] w fun r w' => StrsAt (DkB lgTy n0 w') w' r (goesA all a) ∧ Bel w w' := by
  obtain ⟨vb, vk, rfl, hb, hk, hbig⟩ := hs
  obtain ⟨pv, cv, rfl, -⟩ := id hv
  obtain ⟨pb, cb, rfl, -⟩ := id hb
  obtain ⟨pk, ck, rfl, -⟩ := id hk
  have hxa := hv.short
  have hxb := hb.short
  refine ret_of_W Try.func35 rfl (Nat.le_of_ble_eq_true rfl) (res1 rfl) ?_
  have hB := Gr.refl (fun _ => False) w
  refine W.seq ?_
  refine W.region ?_
  refine L.box (cs := wcV a (.slice pb a.bods.length cb) (.slice pk a.keep.length ck)) rfl rfl (fun w3 bx3 hw hz3 => ?_)
  have hB := hB.carry hw; have hb := hb.carry hw
  refine L.val (x_as (v := .slice _ _ _) rfl) rfl ?_
  refine L.nil ?_
  refine thn_n ?_
  refine W.seq ?_
  refine W.seq ?_
  refine W.region ?_
  refine L.val (x_fa kwal18_fo76_0 rfl) rfl ?_
  refine L.val (x_ld (v := .int _ _) kwal18_oc3 rfl (bx3.cell0 rfl)) rfl ?_
  refine L.nil ?_
  refine thn_n ?_
  refine W.block ?_
  refine W.seq ?_
  refine W.region ?_
  refine L.val (x_eql rfl rfl) rfl ?_
  refine L.val (x_as (v := .bool _) rfl) rfl ?_
  refine L.nil ?_
  refine thn_n ?_
  refine W.cond (b := _) rfl (fun g8 => ?_) (fun g8 => ?_)
  ·have h8 := of_decide_eq_true g8
   have hd : goesA all a = all ++ a.bods := by unfold goesA; rw [if_pos h8]
   refine W.seq ?_
   refine W.drawF 7 kwal18_mixed (fun wF9 hB0 => ?_)
   refine LAC.takeN (i := 1) rfl (by kernel_rfl) (by kernel_rfl) (by kernel_rfl) (by kernel_rfl) (fun w hw => x_mv (v := .slice _ _ _) rfl) rfl ?_
   refine LAC.takeN (i := 3) rfl (by kernel_rfl) (by kernel_rfl) (by kernel_rfl) (by kernel_rfl) (fun w hw => x_fa kwal18_fo76_1 rfl) rfl ?_
   refine LAC.takeN (i := 4) rfl (by kernel_rfl) (by kernel_rfl) (by kernel_rfl) (by kernel_rfl) (fun w hw => x_ld (v := .slice _ _ _) kwal18_oc37 rfl (hw.keep (bx3.cell0 rfl))) rfl ?_
   refine LAC.step (rs := [0]) (fun _ => hB0) (by kernel_rfl) (by simp) ⟨⟨_, rfl, ?_⟩, trivial⟩
   refine L.bs0 Try.underlying37 kwal18_el9 rfl (fun w9 bx9 hw hz9 => ?_)
   have hs9 := hB0.size
   have hB0 := hB0.carry hw
   refine L.nil ?_
   refine thn_n ?_
   refine LAC.step (rs := [2]) (fun _ => hB0) (by kernel_rfl) (by simp) ⟨⟨_, rfl, ?_⟩, trivial⟩
   refine L.appendN (m := all.length) Try.underlying37 kwal18_el9 rfl rfl rfl bx9 (by rw [List.length_map, Nat.mul_one]) ((hv.carry hB).carry hB0).holds (ones_S all) (by omega) (by omega) (fun v11 w11 hO11 hg hob11 => ?_)
   have hB0 := hB0.step hg (fun i hi e => by have e : i = wF9.heap.size := Option.some.inj e; omega)
   refine L.nil ?_
   refine thn_n ?_
   refine LAC.step (rs := [5]) (fun _ => hB0) (by kernel_rfl) (by simp) ⟨⟨_, rfl, ?_⟩, trivial⟩
   refine L.appendN (m := a.bods.length) Try.underlying37 kwal18_el9 rfl rfl rfl hO11 (by rw [List.length_map, Nat.mul_one]) (hb.carry hB0).holds (ones_S a.bods) (by omega) (by have := hg.size; omega) (fun v14 w14 hO14 hg hob14 => ?_)
   have hB0 := hB0.step hg (fun i hi e => by have := (Own.lt hO11 e).1; omega)
   obtain ⟨a14, c14, e14, -⟩ := own_shape hO14
   subst e14
   have eL : 0 + all.length + a.bods.length = (all ++ a.bods).length := by simp
   rw [eL] at hO14 ⊢
   have hO : Own w14 wF9.heap.size 9 1 (.slice a14 (all ++ a.bods).length c14) (all ++ a.bods).length ((all ++ a.bods).map S) := by simpa using hO14
   refine L.nil ?_
   refine thn_n ?_
   refine LAC.takeN (i := 6) rfl (by kernel_rfl) (by kernel_rfl) (by kernel_rfl) (by kernel_rfl) (fun w hw => x_as (v := .slice _ _ _) rfl) rfl ?_
   refine LAC.doneF (by kernel_rfl) hB0 ?_
   have hB := hB.carry hB0; have hb := hb.carry hB0; have bx3 := bx3.carry hB0
   refine thn_n ?_
   refine W.ret (blk_r (thn_r (fin_mk (.inr rfl) ?_)))
   rw [hd]
   refine ⟨strs_own hO (by rw [List.length_append]; omega) (fun x hx => (List.mem_append.1 hx).elim (hxa x) (hxb x)), hB⟩
  ·have h8 := of_decide_eq_false g8
   refine W.seq ?_
   refine W.region ?_
   refine L.val (x_eql rfl rfl) rfl ?_
   refine L.val (x_as (v := .bool _) rfl) rfl ?_
   refine L.nil ?_
   refine thn_n ?_
   refine W.cond (b := _) rfl (fun g16 => ?_) (fun g16 => ?_)
   ·have h16 := of_decide_eq_true g16
    have hd : goesA all a = a.bods := by unfold goesA; rw [if_neg h8, if_pos h16]
    refine W.seq ?_
    refine W.region ?_
    refine L.bs0 Try.underlying37 kwal18_el9 rfl (fun w17 bx17 hw hz17 => ?_)
    have hB := hB.carry hw; have hb := hb.carry hw; have bx3 := bx3.carry hw
    refine L.val (x_fa kwal18_fo76_1 rfl) rfl ?_
    refine L.val (x_ld (v := .slice _ _ _) kwal18_oc37 rfl (bx3.cell0 rfl)) rfl ?_
    refine L.appendN (m := a.bods.length) Try.underlying37 kwal18_el9 rfl rfl rfl bx17 (by rw [List.length_map, Nat.mul_one]) hb.holds (ones_S a.bods) (by omega) (by omega) (fun v20 w20 hO20 hg hob20 => ?_)
    have hsb := hB.size
    obtain ⟨a20, c20, e20, -⟩ := own_shape hO20
    subst e20
    rw [show 0 + a.bods.length = a.bods.length from Nat.zero_add _] at hO20 ⊢
    refine L.val (x_as (v := .slice _ _ _) rfl) rfl ?_
    refine L.nil ?_
    refine thn_n ?_
    refine W.ret (blk_r (thn_r (fin_mk (.inr rfl) ?_)))
    rw [hd]
    exact ⟨strs_own (base := w3.heap.size) (v := .slice a20 a.bods.length c20) (by simpa only [List.nil_append] using hO20) (by omega) hxb, hB.step hg (fun i hi e => by have e : i = w3.heap.size := Option.some.inj e; omega)⟩
   ·have h16 := of_decide_eq_false g16
    refine W.skip ?_
    refine blk_n ?_
    refine thn_n ?_
    refine W.seq ?_
    refine W.region ?_
    refine L.val (x_mv (v := .slice _ _ _) rfl) rfl ?_
    refine L.val (x_as (v := .slice _ _ _) rfl) rfl ?_
    refine L.nil ?_
    refine thn_n ?_
    refine W.ret (fin_mk (.inr rfl) ?_)
    have hd : goesA all a = all := by unfold goesA; rw [if_neg h8, if_neg h16]
    rw [hd]
    exact ⟨hv.dg (Dg.of_bel hB), hB⟩
end Go.Gx
namespace Go.Gx
open Go.Proofs
theorem costW_len (l : List Wc) : 100 * l.length ≤ costW l := by
  unfold costW
  induction l with
  | nil => simp
  | cons a l ih => simp only [List.map_cons, List.sum_cons, List.length_cons]; omega
end Go.Gx
