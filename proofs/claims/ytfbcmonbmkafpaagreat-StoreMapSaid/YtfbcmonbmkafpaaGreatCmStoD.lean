/- A transaction read; edits done. Conditions: none. -/
import Derived.Test.YtfbcmonbmkafpaaGreatCmStoC
namespace Go.Gx
open Go.Proofs Go.Sort
theorem kstod_ag95 : aggT Tryz.prog 95 3 = true := by kernel_rfl
theorem kstod_el95 : elT Tryz.prog 95 3 = true := by kernel_rfl
theorem kstod_en41 : Go.Proofs.Enters Tryz.prog 41 := Go.Proofs.enters_of Tryz.func41 (by kernel_rfl) rfl
theorem kstod_en94 : Go.Proofs.Enters Tryz.prog 94 := Go.Proofs.enters_of Tryz.func94 (by kernel_rfl) rfl
theorem kstod_fo26_0 : fieldOff Tryz.prog 26 0 = some 0 := by kernel_rfl
theorem kstod_fo95_0 : fieldOff Tryz.prog 95 0 = some 0 := by kernel_rfl
theorem kstod_fo95_1 : fieldOff Tryz.prog 95 1 = some 1 := by kernel_rfl
theorem kstod_fo95_2 : fieldOff Tryz.prog 95 2 = some 2 := by kernel_rfl
theorem kstod_mixed : Tryz.prog.follows .mixedOrders = true := by kernel_rfl
theorem kstod_oc24 : oneCellT Tryz.prog 24 = true := by kernel_rfl
theorem kstod_oc4 : oneCellT Tryz.prog 4 = true := by kernel_rfl
theorem kstod_oc9 : oneCellT Tryz.prog 9 = true := by kernel_rfl
theorem kstod_si95 : structInfo Tryz.prog 95 = some ([(0, 1), (1, 1), (2, 1)], [S [], S [], Value.bool false]) := by kernel_rfl
theorem kstod_sz24 : (Tryz.prog.info? 24).map (·.size) = some 1 := by kernel_rfl
theorem kstod_sz9 : (Tryz.prog.info? 9).map (·.size) = some 1 := by kernel_rfl
theorem kstod_sz95 : (Tryz.prog.info? 95).map (·.size) = some 3 := by kernel_rfl
theorem kstod_zr95 : (Tryz.prog.info? 95).bind (·.zero) = some (Value.agg [S [], S [], Value.bool false].toArray) := by kernel_rfl
theorem eds_take {l : List Ed} {k : Nat} (h : k < l.length) : ((l.take (k + 1)).map edV).flatten = ((l.take k).map edV).flatten ++ edV (l.getD k default) := by
  rw [take_snoc (d := default) h, List.map_append, List.flatten_append]; simp
theorem bodyL_at {l : List Ed} {k : Nat} (h : k < l.length) : (bodyL l).getD (3 * k) [] = (l.getD k default).key ∧ (bodyL l).getD (3 * k + 1) [] = (if (l.getD k default).gone then [71] else [86]) ∧ (bodyL l).getD (3 * k + 2) [] = (l.getD k default).val := by
  have e : bodyL l = bodyL (l.take k) ++ ([(l.getD k default).key, if (l.getD k default).gone then [71] else [86], (l.getD k default).val] ++ bodyL (l.drop (k + 1))) := by
    have h1 : bodyL l = bodyL (l.take (k + 1)) ++ bodyL (l.drop (k + 1)) := by
      unfold bodyL
      rw [← List.flatten_append, ← List.map_append, List.take_append_drop]
    rw [h1, bodyL_take h, List.append_assoc]
  have hl : (bodyL (l.take k)).length = 3 * k := by rw [bodyL_len, List.length_take, Nat.min_eq_left (by omega)]
  rw [e]
  refine ⟨?_, ?_, ?_⟩
  · rw [List.getD_eq_getElem?_getD, List.getElem?_append_right (by omega), hl, Nat.sub_self]; rfl
  · rw [List.getD_eq_getElem?_getD, List.getElem?_append_right (by omega), hl, show 3 * k + 1 - 3 * k = 1 by omega]; rfl
  · rw [List.getD_eq_getElem?_getD, List.getElem?_append_right (by omega), hl, show 3 * k + 2 - 3 * k = 2 by omega]; rfl
theorem may_ok_eds {l : List Ed} (h : mayL l = true) : ∀ e ∈ l, EdOk e := fun e he => by
  unfold mayL at h
  have := mayE_len (List.all_eq_true.1 h e he)
  exact ⟨by omega, by omega⟩
theorem edits_ok (l : List Ed) (hm : mayL l = true) (hb : (bodyB l).length ≤ 20000) (w : World) : Ret Tryz.prog 49 #[S (bodyB l)] w fun r w' => (∃ u, r = .tuple #[u, .bool true] ∧ EdsAt (fun k => k < w.heap.size) w' u l) ∧ Bel w w' := by
  have hbl := bodyL_len l
  have h1 : ((bodyL l).map textB).flatten.length ≤ 20000 := by
    have : (bodyB l).length = (numB (bodyL l).length).length + ((bodyL l).map textB).flatten.length := by unfold bodyB listB; rw [List.length_append]
    omega
  have hll := texts_len (bodyL l)
  have hT := takeList_ok (bodyL l) (by omega) (fun s hs => Nat.le_trans (texts_mem hs) h1) (by show (bodyB l).length ≤ _; omega) w
  refine ret_of_W Tryz.func49 rfl (Nat.le_of_ble_eq_true rfl) (res2 rfl) ?_
  have hB := Gr.refl (fun _ => False) w
  refine W.seq ?_
  refine W.region ?_
  refine L.val (x_as (v := .slice _ _ _) rfl) rfl ?_
  refine L.val (x_as (v := .bool _) rfl) rfl ?_
  refine L.nil ?_
  refine thn_n ?_
  refine W.seq ?_
  refine W.region ?_
  refine L.val (x_mv (v := S _) rfl) rfl ?_
  refine L.ret (x_call kstod_en94 rfl) rfl (hT) ?_
  rintro _ w11 ⟨⟨u, rfl, hu⟩, hw⟩
  have hB := hB.carry hw
  obtain ⟨pu, cu, rfl, -⟩ := id hu
  have hu := hu.new
  have hsz11 := hw.size
  refine L.val (x_mv (v := _) rfl) rfl ?_
  refine L.val (x_ext (v := .slice _ _ _) rfl rfl) rfl ?_
  refine L.val (x_ext (v := .int _ _) rfl rfl) rfl ?_
  refine L.val (x_ext (v := .int _ _) rfl rfl) rfl ?_
  refine L.val (x_as (v := .slice _ _ _) rfl) rfl ?_
  refine L.val (x_as (v := .int _ _) rfl) rfl ?_
  refine L.val (x_as (v := .int _ _) rfl) rfl ?_
  refine L.nil ?_
  refine thn_n ?_
  refine W.seq ?_
  refine W.seq ?_
  refine W.region ?_
  refine L.val (x_mv (v := .int _ _) rfl) rfl ?_
  refine L.val (x_neq rfl rfl) rfl ?_
  refine L.val (x_mv (v := .bool _) rfl) rfl ?_
  refine L.splitat (dj := 17) (b := _) rfl (fun g17 => ?_) (fun g17 => ?_)
  ·have h17 := dne_t g17
   cases g17
  ·have h17 := dne_f g17
   refine L.gyes' (dj := 17) (b := _) rfl rfl g17 ?_
   refine L.val (x_mv (v := .int _ _) rfl) rfl ?_
   refine L.gyes' (dj := 17) (b := _) rfl rfl g17 ?_
   refine L.val (x_mv (v := S _) rfl) rfl ?_
   refine L.gyes' (dj := 17) (b := _) rfl rfl g17 ?_
   refine L.val (x_len_str Tryz.underlying9 rfl) rfl ?_
   refine L.gyes' (dj := 17) (b := _) rfl rfl g17 ?_
   refine L.val (x_neq rfl rfl) rfl ?_
   refine L.val (x_pick_f (v := .bool _) (congrArg Value.bool g17) rfl) rfl ?_
   refine L.val (x_mv (v := .bool _) rfl) rfl ?_
   refine L.splitat (dj := 23) (b := _) rfl (fun g23 => ?_) (fun g23 => ?_)
   ·have h23 := dne_t g23
    simp [bodyB] at g23
   ·have h23 := dne_f g23
    refine L.gyes' (dj := 23) (b := _) rfl rfl g23 ?_
    refine L.val (x_mv (v := .slice _ _ _) rfl) rfl ?_
    refine L.gyes' (dj := 23) (b := _) rfl rfl g23 ?_
    refine L.val (x_len_slice Tryz.underlying33 rfl) rfl ?_
    refine L.gyes' (dj := 23) (b := _) rfl rfl g23 ?_
    refine L.val (x_tmod (c := 0) rfl rfl (by decide) (by rw [hbl, Int.tmod_eq_emod_of_nonneg (by omega)]; omega)) rfl ?_
    refine L.gyes' (dj := 23) (b := _) rfl rfl g23 ?_
    refine L.val (x_neq rfl rfl) rfl ?_
    refine L.val (x_pick_f (v := .bool _) (congrArg Value.bool g23) rfl) rfl ?_
    refine L.nil ?_
    refine thn_n ?_
    refine W.cond (b := _) rfl (fun g27 => ?_) (fun g27 => ?_)
    ·have h27 := dne_t g27
     cases g27
    ·have h27 := dne_f g27
     refine W.skip ?_
     refine thn_n ?_
     refine W.seq ?_
     refine W.region ?_
     refine L.val (x_as (v := .slice _ _ _) rfl) rfl ?_
     refine L.nil ?_
     refine thn_n ?_
     refine W.seq ?_
     refine W.seq ?_
     refine W.region ?_
     refine L.val (x_as (v := .int _ _) rfl) rfl ?_
     refine L.nil ?_
     refine thn_n ?_
     refine W.block ?_
     refine W.loop (fun m' E w' => ∃ (i : Nat) (vo : Value), m' = l.length - i ∧ E 4 = .slice pu (bodyL l).length cu ∧ E 7 = vo ∧ E 8 = .int .i64 ((3 * i : Nat) : Int) ∧ (i ≤ l.length) ∧ (Bel w w') ∧ (StrsAt (fun k => w11.heap.size ≤ k) w' (.slice pu (bodyL l).length cu) (bodyL l)) ∧ (Own w' w11.heap.size 95 3 vo i ((l.take i).map edV).flatten) ∧ (w11.heap.size ≤ w'.heap.size)) (l.length) ?_ ?_
     ·exact ⟨0, .slice none 0 0, by omega, by first | rfl | exact vi (by omega) | exact vs (by first | assumption | (rw [hst]; done) | (rw [hst]; simp only [List.append_assoc])), by first | rfl | exact vi (by omega) | exact vs (by first | assumption | (rw [hst]; done) | (rw [hst]; simp only [List.append_assoc])), by first | rfl | exact vi (by omega) | exact vs (by first | assumption | (rw [hst]; done) | (rw [hst]; simp only [List.append_assoc])), (by first | assumption | omega | rfl), (by first | assumption | omega | rfl), (by first | assumption | omega | rfl), (by exact own_nil), (by first | assumption | omega | rfl)⟩
     ·rintro _ E wL29 ⟨i, vo, em, e4, e7, e8, hi, hB, hu, hO, hz⟩
      rw [upd_self e4, upd_self e7, upd_self e8]
      refine W.seq ?_
      refine W.seq ?_
      refine W.region ?_
      refine L.val (x_mv (v := .int _ _) rfl) rfl ?_
      refine L.val (x_mv (v := .slice _ _ _) rfl) rfl ?_
      refine L.val (x_len_slice Tryz.underlying33 rfl) rfl ?_
      refine L.val (x_lss rfl rfl) rfl ?_
      refine L.nil ?_
      refine thn_n ?_
      refine W.cond (b := _) rfl (fun g32 => ?_) (fun g32 => ?_)
      ·have h32 := of_decide_eq_true g32
       have hlt : i < l.length := by omega
       obtain ⟨bu, ou, rfl, hc0⟩ := hu.elem (i := 3 * i) (by omega)
       have hc1 := hu.elemAt (i := 3 * i + 1) (by omega)
       have hc2 := hu.elemAt (i := 3 * i + 2) (by omega)
       obtain ⟨b0, b1, b2⟩ := bodyL_at hlt
       rw [b0] at hc0
       rw [b1] at hc1
       rw [b2] at hc2
       obtain ⟨av, cv, ev, -⟩ := own_shape hO
       subst ev
       have hst := eds_take hlt
       have hbu : bu < w11.heap.size := by
         obtain ⟨p', c', e', -, -, -, -, h5⟩ := id hu
         cases e'
         obtain ⟨b', o', e3, hnA, -⟩ := h5 (fun e => by rw [e] at hbl; simp at hbl; omega)
         cases e3
         omega
       have hq : ∀ j, some j = (Value.slice av i cv).ownBlock → w11.heap.size ≤ j ∧ j < wL29.heap.size := fun j hj => Own.lt hO hj
       refine W.skip ?_
       refine thn_n ?_
       refine W.seq ?_
       refine W.block ?_
       refine W.seq ?_
       refine W.seq ?_
       refine W.region ?_
       refine L.val (x_mv (v := .slice _ _ _) rfl) rfl ?_
       refine L.val (x_mv (v := .int _ _) rfl) rfl ?_
       refine L.val (x_add rfl rfl (wr64 (by omega))) rfl ?_
       refine L.val (x_ia1 (j := 3 * i + 1) Tryz.underlying33 kstod_sz9 rfl rfl (by omega) (by omega)) rfl ?_
       refine L.val (x_ld (v := S _) kstod_oc9 rfl hc1) rfl ?_
       refine L.val (x_nes rfl rfl) rfl ?_
       refine L.val (x_mv (v := .bool _) rfl) rfl ?_
       refine L.splitat (dj := 41) (b := _) rfl (fun g41 => ?_) (fun g41 => ?_)
       ·have h41 := sne_t g41
        refine L.gyes' (dj := 41) (b := _) rfl rfl g41 ?_
        refine L.val (x_mv (v := .slice _ _ _) rfl) rfl ?_
        refine L.gyes' (dj := 41) (b := _) rfl rfl g41 ?_
        refine L.val (x_mv (v := .int _ _) rfl) rfl ?_
        refine L.gyes' (dj := 41) (b := _) rfl rfl g41 ?_
        refine L.val (x_add rfl rfl (wr64 (by omega))) rfl ?_
        refine L.gyes' (dj := 41) (b := _) rfl rfl g41 ?_
        refine L.val (x_ia1 (j := 3 * i + 1) Tryz.underlying33 kstod_sz9 rfl rfl (by omega) (by omega)) rfl ?_
        refine L.gyes' (dj := 41) (b := _) rfl rfl g41 ?_
        refine L.val (x_ld (v := S _) kstod_oc9 rfl hc1) rfl ?_
        refine L.gyes' (dj := 41) (b := _) rfl rfl g41 ?_
        refine L.val (x_nes rfl rfl) rfl ?_
        refine L.val (x_pick_t (v := .bool _) (congrArg Value.bool g41) rfl) rfl ?_
        refine L.nil ?_
        refine thn_n ?_
        refine W.cond (b := _) rfl (fun g47 => ?_) (fun g47 => ?_)
        ·have h47 := sne_t g47
         cases hg : (l.getD i default).gone <;> rw [hg] at g41 g47 <;> simp at g41 g47
        ·have h47 := sne_f g47
         refine W.skip ?_
         refine thn_n ?_
         refine W.drawD (fun j => some j = (Value.slice av i cv).ownBlock) (fun j => some j = (Value.slice av i cv).ownBlock) 18 kstod_mixed (fun wD49 hw => ?_)
         have hB := hB.carry hw; have hu := hu.carry hw; have hO := hO.carry hw
         have hB0 := Gr.refl (fun j => some j = (Value.slice av i cv).ownBlock) wD49; have hR0 := Gr.refl (fun j => some j = (Value.slice av i cv).ownBlock) wD49
         have hc0 := hw.keep hc0; have hc1 := hw.keep hc1; have hc2 := hw.keep hc2; have hwD := hw.size
         refine LAD.take0 (i := 0) rfl (by kernel_rfl) (by kernel_rfl) (by kernel_rfl) (by kernel_rfl) (fun w hw => x_mv (v := .slice _ _ _) rfl) rfl ?_
         refine LAD.take0 (i := 1) rfl (by kernel_rfl) (by kernel_rfl) (by kernel_rfl) (by kernel_rfl) (fun w hw => x_mv (v := .slice _ _ _) rfl) rfl ?_
         refine LAD.take0 (i := 2) rfl (by kernel_rfl) (by kernel_rfl) (by kernel_rfl) (by kernel_rfl) (fun w hw => x_mv (v := .int _ _) rfl) rfl ?_
         refine LAD.take0 (i := 3) rfl (by kernel_rfl) (by kernel_rfl) (by kernel_rfl) (by kernel_rfl) (fun w hw => x_ia1 (j := 3 * i) Tryz.underlying33 kstod_sz9 rfl rfl (by omega) (by omega)) rfl ?_
         refine LAD.take0 (i := 4) rfl (by kernel_rfl) (by kernel_rfl) (by kernel_rfl) (by kernel_rfl) (fun w hw => x_ld (v := S _) kstod_oc9 rfl (hw.keepR (fun e => by have := hq _ e; (try dsimp only at this); omega) hc0)) rfl ?_
         refine LAD.take0 (i := 5) rfl (by kernel_rfl) (by kernel_rfl) (by kernel_rfl) (by kernel_rfl) (fun w hw => x_mv (v := .slice _ _ _) rfl) rfl ?_
         refine LAD.take0 (i := 6) rfl (by kernel_rfl) (by kernel_rfl) (by kernel_rfl) (by kernel_rfl) (fun w hw => x_mv (v := .int _ _) rfl) rfl ?_
         refine LAD.take0 (i := 7) rfl (by kernel_rfl) (by kernel_rfl) (by kernel_rfl) (by kernel_rfl) (fun w hw => x_add rfl rfl (wr64 (by omega))) rfl ?_
         refine LAD.take0 (i := 8) rfl (by kernel_rfl) (by kernel_rfl) (by kernel_rfl) (by kernel_rfl) (fun w hw => x_ia1 (j := 3 * i + 2) Tryz.underlying33 kstod_sz9 rfl rfl (by omega) (by omega)) rfl ?_
         refine LAD.take0 (i := 9) rfl (by kernel_rfl) (by kernel_rfl) (by kernel_rfl) (by kernel_rfl) (fun w hw => x_ld (v := S _) kstod_oc9 rfl (hw.keepR (fun e => by have := hq _ e; (try dsimp only at this); omega) hc2)) rfl ?_
         refine LAD.take0 (i := 10) rfl (by kernel_rfl) (by kernel_rfl) (by kernel_rfl) (by kernel_rfl) (fun w hw => x_mv (v := .slice _ _ _) rfl) rfl ?_
         refine LAD.take0 (i := 11) rfl (by kernel_rfl) (by kernel_rfl) (by kernel_rfl) (by kernel_rfl) (fun w hw => x_mv (v := .int _ _) rfl) rfl ?_
         refine LAD.take0 (i := 12) rfl (by kernel_rfl) (by kernel_rfl) (by kernel_rfl) (by kernel_rfl) (fun w hw => x_add rfl rfl (wr64 (by omega))) rfl ?_
         refine LAD.take0 (i := 13) rfl (by kernel_rfl) (by kernel_rfl) (by kernel_rfl) (by kernel_rfl) (fun w hw => x_ia1 (j := 3 * i + 1) Tryz.underlying33 kstod_sz9 rfl rfl (by omega) (by omega)) rfl ?_
         refine LAD.take0 (i := 14) rfl (by kernel_rfl) (by kernel_rfl) (by kernel_rfl) (by kernel_rfl) (fun w hw => x_ld (v := S _) kstod_oc9 rfl (hw.keepR (fun e => by have := hq _ e; (try dsimp only at this); omega) hc1)) rfl ?_
         refine LAD.take0 (i := 15) rfl (by kernel_rfl) (by kernel_rfl) (by kernel_rfl) (by kernel_rfl) (fun w hw => x_eqs rfl rfl) rfl ?_
         refine LAD.take0 (i := 16) rfl (by kernel_rfl) (by kernel_rfl) (by kernel_rfl) (by kernel_rfl) (fun w hw => x_build (cells := [S _, S _, .bool _]) kstod_si95 rfl rfl) rfl ?_
         refine LAD.step (rs := [17]) hR0 (fun _ => hB0) (by kernel_rfl) (by simp) ⟨⟨_, rfl, ?_⟩, trivial⟩
         refine L.bs (sz := 3) (cells := [S (l.getD i default).key, S (l.getD i default).val, .bool ((if (l.getD i default).gone then ([71] : Str) else [86]) == [71])]) Tryz.underlying22 kstod_el95 rfl rfl rfl rfl (fun w66 bx66 hw hz66 => ?_)
         have hB0 := hB0.carry hw; have hR0 := hR0.carry hw; have hO := hO.carry hw
         have e66 : [S (l.getD i default).key, S (l.getD i default).val, .bool ((if (l.getD i default).gone then ([71] : Str) else [86]) == [71])] = edV (l.getD i default) := by
           unfold edV; cases (l.getD i default).gone <;> rfl
         rw [e66] at bx66
         refine L.nil ?_
         refine thn_n ?_
         refine LAD.step (rs := [18]) hR0 (fun _ => hB0) (by kernel_rfl) (by simp) ⟨⟨_, rfl, ?_⟩, trivial⟩
         refine L.appendN (m := 1) Tryz.underlying22 kstod_el95 rfl rfl rfl hO rfl (holdsN_box bx66) (edV_one _) (by omega) (by have := hR0.size; omega) (fun v67 w67 hO67 hg hob67 => ?_)
         obtain ⟨a67, c67, e67, -⟩ := own_shape hO67
         subst e67
         have hB0 := hB0.intoR hg (fun k e => e)
         have hR0 := hR0.intoR hg (fun k e => e)
         have hz2 : w11.heap.size ≤ w67.heap.size := by have := hR0.size; omega
         have hO2 : Own w67 w11.heap.size 95 3 (.slice a67 (i + 1) c67) (i + 1) ((l.take (i + 1)).map edV).flatten := by
           rw [hst]; exact hO67
         refine L.nil ?_
         refine thn_n ?_
         refine LAD.take0 (i := 19) rfl (by kernel_rfl) (by kernel_rfl) (by kernel_rfl) (by kernel_rfl) (fun w hw => x_as (v := .slice _ _ _) rfl) rfl ?_
         refine LAD.done (by kernel_rfl) (by kernel_rfl) hR0 ?_
         have hB := hB.step hR0 (fun i hi e => by have h1 := hq _ e; (try dsimp only at h1); omega)
         have hu := hu.carryR hR0 (fun j e => (hq j e).1)
         refine blk_n ?_
         refine thn_n ?_
         refine W.region ?_
         refine L.val (x_mv (v := .int _ _) rfl) rfl ?_
         refine L.val (x_add rfl rfl (wr64 (by omega))) rfl ?_
         refine L.val (x_as (v := .int _ _) rfl) rfl ?_
         refine L.nil ?_
         refine thn_n ⟨rfl, ?_⟩
         refine ⟨_, ?_, i + 1, _, rfl, by first | rfl | exact vi (by omega) | exact vs (by first | assumption | (rw [hst]; done) | (rw [hst]; simp only [List.append_assoc])), by first | rfl | exact vi (by omega) | exact vs (by first | assumption | (rw [hst]; done) | (rw [hst]; simp only [List.append_assoc])), by first | rfl | exact vi (by omega) | exact vs (by first | assumption | (rw [hst]; done) | (rw [hst]; simp only [List.append_assoc])), (by first | assumption | omega | rfl), (by first | assumption | omega | rfl), (by first | assumption | omega | rfl), (by exact hO2), (by exact hz2)⟩
         omega
       ·have h41 := sne_f g41
        refine L.gno (dj := 41) (b := _) rfl rfl g41 rfl ?_
        refine L.gno (dj := 41) (b := _) rfl rfl g41 rfl ?_
        refine L.gno (dj := 41) (b := _) rfl rfl g41 rfl ?_
        refine L.gno (dj := 41) (b := _) rfl rfl g41 rfl ?_
        refine L.gno (dj := 41) (b := _) rfl rfl g41 rfl ?_
        refine L.gno (dj := 41) (b := _) rfl rfl g41 rfl ?_
        refine L.val (x_pick_f (v := .bool _) (congrArg Value.bool g41) rfl) rfl ?_
        refine L.nil ?_
        refine thn_n ?_
        refine W.cond (b := false) rfl (fun h => nomatch h) (fun _ => ?_)
        refine W.skip ?_
        refine thn_n ?_
        refine W.drawD (fun j => some j = (Value.slice av i cv).ownBlock) (fun j => some j = (Value.slice av i cv).ownBlock) 18 kstod_mixed (fun wD49 hw => ?_)
        have hB := hB.carry hw; have hu := hu.carry hw; have hO := hO.carry hw
        have hB0 := Gr.refl (fun j => some j = (Value.slice av i cv).ownBlock) wD49; have hR0 := Gr.refl (fun j => some j = (Value.slice av i cv).ownBlock) wD49
        have hc0 := hw.keep hc0; have hc1 := hw.keep hc1; have hc2 := hw.keep hc2; have hwD := hw.size
        refine LAD.take0 (i := 0) rfl (by kernel_rfl) (by kernel_rfl) (by kernel_rfl) (by kernel_rfl) (fun w hw => x_mv (v := .slice _ _ _) rfl) rfl ?_
        refine LAD.take0 (i := 1) rfl (by kernel_rfl) (by kernel_rfl) (by kernel_rfl) (by kernel_rfl) (fun w hw => x_mv (v := .slice _ _ _) rfl) rfl ?_
        refine LAD.take0 (i := 2) rfl (by kernel_rfl) (by kernel_rfl) (by kernel_rfl) (by kernel_rfl) (fun w hw => x_mv (v := .int _ _) rfl) rfl ?_
        refine LAD.take0 (i := 3) rfl (by kernel_rfl) (by kernel_rfl) (by kernel_rfl) (by kernel_rfl) (fun w hw => x_ia1 (j := 3 * i) Tryz.underlying33 kstod_sz9 rfl rfl (by omega) (by omega)) rfl ?_
        refine LAD.take0 (i := 4) rfl (by kernel_rfl) (by kernel_rfl) (by kernel_rfl) (by kernel_rfl) (fun w hw => x_ld (v := S _) kstod_oc9 rfl (hw.keepR (fun e => by have := hq _ e; (try dsimp only at this); omega) hc0)) rfl ?_
        refine LAD.take0 (i := 5) rfl (by kernel_rfl) (by kernel_rfl) (by kernel_rfl) (by kernel_rfl) (fun w hw => x_mv (v := .slice _ _ _) rfl) rfl ?_
        refine LAD.take0 (i := 6) rfl (by kernel_rfl) (by kernel_rfl) (by kernel_rfl) (by kernel_rfl) (fun w hw => x_mv (v := .int _ _) rfl) rfl ?_
        refine LAD.take0 (i := 7) rfl (by kernel_rfl) (by kernel_rfl) (by kernel_rfl) (by kernel_rfl) (fun w hw => x_add rfl rfl (wr64 (by omega))) rfl ?_
        refine LAD.take0 (i := 8) rfl (by kernel_rfl) (by kernel_rfl) (by kernel_rfl) (by kernel_rfl) (fun w hw => x_ia1 (j := 3 * i + 2) Tryz.underlying33 kstod_sz9 rfl rfl (by omega) (by omega)) rfl ?_
        refine LAD.take0 (i := 9) rfl (by kernel_rfl) (by kernel_rfl) (by kernel_rfl) (by kernel_rfl) (fun w hw => x_ld (v := S _) kstod_oc9 rfl (hw.keepR (fun e => by have := hq _ e; (try dsimp only at this); omega) hc2)) rfl ?_
        refine LAD.take0 (i := 10) rfl (by kernel_rfl) (by kernel_rfl) (by kernel_rfl) (by kernel_rfl) (fun w hw => x_mv (v := .slice _ _ _) rfl) rfl ?_
        refine LAD.take0 (i := 11) rfl (by kernel_rfl) (by kernel_rfl) (by kernel_rfl) (by kernel_rfl) (fun w hw => x_mv (v := .int _ _) rfl) rfl ?_
        refine LAD.take0 (i := 12) rfl (by kernel_rfl) (by kernel_rfl) (by kernel_rfl) (by kernel_rfl) (fun w hw => x_add rfl rfl (wr64 (by omega))) rfl ?_
        refine LAD.take0 (i := 13) rfl (by kernel_rfl) (by kernel_rfl) (by kernel_rfl) (by kernel_rfl) (fun w hw => x_ia1 (j := 3 * i + 1) Tryz.underlying33 kstod_sz9 rfl rfl (by omega) (by omega)) rfl ?_
        refine LAD.take0 (i := 14) rfl (by kernel_rfl) (by kernel_rfl) (by kernel_rfl) (by kernel_rfl) (fun w hw => x_ld (v := S _) kstod_oc9 rfl (hw.keepR (fun e => by have := hq _ e; (try dsimp only at this); omega) hc1)) rfl ?_
        refine LAD.take0 (i := 15) rfl (by kernel_rfl) (by kernel_rfl) (by kernel_rfl) (by kernel_rfl) (fun w hw => x_eqs rfl rfl) rfl ?_
        refine LAD.take0 (i := 16) rfl (by kernel_rfl) (by kernel_rfl) (by kernel_rfl) (by kernel_rfl) (fun w hw => x_build (cells := [S _, S _, .bool _]) kstod_si95 rfl rfl) rfl ?_
        refine LAD.step (rs := [17]) hR0 (fun _ => hB0) (by kernel_rfl) (by simp) ⟨⟨_, rfl, ?_⟩, trivial⟩
        refine L.bs (sz := 3) (cells := [S (l.getD i default).key, S (l.getD i default).val, .bool ((if (l.getD i default).gone then ([71] : Str) else [86]) == [71])]) Tryz.underlying22 kstod_el95 rfl rfl rfl rfl (fun w66 bx66 hw hz66 => ?_)
        have hB0 := hB0.carry hw; have hR0 := hR0.carry hw; have hO := hO.carry hw
        have e66 : [S (l.getD i default).key, S (l.getD i default).val, .bool ((if (l.getD i default).gone then ([71] : Str) else [86]) == [71])] = edV (l.getD i default) := by
          unfold edV; cases (l.getD i default).gone <;> rfl
        rw [e66] at bx66
        refine L.nil ?_
        refine thn_n ?_
        refine LAD.step (rs := [18]) hR0 (fun _ => hB0) (by kernel_rfl) (by simp) ⟨⟨_, rfl, ?_⟩, trivial⟩
        refine L.appendN (m := 1) Tryz.underlying22 kstod_el95 rfl rfl rfl hO rfl (holdsN_box bx66) (edV_one _) (by omega) (by have := hR0.size; omega) (fun v67 w67 hO67 hg hob67 => ?_)
        obtain ⟨a67, c67, e67, -⟩ := own_shape hO67
        subst e67
        have hB0 := hB0.intoR hg (fun k e => e)
        have hR0 := hR0.intoR hg (fun k e => e)
        have hz2 : w11.heap.size ≤ w67.heap.size := by have := hR0.size; omega
        have hO2 : Own w67 w11.heap.size 95 3 (.slice a67 (i + 1) c67) (i + 1) ((l.take (i + 1)).map edV).flatten := by
          rw [hst]; exact hO67
        refine L.nil ?_
        refine thn_n ?_
        refine LAD.take0 (i := 19) rfl (by kernel_rfl) (by kernel_rfl) (by kernel_rfl) (by kernel_rfl) (fun w hw => x_as (v := .slice _ _ _) rfl) rfl ?_
        refine LAD.done (by kernel_rfl) (by kernel_rfl) hR0 ?_
        have hB := hB.step hR0 (fun i hi e => by have h1 := hq _ e; (try dsimp only at h1); omega)
        have hu := hu.carryR hR0 (fun j e => (hq j e).1)
        refine blk_n ?_
        refine thn_n ?_
        refine W.region ?_
        refine L.val (x_mv (v := .int _ _) rfl) rfl ?_
        refine L.val (x_add rfl rfl (wr64 (by omega))) rfl ?_
        refine L.val (x_as (v := .int _ _) rfl) rfl ?_
        refine L.nil ?_
        refine thn_n ⟨rfl, ?_⟩
        refine ⟨_, ?_, i + 1, _, rfl, by first | rfl | exact vi (by omega) | exact vs (by first | assumption | (rw [hst]; done) | (rw [hst]; simp only [List.append_assoc])), by first | rfl | exact vi (by omega) | exact vs (by first | assumption | (rw [hst]; done) | (rw [hst]; simp only [List.append_assoc])), by first | rfl | exact vi (by omega) | exact vs (by first | assumption | (rw [hst]; done) | (rw [hst]; simp only [List.append_assoc])), (by first | assumption | omega | rfl), (by first | assumption | omega | rfl), (by first | assumption | omega | rfl), (by exact hO2), (by exact hz2)⟩
        omega
      ·have h32 := dlt_f g32
       have hie : i = l.length := by omega
       subst hie
       rw [List.take_length] at hO
       obtain ⟨av, cv, ev, -⟩ := own_shape hO
       subst ev
       have hE := own_eds hO (may_ok_eds hm) (by omega)
       refine W.exit (thn_x (thn_x (blk_hit ?_)))
       refine thn_n ?_
       refine W.seq ?_
       refine W.region ?_
       refine L.val (x_mv (v := .slice _ _ _) rfl) rfl ?_
       refine L.val (x_mv (v := .slice _ _ _) rfl) rfl ?_
       refine L.ret (x_call kstod_en41 rfl) rfl (may_ok _ _ _ _ hE) ?_
       rintro _ w70 ⟨rfl, hw⟩
       have hB := hB.carry hw; have hu := hu.carry hw; have hO := hO.carry hw
       have hE := hE.carry hw
       refine L.val (x_as (v := .slice _ _ _) rfl) rfl ?_
       refine L.val (x_as (v := .bool _) rfl) rfl ?_
       refine L.nil ?_
       refine thn_n ?_
       refine W.ret (fin_mk (.inr rfl) ?_)
       rw [hm]
       exact ⟨⟨_, rfl, hE.mono (fun b _ h => by omega)⟩, hB⟩
theorem Gr.step2 {R R' : Nat → Prop} {a b c : World} (h : Gr R a b) (k : Gr R' b c) (hR : ∀ i, i < a.heap.size → R' i → R i) : Gr R a c :=
  ⟨k.os.trans h.os, k.tape.trans h.tape, k.output.trans h.output, Nat.le_trans h.size k.size, fun i hi hn => (k.block i (Nat.lt_of_lt_of_le hi h.size) (fun r => hn (hR i hi r))).trans (h.block i hi hn)⟩
theorem rises_take {G l : List Ed} (h : Rises G) : Rises (comes G l) := comes_rises h
theorem apply_ok (n0 : Nat) (A : Nat → Prop) (b : Nat) (T : TypeId) (rest : List Value) (m : Option Nat) (G : List Ed) (v : Value) (l : List Ed) (w : World) (hb : Box w b T (.map m :: rest)) (hm : MapHas n0 w m G) (hG : Rises G) (hs : EdsAt A w v l) (hAb : A b) (hAm : ∀ k, m = some k → A k) (hn : n0 ≤ w.heap.size) :
    Ret Tryz.prog 44 #[.pointer (some ⟨b, 0, none⟩), v] w fun _ w' => ∃ mb lm, Box w' b T (.map (some mb) :: rest) ∧ n0 ≤ mb ∧ HoldsM w' mb lm (comes G l) ∧ (m = some mb ∨ m = none ∧ w.heap.size ≤ mb) ∧ Gr (fun k => k = b ∨ some k = m) w w' := by
  have hs := (hs.up)
  obtain ⟨pv, cv, row, rfl, a1, a2, a3, -⟩ := id hs
  have hbl := hb.lt
  refine ret_of_W Tryz.func44 rfl (Nat.le_of_ble_eq_true rfl) (res0 rfl) ?_
  have hR := Gr.refl (fun k => k = b ∨ some k = m) w
  refine W.cut (fun D' E' w' => D' = [] ∧ ∃ mb lm, E' 0 = .pointer (some ⟨b, 0, none⟩) ∧ E' 1 = .slice pv l.length cv ∧ Box w' b T (.map (some mb) :: rest) ∧ n0 ≤ mb ∧ HoldsM w' mb lm G ∧ (m = some mb ∨ m = none ∧ w.heap.size ≤ mb) ∧ EdsAt (fun k => A k ∨ w.heap.size ≤ k) w' (.slice pv l.length cv) l ∧ Gr (fun k => k = b ∨ some k = m) w w') ?_ ?_
  ·refine W.seq ?_
   refine W.region ?_
   refine L.val (x_mv (v := .pointer _) rfl) rfl ?_
   refine L.val (x_nil rfl) rfl ?_
   refine L.val (x_fa kstod_fo26_0 rfl) rfl ?_
   refine L.val (x_ld (v := .map _) kstod_oc24 rfl (hb.cell0 rfl)) rfl ?_
   refine L.val (x_eqm0 Tryz.underlying24 rfl rfl) rfl ?_
   refine L.nil ?_
   refine thn_n ?_
   refine W.cond (b := _) rfl (fun g10 => ?_) (fun g10 => ?_)
   ·have h10 := g10
    have hm0 : m = none := by cases m with | none => rfl | some k => cases g10
    subst hm0
    have hG0 : G = [] := by rcases hm with h | ⟨mb, l', h, -⟩; exact h.2; cases h
    refine W.region ?_
    refine L.val (x_mv (v := .pointer _) rfl) rfl ?_
    refine L.mkmapK (κ := Str) (K := S) (V := fun _ => True) Tryz.underlying24 rfl (fun w12 mp12 hw hz12 => ?_)
    have hR := hR.carry hw; have hs := hs.carry hw; have hb := hb.carry hw
    refine L.val (x_nil rfl) rfl ?_
    refine L.val (x_fa kstod_fo26_0 rfl) rfl ?_
    refine L.set (v := .map _) kstod_sz24 rfl rfl rfl hb rfl (fun wl10 hb hw hzl10 => ?_)
    have hR := (by first | exact hR.set hw (by omega) | exact hR.trans (hw.mono (fun k _ e => .inl e))); have hs := (by first | exact hs.carryR hw (fun k e => .inr (by have e : k = wL18.heap.size := e; omega)) | exact hs.carryR hw (fun k e => .inl (by have e : k = b := e; rw [e]; exact hAb)))
    have mp12 := mp12.carryR hw (fun e => by have e : w.heap.size = b := e; omega)
    refine L.nil ?_
    refine thn_n ?_
    exact ⟨rfl, w.heap.size, [], rfl, rfl, hb, hn, by rw [hG0]; exact HoldsM.nil mp12, .inr ⟨rfl, Nat.le_refl _⟩, hs, hR⟩
   ·have h10 := g10
    obtain ⟨mb0, hm0⟩ : ∃ mb, m = some mb := by cases m with | none => cases g10 | some k => exact ⟨k, rfl⟩
    subst hm0
    obtain ⟨l00, hn00, hH00⟩ : ∃ lm, n0 ≤ mb0 ∧ HoldsM w mb0 lm G := by rcases hm with h | ⟨mb, l', h, h2, h3⟩; cases h.1; cases h; exact ⟨l', h2, h3⟩
    refine W.skip ?_
    refine thn_n ?_
    exact ⟨rfl, mb0, l00, rfl, rfl, hb, hn00, hH00, .inl rfl, hs, hR⟩
  ·rintro D' E w15 ⟨rfl, mb, lm0, e0, e1, hb, hnmb, hH, hmm, hs, hR⟩
   rw [upd_self e0, upd_self e1]
   have hAmb : A mb ∨ w.heap.size ≤ mb := hmm.imp (fun e => hAm _ e) (fun e => e.2)
   have hbm : b ≠ mb := fun e => by
     obtain ⟨es, ck, hes, -⟩ := hH.map
     have hbx := hb
     unfold Box at hbx
     rw [e, hes] at hbx; cases hbx
   have hRm : ∀ k, k < w.heap.size → k = mb → (k = b ∨ some k = m) := fun k hk e => by
     rcases hmm with h | h
     · rw [e, h]; exact .inr rfl
     · omega
   refine W.seq ?_
   refine W.region ?_
   refine L.val (x_mv (v := .slice _ _ _) rfl) rfl ?_
   refine L.val (x_len_slice Tryz.underlying22 rfl) rfl ?_
   refine L.val (x_mv (v := .int _ _) rfl) rfl ?_
   refine L.nil ?_
   refine thn_n ?_
   refine W.block ?_
   refine W.loop (fun m' E w' => ∃ (i : Nat) (lm : List (Str × Value)), m' = l.length - i ∧ E 0 = .pointer (some ⟨b, 0, none⟩) ∧ E 15 = .slice pv l.length cv ∧ E 16 = .int .i64 (l.length : Nat) ∧ E 17 = .int .i64 (i : Nat) ∧ (i ≤ l.length) ∧ (Gr (fun k => k = b ∨ some k = m) w w') ∧ (EdsAt (fun k => A k ∨ w.heap.size ≤ k) w' (.slice pv l.length cv) l) ∧ (Box w' b T (.map (some mb) :: rest)) ∧ (HoldsM w' mb lm (comes G (l.take i)))) (l.length) ?_ ?_
   ·exact ⟨0, lm0, by omega, by first | rfl | exact vi (by omega) | exact vs (by first | assumption | (rw [hst]; done) | (rw [hst]; simp only [List.append_assoc])), by first | rfl | exact vi (by omega) | exact vs (by first | assumption | (rw [hst]; done) | (rw [hst]; simp only [List.append_assoc])), by first | rfl | exact vi (by omega) | exact vs (by first | assumption | (rw [hst]; done) | (rw [hst]; simp only [List.append_assoc])), by first | rfl | exact vi (by omega) | exact vs (by first | assumption | (rw [hst]; done) | (rw [hst]; simp only [List.append_assoc])), (by first | assumption | omega | rfl), (by first | assumption | omega | rfl), (by first | assumption | omega | rfl), (by first | assumption | omega | rfl), (by exact hH)⟩
   ·rintro _ E wL18 ⟨i, lm, em, e0, e15, e16, e17, hi, hR, hs, hb, hH⟩
    rw [upd_self e0, upd_self e15, upd_self e16, upd_self e17]
    refine W.seq ?_
    refine W.region ?_
    refine L.val (x_lss rfl rfl) rfl ?_
    refine L.nil ?_
    refine thn_n ?_
    refine W.seq ?_
    refine W.cond (b := _) rfl (fun g18 => ?_) (fun g18 => ?_)
    ·have h18 := of_decide_eq_true g18
     have hlt : i < l.length := by omega
     obtain ⟨hek, be, oe, rfl, -, hc⟩ := eds_elem hs hlt
     have hst : comes G (l.take (i + 1)) = come1 (comes G (l.take i)) (l.getD i default) := by rw [take_snoc (d := default) hlt, come1_snoc]
     have hGi := rises_take (l := l.take i) hG
     have hmlt := hH.map.lt
     have hblt := hb.lt
     have hRs : w.heap.size ≤ wL18.heap.size := hR.size
     refine W.skip ?_
     refine thn_n ?_
     refine W.seq ?_
     refine W.block ?_
     refine W.seq ?_
     refine W.region ?_
     refine L.val (x_ia (j := i) Tryz.underlying22 kstod_sz95 rfl rfl (by omega) (by omega)) rfl ?_
     refine L.val (x_ldn (vs := edV (l.getD i default)) kstod_ag95 rfl rfl hc) rfl ?_
     refine L.alloc (cs := [S [], S [], Value.bool false]) kstod_zr95 rfl rfl (fun w5 bx5 hw hz5 => ?_)
     have hR := hR.carry hw; have hs := hs.carry hw; have hb := hb.carry hw; have hH := hH.carry hw
     refine L.setRow kstod_ag95 rfl rfl bx5 rfl rfl (edV_one _) (fun wl18 bx5 hw hzl18 => ?_)
     have hR := (by first | exact hR.set hw (by omega) | exact hR.trans (hw.mono (fun k _ e => .inl e))); have hs := (by first | exact hs.carryR hw (fun k e => .inr (by have e : k = wL18.heap.size := e; omega)) | exact hs.carryR hw (fun k e => .inl (by have e : k = b := e; rw [e]; exact hAb))); have hb := hb.carryR hw (by omega); have hH := hH.carryR hw (fun e => by have e : mb = wL18.heap.size := e; omega)
     refine L.nil ?_
     refine thn_n ?_
     refine W.seq ?_
     refine W.region ?_
     refine L.val (x_fa kstod_fo95_2 rfl) rfl ?_
     refine L.val (x_ld (v := .bool _) kstod_oc4 rfl (bx5.cell0 rfl)) rfl ?_
     refine L.nil ?_
     refine thn_n ?_
     refine W.cond (b := _) rfl (fun g22 => ?_) (fun g22 => ?_)
     ·have h22 := g22
      refine W.drawD (fun j => j = mb) (fun _ => False) 6 kstod_mixed (fun wD23 hw => ?_)
      have hR := hR.carry hw; have hs := hs.carry hw; have hb := hb.carry hw; have hH := hH.carry hw; have bx5 := bx5.carry hw
      have hB0 := Gr.refl (fun _ => False) wD23; have hR0 := Gr.refl (fun j => j = mb) wD23
      refine LAD.take0 (i := 0) rfl (by kernel_rfl) (by kernel_rfl) (by kernel_rfl) (by kernel_rfl) (fun w hw => x_mv (v := .pointer _) rfl) rfl ?_
      refine LAD.take0 (i := 1) rfl (by kernel_rfl) (by kernel_rfl) (by kernel_rfl) (by kernel_rfl) (fun w hw => x_nil rfl) rfl ?_
      refine LAD.take0 (i := 2) rfl (by kernel_rfl) (by kernel_rfl) (by kernel_rfl) (by kernel_rfl) (fun w hw => x_fa kstod_fo26_0 rfl) rfl ?_
      refine LAD.take0 (i := 3) rfl (by kernel_rfl) (by kernel_rfl) (by kernel_rfl) (by kernel_rfl) (fun w hw => x_ld (v := .map _) kstod_oc24 rfl (hw.keepR (fun e => by have e : (_ : Nat) = _ := e; (try dsimp only at e); omega) (hb.cell0 rfl))) rfl ?_
      refine LAD.take0 (i := 4) rfl (by kernel_rfl) (by kernel_rfl) (by kernel_rfl) (by kernel_rfl) (fun w hw => x_fa kstod_fo95_0 rfl) rfl ?_
      refine LAD.take0 (i := 5) rfl (by kernel_rfl) (by kernel_rfl) (by kernel_rfl) (by kernel_rfl) (fun w hw => x_ld (v := S _) kstod_oc9 rfl (hw.keepR (fun e => by have e : (_ : Nat) = _ := e; (try dsimp only at e); omega) (bx5.cell0 rfl))) rfl ?_
      refine LAD.step (rs := [6]) hR0 (fun _ => hB0) (by kernel_rfl) (by simp) ⟨⟨_, rfl, ?_⟩, trivial⟩
      refine L.mapdelK Tryz.underlying24 (klawS Tryz.underlying9) rfl rfl trivial hH.map (fun wl27 mp27 hw hzl27 => ?_)
      have hR0 := hR0.intoR hw (fun k e => e)
      have hH2 : HoldsM wl27 mb (delK lm (l.getD i default).key) (comes G (l.take (i + 1))) := by rw [hst]; exact hH.del hGi g22 mp27
      have hR2 := hR.step2 hw (fun k hk e => hRm k hk e)
      refine L.nil ?_
      refine thn_n ?_
      refine LAD.done (by kernel_rfl) (by kernel_rfl) hR0 ?_
      have hR := trivial
      have hs := hs.carryR hR0 (fun k e => by have e : k = mb := e; rw [e]; exact hAmb)
      have hb := hb.carryR hR0 (fun e => by have e : b = mb := e; exact hbm e)
      have bx5 := trivial
      refine blk_n ?_
      refine thn_n ?_
      refine W.region ?_
      refine L.val (x_add rfl rfl (wr64 (by omega))) rfl ?_
      refine L.val (x_mv (v := .int _ _) rfl) rfl ?_
      refine L.nil ?_
      refine thn_n ⟨rfl, ?_⟩
      refine ⟨_, ?_, i + 1, _, rfl, by first | rfl | exact vi (by omega) | exact vs (by first | assumption | (rw [hst]; done) | (rw [hst]; simp only [List.append_assoc])), by first | rfl | exact vi (by omega) | exact vs (by first | assumption | (rw [hst]; done) | (rw [hst]; simp only [List.append_assoc])), by first | rfl | exact vi (by omega) | exact vs (by first | assumption | (rw [hst]; done) | (rw [hst]; simp only [List.append_assoc])), by first | rfl | exact vi (by omega) | exact vs (by first | assumption | (rw [hst]; done) | (rw [hst]; simp only [List.append_assoc])), (by first | assumption | omega | rfl), (by exact hR2), (by first | assumption | omega | rfl), (by first | assumption | omega | rfl), (by exact hH2)⟩
      omega
     ·have h22 := g22
      refine W.drawD (fun j => j = mb) (fun _ => False) 8 kstod_mixed (fun wD29 hw => ?_)
      have hR := hR.carry hw; have hs := hs.carry hw; have hb := hb.carry hw; have hH := hH.carry hw; have bx5 := bx5.carry hw
      have hB0 := Gr.refl (fun _ => False) wD29; have hR0 := Gr.refl (fun j => j = mb) wD29
      refine LAD.take0 (i := 0) rfl (by kernel_rfl) (by kernel_rfl) (by kernel_rfl) (by kernel_rfl) (fun w hw => x_mv (v := .pointer _) rfl) rfl ?_
      refine LAD.take0 (i := 1) rfl (by kernel_rfl) (by kernel_rfl) (by kernel_rfl) (by kernel_rfl) (fun w hw => x_nil rfl) rfl ?_
      refine LAD.take0 (i := 2) rfl (by kernel_rfl) (by kernel_rfl) (by kernel_rfl) (by kernel_rfl) (fun w hw => x_fa kstod_fo26_0 rfl) rfl ?_
      refine LAD.take0 (i := 3) rfl (by kernel_rfl) (by kernel_rfl) (by kernel_rfl) (by kernel_rfl) (fun w hw => x_ld (v := .map _) kstod_oc24 rfl (hw.keepR (fun e => by have e : (_ : Nat) = _ := e; (try dsimp only at e); omega) (hb.cell0 rfl))) rfl ?_
      refine LAD.take0 (i := 4) rfl (by kernel_rfl) (by kernel_rfl) (by kernel_rfl) (by kernel_rfl) (fun w hw => x_fa kstod_fo95_0 rfl) rfl ?_
      refine LAD.take0 (i := 5) rfl (by kernel_rfl) (by kernel_rfl) (by kernel_rfl) (by kernel_rfl) (fun w hw => x_ld (v := S _) kstod_oc9 rfl (hw.keepR (fun e => by have e : (_ : Nat) = _ := e; (try dsimp only at e); omega) (bx5.cell0 rfl))) rfl ?_
      refine LAD.take0 (i := 6) rfl (by kernel_rfl) (by kernel_rfl) (by kernel_rfl) (by kernel_rfl) (fun w hw => x_fa kstod_fo95_1 rfl) rfl ?_
      refine LAD.take0 (i := 7) rfl (by kernel_rfl) (by kernel_rfl) (by kernel_rfl) (by kernel_rfl) (fun w hw => x_ld (v := S _) kstod_oc9 rfl (hw.keepR (fun e => by have e : (_ : Nat) = _ := e; (try dsimp only at e); omega) (bx5.cell0 rfl))) rfl ?_
      refine LAD.step (rs := [8]) hR0 (fun _ => hB0) (by kernel_rfl) (by simp) ⟨⟨_, rfl, ?_⟩, trivial⟩
      refine L.mapsetK Tryz.underlying24 (klawS Tryz.underlying9) rfl rfl trivial rfl hH.map (fun wl36 mp36 hw hzl36 => ?_)
      have hR0 := hR0.intoR hw (fun k e => e)
      have hH2 : HoldsM wl36 mb (putK lm (l.getD i default).key (S (l.getD i default).val)) (comes G (l.take (i + 1))) := by rw [hst]; exact hH.put hGi (by simpa using g22) mp36
      have hR2 := hR.step2 hw (fun k hk e => hRm k hk e)
      refine L.nil ?_
      refine thn_n ?_
      refine LAD.done (by kernel_rfl) (by kernel_rfl) hR0 ?_
      have hR := trivial
      have hs := hs.carryR hR0 (fun k e => by have e : k = mb := e; rw [e]; exact hAmb)
      have hb := hb.carryR hR0 (fun e => by have e : b = mb := e; exact hbm e)
      have bx5 := trivial
      refine blk_n ?_
      refine thn_n ?_
      refine W.region ?_
      refine L.val (x_add rfl rfl (wr64 (by omega))) rfl ?_
      refine L.val (x_mv (v := .int _ _) rfl) rfl ?_
      refine L.nil ?_
      refine thn_n ⟨rfl, ?_⟩
      refine ⟨_, ?_, i + 1, _, rfl, by first | rfl | exact vi (by omega) | exact vs (by first | assumption | (rw [hst]; done) | (rw [hst]; simp only [List.append_assoc])), by first | rfl | exact vi (by omega) | exact vs (by first | assumption | (rw [hst]; done) | (rw [hst]; simp only [List.append_assoc])), by first | rfl | exact vi (by omega) | exact vs (by first | assumption | (rw [hst]; done) | (rw [hst]; simp only [List.append_assoc])), by first | rfl | exact vi (by omega) | exact vs (by first | assumption | (rw [hst]; done) | (rw [hst]; simp only [List.append_assoc])), (by first | assumption | omega | rfl), (by exact hR2), (by first | assumption | omega | rfl), (by first | assumption | omega | rfl), (by exact hH2)⟩
      omega
    ·have h18 := dlt_f g18
     refine W.exit (thn_x (thn_x (blk_hit ?_)))
     refine fin_mk (.inl rfl) ?_
     have hie : i = l.length := by omega
     subst hie
     rw [List.take_length] at hH
     exact ⟨mb, lm, hb, hnmb, hH, hmm, hR⟩
end Go.Gx
