/- Sessions: Log; sorted keys. Conditions: none. -/
import Derived.Test.YtnhbjfkeeegdgaaCeSes8
import Derived.Test.YtnhbjfkeeegdgaaCeRowG
import Derived.Test.YtnhbjfkeeegdgaaCeSes7
import Derived.Test.YtnhbjfkeeegdgaaCeSrtK
namespace Go.Gx
open Go.Proofs Go.Sort
theorem kses10_el22 : elT Try.prog 22 1 = true := by kernel_rfl
theorem kses10_el34 : elT Try.prog 34 3 = true := by kernel_rfl
theorem kses10_en53 : Go.Proofs.Enters Try.prog 53 := Go.Proofs.enters_of Try.func53 (by kernel_rfl) rfl
theorem kses10_en54 : Go.Proofs.Enters Try.prog 54 := Go.Proofs.enters_of Try.func54 (by kernel_rfl) rfl
theorem kses10_fo97_1 : fieldOff Try.prog 97 1 = some 1 := by kernel_rfl
theorem kses10_oc22 : oneCellT Try.prog 22 = true := by kernel_rfl
theorem kses10_oc30 : oneCellT Try.prog 30 = true := by kernel_rfl
theorem kses10_sz22 : (Try.prog.info? 22).map (·.size) = some 1 := by kernel_rfl
theorem clone_eds (A : Nat → Prop) (v : Value) (l : List Ed) (w : World) (h : EdsAt A w v l) (hl : l.length ≤ 1000000) :
    Ret Try.prog 54 #[v] w fun v' w' => (EdsAt (fun k => k < w.heap.size) w' v' l ∧ v'.oneCell' = true) ∧ Bel w w' := by
  obtain ⟨p, cap, row, rfl, p1, p2, p3, hE⟩ := h
  have hh := hE.holds (cap := cap)
  have hR := hE.rowsC
  obtain ⟨rows, hr0⟩ : ∃ rows, rows = (List.range l.length).map row := ⟨_, rfl⟩
  rw [← hr0] at hh hR
  have hfl : rows.flatten.length = l.length * 3 := by rw [flat_len hR.lens, hR.1]
  refine ret_of_W Try.func54 rfl (Nat.le_of_ble_eq_true rfl) (res1 rfl) ?_
  have hB := Gr.refl (fun _ => False) w
  refine W.seq ?_
  refine W.region ?_
  refine L.val (x_as (v := .slice _ _ _) rfl) rfl ?_
  refine L.nil ?_
  refine thn_n ?_
  refine W.seq ?_
  refine W.seq ?_
  refine W.region ?_
  refine L.val (x_mv (v := .slice _ _ _) rfl) rfl ?_
  refine L.val (x_eql0 Try.underlying22 rfl rfl) rfl ?_
  refine L.nil ?_
  refine thn_n ?_
  refine W.cond (b := _) rfl (fun g4 => ?_) (fun g4 => ?_)
  ·have h4 := g4
   refine W.seq ?_
   refine W.region ?_
   refine L.val (x_as (v := .slice _ _ _) rfl) rfl ?_
   refine L.nil ?_
   refine thn_n ?_
   refine W.ret (thn_r (fin_mk (.inr rfl) ?_))
   have e : l = [] := by cases p with
     | none => exact Classical.byContradiction fun hne => by obtain ⟨b, o, e, -⟩ := hE.at_ hne; cases e
     | some a => cases h4
   subst e
   exact ⟨⟨RecsAt.nil (by simp), rfl⟩, hB⟩
  ·have h4 := g4
   refine W.skip ?_
   refine thn_n ?_
   refine W.seq ?_
   refine W.region ?_
   refine L.bs0 Try.underlying22 kses10_el34 rfl (fun w5 hO5 hw hz5 => ?_)
   have hB := hB.carry hw; have hh := hh.carry hw; have hR := hR.carry hw
   refine L.val (x_mv (v := .slice _ _ _) rfl) rfl ?_
   refine L.appendN (m := l.length) Try.underlying22 kses10_el34 rfl rfl rfl hO5 hfl hh hR.ones (by omega) (by omega) (fun v7 w7 hO7 hg hob7 => ?_)
   have hlO := fun j (e : some j = _) => (Own.lt hO5 (j := j) e).1
   have hB := hB.step hg (fun i hi e => by have := hlO i e; omega)
   obtain ⟨a7, c7, e7, -⟩ := own_shape hO7
   rw [Nat.zero_add] at e7
   subst e7
   simp only [Nat.zero_add, List.nil_append] at hO7
   refine L.val (x_as (v := .slice _ _ _) rfl) rfl ?_
   refine L.nil ?_
   refine thn_n ?_
   refine W.ret (fin_mk (.inr rfl) ?_)
   have hRw := (hE.rowsC : RowsC EdC A w ((List.range l.length).map row) l)
   rw [← hr0] at hRw
   have hP : RowsC EdC (fun _ => True) w7 rows l := ⟨hRw.1, fun i hi => hRw.2 i hi⟩
   exact ⟨⟨hP.done (A' := fun k => k < w.heap.size) hO7 p3 (fun _ _ => trivial) (fun j h1 h2 => by omega), rfl⟩, hB⟩
theorem log_ok (ow : Labels) (t b bh bo : Nat) (s : Bs) (vl : Value) (lh : List (Str × Value)) (lo : List (Int × Value)) (rows : List (List Value)) (w : World) (h : BaseAt ow t w b s bh bo vl lh lo rows)
    (hl : s.log.length ≤ 10000) (he : ∀ l ∈ s.log, l.length ≤ 1000000) :
    Ret Try.prog 16 #[.pointer (some ⟨b, 0, none⟩)] w fun v w' => RecsAt EsC 1 (fun k => k < w.heap.size) w' v s.log ∧ Bel w w' := by
  have hM := h.logs (by omega)
  have hb := h.box
  obtain ⟨pl, cl, rowl, hvl, hc1, hc2, hc3, hR⟩ := hM
  subst hvl
  refine ret_of_W Try.func16 rfl (Nat.le_of_ble_eq_true rfl) (res1 rfl) ?_
  have hB := Gr.refl (fun _ => False) w
  refine W.seq ?_
  refine W.region ?_
  refine L.val (x_as (v := .slice _ _ _) rfl) rfl ?_
  refine L.nil ?_
  refine thn_n ?_
  refine W.seq ?_
  refine W.seq ?_
  refine W.region ?_
  refine L.val (x_mv (v := .pointer _) rfl) rfl ?_
  refine L.ret (x_call kses10_en53 rfl) rfl (none_ok b bh bo _ _ _ hb) ?_
  rintro v7 w7 ⟨rfl, hq⟩
  rw [hq]
  refine L.nil ?_
  refine thn_n ?_
  refine W.cond (b := _) rfl (fun g7 => ?_) (fun g7 => ?_)
  ·have h7 := g7
   cases g7
  ·have h7 := g7
   refine W.skip ?_
   refine thn_n ?_
   refine W.seq ?_
   refine W.region ?_
   refine L.val (x_as (v := .slice _ _ _) rfl) rfl ?_
   refine L.nil ?_
   refine thn_n ?_
   refine W.seq ?_
   refine W.seq ?_
   refine W.region ?_
   refine L.val (x_mv (v := .pointer _) rfl) rfl ?_
   refine L.val (x_nil rfl) rfl ?_
   refine L.val (x_fa kses10_fo97_1 rfl) rfl ?_
   refine L.val (x_ld (v := .slice _ _ _) kses10_oc30 rfl (hb.cell0 rfl)) rfl ?_
   refine L.val (x_len_slice Try.underlying30 rfl) rfl ?_
   refine L.val (x_mv (v := .int _ _) rfl) rfl ?_
   refine L.nil ?_
   refine thn_n ?_
   refine W.block ?_
   refine W.loop (fun m' E w' => ∃ (k : Nat) (v3 : Value), m' = s.log.length - k ∧ E 0 = .pointer (some ⟨b, 0, none⟩) ∧ E 3 = v3 ∧ E 11 = .slice pl s.log.length cl ∧ E 12 = .int .i64 (s.log.length : Nat) ∧ E 13 = .int .i64 (k : Nat) ∧ (k ≤ s.log.length) ∧ (Bel w w') ∧ (RecOwn EsC 1 (Av w.heap.size w' v3 v3) w' w.heap.size 22 v3 (s.log.take k))) (s.log.length) ?_ ?_
   ·exact ⟨0, .slice none 0 0, by omega, by first | rfl | exact vi (by omega), by first | rfl | exact vi (by omega), by first | rfl | exact vi (by omega), by first | rfl | exact vi (by omega), by first | rfl | exact vi (by omega), (by first | assumption | omega | rfl), (by first | assumption | omega | rfl), (by exact RecOwn.nil)⟩
   ·rintro _ E wL14 ⟨k, v3, em, e0, e3, e11, e12, e13, hk, hB, hO⟩
    rw [upd_self e0, upd_self e3, upd_self e11, upd_self e12, upd_self e13]
    refine W.seq ?_
    refine W.region ?_
    refine L.val (x_lss rfl rfl) rfl ?_
    refine L.nil ?_
    refine thn_n ?_
    refine W.seq ?_
    refine W.cond (b := _) rfl (fun g14 => ?_) (fun g14 => ?_)
    ·have h14 := of_decide_eq_true g14
     have hlt : k < s.log.length := by omega
     obtain ⟨bm, om, rfl, -, hcm⟩ := (hR.carry hB).elem hlt
     obtain ⟨vk, hvk, hEk⟩ := (hR.carry hB).each k hlt
     have hcm := hcm 0 (by omega)
     rw [hvk] at hcm
     have hek := he (s.log.getD k default) (by rw [List.getD_eq_getElem?_getD, List.getElem?_eq_getElem hlt]; exact List.getElem_mem _)
     obtain ⟨pk, ck, rowk, rfl, hk1, hk2, hk3, hRk⟩ := hEk
     have hcm : wL14.cell? ⟨bm, om + k, none⟩ = some (.slice pk (s.log.getD k default).length ck) := by simpa using hcm
     obtain ⟨a3, c3, e3', -⟩ := hO.shape
     have hl3 : (s.log.take k).length = k := by rw [List.length_take]; omega
     subst e3'
     have hq3 : ∀ j, some j = (Value.slice a3 (s.log.take k).length c3).ownBlock → w.heap.size ≤ j ∧ j < wL14.heap.size := fun j hj => hO.lt hj
     have hsz0 := hB.size
     refine W.skip ?_
     refine thn_n ?_
     refine W.seq ?_
     refine W.block ?_
     refine W.seq ?_
     refine W.region ?_
     refine L.val (x_ia1 (j := k) Try.underlying30 kses10_sz22 rfl rfl rfl (by omega)) rfl ?_
     refine L.val (x_ld (v := .slice _ _ _) kses10_oc22 rfl hcm) rfl ?_
     refine L.val (x_as (v := .slice _ _ _) rfl) rfl ?_
     refine L.nil ?_
     refine thn_n ?_
     refine W.region ?_
     refine L.val (x_mv (v := .slice _ _ _) rfl) rfl ?_
     refine L.val (x_mv (v := .slice _ _ _) rfl) rfl ?_
     refine L.ret (x_call kses10_en54 rfl) rfl (clone_eds _ _ _ _ ⟨pk, ck, rowk, rfl, hk1, hk2, hk3, hRk⟩ hek) ?_
     rintro v19 w19 ⟨⟨hE19, h119⟩, hw⟩
     have hB := hB.carry hw; have hO := hO.carry hw
     have hs19 := hw.size
     obtain ⟨p19, c19, row19, rfl, g191, g192, g193, g194⟩ := hE19
     have hE19 : EdsAt (fun k => k < wL14.heap.size) w19 (.slice p19 (s.log.getD k default).length c19) (s.log.getD k default) := ⟨p19, c19, row19, rfl, g191, g192, g193, g194⟩
     refine L.bs (sz := 1) (cells := _) Try.underlying30 kses10_el22 rfl rfl rfl rfl (fun w20 bx20 hw hz20 => ?_)
     have hB := hB.carry hw; have hO := hO.carry hw; have hE19 := hE19.carry hw
     have hs20 := hB.size
     obtain ⟨rows', r1, r2, r3, r4⟩ := hO
     have hz20' := hz20
     refine L.appendN (m := 1) Try.underlying30 kses10_el22 rfl rfl rfl r2 rfl (holdsN_box bx20) (by intro u hu; rw [List.mem_singleton.1 hu]; exact h119) (by omega) (by omega) (fun v21 w21 hO21 hg hob21 => ?_)
     have hO2 : RecOwn EsC 1 (Av w.heap.size w21 v21 v21) w21 w.heap.size 22 v21 (s.log.take (k + 1)) := by
       have et : s.log.take (k + 1) = s.log.take k ++ [s.log.getD k default] := by rw [List.take_add_one, List.getElem?_eq_getElem hlt, List.getD_eq_getElem?_getD, List.getElem?_eq_getElem hlt]; rfl
       rw [et]
       refine RecOwn.snoc (A := Av w.heap.size w20 (.slice a3 (s.log.take k).length c3) (.slice a3 (s.log.take k).length c3)) (R := fun j => some j = (Value.slice a3 (s.log.take k).length c3).ownBlock) r1 r3 (fun i hi => Car.mono (r4 i hi) fun j _ hj => av_mono (by omega) hj) (cs := [.slice p19 (s.log.getD k default).length c19]) ⟨_, rfl, hE19.mono (fun j hj hA => ?_)⟩ hO21 hg (fun j hj => .inr (.inl hj)) (fun j hj => av_step hg.size hob21 hob21 hj)
       rcases hA with hA | hA | hA | hA
       · omega
       · have := (hq3 j hA).2; omega
       · have := (hq3 j hA).2; omega
       · omega
     have hB := hB.step hg (fun i hi e => by have := (hq3 i e).1; omega)
     obtain ⟨a21, c21, e21, -⟩ := own_shape hO21
     subst e21
     refine L.val (x_as (v := .slice _ _ _) rfl) rfl ?_
     refine L.nil ?_
     refine blk_n ?_
     refine thn_n ?_
     refine W.region ?_
     refine L.val (x_add rfl rfl (wr64 (by omega))) rfl ?_
     refine L.val (x_mv (v := .int _ _) rfl) rfl ?_
     refine L.nil ?_
     refine thn_n ⟨rfl, ?_⟩
     refine ⟨_, ?_, k + 1, _, rfl, by first | rfl | exact vi (by omega), by first | rfl | exact vi (by omega), by first | rfl | exact vi (by omega), by first | rfl | exact vi (by omega), by first | rfl | exact vi (by omega), (by first | assumption | omega | rfl), (by first | assumption | omega | rfl), (by exact hO2)⟩
     omega
    ·have h14 := dlt_f g14
     refine W.exit (thn_x (thn_x (blk_hit ?_)))
     refine thn_n ?_
     refine W.seq ?_
     refine W.region ?_
     have hk2 : k = s.log.length := by omega
     rw [hk2, List.take_length] at hO
     obtain ⟨a3, c3, e3', -⟩ := hO.shape
     subst e3'
     refine L.val (x_mv (v := .slice _ _ _) rfl) rfl ?_
     refine L.val (x_as (v := .slice _ _ _) rfl) rfl ?_
     refine L.nil ?_
     refine thn_n ?_
     refine W.ret (fin_mk (.inr rfl) ?_)
     exact ⟨hO.done (by omega) (fun j hj => .inl hj) (fun j h1 h2 => by omega), hB⟩
end Go.Gx
namespace Go.Gx
open Go.Proofs
theorem kmapsv_oc94 : oneCellT Try.prog 94 = true := by kernel_rfl
theorem keys_itV (l Bs n₀ b : Nat) (ks : List (Str × Value)) (J Jx : List Str → World → Prop) (w : World) (hAb : AbidesFrom w.heap.size J)
    (hY : ∀ pre x W, J pre W → pre.length < ks.length → YieldAt Fence.wide 0 Try.prog l #[S x] W fun e W' =>
      (e = .returned (.bool true) ∧ J (pre ++ [x]) W' ∧ KpB n₀ W W') ∨ (e = .returned (.bool false) ∧ Jx (pre ++ [x]) W'))
    (hBs : w.cell? ⟨Bs, 0, none⟩ = some (.map (some b))) (hs : MapAt w b ks) (h0 : J [] w) :
    Ret Try.prog 99 #[.func (.yield l) #[] #[], .pointer (some ⟨Bs, 0, none⟩)] w fun _ W' => (∃ xs : List Str, xs.Perm (ks.map (·.1)) ∧ J xs W') ∨ (∃ pre : List Str, True ∧ Jx pre W') := by
  refine ret_of_W Try.func99 rfl (Nat.le_of_ble_eq_true rfl) (res0 rfl) ?_
  refine W.seq ?_
  refine W.region ?_
  refine L.val (x_ld (v := .map _) kmapsv_oc94 rfl hBs) rfl ?_
  refine L.rangeM Try.underlying94 rfl rfl hs (fun w5 it5 gn5 hw hz5 => ?_)
  have hJ := hAb _ _ _ _ h0 gn5 (fun r e => by cases e)
  refine L.nil ?_
  refine thn_n ?_
  refine W.block ?_
  refine W.loop (fun m' E w' => ∃ (vis : List (Str × Value)) (k : Nat), m' = ks.length - k ∧ E 0 = .func (.yield l) #[] #[] ∧ E 5 = .pointer (some ⟨w.heap.size, 0, none⟩) ∧ (J (vis.map (·.1)) w') ∧ (IterAt w' w.heap.size b ks vis) ∧ (k = vis.length)) (ks.length) ?_ ?_
  ·exact ⟨[], 0, by omega, by first | rfl | exact vi (by omega), by first | rfl | exact vi (by omega), (by exact hJ), (by first | assumption | omega | rfl), (by rfl)⟩
  ·rintro _ E wL6 ⟨vis, k, em, e0, e5, hJ, it5, hk⟩
   rw [upd_self e0, upd_self e5]
   refine W.seq ?_
   refine W.region ?_
   refine L.nextM rfl rfl it5 (fun hp6 => ?_) (fun kv6 w6 hkv6 hlt6 it5 gn6 hw hz6 => ?_)
   ·refine L.val (x_ext (v := .bool _) rfl rfl) rfl ?_
    refine L.nil ?_
    refine thn_n ?_
    refine W.seq ?_
    refine W.cond (b := false) rfl (fun h => nomatch h) (fun _ => ?_)
    refine W.exit (thn_x (thn_x (blk_hit ?_)))
    refine fin_mk (.inl rfl) ?_
    exact .inl ⟨_, hp6.map _, hJ⟩
   ·have hwk := IterAt.walk (r := w.heap.size) ‹IterAt wL6 w.heap.size b ks vis›
    have hJ := hAb _ _ _ _ hJ gn6 (fun r e => by cases e; exact ⟨Nat.le_refl _, hwk⟩)
    refine L.val (x_ext (v := .bool _) rfl rfl) rfl ?_
    refine L.nil ?_
    refine thn_n ?_
    refine W.seq ?_
    refine W.cond (b := true) rfl (fun _ => ?_) (fun h => nomatch h)
    refine W.skip ?_
    refine thn_n ?_
    refine W.block ?_
    refine W.seq ?_
    refine W.region ?_
    refine L.val (x_entry rfl it5) rfl ?_
    refine L.val (x_ext (v := S _) rfl rfl) rfl ?_
    refine L.val (x_as (v := S _) rfl) rfl ?_
    refine L.nil ?_
    refine thn_n ?_
    refine W.seq ?_
    refine W.wide (m := 1) (WI.region ?_)
    refine LI.val (fun _ => trivial) (fun _ h => by cases h) (x_mv (v := .func _ _ _) rfl) rfl ?_
    refine LI.val (fun _ => trivial) (fun _ h => by cases h) (x_mv (v := S _) rfl) rfl ?_
    refine LI.yield (R := fun e W' => ∃ z, e = .returned (.bool z) ∧ (z = true → J (vis.map (·.1) ++ [kv6.1]) W' ∧ KpB n₀ w6 W') ∧ (z = false → Jx (vis.map (·.1) ++ [kv6.1]) W')) (fun _ => trivial) rfl rfl rfl rfl ((hY (vis.map (·.1)) kv6.1 w6 hJ (by rw [List.length_map]; exact hlt6)).mono ?_) (fun e w' ⟨z, h, _⟩ => ⟨_, h⟩) ?_
    · rintro e W' (⟨rfl, a1, a2⟩ | ⟨rfl, a1⟩)
      · exact ⟨true, rfl, fun _ => ⟨a1, a2⟩, fun h => by cases h⟩
      · exact ⟨false, rfl, fun h => (by cases h), fun _ => a1⟩
    rintro u w12 ⟨z, hz, r1, r2⟩
    cases hz
    refine LI.val (fun _ => trivial) (fun _ h => by cases h) (x_not rfl) rfl ?_
    refine LI.nil ?_
    refine thn_n ?_
    refine W.cond (b := _) rfl (fun g13 => ?_) (fun g13 => ?_)
    ·have h13 := (not_t g13)
     refine W.ret (blk_r (thn_r (blk_r (fin_mk (.inr rfl) ?_))))
     exact .inr ⟨_, trivial, r2 (by simpa using g13)⟩
    ·have h13 := (not_f g13)
     have h13 := g13
     have it5 := it5.keep (r1 (by simpa using h13)).2.2
     refine W.skip ?_
     refine blk_n ?_
     refine thn_n ⟨rfl, ?_⟩
     refine ⟨_, ?_, vis ++ [kv6], k + 1, rfl, by first | rfl | exact vi (by omega), by first | rfl | exact vi (by omega), (by rw [List.map_append]; exact (r1 (by simpa using h13)).1), (by first | assumption | omega | rfl), (by simp [hk])⟩
     omega
theorem keys_seqV (Bs n₀ b : Nat) (ks : List (Str × Value)) (w : World) (hBs : Bs < w.heap.size) (hc : w.cell? ⟨Bs, 0, none⟩ = some (.map (some b))) (hs : MapAt w b ks) :
    SeqStopsK Fence.wide 1 Try.prog 99 #[.pointer (some ⟨Bs, 0, none⟩)] (fun x : Str => #[S x]) (KpB n₀) (fun xs => xs.Perm (ks.map (·.1))) (fun _ => True) ks.length w := by
  intro l J Jx w1 hW hA _ hY h0
  have hlt := hs.lt
  have hs1 : MapAt w1 b ks := by
    obtain ⟨es, c, h, hm⟩ := hs
    exact ⟨es, c, (hW.block b hlt).trans h, hm⟩
  have hc1 := (hW.cell (p := ⟨Bs, 0, none⟩) hBs).trans hc
  rw [show (#[Value.func (.yield l) #[] #[]] ++ #[Value.pointer (some ⟨Bs, 0, none⟩)] : Array Value) = #[.func (.yield l) #[] #[], .pointer (some ⟨Bs, 0, none⟩)] from rfl]
  refine callsIn_wide.2 (Calls.mono (keys_itV l Bs n₀ b ks J Jx w1 hA hY hc1 hs1 h0) ?_)
  rintro e w2 ⟨u, rfl, h⟩
  exact ⟨⟨u, rfl⟩, h⟩
theorem keys_okV (b : Nat) (w : World) : Ret Try.prog 80 #[.map (some b)] w fun r w' => r = .func (.func 99) #[] #[.pointer (some ⟨w.heap.size, 0, none⟩)] ∧ Box w' w.heap.size 94 [.map (some b)] ∧ Bel w w' := by
  refine ret_of_W Try.func80 rfl (Nat.le_of_ble_eq_true rfl) (res1 rfl) ?_
  have hB := Gr.refl (fun _ => False) w
  refine W.seq ?_
  refine W.region ?_
  refine L.box (cs := [.map (some b)]) rfl rfl (fun w1 bx1 hw hz1 => ?_)
  have hB := hB.carry hw
  refine L.val (x_as (v := _) rfl) rfl ?_
  refine L.nil ?_
  refine thn_n ?_
  refine W.seq ?_
  refine W.region ?_
  refine L.val (x_mkfn rfl rfl) rfl ?_
  refine L.val (x_as (v := _) rfl) rfl ?_
  refine L.nil ?_
  refine thn_n ?_
  refine W.ret (fin_mk (.inr rfl) ?_)
  exact ⟨rfl, bx1, hB⟩
end Go.Gx
namespace Go.Gx
open Go.Proofs Go.Sort
theorem kses11_el34 : elT Try.prog 34 3 = true := by kernel_rfl
theorem kses11_en53 : Go.Proofs.Enters Try.prog 53 := Go.Proofs.enters_of Try.func53 (by kernel_rfl) rfl
theorem kses11_en56 : Go.Proofs.Enters Try.prog 56 := Go.Proofs.enters_of Try.func56 (by kernel_rfl) rfl
theorem kses11_en57 : Go.Proofs.Enters Try.prog 57 := Go.Proofs.enters_of Try.func57 (by kernel_rfl) rfl
theorem kses11_en80 : Go.Proofs.Enters Try.prog 80 := Go.Proofs.enters_of Try.func80 (by kernel_rfl) rfl
theorem kses11_en99 : Go.Proofs.Enters Try.prog 99 := Go.Proofs.enters_of Try.func99 (by kernel_rfl) rfl
theorem kses11_fo97_0 : fieldOff Try.prog 97 0 = some 0 := by kernel_rfl
theorem kses11_fo97_1 : fieldOff Try.prog 97 1 = some 1 := by kernel_rfl
theorem kses11_oc30 : oneCellT Try.prog 30 = true := by kernel_rfl
theorem kses11_oc9 : oneCellT Try.prog 9 = true := by kernel_rfl
theorem kses11_oc94 : oneCellT Try.prog 94 = true := by kernel_rfl
theorem kses11_si34 : structInfo Try.prog 34 = some ([(0, 1), (1, 1), (2, 1)], [S [], S [], Value.bool false]) := by kernel_rfl
theorem kses11_sz9 : (Try.prog.info? 9).map (·.size) = some 1 := by kernel_rfl
theorem sortedNew_strs {base : Nat} {w : World} {v : Value} {ss : List Str} (h : SortedNew base w v ss) (hn : ss.Nodup) (hx : ∀ x ∈ ss, x.length ≤ 9223372036854775807) (hl : ss.length ≤ 70368744177664) :
    ∃ ks : List Str, ks.Perm ss ∧ ks.Pairwise (fun a b => ltStr a b = true) ∧ StrsAt (fun k => k < base) w v ks := by
  rcases h with ⟨rfl, rfl⟩ | ⟨b, cap, tl, d, hb, h1, h2, rfl, ⟨-, hR⟩, hd, hp, hs, hc⟩
  · exact ⟨[], List.Perm.refl _, List.Pairwise.nil, StrsAt.nil _ _ _ _ (by simp)⟩
  · have hperm : d.toList.Perm ss := by
      have h3 := hp.2.2
      have e1 : (d.extract 0 ss.length).toList = d.toList := by simp [← hd]
      have e2 : (ss.toArray.extract 0 ss.length).toList = ss := by simp
      rw [e1, e2] at h3; exact h3
    have hnd : d.toList.Nodup := hperm.nodup_iff.2 hn
    refine ⟨d.toList, hperm, ?_, ?_⟩
    · rw [List.pairwise_iff_getElem]
      intro i j hi hj hij
      have hi' : i < d.size := by simpa using hi
      have hj' : j < d.size := by simpa using hj
      have h3 := hs i j (Nat.zero_le _) hij (by omega)
      rw [getElem!_pos d j hj', getElem!_pos d i hi'] at h3
      refine lt_tot h3 (fun e => ?_)
      have h4 := List.pairwise_iff_getElem.1 hnd i j hi hj hij
      exact h4 (by simpa using e.symm)
    · have hdl : d.toList.length = ss.length := by simpa using hd
      refine ⟨some ⟨b, 0, none⟩, cap, by rw [hdl], by omega, hc, by omega, fun x hx' => hx x (hperm.mem_iff.1 hx'), fun _ => ⟨b, 0, rfl, by omega, fun i hi => hR.cell0 ?_⟩⟩
      have hlen : i < (d.toList.map S).length := by simpa using hi
      rw [List.nil_append, List.getElem?_append_left hlen, List.getElem?_map, List.getElem?_eq_getElem hi, List.getD_eq_getElem?_getD, List.getElem?_eq_getElem hi]; rfl
def liveAt (l : List Ed) (k : Str) : Option Ed := (valE l k).map fun v => ⟨k, v, false⟩
theorem rises_ext {l m : List Ed} (hl : Rises l) (hm : Rises m) (h : ∀ e, e ∈ l ↔ e ∈ m) : l = m := by
  have hn : ∀ {l : List Ed}, Rises l → l.Nodup := fun hl => hl.1.imp fun {a b} h e => by rw [e, lt_irr] at h; cases h
  have hp : l.Perm m := (List.perm_ext_iff_of_nodup (hn hl) (hn hm)).2 h
  exact List.Perm.eq_of_pairwise (le := fun a b => ltStr a.key b.key = true) (fun a b _ _ h1 h2 => by rw [lt_as h1] at h2; cases h2) hl.1 hm.1 hp
theorem comes_mem {h : List Ed} {e : Ed} : e ∈ comes [] h ↔ e.gone = false ∧ valE h e.key = some e.val := by
  rw [rises_find (comes_rises rises_nil), comes_val rises_nil, List.nil_append]
theorem live_mem {h : List Ed} {ks : List Str} (hk : ∀ k, valE h k ≠ none → k ∈ ks) {e : Ed} : e ∈ ks.filterMap (liveAt h) ↔ e.gone = false ∧ valE h e.key = some e.val := by
  rw [List.mem_filterMap]
  constructor
  · rintro ⟨k, hk, he⟩
    unfold liveAt at he
    obtain ⟨v, hv, rfl⟩ := Option.map_eq_some_iff.1 he
    exact ⟨rfl, hv⟩
  · rintro ⟨hg, hv⟩
    refine ⟨e.key, hk _ (by rw [hv]; simp), ?_⟩
    unfold liveAt
    rw [hv]
    cases e; simp_all
theorem live_rises {h : List Ed} {ks : List Str} (hs : ks.Pairwise (fun a b => ltStr a b = true)) : Rises (ks.filterMap (liveAt h)) := by
  constructor
  · rw [List.pairwise_filterMap]
    refine hs.imp fun {a b} hab e he e' he' => ?_
    unfold liveAt at he he'
    obtain ⟨v, -, rfl⟩ := Option.map_eq_some_iff.1 he
    obtain ⟨v', -, rfl⟩ := Option.map_eq_some_iff.1 he'
    exact hab
  · intro e he
    obtain ⟨k, -, he⟩ := List.mem_filterMap.1 he
    unfold liveAt at he
    obtain ⟨v, -, rfl⟩ := Option.map_eq_some_iff.1 he
    rfl
theorem live_state {h : List Ed} {ks : List Str} (hs : ks.Pairwise (fun a b => ltStr a b = true)) (hk : ∀ k, valE h k ≠ none → k ∈ ks) : ks.filterMap (liveAt h) = comes [] h :=
  rises_ext (live_rises hs) (comes_rises rises_nil) fun e => by rw [live_mem hk, comes_mem]
theorem filterMap_self {α : Type} {f : α → Option α} : ∀ {l : List α}, (∀ x ∈ l, f x = some x) → l.filterMap f = l
  | [], _ => rfl
  | a :: l, h => by rw [List.filterMap_cons, h a (by simp)]; simp only; rw [filterMap_self fun x hx => h x (by simp [hx])]
theorem len_subS {l m : List Str} (hd : l.Nodup) (hs : ∀ x, x ∈ l → x ∈ m) : l.length ≤ m.length := by
  induction l generalizing m with
  | nil => simp
  | cons x l ih =>
    rw [List.nodup_cons] at hd
    have hx := hs x (by simp)
    have := ih (m := m.erase x) hd.2 fun y hy => (List.mem_erase_of_ne (fun e => hd.1 (by rw [← e]; exact hy))).2 (hs y (by simp [hy]))
    rw [List.length_erase_of_mem hx] at this
    have := List.length_pos_of_mem hx
    simp; omega
theorem keys_state {h : List Ed} {ks : List Str} (hs : ks.Pairwise (fun a b => ltStr a b = true)) (hk : ∀ k, k ∈ ks ↔ valE h k ≠ none) : ks = (comes [] h).map (·.key) := by
  rw [← live_state hs (fun k h => (hk k).2 h), List.map_filterMap]
  have : ∀ k ∈ ks, ((liveAt h k).map fun x => x.key) = some k := fun k hk' => by
    obtain ⟨v, hv⟩ := Option.ne_none_iff_exists'.1 ((hk k).1 hk')
    simp [liveAt, hv]
  exact (filterMap_self this).symm
theorem held_keys {ow : Labels} {t b bh bo : Nat} {w : World} {s : Bs} {vl : Value} {lh : List (Str × Value)} {lo : List (Int × Value)} {rows : List (List Value)} (h : BaseAt ow t w b s bh bo vl lh lo rows) :
    (lh.map (·.1)).Nodup ∧ (∀ k, k ∈ lh.map (·.1) ↔ vers 0 (s.first :: s.log) k ≠ []) ∧ (∀ k ∈ lh.map (·.1), ∃ e ∈ (s.first :: s.log).flatten, e.key = k) ∧ lh.length ≤ (s.first :: s.log).flatten.length := by
  have hk : ∀ k, k ∈ lh.map (·.1) ↔ vers 0 (s.first :: s.log) k ≠ [] := fun k => by
    rw [← idxK_mem]
    rcases h.held k with ⟨h1, h2⟩ | ⟨h1, v, h2, -⟩
    · rw [h1]
      unfold getK at h2
      split at h2
      · cases h2
      · simp_all
    · unfold getK at h2
      split at h2
      · simp_all
      · cases h2
  have he : ∀ k ∈ lh.map (·.1), ∃ e ∈ (s.first :: s.log).flatten, e.key = k := fun k hkm => by
    obtain ⟨x, hx⟩ := List.exists_mem_of_ne_nil _ ((hk k).1 hkm)
    exact ⟨x.2, vers_mem hx, (vers_from x hx).2.2⟩
  refine ⟨h.mapH.nodup, hk, he, ?_⟩
  have := len_subS h.mapH.nodup (m := (s.first :: s.log).flatten.map (·.key)) (fun k hk => by obtain ⟨e, he, rfl⟩ := he k hk; exact List.mem_map_of_mem he)
  rwa [List.length_map, List.length_map] at this
theorem vers_live {g : List (List Ed)} {n : Nat} {k : Str} (h : valE (g.take n).flatten k ≠ none) : vers 0 g k ≠ [] := fun e => by
  refine h ?_
  unfold valE
  cases n with
  | zero => simp [lastE, live]
  | succ n =>
    have := vers_seen (n := 0) (at_ := n) (g := g) (k := k)
    rw [e] at this
    rw [Nat.sub_zero] at this
    rw [← this]; rfl
theorem hist_take (s : Bs) (n : Nat) : s.hist n = ((s.first :: s.log).take (n + 1)).flatten := rfl
theorem hist_sub {s : Bs} {n : Nat} {e : Ed} (h : e ∈ s.hist n) : e ∈ (s.first :: s.log).flatten := by
  rw [hist_take] at h
  obtain ⟨l, hl, he⟩ := List.mem_flatten.1 h
  exact List.mem_flatten.2 ⟨l, List.mem_of_mem_take hl, he⟩
theorem filterMap_take {α β : Type} {f : α → Option β} {l : List α} {k : Nat} (h : k < l.length) (d : α) : (l.take (k + 1)).filterMap f = (l.take k).filterMap f ++ (f (l.getD k d)).toList := by
  rw [List.take_add_one, List.getElem?_eq_getElem h, List.filterMap_append, List.getD_eq_getElem?_getD, List.getElem?_eq_getElem h]
  simp only [Option.toList_some, Option.getD_some, List.filterMap_cons, List.filterMap_nil]
  cases f l[k] <;> rfl
theorem comes_ok {l : List Ed} {e : Ed} (h : ∀ x ∈ l, EdOk x) (he : e ∈ comes [] l) : EdOk e := by
  obtain ⟨-, hv⟩ := comes_mem.1 he
  unfold valE live at hv
  obtain ⟨x, hx, hv⟩ := Option.bind_eq_some_iff.1 hv
  obtain ⟨hk, hm⟩ := lastE_key hx
  split at hv
  · cases hv
  · have h1 := h x hm
    unfold EdOk at *
    rw [← hk, ← Option.some.inj hv]; exact h1
theorem state_ok (ow : Labels) (t b bh bo : Nat) (s : Bs) (vl : Value) (lh : List (Str × Value)) (lo : List (Int × Value)) (rows : List (List Value)) (w : World) (h : BaseAt ow t w b s bh bo vl lh lo rows)
    (hl : s.log.length ≤ 10000) (hn : (s.first :: s.log).flatten.length ≤ 1000000) :
    Ret Try.prog 47 #[.pointer (some ⟨b, 0, none⟩)] w fun v w' => EdsAt (fun k => k < w.heap.size) w' v s.state ∧ Bel w w' := by
  have hb := h.box
  have mh := h.mapH
  obtain ⟨hk1, hk2, hk3, hk4⟩ := held_keys h
  have hk2' := hk2
  obtain ⟨al, cl, rfl, hcl⟩ := own_shape h.log.1
  refine ret_of_W Try.func47 rfl (Nat.le_of_ble_eq_true rfl) (res1 rfl) ?_
  have hB := Gr.refl (fun _ => False) w
  refine W.seq ?_
  refine W.region ?_
  refine L.val (x_as (v := .slice _ _ _) rfl) rfl ?_
  refine L.nil ?_
  refine thn_n ?_
  refine W.seq ?_
  refine W.seq ?_
  refine W.region ?_
  refine L.val (x_mv (v := .pointer _) rfl) rfl ?_
  refine L.ret (x_call kses11_en53 rfl) rfl (none_ok b bh bo _ _ _ hb) ?_
  rintro v9 w9 ⟨rfl, hq⟩
  rw [hq]
  refine L.nil ?_
  refine thn_n ?_
  refine W.cond (b := _) rfl (fun g9 => ?_) (fun g9 => ?_)
  ·have h9 := g9
   cases g9
  ·have h9 := g9
   refine W.skip ?_
   refine thn_n ?_
   refine W.seq ?_
   refine W.region ?_
   refine L.val (x_as (v := .slice _ _ _) rfl) rfl ?_
   refine L.nil ?_
   refine thn_n ?_
   refine W.seq ?_
   refine W.seq ?_
   refine W.region ?_
   refine L.val (x_mv (v := .pointer _) rfl) rfl ?_
   refine L.val (x_nil rfl) rfl ?_
   refine L.val (x_fa kses11_fo97_0 rfl) rfl ?_
   refine L.val (x_ld (v := .map _) kses11_oc94 rfl (hb.cell0 rfl)) rfl ?_
   refine L.ret (x_call kses11_en80 rfl) rfl (keys_okV bh _) ?_
   rintro v14 w14 ⟨rfl, bx14, hw⟩
   have hB := hB.carry hw; have hb := hb.carry hw; have mh := mh.carry hw
   refine L.ret (x_call kses11_en57 rfl) rfl (sorted_ok _ _ (lh.map (·.1)) _ kses11_en99 (by rw [List.length_map]; omega) (fun xs hx => hx) (by have := keys_seqV w.heap.size w14.heap.size bh lh w14 bx14.lt (bx14.cell (i := 0) rfl) mh.str; rwa [List.length_map])) ?_
   rintro v15 w15 ⟨hN, hw⟩
   have hB := hB.carry hw; have hb := hb.carry hw; have mh := mh.carry hw; have bx14 := bx14.carry hw
   obtain ⟨ks, hkp, hks, hka⟩ := sortedNew_strs hN hk1 (fun x hx => by obtain ⟨e, he, rfl⟩ := hk3 x hx; exact (h.ok e he).1) (by rw [List.length_map]; omega)
   have hka := hka.mono (A' := fun k => w15.heap.size ≤ k) (fun b hb h => absurd h (by omega))
   obtain ⟨pk, ck, rfl, hka1, hka2, hka3, hka4, -⟩ := id hka
   have hz0 : w.heap.size ≤ w15.heap.size := by have := hB.size; have := hw.size; omega
   have hkl : ks.length ≤ 1000000 := by have := hkp.length_eq; rw [List.length_map] at this; omega
   refine L.val (x_len_slice Try.underlying37 rfl) rfl ?_
   refine L.val (x_mv (v := .int _ _) rfl) rfl ?_
   refine L.nil ?_
   refine thn_n ?_
   refine W.block ?_
   refine W.loop (fun m' E w' => ∃ (k : Nat) (v3 : Value), m' = ks.length - k ∧ E 0 = .pointer (some ⟨b, 0, none⟩) ∧ E 3 = v3 ∧ E 15 = .slice pk ks.length ck ∧ E 16 = .int .i64 (ks.length : Nat) ∧ E 17 = .int .i64 (k : Nat) ∧ (k ≤ ks.length) ∧ (Bel w w') ∧ (w15.heap.size ≤ w'.heap.size) ∧ (StrsAt (fun k => w15.heap.size ≤ k) w' (.slice pk ks.length ck) ks) ∧ (Own w' w15.heap.size 34 3 v3 ((ks.take k).filterMap (liveAt (s.hist s.log.length))).length (((ks.take k).filterMap (liveAt (s.hist s.log.length))).map edV).flatten)) (ks.length) ?_ ?_
   ·exact ⟨0, .slice none 0 0, by omega, by first | rfl | exact vi (by omega), by first | rfl | exact vi (by omega), by first | rfl | exact vi (by omega), by first | rfl | exact vi (by omega), by first | rfl | exact vi (by omega), (by first | assumption | omega | rfl), (by first | assumption | omega | rfl), (by first | assumption | omega | rfl), (by first | assumption | omega | rfl), (by exact own_nil)⟩
   ·rintro _ E wL18 ⟨k, v3, em, e0, e3, e15, e16, e17, hk, hB, hz15, hka, hO⟩
    rw [upd_self e0, upd_self e3, upd_self e15, upd_self e16, upd_self e17]
    refine W.seq ?_
    refine W.region ?_
    refine L.val (x_lss rfl rfl) rfl ?_
    refine L.nil ?_
    refine thn_n ?_
    refine W.seq ?_
    refine W.cond (b := _) rfl (fun g18 => ?_) (fun g18 => ?_)
    ·have h18 := of_decide_eq_true g18
     have hlt : k < ks.length := by omega
     obtain ⟨bk, ok, rfl, hck⟩ := hka.elem hlt
     obtain ⟨a3, c3, e3', -⟩ := own_shape hO
     subst e3'
     have hf := filterMap_take (f := liveAt (s.hist s.log.length)) hlt []
     have hll : ((ks.take k).filterMap (liveAt (s.hist s.log.length))).length ≤ 1000000 := by
       have h1 := List.length_filterMap_le (liveAt (s.hist s.log.length)) (ks.take k)
       rw [List.length_take] at h1; omega
     have hq3 := fun j hj => (Own.lt hO (j := j) hj).1
     have hsz0 := hB.size
     refine W.skip ?_
     refine thn_n ?_
     refine W.seq ?_
     refine W.block ?_
     refine W.seq ?_
     refine W.region ?_
     refine L.val (x_ia1 (j := k) Try.underlying37 kses11_sz9 rfl rfl (by omega) (by omega)) rfl ?_
     refine L.val (x_ld (v := S _) kses11_oc9 rfl hck) rfl ?_
     refine L.val (x_as (v := S _) rfl) rfl ?_
     refine L.nil ?_
     refine thn_n ?_
     refine W.seq ?_
     refine W.region ?_
     refine L.val (x_mv (v := .pointer _) rfl) rfl ?_
     refine L.val (x_mv (v := S _) rfl) rfl ?_
     refine L.val (x_mv (v := .pointer _) rfl) rfl ?_
     refine L.val (x_nil rfl) rfl ?_
     refine L.val (x_fa kses11_fo97_1 rfl) rfl ?_
     refine L.val (x_ld (v := .slice _ _ _) kses11_oc30 rfl ((h.bel hB).box.cell0 (i := 1) rfl)) rfl ?_
     refine L.val (x_len_slice Try.underlying30 rfl) rfl ?_
     refine L.ret (x_call kses11_en56 rfl) rfl (seen_ok ow t b bh bo s _ lh lo rows (ks.getD k []) s.log.length _ (h.bel hB) (by simp; omega)) ?_
     rintro v29 w29 ⟨rfl, hw⟩
     have hB := hB.carry hw; have hka := hka.carry hw; have hO := hO.carry hw
     have hz2 : w15.heap.size ≤ w29.heap.size := by have := hw.size; omega
     refine L.val (x_mv (v := _) rfl) rfl ?_
     refine L.val (x_ext (v := S _) rfl rfl) rfl ?_
     refine L.val (x_ext (v := .bool _) rfl rfl) rfl ?_
     refine L.val (x_as (v := S _) rfl) rfl ?_
     refine L.val (x_as (v := .bool _) rfl) rfl ?_
     refine L.nil ?_
     refine thn_n ?_
     refine W.seq ?_
     refine W.region ?_
     refine L.val (x_mv (v := .bool _) rfl) rfl ?_
     refine L.nil ?_
     refine thn_n ?_
     refine W.cond (b := _) rfl (fun g31 => ?_) (fun g31 => ?_)
     ·have h31 := g31
      obtain ⟨u, hu⟩ : ∃ u, valE (s.hist s.log.length) (ks.getD k []) = some u := by
        cases hv : valE (s.hist s.log.length) (ks.getD k []) with
        | none => rw [hv] at g31; cases g31
        | some u => exact ⟨u, rfl⟩
      have hul : (ansV (valE (s.hist s.log.length) (ks.getD k []))).1 = u := by rw [hu]; rfl
      have hla : liveAt (s.hist s.log.length) (ks.getD k []) = some ⟨ks.getD k [], (ansV (valE (s.hist s.log.length) (ks.getD k []))).1, false⟩ := by rw [hul]; unfold liveAt; rw [hu]; rfl
      rw [hla] at hf
      have hz29 := hz2
      refine W.region ?_
      refine L.val (x_mv (v := .slice _ _ _) rfl) rfl ?_
      refine L.val (x_mv (v := S _) rfl) rfl ?_
      refine L.val (x_mv (v := S _) rfl) rfl ?_
      refine L.val (x_build (cells := [S _, S _, .bool _]) kses11_si34 rfl rfl) rfl ?_
      refine L.bs (sz := 3) (cells := edV ⟨ks.getD k [], (ansV (valE (s.hist s.log.length) (ks.getD k []))).1, false⟩) Try.underlying22 kses11_el34 rfl rfl rfl rfl (fun w37 bx37 hw hz37 => ?_)
      have hB := hB.carry hw; have hka := hka.carry hw; have hO := hO.carry hw
      refine L.appendN (m := 1) Try.underlying22 kses11_el34 rfl rfl rfl hO rfl (holdsN_box bx37) (edV_one _) (by omega) (by omega) (fun v38 w38 hO38 hg hob38 => ?_)
      have hO2 : Own w38 w15.heap.size 34 3 v38 ((ks.take (k + 1)).filterMap (liveAt (s.hist s.log.length))).length (((ks.take (k + 1)).filterMap (liveAt (s.hist s.log.length))).map edV).flatten := by
        rw [hf]; simpa using hO38
      have hz2 : w15.heap.size ≤ w38.heap.size := by have := hg.size; omega
      have hB := hB.step hg (fun i hi e => by have := hq3 i e; omega)
      have hka := hka.carryR (R := fun j => some j = (Value.slice a3 ((ks.take k).filterMap (liveAt (s.hist s.log.length))).length c3).ownBlock) hg (fun j e => (hq3 j e))
      obtain ⟨a38, c38, e38, -⟩ := own_shape hO38
      subst e38
      refine L.val (x_as (v := .slice _ _ _) rfl) rfl ?_
      refine L.nil ?_
      refine blk_n ?_
      refine thn_n ?_
      refine W.region ?_
      refine L.val (x_add rfl rfl (wr64 (by omega))) rfl ?_
      refine L.val (x_mv (v := .int _ _) rfl) rfl ?_
      refine L.nil ?_
      refine thn_n ⟨rfl, ?_⟩
      refine ⟨_, ?_, k + 1, _, rfl, by first | rfl | exact vi (by omega), by first | rfl | exact vi (by omega), by first | rfl | exact vi (by omega), by first | rfl | exact vi (by omega), by first | rfl | exact vi (by omega), (by first | assumption | omega | rfl), (by first | assumption | omega | rfl), (by exact hz2), (by first | assumption | omega | rfl), (by exact hO2)⟩
      omega
     ·have h31 := g31
      have hv : valE (s.hist s.log.length) (ks.getD k []) = none := by
        cases hv : valE (s.hist s.log.length) (ks.getD k []) with
        | none => rfl
        | some u => rw [hv] at g31; cases g31
      have hla : liveAt (s.hist s.log.length) (ks.getD k []) = none := by unfold liveAt; rw [hv]; rfl
      rw [hla] at hf
      have hO2 : Own w29 w15.heap.size 34 3 (.slice a3 ((ks.take k).filterMap (liveAt (s.hist s.log.length))).length c3) ((ks.take (k + 1)).filterMap (liveAt (s.hist s.log.length))).length (((ks.take (k + 1)).filterMap (liveAt (s.hist s.log.length))).map edV).flatten := by
        rw [hf]; simpa using hO
      refine W.skip ?_
      refine blk_n ?_
      refine thn_n ?_
      refine W.region ?_
      refine L.val (x_add rfl rfl (wr64 (by omega))) rfl ?_
      refine L.val (x_mv (v := .int _ _) rfl) rfl ?_
      refine L.nil ?_
      refine thn_n ⟨rfl, ?_⟩
      refine ⟨_, ?_, k + 1, _, rfl, by first | rfl | exact vi (by omega), by first | rfl | exact vi (by omega), by first | rfl | exact vi (by omega), by first | rfl | exact vi (by omega), by first | rfl | exact vi (by omega), (by first | assumption | omega | rfl), (by first | assumption | omega | rfl), (by exact hz2), (by first | assumption | omega | rfl), (by exact hO2)⟩
      omega
    ·have h18 := dlt_f g18
     refine W.exit (thn_x (thn_x (blk_hit ?_)))
     refine thn_n ?_
     refine W.seq ?_
     refine W.region ?_
     have hk2 : k = ks.length := by omega
     have hll : (ks.filterMap (liveAt (s.hist s.log.length))).length ≤ 1000000 := Nat.le_trans (List.length_filterMap_le _ _) hkl
     rw [live_state (h := s.hist s.log.length) hks (fun k hv => hkp.mem_iff.2 ((hk2' k).2 (vers_live (n := s.log.length + 1) hv)))] at hll
     rw [hk2, List.take_length, live_state (h := s.hist s.log.length) hks (fun k hv => hkp.mem_iff.2 ((hk2' k).2 (vers_live (n := s.log.length + 1) hv)))] at hO
     obtain ⟨a3, c3, e3', -⟩ := own_shape hO
     subst e3'
     refine L.val (x_mv (v := .slice _ _ _) rfl) rfl ?_
     refine L.val (x_as (v := .slice _ _ _) rfl) rfl ?_
     refine L.nil ?_
     refine thn_n ?_
     refine W.ret (fin_mk (.inr rfl) ?_)
     refine ⟨?_, hB⟩
     have hpr := rows_pure (C := EdC) (A := fun _ => True) (w := wL18) (f := edV) (comes [] (s.hist s.log.length)) (fun e he => ?_)
     · exact hpr.done (A' := fun k => k < w.heap.size) hO (by
         omega) (fun _ _ => trivial) (fun j h1 h2 => by omega)
     · exact ⟨rfl, comes_ok (fun x hx => h.ok x (hist_sub hx)) he⟩
end Go.Gx
