/- A disk whose power may go: Flush, Boot. Conditions: none. -/
import Derived.Test.YtfbcmonbmkafpaaCjDsf2
import Derived.Test.YtfbcmonbmkafpaaCjMore
import Derived.Test.YtfbcmonbmkafpaaCjRowG
import Derived.Test.YtfbcmonbmkafpaaCjWal12
namespace Go.Gx
open Go.Proofs
theorem kdsf5_ag40 : aggT Try.prog 40 3 = true := by kernel_rfl
theorem kdsf5_ag86 : aggT Try.prog 86 64 = true := by kernel_rfl
theorem kdsf5_ag88 : aggT Try.prog 88 65 = true := by kernel_rfl
theorem kdsf5_en39 : Go.Proofs.Enters Try.prog 39 := Go.Proofs.enters_of Try.func39 (by kernel_rfl) rfl
theorem kdsf5_en40 : Go.Proofs.Enters Try.prog 40 := Go.Proofs.enters_of Try.func40 (by kernel_rfl) rfl
theorem kdsf5_en68 : Go.Proofs.Enters Try.prog 68 := Go.Proofs.enters_of Try.func68 (by kernel_rfl) rfl
theorem kdsf5_en69 : Go.Proofs.Enters Try.prog 69 := Go.Proofs.enters_of Try.func69 (by kernel_rfl) rfl
theorem kdsf5_fo42_0 : fieldOff Try.prog 42 0 = some 0 := by kernel_rfl
theorem kdsf5_fo42_1 : fieldOff Try.prog 42 1 = some 1 := by kernel_rfl
theorem kdsf5_fo42_2 : fieldOff Try.prog 42 2 = some 2 := by kernel_rfl
theorem kdsf5_fo42_5 : fieldOff Try.prog 42 5 = some 7 := by kernel_rfl
theorem kdsf5_fo88_0 : fieldOff Try.prog 88 0 = some 0 := by kernel_rfl
theorem kdsf5_fo88_1 : fieldOff Try.prog 88 1 = some 1 := by kernel_rfl
theorem kdsf5_mixed : Try.prog.follows .mixedOrders = true := by kernel_rfl
theorem kdsf5_oc3 : oneCellT Try.prog 3 = true := by kernel_rfl
theorem kdsf5_oc36 : oneCellT Try.prog 36 = true := by kernel_rfl
theorem kdsf5_oc37 : oneCellT Try.prog 37 = true := by kernel_rfl
theorem kdsf5_sz37 : (Try.prog.info? 37).map (·.size) = some 1 := by kernel_rfl
theorem kdsf5_sz4 : (Try.prog.info? 4).map (·.size) = some 1 := by kernel_rfl
theorem kdsf5_sz86 : (Try.prog.info? 86).map (·.size) = some 64 := by kernel_rfl
theorem kdsf5_sz88 : (Try.prog.info? 88).map (·.size) = some 65 := by kernel_rfl
theorem kdsf5_zr88 : (Try.prog.info? 88).bind (·.zero) = some (Value.agg [Value.int .i64 0, Value.int .u8 0, Value.int .u8 0, Value.int .u8 0, Value.int .u8 0, Value.int .u8 0, Value.int .u8 0, Value.int .u8 0, Value.int .u8 0, Value.int .u8 0, Value.int .u8 0, Value.int .u8 0, Value.int .u8 0, Value.int .u8 0, Value.int .u8 0, Value.int .u8 0, Value.int .u8 0, Value.int .u8 0, Value.int .u8 0, Value.int .u8 0, Value.int .u8 0, Value.int .u8 0, Value.int .u8 0, Value.int .u8 0, Value.int .u8 0, Value.int .u8 0, Value.int .u8 0, Value.int .u8 0, Value.int .u8 0, Value.int .u8 0, Value.int .u8 0, Value.int .u8 0, Value.int .u8 0, Value.int .u8 0, Value.int .u8 0, Value.int .u8 0, Value.int .u8 0, Value.int .u8 0, Value.int .u8 0, Value.int .u8 0, Value.int .u8 0, Value.int .u8 0, Value.int .u8 0, Value.int .u8 0, Value.int .u8 0, Value.int .u8 0, Value.int .u8 0, Value.int .u8 0, Value.int .u8 0, Value.int .u8 0, Value.int .u8 0, Value.int .u8 0, Value.int .u8 0, Value.int .u8 0, Value.int .u8 0, Value.int .u8 0, Value.int .u8 0, Value.int .u8 0, Value.int .u8 0, Value.int .u8 0, Value.int .u8 0, Value.int .u8 0, Value.int .u8 0, Value.int .u8 0, Value.int .u8 0].toArray) := by kernel_rfl
theorem flush_f (n0 b : Nat) (D : Dk) (K : Fl) (w : World) (h : DiskF n0 w b D K) (ha : D.armed ≤ 9223372036854775807) (hd : D.dead = false) (hn : n0 ≤ w.heap.size) (hf : D.ops < 1000000000) :
    Ret Try.prog 56 #[.pointer (some ⟨b, 0, none⟩)] w fun v w' => v = .int .i64 (if D.armed = 1 then 190 else 0) ∧ DiskF n0 w' b (flF D K) (Kn D K) ∧ Dg dkTy n0 w w' := by
  obtain ⟨h1, h2, bp, vc, vk, h3, hb, hk, hp, hc⟩ := id h
  have hk : AllBl n0 w vk K.keep := hk
  obtain ⟨pk, ck, rfl, -⟩ := id hk
  obtain ⟨ac, cc, rfl, hcc⟩ := own_shape hc
  have hr : readyD D 0 = 0 := by unfold readyD; rw [hd, if_neg (by decide), if_pos ⟨by omega, by have := h2.pos; omega⟩]
  have hbpne : bp ≠ b := box_ne hp hb (by decide)
  have hqc : ∀ j, some j = (Value.slice ac D.ca.length cc).ownBlock → j ≠ b ∧ j ≠ bp := fun j hj => ⟨fun e => own_box_ne hc hb (by decide) (e ▸ hj), fun e => own_box_ne hc hp (by decide) (e ▸ hj)⟩
  have hca : ∀ x ∈ D.ca, x.2.length = 64 := fun x hx => (h2.cac x hx).2
  have hfew := h2.few
  have hD1 : DkOk { D with ops := D.ops + 1, armed := D.armed - 1 } := ⟨h2.pos, h2.small, h2.sec, h2.cac, by dsimp only; omega⟩
  refine ret_of_W Try.func56 rfl (Nat.le_of_ble_eq_true rfl) (res1 rfl) ?_
  refine W.seq ?_
  refine W.region ?_
  refine L.val (x_as (v := .int _ _) rfl) rfl ?_
  refine L.nil ?_
  refine thn_n ?_
  refine W.seq ?_
  refine W.seq ?_
  refine W.region ?_
  refine L.val (x_mv (v := .pointer _) rfl) rfl ?_
  refine L.ret (x_call kdsf5_en40 rfl) rfl (ready_d n0 b D _ _ h.at) ?_
  rintro _ w7 ⟨rfl, hq⟩
  rw [hq, hr]
  refine L.val (x_as (v := .int _ _) rfl) rfl ?_
  refine L.nil ?_
  refine thn_n ?_
  refine W.seq ?_
  refine W.region ?_
  refine L.val (x_mv (v := .int _ _) rfl) rfl ?_
  refine L.val (x_neq rfl rfl) rfl ?_
  refine L.nil ?_
  refine thn_n ?_
  refine W.cond (b := _) rfl (fun g9 => ?_) (fun g9 => ?_)
  ·have h9 := dne_t g9
   cases g9
  ·have h9 := dne_f g9
   refine W.skip ?_
   refine thn_n ?_
   refine W.seq ?_
   refine W.seq ?_
   refine W.region ?_
   refine L.val (x_mv (v := .pointer _) rfl) rfl ?_
   refine L.ret (x_call kdsf5_en68 rfl) rfl (falls_f b _ _ _ _ _ D _ hb (by omega) ha) ?_
   rintro _ w12 ⟨rfl, hb12, hG12⟩
   have hp := hp.carryR hG12 (fun e => hbpne e)
   have hc := Own.carryR hc hG12 (fun j hj e => (hqc j hj).1 e)
   have hk := hk.box hb (by kernel_rfl) h1 hG12
   have hG : Dg dkTy n0 w w12 := hG12.mono (fun k _ e => by have e : k = b := e; rw [e]; exact DkB.box hb (by kernel_rfl) h1)
   have hb := hb12
   refine L.nil ?_
   refine thn_n ?_
   refine W.cond (b := _) rfl (fun g12 => ?_) (fun g12 => ?_)
   ·have h12 := g12
    have ha1 : D.armed = 1 := by simpa using g12
    refine W.seq ?_
    refine W.region ?_
    refine L.val (x_mv (v := .pointer _) rfl) rfl ?_
    refine L.val (x_mv (v := .pointer _) rfl) rfl ?_
    refine L.val (x_nil rfl) rfl ?_
    refine L.val (x_fa kdsf5_fo42_2 rfl) rfl ?_
    refine L.val (x_ldn (vs := [.slice pk K.keep.length ck, .int .i64 K.torn, .int .i64 K.cut]) kdsf5_ag40 rfl rfl (fall_row hb)) rfl ?_
    refine L.ret (x_call kdsf5_en69 rfl) rfl (drop_f n0 b bp _ _ _ _ _ { D with ops := D.ops + 1, armed := D.armed - 1 } K _ h1 h3 hD1 hb hk hp hc) ?_
    rintro _ w18 ⟨hb18, hp18, hG18⟩
    refine L.nil ?_
    refine thn_n ?_
    refine W.seq ?_
    refine W.region ?_
    refine L.val (x_as (v := .int _ _) rfl) rfl ?_
    refine L.nil ?_
    refine thn_n ?_
    refine W.ret (thn_r (fin_mk (.inr rfl) ?_))
    have e : flF D K = dropD { D with ops := D.ops + 1, armed := D.armed - 1 } K := by unfold flF; rw [if_pos ha1]; rfl
    rw [e, if_pos ha1]
    unfold Kn
    rw [if_pos ha1]
    exact ⟨rfl, diskF_drop h1 h3 hD1 hb18 hp18, hG.trans hG18⟩
   ·have h12 := g12
    have ha1 : ¬ D.armed = 1 := by simpa using g12
    refine W.skip ?_
    refine thn_n ?_
    refine W.seq ?_
    refine W.seq ?_
    refine W.region ?_
    refine L.val (x_mv (v := .pointer _) rfl) rfl ?_
    refine L.val (x_nil rfl) rfl ?_
    refine L.val (x_fa kdsf5_fo42_1 rfl) rfl ?_
    refine L.val (x_ld (v := .slice _ _ _) kdsf5_oc37 rfl (hb.cell0 rfl)) rfl ?_
    refine L.val (x_len_slice Try.underlying37 rfl) rfl ?_
    refine L.val (x_mv (v := .int _ _) rfl) rfl ?_
    refine L.nil ?_
    refine thn_n ?_
    refine W.block ?_
    refine W.loop (fun m' E w' => ∃ (j : Nat), m' = D.ca.length - j ∧ E 0 = .pointer (some ⟨b, 0, none⟩) ∧ E 22 = .slice ac D.ca.length cc ∧ E 23 = .int .i64 (D.ca.length : Nat) ∧ E 24 = .int .i64 (j : Nat) ∧ (j ≤ D.ca.length) ∧ (Dg dkTy n0 w w') ∧ (Box w' b 42 (dkV (.slice (some ⟨bp, 0, none⟩) D.pl.length D.pl.length) (.slice ac D.ca.length cc) (.slice pk K.keep.length ck) K.torn K.cut { D with ops := D.ops + 1, armed := D.armed - 1 })) ∧ (Box w' bp 86 (plV (apD D.pl (D.ca.take j)))) ∧ (Own w' n0 88 65 (.slice ac D.ca.length cc) D.ca.length (D.ca.map waV).flatten) ∧ (AllBl n0 w' (.slice pk K.keep.length ck) K.keep)) (D.ca.length) ?_ ?_
    ·exact ⟨0, by omega, by first | rfl | exact vi (by omega) | exact vs (by first | assumption | (rw [hst]; done) | (rw [hst]; simp only [List.append_assoc])), by first | rfl | exact vi (by omega) | exact vs (by first | assumption | (rw [hst]; done) | (rw [hst]; simp only [List.append_assoc])), by first | rfl | exact vi (by omega) | exact vs (by first | assumption | (rw [hst]; done) | (rw [hst]; simp only [List.append_assoc])), by first | rfl | exact vi (by omega) | exact vs (by first | assumption | (rw [hst]; done) | (rw [hst]; simp only [List.append_assoc])), (by first | assumption | omega | rfl), (by first | assumption | omega | rfl), (by first | assumption | omega | rfl), (by first | assumption | omega | rfl), (by first | assumption | omega | rfl), (by first | assumption | omega | rfl)⟩
    ·rintro _ E wL25 ⟨j, em, e0, e22, e23, e24, hj, hG, hb, hp, hc, hk⟩
     rw [upd_self e0, upd_self e22, upd_self e23, upd_self e24]
     refine W.seq ?_
     refine W.region ?_
     refine L.val (x_lss rfl rfl) rfl ?_
     refine L.nil ?_
     refine thn_n ?_
     refine W.seq ?_
     refine W.cond (b := _) rfl (fun g25 => ?_) (fun g25 => ?_)
     ·have h25 := of_decide_eq_true g25
      have hlt : j < D.ca.length := by omega
      obtain ⟨bc, rfl⟩ := own_pos hc (by omega)
      have hrow := own_rowK hc (ca_lens hca) (i := j) (by rw [List.length_map]; exact hlt)
      rw [ca_get hlt] at hrow
      obtain ⟨x, hx⟩ : ∃ x, x = D.ca.getD j default := ⟨_, rfl⟩
      rw [← hx] at hrow
      have hxm : x ∈ D.ca := by rw [hx, List.getD_eq_getElem?_getD, List.getElem?_eq_getElem hlt]; exact List.getElem_mem hlt
      obtain ⟨hx1, hx2⟩ := h2.cac x hxm
      have hwl : (waV x).length = 65 := waV_len hx2
      have hst := apD_take (pl := D.pl) hlt
      rw [← hx] at hst
      have hsec : ∀ s ∈ apD D.pl (D.ca.take j), s.length = 64 := apD_sec h2.sec (fun y hy => hca y (List.mem_of_mem_take hy))
      have hapl := apD_len (D.ca.take j) D.pl
      have hbl := hb.lt; have hbpl := hp.lt
      have hB := Gr.refl (fun _ => False) wL25
      refine W.skip ?_
      refine thn_n ?_
      refine W.seq ?_
      refine W.block ?_
      refine W.seq ?_
      refine W.region ?_
      have hc0 := hc
      refine L.val (x_ia (j := j) Try.underlying37 kdsf5_sz88 rfl rfl (by omega) (by omega)) rfl ?_
      refine L.val (x_ldn (vs := waV x) kdsf5_ag88 rfl hwl hrow) rfl ?_
      refine L.alloc (cs := [Value.int .i64 0, Value.int .u8 0, Value.int .u8 0, Value.int .u8 0, Value.int .u8 0, Value.int .u8 0, Value.int .u8 0, Value.int .u8 0, Value.int .u8 0, Value.int .u8 0, Value.int .u8 0, Value.int .u8 0, Value.int .u8 0, Value.int .u8 0, Value.int .u8 0, Value.int .u8 0, Value.int .u8 0, Value.int .u8 0, Value.int .u8 0, Value.int .u8 0, Value.int .u8 0, Value.int .u8 0, Value.int .u8 0, Value.int .u8 0, Value.int .u8 0, Value.int .u8 0, Value.int .u8 0, Value.int .u8 0, Value.int .u8 0, Value.int .u8 0, Value.int .u8 0, Value.int .u8 0, Value.int .u8 0, Value.int .u8 0, Value.int .u8 0, Value.int .u8 0, Value.int .u8 0, Value.int .u8 0, Value.int .u8 0, Value.int .u8 0, Value.int .u8 0, Value.int .u8 0, Value.int .u8 0, Value.int .u8 0, Value.int .u8 0, Value.int .u8 0, Value.int .u8 0, Value.int .u8 0, Value.int .u8 0, Value.int .u8 0, Value.int .u8 0, Value.int .u8 0, Value.int .u8 0, Value.int .u8 0, Value.int .u8 0, Value.int .u8 0, Value.int .u8 0, Value.int .u8 0, Value.int .u8 0, Value.int .u8 0, Value.int .u8 0, Value.int .u8 0, Value.int .u8 0, Value.int .u8 0, Value.int .u8 0]) kdsf5_zr88 rfl rfl (fun w5 bx5 hw hz5 => ?_)
      have hB := hB.carry hw; have hb := hb.carry hw; have hp := hp.carry hw; have hc := hc.carry hw; have hk := hk.carry hw
      have bx5o := bx5
      refine L.setRow kdsf5_ag88 rfl rfl bx5 rfl hwl (waV_one x) (fun wl28 bx5 hw hzl28 => ?_)
      have hsz := hB.size
      have hB := hB.set hw (by omega); have hb := hb.carryR hw (by omega); have hp := hp.carryR hw (by first | exact fun e => hbpne e | omega); have hc := Own.carryR hc hw (fun i hi e => by have e : i = _ := e; have := (Own.lt hc0 hi).2; omega); have hk := hk.box bx5o (by kernel_rfl) (by omega) hw
      have hB28 := hB
      refine L.nil ?_
      refine thn_n ?_
      refine W.drawD (fun i => i = bp ∨ i = bp) (fun _ => False) 9 kdsf5_mixed (fun wD28 hw => ?_)
      have hb := hb.carry hw; have bx5 := bx5.carry hw; have hc := hc.carry hw; have hB := hB.carry hw; have hk := hk.carry hw
      have hB0 := Gr.refl (fun _ => False) wD28; have hR0 := Gr.refl (fun i => i = bp ∨ i = bp) wD28
      have hD := hw
      refine LAD.take0 (i := 0) rfl (by kernel_rfl) (by kernel_rfl) (by kernel_rfl) (by kernel_rfl) (fun w hw => x_mv (v := .pointer _) rfl) rfl ?_
      refine LAD.take0 (i := 1) rfl (by kernel_rfl) (by kernel_rfl) (by kernel_rfl) (by kernel_rfl) (fun w hw => x_nil rfl) rfl ?_
      refine LAD.take0 (i := 2) rfl (by kernel_rfl) (by kernel_rfl) (by kernel_rfl) (by kernel_rfl) (fun w hw => x_fa kdsf5_fo42_0 rfl) rfl ?_
      refine LAD.take0 (i := 3) rfl (by kernel_rfl) (by kernel_rfl) (by kernel_rfl) (by kernel_rfl) (fun w hw => x_ld (v := .slice _ _ _) kdsf5_oc36 rfl (hw.keepR (fun e => by have e : (_ : Nat) = _ := e.elim id id; (try dsimp only at e); omega) (hb.cell0 rfl))) rfl ?_
      refine LAD.take0 (i := 4) rfl (by kernel_rfl) (by kernel_rfl) (by kernel_rfl) (by kernel_rfl) (fun w hw => x_fa kdsf5_fo88_0 rfl) rfl ?_
      refine LAD.take0 (i := 5) rfl (by kernel_rfl) (by kernel_rfl) (by kernel_rfl) (by kernel_rfl) (fun w hw => x_ld (v := .int _ _) kdsf5_oc3 rfl (hw.keepR (fun e => by have e : (_ : Nat) = _ := e.elim id id; (try dsimp only at e); omega) (bx5.cell0 rfl))) rfl ?_
      refine LAD.take0 (i := 6) rfl (by kernel_rfl) (by kernel_rfl) (by kernel_rfl) (by kernel_rfl) (fun w hw => x_fa kdsf5_fo88_1 rfl) rfl ?_
      refine LAD.take0 (i := 7) rfl (by kernel_rfl) (by kernel_rfl) (by kernel_rfl) (by kernel_rfl) (fun w hw => x_ldn (vs := x.2.map B8) kdsf5_ag86 rfl (by rw [List.length_map, hx2]) (hw.keepRowR (fun e => by have e : (_ : Nat) = _ := e.elim id id; (try dsimp only at e); omega) (by rw [List.length_map, hx2]) (bx5.rowD 1 (k := 64) (by simp [waV, hx2])))) rfl ?_
      refine LAD.take0 (i := 8) rfl (by kernel_rfl) (by kernel_rfl) (by kernel_rfl) (by kernel_rfl) (fun w hw => x_ia (j := x.1) Try.underlying36 kdsf5_sz86 rfl rfl (by omega) (by omega)) rfl ?_
      refine LAD.step (rs := [9]) hR0 (fun _ => hB0) (by kernel_rfl) (by simp) ⟨⟨_, rfl, ?_⟩, trivial⟩
      refine L.setPart (k := 64) kdsf5_ag86 rfl rfl (hp.carry hD) (by rw [plV_len hsec, hapl]; omega) (by rw [List.length_map, hx2]) (B8_one _) (fun wl38 hpN hw hzl38 => ?_)
      rw [plV_set hsec (by omega), ← hst] at hpN
      have hR0 := hR0.into hw (.inr rfl)
      refine L.nil ?_
      refine thn_n ?_
      refine LAD.done (by kernel_rfl) (by kernel_rfl) hR0 ?_
      have hb := hb.carryR hR0 (fun e => hbpne (e.elim id id).symm)
      have bx5 := trivial
      have hc := Own.carryR hc hR0 (fun i hi e => (hqc i hi).2 (e.elim id id))
      have hB := trivial
      have hk := hk.box (hp.carry hD) (by kernel_rfl) h3 (hR0.mono (fun _ _ e => e.elim id id))
      have hp2 := hpN
      have hall : Gr (fun i => i = bp ∨ i = bp) wl28 wl38 := ((Gr.refl _ _).carry hD).trans hR0
      have hG2 : Dg dkTy n0 w wl38 := (hG.trans (Dg.of_bel hB28)).trans (hall.mono fun k _ e => by rw [e.elim id id]; exact DkB.box hp (by kernel_rfl) h3)
      refine blk_n ?_
      refine thn_n ?_
      refine W.region ?_
      refine L.val (x_add rfl rfl (wr64 (by omega))) rfl ?_
      refine L.val (x_mv (v := .int _ _) rfl) rfl ?_
      refine L.nil ?_
      refine thn_n ⟨rfl, ?_⟩
      refine ⟨_, ?_, j + 1, rfl, by first | rfl | exact vi (by omega) | exact vs (by first | assumption | (rw [hst]; done) | (rw [hst]; simp only [List.append_assoc])), by first | rfl | exact vi (by omega) | exact vs (by first | assumption | (rw [hst]; done) | (rw [hst]; simp only [List.append_assoc])), by first | rfl | exact vi (by omega) | exact vs (by first | assumption | (rw [hst]; done) | (rw [hst]; simp only [List.append_assoc])), by first | rfl | exact vi (by omega) | exact vs (by first | assumption | (rw [hst]; done) | (rw [hst]; simp only [List.append_assoc])), (by first | assumption | omega | rfl), (by exact hG2), (by first | assumption | omega | rfl), (by exact hp2), (by first | assumption | omega | rfl), (by first | assumption | omega | rfl)⟩
      omega
     ·have h25 := dlt_f g25
      have hjn : j = D.ca.length := by omega
      subst hjn
      rw [List.take_length] at hp
      have hb25 := hb
      refine W.exit (thn_x (thn_x (blk_hit ?_)))
      refine thn_n ?_
      refine W.seq ?_
      refine W.region ?_
      refine L.val (x_mv (v := .pointer _) rfl) rfl ?_
      refine L.val (x_nil rfl) rfl ?_
      refine L.val (x_fa kdsf5_fo42_1 rfl) rfl ?_
      refine L.set (v := .slice _ _ _) kdsf5_sz37 rfl rfl rfl hb rfl (fun wl44 hb hw hzl44 => ?_)
      have hp := hp.carryR hw (by first | exact fun e => hbpne e | omega)
      refine L.nil ?_
      refine thn_n ?_
      refine W.seq ?_
      refine W.region ?_
      refine L.val (x_as (v := .int _ _) rfl) rfl ?_
      refine L.nil ?_
      refine thn_n ?_
      refine W.ret (fin_mk (.inr rfl) ?_)
      have e : flF D K = { flD D with armed := D.armed - 1 } := by unfold flF; rw [if_neg ha1]
      rw [e, if_neg ha1]
      unfold Kn
      rw [if_neg ha1]
      refine ⟨rfl, ⟨h1, ⟨?_, ?_, apD_sec h2.sec hca, fun x hx => (by cases hx), ?_⟩, bp, .slice none 0 0, .slice pk K.keep.length ck, h3, ?_, hk.box hb25 (by kernel_rfl) h1 hw, hp, own_nil⟩, hG.trans (hw.mono fun k _ e => ?_)⟩
      · show 0 < (apD D.pl D.ca).length; rw [apD_len]; exact h2.pos
      · show (apD D.pl D.ca).length ≤ _; rw [apD_len]; exact h2.small
      · show 0 ≤ 100000 ∧ D.ops + 1 ≤ _; omega
      · have e1 : ({ flD D with armed := D.armed - 1 } : Dk).pl.length = D.pl.length := apD_len _ _
        rw [e1]
        exact hb
      · have e : k = b := e
        rw [e]; exact DkB.box hb25 (by kernel_rfl) h1
theorem boot_f (n0 b : Nat) (D : Dk) (K : Fl) (w : World) (h : DiskF n0 w b D K) : Ret Try.prog 24 #[.pointer (some ⟨b, 0, none⟩)] w fun v w' => v = .int .i64 0 ∧ DiskF n0 w' b { D with dead := false } K ∧ Dg dkTy n0 w w' := by
  obtain ⟨h1, h2, bp, vc, vk, h3, hb, hk, hp, hc⟩ := id h
  have hk : AllBl n0 w vk K.keep := hk
  have hbpne : bp ≠ b := box_ne hp hb (by decide)
  have hb0 := hb
  refine ret_of_W Try.func24 rfl (Nat.le_of_ble_eq_true rfl) (res1 rfl) ?_
  refine W.seq ?_
  refine W.region ?_
  refine L.val (x_as (v := .int _ _) rfl) rfl ?_
  refine L.nil ?_
  refine thn_n ?_
  refine W.seq ?_
  refine W.seq ?_
  refine W.region ?_
  refine L.val (x_mv (v := .pointer _) rfl) rfl ?_
  refine L.ret (x_call kdsf5_en39 rfl) rfl (none_d n0 b D _ h.at) ?_
  rintro _ w4 ⟨rfl, hq⟩
  rw [hq]
  refine L.nil ?_
  refine thn_n ?_
  refine W.cond (b := _) rfl (fun g4 => ?_) (fun g4 => ?_)
  ·have h4 := g4
   cases g4
  ·have h4 := g4
   refine W.skip ?_
   refine thn_n ?_
   refine W.seq ?_
   refine W.region ?_
   refine L.val (x_mv (v := .pointer _) rfl) rfl ?_
   refine L.val (x_nil rfl) rfl ?_
   refine L.val (x_fa kdsf5_fo42_5 rfl) rfl ?_
   refine L.set (v := .bool _) kdsf5_sz4 rfl rfl rfl hb rfl (fun wl8 hb hw hzl8 => ?_)
   refine L.nil ?_
   refine thn_n ?_
   refine W.seq ?_
   refine W.region ?_
   refine L.val (x_as (v := .int _ _) rfl) rfl ?_
   refine L.nil ?_
   refine thn_n ?_
   refine W.ret (fin_mk (.inr rfl) ?_)
   refine ⟨rfl, ⟨h1, ⟨h2.pos, h2.small, h2.sec, h2.cac, h2.few⟩, bp, vc, vk, h3, hb, hk.box hb0 (by kernel_rfl) h1 hw, hp.carryR hw (fun e => hbpne e), Own.carryR hc hw (fun j hj e => by have e : j = b := e; exact own_box_ne hc hb0 (by decide) (e ▸ hj))⟩, hw.mono (fun k _ e => ?_)⟩
   have e : k = b := e
   rw [e]; exact DkB.box hb0 (by kernel_rfl) h1
end Go.Gx
namespace Go.Gx
open Go.ChangeShapes Go.WideShapes Go.Deep Go.RowKit
section
variable {P : Program} {n : Nat} {Q : Post} {D : List Deferred} {E : Env} {w : World}
theorem L.appendNC {base : Nat} {e : TypeId} {sz : Nat} {v : Value} {k : Nat} {xs : List Value} {ops : Array Oper} {r : List Oper} {d : Nat} {x y : Operand} {T t : TypeId} {p : String} {af : Array Edge} {u : Value} {m Bt : Nat} {news : List Value}
    (hu : P.underlying T = some (.slice e)) (he : elT P e sz = true) (hbt : (P.info? e).map (fun i => decide (i.bytes ≤ Bt)) = some true) (h1B : 1 ≤ Bt) (hx : ev E x = v) (hy : ev E y = u) (hd : Nat.blt d n = true) (h : Own w base e sz v k xs)
    (hl : news.length = m * sz) (hn : HoldsN w u m news) (h1 : ∀ u ∈ news, u.oneCell' = true) (hk : (k + m) * Bt ≤ 140737488355328) (hb : base ≤ w.heap.size)
    (kk : ∀ v' w', Own w' base e sz v' (k + m) (xs ++ news) → Gr (fun j => some j = v.ownBlock) w w' → (v'.ownBlock = v.ownBlock ∨ v'.ownBlock = some w.heap.size) → L P n ops Q r D (upd E d v') w') :
    L P n ops Q (⟨some d, .call ⟨.builtin .append, #[x, y], #[T, T]⟩, t, p, af, none⟩ :: r) D E w := by
  obtain ⟨i, z, hi, hz, hs, hzs, hpos, -⟩ := elT_spec he
  have hby : i.bytes ≤ Bt := by rw [hi] at hbt; simpa using hbt
  rcases hn with ⟨a, c, rfl, hn⟩ | ⟨c, rfl, rfl, rfl⟩
  · have hkm : k + m ≤ 140737488355328 := Nat.le_trans (Nat.le_mul_of_pos_right _ h1B) hk
    obtain ⟨v', w', a1, a2, a3, a4, a5⟩ := run_append_own_at (P := P) w base T t e i z sz i.bytes hu hi hz hs rfl hzs hpos v k xs h a m c news hl hn h1 (by simp only [maxLen]; omega) (Nat.le_trans (Nat.mul_le_mul_left _ hby) hk) hb
    exact L.val (x_append hx hy a1) hd (kk v' w' a2 (gr_of_grown a3) a5)
  · have hrun : (Builtin.append_ #[T, T] t #[v, .slice none 0 c]).run P w = .ok v w := by
      rcases h.2 with ⟨rfl, rfl⟩ | ⟨g, cap, cur, rfl, _, _, hnc, _⟩
      · simp [Builtin.append_, run_underlying hu, sizeOf, typeInfo, hi, Builtin.lenOf, Builtin.firstCells]
      · simp [Builtin.append_, run_underlying hu, sizeOf, typeInfo, hi, Builtin.lenOf, Builtin.firstCells, hnc, storeCells]
    refine L.val (x_append hx hy hrun) hd (kk v w (by simpa using h) (Gr.refl _ _) (.inl rfl))
end
end Go.Gx
namespace Go.Gx
open Go.Proofs
theorem kdsf6_el4 : elT Try.prog 4 1 = true := by kernel_rfl
theorem bls_own {n0 base : Nat} {w : World} {v : Value} {l : List Bool} (h : Own w base 4 1 v l.length (l.map Value.bool)) (hl : l.length ≤ 140737488355328) : AllBl n0 w v l := by
  have hn := DkB.no_own (ty := lgTy) (n0 := n0) h (by kernel_rfl)
  rcases h.open with ⟨rfl, hk, -⟩ | ⟨b, cap, tl, rfl, hbb, hcap, hcm, hbx⟩
  · have hn : l = [] := List.eq_nil_of_length_eq_zero hk
    subst hn
    exact ⟨none, 0, rfl, Nat.le_refl _, by omega, by simp, fun e => absurd rfl e⟩
  · refine ⟨_, cap, rfl, hcap, hcm, hl, fun _ => ⟨b, 0, rfl, hn b rfl, fun i hi => hbx.cell0 ?_⟩⟩
    rw [List.getElem?_append_left (by simpa using hi)]
    simp [hi]
theorem bls_holds {A : Nat → Prop} {w : World} {v : Value} {l : List Bool} (h : BlsAt A w v l) : HoldsN w v l.length (l.map Value.bool) := by
  obtain ⟨p, cap, rfl, h1, h2, h3, h4⟩ := h
  by_cases hl : l = []
  · subst hl
    cases p with
    | none => exact .inr ⟨cap, rfl, rfl, rfl⟩
    | some a => exact .inl ⟨a, cap, rfl, fun j u hu => by simp at hu⟩
  · obtain ⟨b, o, rfl, hA, hc⟩ := h4 hl
    refine .inl ⟨⟨b, o, none⟩, cap, rfl, fun j u hu => ?_⟩
    have hj : j < l.length := by have := (List.getElem?_eq_some_iff.1 hu).1; simpa using this
    rw [List.getElem?_map, List.getElem?_eq_getElem hj] at hu
    simp only [Option.map_some, Option.some.injEq] at hu
    have := hc j hj
    rw [List.getD_eq_getElem?_getD, List.getElem?_eq_getElem hj] at this
    rw [show (⟨b, o, none⟩ : Addr).add j = ⟨b, o + j, none⟩ by simp [Addr.add], this, ← hu]; rfl
theorem bool_bytes : (Try.prog.info? 4).map (fun i => decide (i.bytes ≤ 1)) = some true := by kernel_rfl
theorem clone_bls (A : Nat → Prop) (v : Value) (l : List Bool) (w : World) (h : BlsAt A w v l) : Ret Try.prog 41 #[v] w fun v' w' => ((∀ n0, AllBl n0 w' v' l) ∧ v'.oneCell' = true) ∧ Bel w w' := by
  have hh := bls_holds h
  obtain ⟨p, cap, rfl, p1, p2, p3, hp⟩ := id h
  refine ret_of_W Try.func41 rfl (Nat.le_of_ble_eq_true rfl) (res1 rfl) ?_
  have hB := Gr.refl (fun _ => False) w
  refine W.seq ?_
  refine W.region ?_
  refine L.val (x_as (v := .slice _ _ _) rfl) rfl ?_
  refine L.nil ?_
  refine thn_n ?_
  refine W.seq ?_
  refine W.seq ?_
  refine W.region ?_
  refine L.val (x_mv (v := .slice _ _ _) rfl) rfl ?_
  refine L.val (x_eql0 Try.underlying38 rfl rfl) rfl ?_
  refine L.nil ?_
  refine thn_n ?_
  refine W.cond (b := _) rfl (fun g4 => ?_) (fun g4 => ?_)
  ·have h4 := g4
   refine W.seq ?_
   refine W.region ?_
   refine L.val (x_as (v := .slice _ _ _) rfl) rfl ?_
   refine L.nil ?_
   refine thn_n ?_
   refine W.ret (thn_r (fin_mk (.inr rfl) ?_))
   have e : l = [] := by cases p with
     | none => exact Classical.byContradiction fun hne => by obtain ⟨b, o, e, -⟩ := hp hne; cases e
     | some a => cases h4
   subst e
   exact ⟨⟨fun n0 => ⟨none, 0, rfl, Nat.le_refl _, by omega, by simp, fun e => absurd rfl e⟩, rfl⟩, hB⟩
  ·have h4 := g4
   refine W.skip ?_
   refine thn_n ?_
   refine W.seq ?_
   refine W.region ?_
   refine L.bs0 Try.underlying38 kdsf6_el4 rfl (fun w5 hO5 hw hz5 => ?_)
   have hB := hB.carry hw; have hh := hh.carry hw
   refine L.val (x_mv (v := .slice _ _ _) rfl) rfl ?_
   refine L.appendNC (Bt := 1) Try.underlying38 kdsf6_el4 bool_bytes (by omega) rfl rfl rfl hO5 (by simp) hh (by intro u hu; obtain ⟨x, -, rfl⟩ := List.mem_map.1 hu; rfl) (by omega) (by omega) (fun v7 w7 hO7 hg hob7 => ?_)
   have hB := hB.step hg (fun i hi e => by have h1 := (Own.lt hO5 e).1; omega)
   obtain ⟨a7, c7, e7, -⟩ := own_shape hO7
   rw [Nat.zero_add] at e7
   subst e7
   refine L.val (x_as (v := .slice _ _ _) rfl) rfl ?_
   refine L.nil ?_
   refine thn_n ?_
   refine W.ret (fin_mk (.inr rfl) ?_)
   simp only [Nat.zero_add, List.nil_append] at hO7
   exact ⟨⟨fun n0 => bls_own hO7 p3, rfl⟩, hB⟩
end Go.Gx
namespace Go.Gx
open Go.Proofs
theorem kdsf7_ag40 : aggT Try.prog 40 3 = true := by kernel_rfl
theorem kdsf7_en40 : Go.Proofs.Enters Try.prog 40 := Go.Proofs.enters_of Try.func40 (by kernel_rfl) rfl
theorem kdsf7_en41 : Go.Proofs.Enters Try.prog 41 := Go.Proofs.enters_of Try.func41 (by kernel_rfl) rfl
theorem kdsf7_fo40_0 : fieldOff Try.prog 40 0 = some 0 := by kernel_rfl
theorem kdsf7_fo40_1 : fieldOff Try.prog 40 1 = some 1 := by kernel_rfl
theorem kdsf7_fo40_2 : fieldOff Try.prog 40 2 = some 2 := by kernel_rfl
theorem kdsf7_fo42_2 : fieldOff Try.prog 42 2 = some 2 := by kernel_rfl
theorem kdsf7_fo42_3 : fieldOff Try.prog 42 3 = some 5 := by kernel_rfl
theorem kdsf7_mixed : Try.prog.follows .mixedOrders = true := by kernel_rfl
theorem kdsf7_oc3 : oneCellT Try.prog 3 = true := by kernel_rfl
theorem kdsf7_oc38 : oneCellT Try.prog 38 = true := by kernel_rfl
theorem kdsf7_si40 : structInfo Try.prog 40 = some ([(0, 1), (1, 1), (2, 1)], [Value.slice none 0 0, Value.int .i64 0, Value.int .i64 0]) := by kernel_rfl
theorem kdsf7_sz3 : (Try.prog.info? 3).map (·.size) = some 1 := by kernel_rfl
def armD (D : Dk) (i : Int) : Dk := if i < 0 then D else { D with armed := i.toNat }
theorem BlsAt.carryR {A R : Nat → Prop} {w w' : World} {v : Value} {l : List Bool} (h : BlsAt A w v l) (g : Gr R w w') (hR : ∀ k, R k → A k) : BlsAt A w' v l := h.move fun a v hA hv => ⟨g.cell hv (fun r => hA (hR _ r)), hA⟩
theorem BlsAt.carry {A : Nat → Prop} {w w' : World} {v : Value} {l : List Bool} (h : BlsAt A w v l) (g : Bel w w') : BlsAt A w' v l := h.carryR g (fun _ f => f.elim)
theorem arm_f (n0 b : Nat) (A : Nat → Prop) (i : Int) (vk' : Value) (K K' : Fl) (D : Dk) (w : World) (h : DiskF n0 w b D K) (hd : D.dead = false) (hz : BlsAt A w vk' K'.keep) (hA : A b) :
    Ret Try.prog 22 #[.pointer (some ⟨b, 0, none⟩), .int .i64 i, .agg #[vk', .int .i64 K'.torn, .int .i64 K'.cut]] w fun _ w' => DiskF n0 w' b (armD D i) (if i < 0 then K else K') ∧ Dg dkTy n0 w w' := by
  obtain ⟨h1, h2, bp, vc, vk, h3, hb, hk, hp, hc⟩ := id h
  have hk : AllBl n0 w vk K.keep := hk
  obtain ⟨pk, ck, rfl, -⟩ := id hk
  obtain ⟨pk', ck', rfl, -⟩ := id hz
  obtain ⟨ac, cc, rfl, hcc⟩ := own_shape hc
  have hbpne : bp ≠ b := box_ne hp hb (by decide)
  have hbl := hb.lt
  have hqc : ∀ j, some j = (Value.slice ac D.ca.length cc).ownBlock → j ≠ b ∧ j ≠ bp := fun j hj => ⟨fun e => own_box_ne hc hb (by decide) (e ▸ hj), fun e => own_box_ne hc hp (by decide) (e ▸ hj)⟩
  have hr : readyD D 0 = 0 := by unfold readyD; rw [hd, if_neg (by decide), if_pos ⟨by omega, by have := h2.pos; omega⟩]
  refine ret_of_W Try.func22 rfl (Nat.le_of_ble_eq_true rfl) (res1 rfl) ?_
  have hB := Gr.refl (fun _ => False) w
  refine W.seq ?_
  refine W.region ?_
  refine L.box (cs := [.slice pk' K'.keep.length ck', .int .i64 K'.torn, .int .i64 K'.cut]) rfl rfl (fun w5 bx5 hw hz5 => ?_)
  have hB := hB.carry hw; have hb := hb.carry hw; have hp := hp.carry hw; have hc := hc.carry hw; have hk := hk.carry hw; have hz := hz.carry hw
  have hb5 := hb
  refine L.val (x_as (v := .int _ _) rfl) rfl ?_
  refine L.nil ?_
  refine thn_n ?_
  refine W.seq ?_
  refine W.seq ?_
  refine W.region ?_
  refine L.val (x_mv (v := .pointer _) rfl) rfl ?_
  refine L.ret (x_call kdsf7_en40 rfl) rfl (ready_d n0 b D _ _ (h.bel hB).at) ?_
  rintro _ w9 ⟨rfl, hq⟩
  rw [hq, hr]
  refine L.val (x_as (v := .int _ _) rfl) rfl ?_
  refine L.nil ?_
  refine thn_n ?_
  refine W.seq ?_
  refine W.region ?_
  refine L.val (x_mv (v := .int _ _) rfl) rfl ?_
  refine L.val (x_neq rfl rfl) rfl ?_
  refine L.nil ?_
  refine thn_n ?_
  refine W.cond (b := _) rfl (fun g11 => ?_) (fun g11 => ?_)
  ·have h11 := dne_t g11
   cases g11
  ·have h11 := dne_f g11
   refine W.skip ?_
   refine thn_n ?_
   refine W.seq ?_
   refine W.seq ?_
   refine W.region ?_
   refine L.val (x_mv (v := .int _ _) rfl) rfl ?_
   refine L.val (x_lss rfl rfl) rfl ?_
   refine L.nil ?_
   refine thn_n ?_
   refine W.cond (b := _) rfl (fun g14 => ?_) (fun g14 => ?_)
   ·have h14 := of_decide_eq_true g14
    have hneg : i < 0 := h14
    refine W.seq ?_
    refine W.region ?_
    refine L.val (x_as (v := .int _ _) rfl) rfl ?_
    refine L.nil ?_
    refine thn_n ?_
    refine W.ret (thn_r (fin_mk (.inr rfl) ?_))
    unfold armD
    rw [if_pos hneg, if_pos hneg]
    exact ⟨h.bel hB, Dg.of_bel hB⟩
   ·have h14 := dlt_f g14
    have hneg : ¬ i < 0 := by omega
    have hGb := Gr.refl (fun k => k = b) w5
    have hB5 := hB
    refine W.skip ?_
    refine thn_n ?_
    refine W.seq ?_
    refine W.region ?_
    refine L.val (x_mv (v := .pointer _) rfl) rfl ?_
    refine L.val (x_mv (v := .int _ _) rfl) rfl ?_
    refine L.val (x_nil rfl) rfl ?_
    have hbo := hb
    refine L.val (x_fa kdsf7_fo42_3 rfl) rfl ?_
    refine L.set (v := .int _ _) kdsf7_sz3 rfl rfl rfl hb rfl (fun wl17 hb hw hzl17 => ?_)
    have hp := hp.carryR hw (fun e => hbpne e); have hc := Own.carryR hc hw (fun j hj e => (hqc j hj).1 e); have hk := hk.box hbo (by kernel_rfl) h1 hw; have hz := hz.carryR hw (fun k e => by have e : k = b := e; rw [e]; exact hA); have bx5 := bx5.carryR hw (by omega); have hGb := hGb.trans hw
    refine L.nil ?_
    refine thn_n ?_
    refine W.seq ?_
    refine W.drawD (fun j => j = b ∨ j = b) (fun _ => False) 11 kdsf7_mixed (fun wD19 hw => ?_)
    have hb := hb.carry hw; have hp := hp.carry hw; have hc := hc.carry hw; have hk := hk.carry hw; have hz := hz.carry hw; have bx5 := bx5.carry hw; have hGb := hGb.carry hw
    have hB0 := Gr.refl (fun _ => False) wD19; have hR0 := Gr.refl (fun j => j = b ∨ j = b) wD19
    refine LAD.take0 (i := 0) rfl (by kernel_rfl) (by kernel_rfl) (by kernel_rfl) (by kernel_rfl) (fun w hw => x_mv (v := .pointer _) rfl) rfl ?_
    refine LAD.take0 (i := 1) rfl (by kernel_rfl) (by kernel_rfl) (by kernel_rfl) (by kernel_rfl) (fun w hw => x_fa kdsf7_fo40_0 rfl) rfl ?_
    refine LAD.take0 (i := 2) rfl (by kernel_rfl) (by kernel_rfl) (by kernel_rfl) (by kernel_rfl) (fun w hw => x_ld (v := .slice _ _ _) kdsf7_oc38 rfl (hw.keepR (fun e => by have e : (_ : Nat) = _ := e.elim id id; (try dsimp only at e); omega) (bx5.cell0 rfl))) rfl ?_
    refine LAD.take0 (i := 4) rfl (by kernel_rfl) (by kernel_rfl) (by kernel_rfl) (by kernel_rfl) (fun w hw => x_fa kdsf7_fo40_1 rfl) rfl ?_
    refine LAD.take0 (i := 5) rfl (by kernel_rfl) (by kernel_rfl) (by kernel_rfl) (by kernel_rfl) (fun w hw => x_ld (v := .int _ _) kdsf7_oc3 rfl (hw.keepR (fun e => by have e : (_ : Nat) = _ := e.elim id id; (try dsimp only at e); omega) (bx5.cell0 rfl))) rfl ?_
    refine LAD.take0 (i := 6) rfl (by kernel_rfl) (by kernel_rfl) (by kernel_rfl) (by kernel_rfl) (fun w hw => x_fa kdsf7_fo40_2 rfl) rfl ?_
    refine LAD.take0 (i := 7) rfl (by kernel_rfl) (by kernel_rfl) (by kernel_rfl) (by kernel_rfl) (fun w hw => x_ld (v := .int _ _) kdsf7_oc3 rfl (hw.keepR (fun e => by have e : (_ : Nat) = _ := e.elim id id; (try dsimp only at e); omega) (bx5.cell0 rfl))) rfl ?_
    refine LAD.step (rs := [3]) hR0 (fun _ => hB0) (by kernel_rfl) (by simp) ⟨⟨_, rfl, ?_⟩, trivial⟩
    refine L.ret (x_call kdsf7_en41 rfl) rfl (clone_bls _ _ K'.keep _ (hz.carry hB0)) ?_
    rintro v22 w22 ⟨⟨hv22, h1v⟩, hw⟩
    have hB0 := hB0.carry hw; have hR0 := hR0.carry hw; have hb := hb.carry hw
    obtain ⟨p22, c22, rfl, -⟩ := id (hv22 0)
    refine L.nil ?_
    refine thn_n ?_
    refine LAD.take0 (i := 8) rfl (by kernel_rfl) (by kernel_rfl) (by kernel_rfl) (by kernel_rfl) (fun w hw => x_build (cells := [.slice _ _ _, .int _ _, .int _ _]) kdsf7_si40 rfl rfl) rfl ?_
    have hb22 := hb
    refine LAD.take0 (i := 9) rfl (by kernel_rfl) (by kernel_rfl) (by kernel_rfl) (by kernel_rfl) (fun w hw => x_nil rfl) rfl ?_
    refine LAD.take0 (i := 10) rfl (by kernel_rfl) (by kernel_rfl) (by kernel_rfl) (by kernel_rfl) (fun w hw => x_fa kdsf7_fo42_2 rfl) rfl ?_
    refine LAD.step (rs := [11]) hR0 (fun _ => hB0) (by kernel_rfl) (by simp) ⟨⟨_, rfl, ?_⟩, trivial⟩
    refine L.setPart (o := 2) (k := 3) (new := [.slice p22 K'.keep.length c22, .int .i64 K'.torn, .int .i64 K'.cut]) kdsf7_ag40 rfl rfl hb (by show 2 + 3 ≤ 8; omega) rfl (by simp [Value.oneCell']) (fun wl29 hb hw hzl29 => ?_)
    have hR0 := hR0.into hw (.inl rfl)
    have hkN := (hv22 n0).box hb22 (by kernel_rfl) h1 hw
    refine L.nil ?_
    refine thn_n ?_
    refine LAD.done (by kernel_rfl) (by kernel_rfl) hR0 ?_
    have hp := hp.carryR hR0 (fun e => hbpne (e.elim id id))
    have hc := Own.carryR hc hR0 (fun j hj e => (hqc j hj).1 (e.elim id id))
    have hk := trivial
    have hz := trivial
    have bx5 := trivial
    have hGb := hGb.trans (hR0.mono (fun _ _ e => e.elim id id))
    refine thn_n ?_
    refine W.seq ?_
    refine W.region ?_
    refine L.val (x_as (v := .int _ _) rfl) rfl ?_
    refine L.nil ?_
    refine thn_n ?_
    refine W.ret (fin_mk (.inr rfl) ?_)
    have e : ((i.toNat : Nat) : Int) = i := by omega
    have e1 : dkV (.slice (some ⟨bp, 0, none⟩) D.pl.length D.pl.length) (.slice ac D.ca.length cc) (.slice p22 K'.keep.length c22) K'.torn K'.cut { D with armed := i.toNat } = [.slice (some ⟨bp, 0, none⟩) D.pl.length D.pl.length, .slice ac D.ca.length cc, .slice p22 K'.keep.length c22, .int .i64 K'.torn, .int .i64 K'.cut, .int .i64 i, .int .i64 (D.ops : Nat), .bool D.dead] := by unfold dkV; dsimp only; rw [e]
    unfold armD
    rw [if_neg hneg, if_neg hneg]
    refine ⟨⟨h1, ⟨h2.pos, h2.small, h2.sec, h2.cac, h2.few⟩, bp, _, _, h3, by rw [e1]; exact hb, hkN, hp, hc⟩, (Dg.of_bel hB5).trans (hGb.mono fun k _ e => ?_)⟩
    have e : k = b := e
    rw [e]; exact DkB.box hb5 (by kernel_rfl) h1
end Go.Gx
namespace Go.Gx
open Go.Proofs
structure RepC (D : Dk) (q : Pt) (all : List Str) : Prop where
  ok : QOk D q
  big : tooBig all = false
  tail : q.tail = (all.map frm).flatten.length
  cnt : q.cnt = all.length
  area : allA D q = (all.map frm).flatten
  z : q.ep = 0 → q = pt0 ∧ rdD D 0 = zeros 64 ∧ rdOk (rdD D 1) (roomN D.pl.length) = false
  hd : 0 < q.ep → rdD D (q.ep % 2) = hdrS q
  ot : 0 < q.ep → rdOk (rdD D ((q.ep + 1) % 2)) (roomN D.pl.length) = true → (rdPt (rdD D ((q.ep + 1) % 2))).ep < q.ep
  zp : ZP (roomN D.pl.length) (rdD D ((q.ep + 1) % 2))
theorem hdP_repC {D : Dk} {q : Pt} {all : List Str} (h : RepC D q all) (hok : DkOk D) : 0 < q.ep → hdP D 2 = (q, true) := fun h0 => by
  have hp := h.ok.pt hok
  have e1 : rdOk (hdrS q) (roomN D.pl.length) = true := rdOk_hdr hp h.ok.half h.ok.tail
  have e2 := rd_hdr hp (show q.half < 256 by have := h.ok.half; omega)
  have hd := h.hd h0; have ot := h.ot h0
  show stepP _ (rdD D 1) (stepP _ (rdD D 0) (pt0, false)) = _
  rcases Nat.mod_two_eq_zero_or_one q.ep with h1 | h1
  · rw [h1] at hd
    rw [show (q.ep + 1) % 2 = 1 by omega] at ot
    have s0 : stepP (roomN D.pl.length) (rdD D 0) (pt0, false) = (q, true) := by unfold stepP; rw [hd, e1, e2]; rfl
    rw [s0]
    unfold stepP
    cases h2 : rdOk (rdD D 1) (roomN D.pl.length) with
    | false => rfl
    | true =>
      have := ot h2
      rw [decide_eq_false (show ¬ q.ep < (rdPt (rdD D 1)).ep by omega)]; rfl
  · rw [h1] at hd
    rw [show (q.ep + 1) % 2 = 0 by omega] at ot
    have s1 : ∀ x : Pt × Bool, (x.2 = true → x.1.ep < q.ep) → stepP (roomN D.pl.length) (rdD D 1) x = (q, true) := fun x hx => by
      unfold stepP
      rw [hd, e1, e2]
      cases h3 : x.2 with
      | false => rfl
      | true => rw [decide_eq_true (hx h3)]; rfl
    refine s1 _ fun hx => ?_
    unfold stepP at hx ⊢
    cases h2 : rdOk (rdD D 0) (roomN D.pl.length) with
    | false => rw [h2] at hx; cases hx
    | true => exact ot h2
theorem open_repC {D : Dk} {q : Pt} {all : List Str} (h : RepC D q all) (hok : DkOk D) : openA D = (0, q, all) := by
  have hs := scan_frms h.big
  have key : (hdP D 2).1 = q ∧ ((hdP D 2).2 || frS D 2) = true := by
    rcases Nat.eq_zero_or_pos q.ep with h0 | h0
    · obtain ⟨e1, e2, e3⟩ := h.z h0
      have hh : hdP D 2 = (pt0, false) := by
        show stepP _ (rdD D 1) (stepP _ (rdD D 0) (pt0, false)) = _
        rw [e2]
        unfold stepP
        rw [rdOk_zeros, e3]; rfl
      rw [hh, e1]
      refine ⟨rfl, ?_⟩
      unfold frS
      rw [e2, beq_self_eq_true]; rfl
    · rw [hdP_repC h hok h0]; exact ⟨rfl, rfl⟩
  unfold openA
  rw [if_pos key.2, key.1, h.area, hs, if_pos ⟨h.tail.symm, h.cnt.symm⟩]
theorem ZP_zeros (room : Nat) : ZP room (zeros 64) := ZP_torn room pt0 (m := 0) (by omega)
theorem ZP_hdr (room : Nat) (p : Pt) : ZP room (hdrS p) := by
  have := ZP_torn room p (m := 64) (by omega)
  rwa [List.take_of_length_le (by rw [hdrS_len]; omega), Nat.sub_self, show zeros 0 = [] from rfl, List.append_nil] at this
theorem repC_new {m : Nat} (h : 6 ≤ m) : RepC (newD m) pt0 [] := by
  have r := rep_new h
  obtain ⟨e1, e2, e3⟩ := r.z rfl
  exact ⟨r.ok, rfl, rfl, rfl, rfl, fun _ => ⟨rfl, e2, by rw [e3]; exact rdOk_zeros _⟩, fun e => absurd e (by decide), fun e => absurd e (by decide), by
    show ZP _ (rdD (newD m) 1); rw [e3]; exact ZP_zeros _⟩
structure Nx (D : Dk) (q p : Pt) (at' : Nat) (s : Str) (all' : List Str) : Prop where
  ep : p.ep = q.ep + 1
  half : p.half ≤ 1
  room : at' + s.length ≤ roomN D.pl.length
  tail : p.tail = at' + s.length
  way : p.half = q.half ∧ at' = q.tail ∨ p.half ≠ q.half ∧ at' = 0
  big : tooBig all' = false
  area : (areaS D p ((at' + 63) / 64)).take at' ++ s = (all'.map frm).flatten
  cnt : p.cnt = all'.length
def chk (D : Dk) (p : Pt) (at' : Nat) (s : Str) : List (Nat × Str) := (List.range (nck D p at' s)).map fun k => (stN D.pl.length p.half + at' / 64 + k, ckS (allS D p at' s) k)
theorem chk_mem {D : Dk} {p : Pt} {at' : Nat} {s : Str} {x : Nat × Str} (h : x ∈ chk D p at' s) : ∃ k, k < nck D p at' s ∧ x = (stN D.pl.length p.half + at' / 64 + k, ckS (allS D p at' s) k) := by
  obtain ⟨k, hk, rfl⟩ := List.mem_map.1 h
  exact ⟨k, by simpa using hk, rfl⟩
theorem nck_le {D : Dk} {q p : Pt} {at' : Nat} {s : Str} {all' : List Str} (hok : DkOk D) (h6 : 6 ≤ D.pl.length) (nx : Nx D q p at' s all') : at' / 64 + nck D p at' s ≤ hlf D.pl.length ∧ nck D p at' s ≤ 2200 := by
  have hal := allS_len hok (s := s) h6 nx.half (at' := at') (by have := nx.room; omega)
  have hr := nx.room
  unfold roomN at hr
  have hs := hok.small
  have : hlf D.pl.length ≤ 2047 := by unfold hlf; omega
  unfold nck
  split
  · omega
  · rw [hal]; omega
theorem chk_nodup {D : Dk} {p : Pt} {at' : Nat} {s : Str} (sl : Nat) (hsl : sl < 2) : ((chk D p at' s ++ [(sl, zeros 64)]).map (·.1)).Nodup := by
  have h2 : 2 ≤ stN D.pl.length p.half := by unfold stN; omega
  rw [List.map_append, List.nodup_append]
  refine ⟨?_, by simp, ?_⟩
  · unfold chk
    rw [List.map_map]
    unfold List.Nodup
    rw [List.pairwise_map]
    exact List.Pairwise.imp (fun h e => h (by dsimp only [Function.comp] at e; omega)) List.nodup_range
  · intro a ha b hb e
    obtain ⟨x, hx, rfl⟩ := List.mem_map.1 ha
    obtain ⟨k, -, rfl⟩ := chk_mem hx
    simp only [List.map_cons, List.map_nil, List.mem_singleton] at hb
    dsimp only at e; omega
theorem left_bytes {D : Dk} {q p : Pt} {all all' : List Str} {at' : Nat} {s : Str} (h : RepC D q all) (hok : DkOk D) (nx : Nx D q p at' s all') {j k : Nat} (hj : j < q.tail) (hk : k < nck D p at' s) (he : stN D.pl.length q.half + j / 64 = stN D.pl.length p.half + at' / 64 + k) (n : Nat) :
    ((ckS (allS D p at' s) k).take n ++ (rdD D (stN D.pl.length q.half + j / 64)).drop n)[j % 64]? = (rdD D (stN D.pl.length q.half + j / 64))[j % 64]? := by
  have h6 := h.ok.h6
  have hnk := nck_le hok h6 nx
  have hqt := h.ok.tail
  have hqh := h.ok.half
  have hph := nx.half
  have hst := stN_le h6 hqh
  have hrN : roomN D.pl.length = hlf D.pl.length * 64 := rfl
  rcases nx.way with ⟨e1, e2⟩ | ⟨e1, e2⟩
  · rw [e1] at he
    have hk0 : k = 0 := by omega
    subst hk0
    have hja : j / 64 = at' / 64 := by omega
    have hm : at' % 64 ≠ 0 := by omega
    have hal := allS_len hok (s := s) h6 hph (at' := at') (by have := nx.room; omega)
    have hl := rdD_len hok (i := stN D.pl.length q.half + j / 64) (by omega)
    have e0 : (ckS (allS D p at' s) 0)[j % 64]? = (rdD D (stN D.pl.length q.half + j / 64))[j % 64]? := by
      rw [ckS_get (by omega) (by omega), Nat.mul_zero, Nat.zero_add]
      unfold allS
      rw [if_neg hm, e1, ← hja, List.getElem?_append_left (by rw [List.length_take, hl]; omega), List.getElem?_take, if_pos (by omega)]
    by_cases hn : j % 64 < n
    · rw [List.getElem?_append_left (by rw [List.length_take, ckS_len]; omega), List.getElem?_take, if_pos hn, e0]
    · rw [List.getElem?_append_right (by rw [List.length_take, ckS_len]; omega), List.length_take, ckS_len, List.getElem?_drop]
      congr 1; omega
  · exfalso
    subst e2
    unfold stN at he
    have hph2 : p.half = 0 ∨ p.half = 1 := by omega
    have hqh2 : q.half = 0 ∨ q.half = 1 := by omega
    rcases hph2 with a | a <;> rcases hqh2 with b | b <;> rw [a, b] at he e1 <;> omega
theorem repC_stay {D E : Dk} {q : Pt} {all : List Str} (h : RepC D q all) (hok : DkOk D) (hokE : DkOk E) (hq : QOk E q) (hl : E.pl.length = D.pl.length)
    (hb : ∀ j, j < q.tail → (rdD E (stN D.pl.length q.half + j / 64))[j % 64]? = (rdD D (stN D.pl.length q.half + j / 64))[j % 64]?)
    (h0 : rdD E (q.ep % 2) = rdD D (q.ep % 2)) (h1 : rdOk (rdD E ((q.ep + 1) % 2)) (roomN D.pl.length) = true → rdOk (rdD D ((q.ep + 1) % 2)) (roomN D.pl.length) = true ∧ rdPt (rdD E ((q.ep + 1) % 2)) = rdPt (rdD D ((q.ep + 1) % 2)))
    (h2 : ZP (roomN D.pl.length) (rdD E ((q.ep + 1) % 2))) : RepC E q all := by
  have hst := stN_le h.ok.h6 h.ok.half
  have hrN : roomN D.pl.length = hlf D.pl.length * 64 := rfl
  have hqt := h.ok.tail
  refine ⟨hq, h.big, h.tail, h.cnt, ?_, fun e => ?_, fun e => by rw [h0]; exact h.hd e, fun e hk => ?_, by rw [hl]; exact h2⟩
  · rw [← h.area]
    unfold allA
    apply List.ext_getElem?
    intro j
    rw [List.getElem?_take, List.getElem?_take]
    split
    · rename_i hj
      rw [areaS_get hokE q j ((q.tail + 63) / 64) (fun i hi => by rw [hl]; omega) (by omega), areaS_get hok q j ((q.tail + 63) / 64) (fun i hi => by omega) (by omega), hl]
      exact hb j hj
    · rfl
  · obtain ⟨a, b, c⟩ := h.z e
    rw [e] at h0 h1
    refine ⟨a, by have := h0; rw [show (0 : Nat) % 2 = 0 from rfl] at this; rw [this, b], ?_⟩
    rw [hl]
    cases hk : rdOk (rdD E 1) (roomN D.pl.length) with
    | false => rfl
    | true => have := (h1 hk).1; rw [show (0 + 1) % 2 = 1 from rfl, c] at this; cases this
  · rw [hl] at hk
    obtain ⟨a, b⟩ := h1 hk
    rw [b]; exact h.ot e a
theorem repC_done {D E : Dk} {q p : Pt} {all all' : List Str} {at' : Nat} {s : Str} (h : RepC D q all) (hok : DkOk D) (hokE : DkOk E) (hq : QOk E p) (nx : Nx D q p at' s all') (hokC : DkOk (comD D p at' s)) (hl : E.pl.length = D.pl.length) (hE : ∀ i, rdD E i = rdD (comD D p at' s) i) : RepC E p all' := by
  have h6 := h.ok.h6
  have hca := h.ok.ca
  have hst := stN_le h6 nx.half
  have hnk := nck_le hok h6 nx
  have h2 : 2 ≤ stN D.pl.length p.half := by unfold stN; omega
  have hrd := comD_rd (p := p) (at' := at') (s := s) hca h6 (by omega)
  have hep := nx.ep
  have hlen : p.tail = (all'.map frm).flatten.length := by
    rw [← nx.area, List.length_append, List.length_take, areaS_len hok _ (fun i hi => by have := nx.room; have e : roomN D.pl.length = hlf D.pl.length * 64 := rfl; omega), nx.tail]; omega
  have hos : rdD E ((p.ep + 1) % 2) = rdD D (q.ep % 2) := by
    rw [hE, hrd, if_neg (by omega), if_neg (by omega), show (p.ep + 1) % 2 = q.ep % 2 by omega]
  refine ⟨hq, nx.big, hlen, nx.cnt, ?_, fun e => by omega, fun _ => by rw [hE, hrd, if_pos rfl], fun _ hk => ?_, ?_⟩
  · rw [← nx.area, ← com_area hok hokC hca h6 nx.half nx.room nx.tail]
    have : ∀ k, areaS E p k = areaS (comD D p at' s) p k := fun k => by
      unfold areaS
      rw [hl, comD_len]
      congr 2
      funext i
      exact hE _
    unfold allA
    rw [this]
  · rw [hos, hl] at hk
    rw [hos]
    rcases Nat.eq_zero_or_pos q.ep with h0 | h0
    · obtain ⟨e1, e2, e3⟩ := h.z h0
      rw [h0, show (0 : Nat) % 2 = 0 from rfl, e2, rdOk_zeros] at hk
      cases hk
    · rw [h.hd h0, rd_hdr (h.ok.pt hok) (by have := h.ok.half; omega)]; omega
  · rw [hos]
    rcases Nat.eq_zero_or_pos q.ep with h0 | h0
    · obtain ⟨e1, e2, e3⟩ := h.z h0
      rw [h0, show (0 : Nat) % 2 = 0 from rfl, e2]; exact ZP_zeros _
    · rw [h.hd h0]; exact ZP_hdr _ _
end Go.Gx
