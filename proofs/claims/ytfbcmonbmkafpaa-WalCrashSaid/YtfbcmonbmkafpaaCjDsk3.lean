/- Disks flushed. Conditions: none. -/
import Derived.Test.YtfbcmonbmkafpaaCjDsk1
namespace Go.Gx
open Go.Proofs
theorem kdsk3_ag86 : aggT Try.prog 86 64 = true := by kernel_rfl
theorem kdsk3_ag88 : aggT Try.prog 88 65 = true := by kernel_rfl
theorem kdsk3_en40 : Go.Proofs.Enters Try.prog 40 := Go.Proofs.enters_of Try.func40 (by kernel_rfl) rfl
theorem kdsk3_en68 : Go.Proofs.Enters Try.prog 68 := Go.Proofs.enters_of Try.func68 (by kernel_rfl) rfl
theorem kdsk3_fo42_0 : fieldOff Try.prog 42 0 = some 0 := by kernel_rfl
theorem kdsk3_fo42_1 : fieldOff Try.prog 42 1 = some 1 := by kernel_rfl
theorem kdsk3_fo88_0 : fieldOff Try.prog 88 0 = some 0 := by kernel_rfl
theorem kdsk3_fo88_1 : fieldOff Try.prog 88 1 = some 1 := by kernel_rfl
theorem kdsk3_mixed : Try.prog.follows .mixedOrders = true := by kernel_rfl
theorem kdsk3_oc3 : oneCellT Try.prog 3 = true := by kernel_rfl
theorem kdsk3_oc36 : oneCellT Try.prog 36 = true := by kernel_rfl
theorem kdsk3_oc37 : oneCellT Try.prog 37 = true := by kernel_rfl
theorem kdsk3_sz37 : (Try.prog.info? 37).map (·.size) = some 1 := by kernel_rfl
theorem kdsk3_sz86 : (Try.prog.info? 86).map (·.size) = some 64 := by kernel_rfl
theorem kdsk3_sz88 : (Try.prog.info? 88).map (·.size) = some 65 := by kernel_rfl
theorem kdsk3_zr88 : (Try.prog.info? 88).bind (·.zero) = some (Value.agg [Value.int .i64 0, Value.int .u8 0, Value.int .u8 0, Value.int .u8 0, Value.int .u8 0, Value.int .u8 0, Value.int .u8 0, Value.int .u8 0, Value.int .u8 0, Value.int .u8 0, Value.int .u8 0, Value.int .u8 0, Value.int .u8 0, Value.int .u8 0, Value.int .u8 0, Value.int .u8 0, Value.int .u8 0, Value.int .u8 0, Value.int .u8 0, Value.int .u8 0, Value.int .u8 0, Value.int .u8 0, Value.int .u8 0, Value.int .u8 0, Value.int .u8 0, Value.int .u8 0, Value.int .u8 0, Value.int .u8 0, Value.int .u8 0, Value.int .u8 0, Value.int .u8 0, Value.int .u8 0, Value.int .u8 0, Value.int .u8 0, Value.int .u8 0, Value.int .u8 0, Value.int .u8 0, Value.int .u8 0, Value.int .u8 0, Value.int .u8 0, Value.int .u8 0, Value.int .u8 0, Value.int .u8 0, Value.int .u8 0, Value.int .u8 0, Value.int .u8 0, Value.int .u8 0, Value.int .u8 0, Value.int .u8 0, Value.int .u8 0, Value.int .u8 0, Value.int .u8 0, Value.int .u8 0, Value.int .u8 0, Value.int .u8 0, Value.int .u8 0, Value.int .u8 0, Value.int .u8 0, Value.int .u8 0, Value.int .u8 0, Value.int .u8 0, Value.int .u8 0, Value.int .u8 0, Value.int .u8 0, Value.int .u8 0].toArray) := by kernel_rfl
def apD (pl : List Str) (l : List (Nat × Str)) : List Str := l.foldl (fun pl x => pl.set x.1 x.2) pl
def flD (D : Dk) : Dk := { D with pl := apD D.pl D.ca, ca := [], ops := D.ops + 1 }
theorem apD_len (l : List (Nat × Str)) : ∀ pl : List Str, (apD pl l).length = pl.length := by
  induction l with
  | nil => intro pl; rfl
  | cons x l ih => intro pl; exact (ih _).trans List.length_set
theorem apD_sec {l : List (Nat × Str)} : ∀ {pl : List Str}, (∀ s ∈ pl, s.length = 64) → (∀ x ∈ l, x.2.length = 64) → ∀ s ∈ apD pl l, s.length = 64 := by
  induction l with
  | nil => intro pl h _; exact h
  | cons x l ih =>
    intro pl h hl
    refine ih (pl := pl.set x.1 x.2) (fun s hs => ?_) (fun y hy => hl y (List.mem_cons_of_mem _ hy))
    rcases List.mem_or_eq_of_mem_set hs with hs | rfl
    · exact h s hs
    · exact hl x (by simp)
theorem apD_take {pl : List Str} {l : List (Nat × Str)} {j : Nat} (hj : j < l.length) : apD pl (l.take (j + 1)) = (apD pl (l.take j)).set (l.getD j default).1 (l.getD j default).2 := by
  unfold apD
  rw [take_snoc (d := default) hj, List.foldl_append]
  rfl
theorem plV_lens {pl : List Str} (h : ∀ s ∈ pl, s.length = 64) : ∀ r ∈ pl.map (fun s => s.map B8), r.length = 64 := fun r hr => by
  obtain ⟨s, hs, rfl⟩ := List.mem_map.1 hr
  rw [List.length_map, h s hs]
theorem plV_len {pl : List Str} (h : ∀ s ∈ pl, s.length = 64) : (plV pl).length = pl.length * 64 := by
  unfold plV; rw [flat_len (plV_lens h), List.length_map]
theorem plV_set {pl : List Str} {i : Nat} {s : Str} (h : ∀ s ∈ pl, s.length = 64) (hi : i < pl.length) : (plV pl).take (0 + i * 64) ++ s.map B8 ++ (plV pl).drop (0 + i * 64 + 64) = plV (pl.set i s) := by
  have h1 := flatk_take (plV_lens h) i
  have h2 := flatk_take (plV_lens h) (i + 1)
  unfold plV
  rw [Nat.zero_add, show i * 64 + 64 = (i + 1) * 64 by omega, ← h1.1, ← h2.2, List.set_eq_take_append_cons_drop, if_pos hi, List.map_append, List.flatten_append, List.map_cons, List.flatten_cons, List.map_take, List.map_drop, List.append_assoc]
theorem rowcK {k : Nat} {rows : List (List Value)} {tl : List Value} {i j : Nat} {x : Value} (hk : ∀ r ∈ rows, r.length = k) (hi : i < rows.length) (hj : j < k) (hx : (rows.getD i [])[j]? = some x) : (rows.flatten ++ tl)[0 + i * k + j]? = some x := by
  have hf := flatk hk hj hi
  have hlt : i * k + j < rows.flatten.length := by
    rw [flat_len hk]
    have h1 := Nat.mul_le_mul_right k (Nat.succ_le_of_lt hi)
    rw [Nat.succ_mul] at h1; omega
  rw [Nat.zero_add, List.getElem?_append_left hlt, hf, hx]
theorem own_rowK {w : World} {base b n c k i : Nat} {e : TypeId} {rows : List (List Value)} (h : Own w base e k (.slice (some ⟨b, 0, none⟩) n c) n rows.flatten) (hk : ∀ r ∈ rows, r.length = k) (hi : i < rows.length) : ∀ j, j < k → w.cell? ⟨b, 0 + i * k + j, none⟩ = (rows.getD i [])[j]? := fun j hj => by
  rcases Own.open h with ⟨e1, -⟩ | ⟨b', cap, tl, e1, -, -, -, hb⟩
  · cases e1
  · cases e1
    have hr : (rows.getD i []).length = k := hk _ (by rw [List.getD_eq_getElem?_getD, List.getElem?_eq_getElem hi]; exact List.getElem_mem hi)
    rw [List.getElem?_eq_getElem (by omega)]
    exact hb.cell (rowcK hk hi hj (List.getElem?_eq_getElem (by omega)))
theorem ca_lens {l : List (Nat × Str)} (h : ∀ x ∈ l, x.2.length = 64) : ∀ r ∈ l.map waV, r.length = 65 := fun r hr => by
  obtain ⟨x, hx, rfl⟩ := List.mem_map.1 hr
  exact waV_len (h x hx)
theorem ca_get {l : List (Nat × Str)} {j : Nat} (hj : j < l.length) : (l.map waV).getD j [] = waV (l.getD j default) := by
  rw [List.getD_eq_getElem?_getD, List.getD_eq_getElem?_getD, List.getElem?_map, List.getElem?_eq_getElem hj]; rfl
theorem flush_d (n0 b : Nat) (D : Dk) (w : World) (h : DiskAt n0 w b D) (ha : D.armed = 0) (hd : D.dead = false) (hn : n0 ≤ w.heap.size) (hf : D.ops < 1000000000) :
    Ret Try.prog 56 #[.pointer (some ⟨b, 0, none⟩)] w fun v w' => v = .int .i64 0 ∧ DiskAt n0 w' b (flD D) ∧ Dg dkTy n0 w w' := by
  obtain ⟨h1, h2, bp, vc, vk, tn, ct, h3, hb, h5, hp, hc⟩ := id h
  obtain ⟨ac, cc, rfl, hcc⟩ := own_shape hc
  have hr : readyD D 0 = 0 := by unfold readyD; rw [hd, if_neg (by decide), if_pos ⟨by omega, by have := h2.pos; omega⟩]
  have hbpne : bp ≠ b := box_ne hp hb (by decide)
  have hqc : ∀ j, some j = (Value.slice ac D.ca.length cc).ownBlock → j ≠ b ∧ j ≠ bp := fun j hj => ⟨fun e => own_box_ne hc hb (by decide) (e ▸ hj), fun e => own_box_ne hc hp (by decide) (e ▸ hj)⟩
  have hca : ∀ x ∈ D.ca, x.2.length = 64 := fun x hx => (h2.cac x hx).2
  have hfew := h2.few
  refine ret_of_W Try.func56 rfl (Nat.le_of_ble_eq_true rfl) (res1 rfl) ?_
  refine W.seq ?_
  refine W.region ?_
  refine L.val (x_as (v := .int _ _) rfl) rfl ?_
  refine L.nil ?_
  refine thn_n ?_
  refine W.seq ?_
  refine W.seq ?_
  refine W.region ?_
  refine L.val (x_mv (v := .pointer _) rfl) rfl ?_
  refine L.ret (x_call kdsk3_en40 rfl) rfl (ready_d n0 b D _ _ h) ?_
  rintro _ w7 ⟨rfl, hq⟩
  rw [hq, hr]
  refine L.val (x_as (v := .int _ _) rfl) rfl ?_
  refine L.nil ?_
  refine thn_n ?_
  refine W.seq ?_
  refine W.region ?_
  refine L.val (x_mv (v := .int _ _) rfl) rfl ?_
  refine L.val (x_neq rfl rfl) rfl ?_
  refine L.nil ?_
  refine thn_n ?_
  refine W.cond (b := _) rfl (fun g9 => ?_) (fun g9 => ?_)
  ·have h9 := dne_t g9
   cases g9
  ·have h9 := dne_f g9
   refine W.skip ?_
   refine thn_n ?_
   refine W.seq ?_
   refine W.seq ?_
   refine W.region ?_
   refine L.val (x_mv (v := .pointer _) rfl) rfl ?_
   refine L.ret (x_call kdsk3_en68 rfl) rfl (falls_d b _ _ _ _ _ D _ hb ha (by omega)) ?_
   rintro _ w12 ⟨rfl, hb, hG12⟩
   have hp := hp.carryR hG12 (fun e => hbpne e)
   have hc := Own.carryR hc hG12 (fun j hj e => (hqc j hj).1 e)
   have hG : Dg dkTy n0 w w12 := hG12.mono (fun k _ e => by have e : k = b := e; rw [e]; obtain ⟨_, _, _, _, _, _, _, _, hb0, _⟩ := h; exact DkB.box hb0 (by kernel_rfl) h1)
   refine L.nil ?_
   refine thn_n ?_
   refine W.cond (b := _) rfl (fun g12 => ?_) (fun g12 => ?_)
   ·have h12 := g12
    cases g12
   ·have h12 := g12
    refine W.skip ?_
    refine thn_n ?_
    refine W.seq ?_
    refine W.seq ?_
    refine W.region ?_
    refine L.val (x_mv (v := .pointer _) rfl) rfl ?_
    refine L.val (x_nil rfl) rfl ?_
    refine L.val (x_fa kdsk3_fo42_1 rfl) rfl ?_
    refine L.val (x_ld (v := .slice _ _ _) kdsk3_oc37 rfl (hb.cell0 rfl)) rfl ?_
    refine L.val (x_len_slice Try.underlying37 rfl) rfl ?_
    refine L.val (x_mv (v := .int _ _) rfl) rfl ?_
    refine L.nil ?_
    refine thn_n ?_
    refine W.block ?_
    refine W.loop (fun m' E w' => ∃ (j : Nat), m' = D.ca.length - j ∧ E 0 = .pointer (some ⟨b, 0, none⟩) ∧ E 22 = .slice ac D.ca.length cc ∧ E 23 = .int .i64 (D.ca.length : Nat) ∧ E 24 = .int .i64 (j : Nat) ∧ (j ≤ D.ca.length) ∧ (Dg dkTy n0 w w') ∧ (Box w' b 42 (dkV (.slice (some ⟨bp, 0, none⟩) D.pl.length D.pl.length) (.slice ac D.ca.length cc) vk tn ct { D with ops := D.ops + 1 })) ∧ (Box w' bp 86 (plV (apD D.pl (D.ca.take j)))) ∧ (Own w' n0 88 65 (.slice ac D.ca.length cc) D.ca.length (D.ca.map waV).flatten)) (D.ca.length) ?_ ?_
    ·exact ⟨0, by omega, by first | rfl | exact vi (by omega) | exact vs (by first | assumption | (rw [hst]; done) | (rw [hst]; simp only [List.append_assoc])), by first | rfl | exact vi (by omega) | exact vs (by first | assumption | (rw [hst]; done) | (rw [hst]; simp only [List.append_assoc])), by first | rfl | exact vi (by omega) | exact vs (by first | assumption | (rw [hst]; done) | (rw [hst]; simp only [List.append_assoc])), by first | rfl | exact vi (by omega) | exact vs (by first | assumption | (rw [hst]; done) | (rw [hst]; simp only [List.append_assoc])), (by first | assumption | omega | rfl), (by first | assumption | omega | rfl), (by first | assumption | omega | rfl), (by first | assumption | omega | rfl), (by first | assumption | omega | rfl)⟩
    ·rintro _ E wL25 ⟨j, em, e0, e22, e23, e24, hj, hG, hb, hp, hc⟩
     rw [upd_self e0, upd_self e22, upd_self e23, upd_self e24]
     refine W.seq ?_
     refine W.region ?_
     refine L.val (x_lss rfl rfl) rfl ?_
     refine L.nil ?_
     refine thn_n ?_
     refine W.seq ?_
     refine W.cond (b := _) rfl (fun g25 => ?_) (fun g25 => ?_)
     ·have h25 := of_decide_eq_true g25
      have hlt : j < D.ca.length := by omega
      obtain ⟨bc, rfl⟩ := own_pos hc (by omega)
      have hrow := own_rowK hc (ca_lens hca) (i := j) (by rw [List.length_map]; exact hlt)
      rw [ca_get hlt] at hrow
      obtain ⟨x, hx⟩ : ∃ x, x = D.ca.getD j default := ⟨_, rfl⟩
      rw [← hx] at hrow
      have hxm : x ∈ D.ca := by rw [hx, List.getD_eq_getElem?_getD, List.getElem?_eq_getElem hlt]; exact List.getElem_mem hlt
      obtain ⟨hx1, hx2⟩ := h2.cac x hxm
      have hwl : (waV x).length = 65 := waV_len hx2
      have hst := apD_take (pl := D.pl) hlt
      rw [← hx] at hst
      have hsec : ∀ s ∈ apD D.pl (D.ca.take j), s.length = 64 := apD_sec h2.sec (fun y hy => hca y (List.mem_of_mem_take hy))
      have hapl := apD_len (D.ca.take j) D.pl
      have hbl := hb.lt; have hbpl := hp.lt
      have hB := Gr.refl (fun _ => False) wL25
      refine W.skip ?_
      refine thn_n ?_
      refine W.seq ?_
      refine W.block ?_
      refine W.seq ?_
      refine W.region ?_
      have hc0 := hc
      refine L.val (x_ia (j := j) Try.underlying37 kdsk3_sz88 rfl rfl (by omega) (by omega)) rfl ?_
      refine L.val (x_ldn (vs := waV x) kdsk3_ag88 rfl hwl hrow) rfl ?_
      refine L.alloc (cs := [Value.int .i64 0, Value.int .u8 0, Value.int .u8 0, Value.int .u8 0, Value.int .u8 0, Value.int .u8 0, Value.int .u8 0, Value.int .u8 0, Value.int .u8 0, Value.int .u8 0, Value.int .u8 0, Value.int .u8 0, Value.int .u8 0, Value.int .u8 0, Value.int .u8 0, Value.int .u8 0, Value.int .u8 0, Value.int .u8 0, Value.int .u8 0, Value.int .u8 0, Value.int .u8 0, Value.int .u8 0, Value.int .u8 0, Value.int .u8 0, Value.int .u8 0, Value.int .u8 0, Value.int .u8 0, Value.int .u8 0, Value.int .u8 0, Value.int .u8 0, Value.int .u8 0, Value.int .u8 0, Value.int .u8 0, Value.int .u8 0, Value.int .u8 0, Value.int .u8 0, Value.int .u8 0, Value.int .u8 0, Value.int .u8 0, Value.int .u8 0, Value.int .u8 0, Value.int .u8 0, Value.int .u8 0, Value.int .u8 0, Value.int .u8 0, Value.int .u8 0, Value.int .u8 0, Value.int .u8 0, Value.int .u8 0, Value.int .u8 0, Value.int .u8 0, Value.int .u8 0, Value.int .u8 0, Value.int .u8 0, Value.int .u8 0, Value.int .u8 0, Value.int .u8 0, Value.int .u8 0, Value.int .u8 0, Value.int .u8 0, Value.int .u8 0, Value.int .u8 0, Value.int .u8 0, Value.int .u8 0, Value.int .u8 0]) kdsk3_zr88 rfl rfl (fun w5 bx5 hw hz5 => ?_)
      have hB := hB.carry hw; have hb := hb.carry hw; have hp := hp.carry hw; have hc := hc.carry hw
      refine L.setRow kdsk3_ag88 rfl rfl bx5 rfl hwl (waV_one x) (fun wl28 bx5 hw hzl28 => ?_)
      have hsz := hB.size
      have hB := hB.set hw (by omega); have hb := hb.carryR hw (by omega); have hp := hp.carryR hw (by omega); have hc := Own.carryR hc hw (fun i hi e => by have e : i = _ := e; have := (Own.lt hc0 hi).2; omega)
      have hB28 := hB
      refine L.nil ?_
      refine thn_n ?_
      refine W.drawD (fun i => i = bp ∨ i = bp) (fun _ => False) 9 kdsk3_mixed (fun wD28 hw => ?_)
      have hb := hb.carry hw; have bx5 := bx5.carry hw; have hc := hc.carry hw; have hB := hB.carry hw
      have hB0 := Gr.refl (fun _ => False) wD28; have hR0 := Gr.refl (fun i => i = bp ∨ i = bp) wD28
      have hD := hw
      refine LAD.take0 (i := 0) rfl (by kernel_rfl) (by kernel_rfl) (by kernel_rfl) (by kernel_rfl) (fun w hw => x_mv (v := .pointer _) rfl) rfl ?_
      refine LAD.take0 (i := 1) rfl (by kernel_rfl) (by kernel_rfl) (by kernel_rfl) (by kernel_rfl) (fun w hw => x_nil rfl) rfl ?_
      refine LAD.take0 (i := 2) rfl (by kernel_rfl) (by kernel_rfl) (by kernel_rfl) (by kernel_rfl) (fun w hw => x_fa kdsk3_fo42_0 rfl) rfl ?_
      refine LAD.take0 (i := 3) rfl (by kernel_rfl) (by kernel_rfl) (by kernel_rfl) (by kernel_rfl) (fun w hw => x_ld (v := .slice _ _ _) kdsk3_oc36 rfl (hw.keepR (fun e => by have e : (_ : Nat) = _ := e.elim id id; (try dsimp only at e); omega) (hb.cell0 rfl))) rfl ?_
      refine LAD.take0 (i := 4) rfl (by kernel_rfl) (by kernel_rfl) (by kernel_rfl) (by kernel_rfl) (fun w hw => x_fa kdsk3_fo88_0 rfl) rfl ?_
      refine LAD.take0 (i := 5) rfl (by kernel_rfl) (by kernel_rfl) (by kernel_rfl) (by kernel_rfl) (fun w hw => x_ld (v := .int _ _) kdsk3_oc3 rfl (hw.keepR (fun e => by have e : (_ : Nat) = _ := e.elim id id; (try dsimp only at e); omega) (bx5.cell0 rfl))) rfl ?_
      refine LAD.take0 (i := 6) rfl (by kernel_rfl) (by kernel_rfl) (by kernel_rfl) (by kernel_rfl) (fun w hw => x_fa kdsk3_fo88_1 rfl) rfl ?_
      refine LAD.take0 (i := 7) rfl (by kernel_rfl) (by kernel_rfl) (by kernel_rfl) (by kernel_rfl) (fun w hw => x_ldn (vs := x.2.map B8) kdsk3_ag86 rfl (by rw [List.length_map, hx2]) (hw.keepRowR (fun e => by have e : (_ : Nat) = _ := e.elim id id; (try dsimp only at e); omega) (by rw [List.length_map, hx2]) (bx5.rowD 1 (k := 64) (by simp [waV, hx2])))) rfl ?_
      refine LAD.take0 (i := 8) rfl (by kernel_rfl) (by kernel_rfl) (by kernel_rfl) (by kernel_rfl) (fun w hw => x_ia (j := x.1) Try.underlying36 kdsk3_sz86 rfl rfl (by omega) (by omega)) rfl ?_
      refine LAD.step (rs := [9]) hR0 (fun _ => hB0) (by kernel_rfl) (by simp) ⟨⟨_, rfl, ?_⟩, trivial⟩
      refine L.setPart (k := 64) kdsk3_ag86 rfl rfl (hp.carry hD) (by rw [plV_len hsec, hapl]; omega) (by rw [List.length_map, hx2]) (B8_one _) (fun wl38 hpN hw hzl38 => ?_)
      rw [plV_set hsec (by omega), ← hst] at hpN
      have hR0 := hR0.into hw (.inr rfl)
      refine L.nil ?_
      refine thn_n ?_
      refine LAD.done (by kernel_rfl) (by kernel_rfl) hR0 ?_
      have hb := hb.carryR hR0 (fun e => hbpne (e.elim id id).symm)
      have bx5 := trivial
      have hc := Own.carryR hc hR0 (fun i hi e => (hqc i hi).2 (e.elim id id))
      have hB := trivial
      have hp2 := hpN
      have hall : Gr (fun i => i = bp ∨ i = bp) wl28 wl38 := ((Gr.refl _ _).carry hD).trans hR0
      have hG2 : Dg dkTy n0 w wl38 := (hG.trans (Dg.of_bel hB28)).trans (hall.mono fun k _ e => by rw [e.elim id id]; exact DkB.box hp (by kernel_rfl) h3)
      refine blk_n ?_
      refine thn_n ?_
      refine W.region ?_
      refine L.val (x_add rfl rfl (wr64 (by omega))) rfl ?_
      refine L.val (x_mv (v := .int _ _) rfl) rfl ?_
      refine L.nil ?_
      refine thn_n ⟨rfl, ?_⟩
      refine ⟨_, ?_, j + 1, rfl, by first | rfl | exact vi (by omega) | exact vs (by first | assumption | (rw [hst]; done) | (rw [hst]; simp only [List.append_assoc])), by first | rfl | exact vi (by omega) | exact vs (by first | assumption | (rw [hst]; done) | (rw [hst]; simp only [List.append_assoc])), by first | rfl | exact vi (by omega) | exact vs (by first | assumption | (rw [hst]; done) | (rw [hst]; simp only [List.append_assoc])), by first | rfl | exact vi (by omega) | exact vs (by first | assumption | (rw [hst]; done) | (rw [hst]; simp only [List.append_assoc])), (by first | assumption | omega | rfl), (by exact hG2), (by first | assumption | omega | rfl), (by exact hp2), (by first | assumption | omega | rfl)⟩
      omega
     ·have h25 := dlt_f g25
      have hjn : j = D.ca.length := by omega
      subst hjn
      rw [List.take_length] at hp
      have hb25 := hb
      refine W.exit (thn_x (thn_x (blk_hit ?_)))
      refine thn_n ?_
      refine W.seq ?_
      refine W.region ?_
      refine L.val (x_mv (v := .pointer _) rfl) rfl ?_
      refine L.val (x_nil rfl) rfl ?_
      refine L.val (x_fa kdsk3_fo42_1 rfl) rfl ?_
      refine L.set (v := .slice _ _ _) kdsk3_sz37 rfl rfl rfl hb rfl (fun wl44 hb hw hzl44 => ?_)
      have hp := hp.carryR hw (by omega)
      refine L.nil ?_
      refine thn_n ?_
      refine W.seq ?_
      refine W.region ?_
      refine L.val (x_as (v := .int _ _) rfl) rfl ?_
      refine L.nil ?_
      refine thn_n ?_
      refine W.ret (fin_mk (.inr rfl) ?_)
      refine ⟨rfl, ⟨h1, ⟨?_, ?_, apD_sec h2.sec hca, fun x hx => (by cases hx), ?_⟩, bp, .slice none 0 0, vk, tn, ct, h3, ?_, h5, hp, own_nil⟩, hG.trans (hw.mono fun k _ e => ?_)⟩
      · show 0 < (apD D.pl D.ca).length; rw [apD_len]; exact h2.pos
      · show (apD D.pl D.ca).length ≤ _; rw [apD_len]; exact h2.small
      · show 0 ≤ 100000 ∧ D.ops + 1 ≤ _; omega
      · have e1 : (flD D).pl.length = D.pl.length := apD_len _ _
        rw [e1]
        exact hb
      · have e : k = b := e
        rw [e]; exact DkB.box hb25 (by kernel_rfl) h1
end Go.Gx
namespace Go.Gx
open Go.Proofs
theorem kdsk4_ag88 : aggT Try.prog 88 65 = true := by kernel_rfl
theorem kdsk4_en40 : Go.Proofs.Enters Try.prog 40 := Go.Proofs.enters_of Try.func40 (by kernel_rfl) rfl
theorem kdsk4_en47 : Go.Proofs.Enters Try.prog 47 := Go.Proofs.enters_of Try.func47 (by kernel_rfl) rfl
theorem kdsk4_en58 : Go.Proofs.Enters Try.prog 58 := Go.Proofs.enters_of Try.func58 (by kernel_rfl) rfl
theorem kdsk4_fo42_0 : fieldOff Try.prog 42 0 = some 0 := by kernel_rfl
theorem kdsk4_fo42_1 : fieldOff Try.prog 42 1 = some 1 := by kernel_rfl
theorem kdsk4_fo88_0 : fieldOff Try.prog 88 0 = some 0 := by kernel_rfl
theorem kdsk4_fo88_1 : fieldOff Try.prog 88 1 = some 1 := by kernel_rfl
theorem kdsk4_mixed : Try.prog.follows .mixedOrders = true := by kernel_rfl
theorem kdsk4_oc3 : oneCellT Try.prog 3 = true := by kernel_rfl
theorem kdsk4_oc31 : oneCellT Try.prog 31 = true := by kernel_rfl
theorem kdsk4_oc36 : oneCellT Try.prog 36 = true := by kernel_rfl
theorem kdsk4_oc37 : oneCellT Try.prog 37 = true := by kernel_rfl
theorem kdsk4_oc9 : oneCellT Try.prog 9 = true := by kernel_rfl
theorem kdsk4_sz31 : (Try.prog.info? 31).map (·.size) = some 1 := by kernel_rfl
theorem kdsk4_sz5 : (Try.prog.info? 5).map (·.size) = some 1 := by kernel_rfl
theorem kdsk4_sz86 : (Try.prog.info? 86).map (·.size) = some 64 := by kernel_rfl
theorem kdsk4_sz88 : (Try.prog.info? 88).map (·.size) = some 65 := by kernel_rfl
theorem kdsk4_sz9 : (Try.prog.info? 9).map (·.size) = some 1 := by kernel_rfl
theorem kdsk4_zr31 : (Try.prog.info? 31).bind (·.zero) = some (Value.int .i64 0) := by kernel_rfl
theorem kdsk4_zr88 : (Try.prog.info? 88).bind (·.zero) = some (Value.agg [Value.int .i64 0, Value.int .u8 0, Value.int .u8 0, Value.int .u8 0, Value.int .u8 0, Value.int .u8 0, Value.int .u8 0, Value.int .u8 0, Value.int .u8 0, Value.int .u8 0, Value.int .u8 0, Value.int .u8 0, Value.int .u8 0, Value.int .u8 0, Value.int .u8 0, Value.int .u8 0, Value.int .u8 0, Value.int .u8 0, Value.int .u8 0, Value.int .u8 0, Value.int .u8 0, Value.int .u8 0, Value.int .u8 0, Value.int .u8 0, Value.int .u8 0, Value.int .u8 0, Value.int .u8 0, Value.int .u8 0, Value.int .u8 0, Value.int .u8 0, Value.int .u8 0, Value.int .u8 0, Value.int .u8 0, Value.int .u8 0, Value.int .u8 0, Value.int .u8 0, Value.int .u8 0, Value.int .u8 0, Value.int .u8 0, Value.int .u8 0, Value.int .u8 0, Value.int .u8 0, Value.int .u8 0, Value.int .u8 0, Value.int .u8 0, Value.int .u8 0, Value.int .u8 0, Value.int .u8 0, Value.int .u8 0, Value.int .u8 0, Value.int .u8 0, Value.int .u8 0, Value.int .u8 0, Value.int .u8 0, Value.int .u8 0, Value.int .u8 0, Value.int .u8 0, Value.int .u8 0, Value.int .u8 0, Value.int .u8 0, Value.int .u8 0, Value.int .u8 0, Value.int .u8 0, Value.int .u8 0, Value.int .u8 0].toArray) := by kernel_rfl
theorem kdsk4_zr9 : (Try.prog.info? 9).bind (·.zero) = some (S []) := by kernel_rfl
def WaC (_ : Nat → Prop) (_ : World) (cs : List Value) (x : Nat × Str) : Prop := cs = waV x ∧ x.2.length = 64
instance car_wa : Car WaC 65 where
  pos := by omega
  len := fun h => by rw [h.1]; exact waV_len h.2
  one := fun h => by rw [h.1]; exact waV_one _
  move := fun _ h => h
def fx (x : Nat × Str) : Nat × Str := (x.1, (x.2 ++ zeros 64).take 64)
theorem fx_len (x : Nat × Str) : (fx x).2.length = 64 := by simp [fx, zeros_len]
theorem fx_id {x : Nat × Str} (h : x.2.length = 64) : fx x = x := by
  unfold fx
  rw [List.take_append_of_le_length (by omega), List.take_of_length_le (by omega)]
theorem rows_pureW {α : Type} [Inhabited α] {C : Thing α} {A : Nat → Prop} {w : World} {f : α → List Value} : ∀ (l : List α), (∀ x ∈ l, C A w (f x) x) → RowsC C A w (l.map f) l := fun l h =>
  ⟨by simp, fun i hi => by
    have := h (l.getD i default) (by rw [List.getD_eq_getElem?_getD, List.getElem?_eq_getElem hi]; exact List.getElem_mem hi)
    simpa [List.getD_eq_getElem?_getD, hi] using this⟩
def encVW (x : Nat × (Nat × Str)) : Array Value := #[.int .i64 (x.1 : Nat), .agg (waV (fx x.2)).toArray]
def bkW (vs : List (Nat × Str)) : List (Nat × (Nat × Str)) := (List.range vs.length).reverse.map fun i => (i, vs.getD i default)
theorem bk_lenW (vs : List (Nat × Str)) : (bkW vs).length = vs.length := by simp [bkW]
theorem bk_atW {vs : List (Nat × Str)} {k : Nat} (h : k < vs.length) : (bkW vs)[k]? = some (vs.length - 1 - k, vs.getD (vs.length - 1 - k) default) := by
  unfold bkW
  rw [List.getElem?_map, List.getElem?_reverse (by simpa using h), List.length_range, List.getElem?_range (by omega)]
  rfl
theorem bk_sndW (vs : List (Nat × Str)) : (bkW vs).map (·.2) = vs.reverse := by
  apply List.ext_getElem?
  intro k
  rw [List.getElem?_map]
  by_cases h : k < vs.length
  · rw [bk_atW h, List.getElem?_reverse h, List.getD_eq_getElem?_getD, List.getElem?_eq_getElem (by omega)]; rfl
  · rw [List.getElem?_eq_none (by rw [bk_lenW]; omega), List.getElem?_eq_none (by simp; omega)]; rfl
theorem bk_takeW {vs : List (Nat × Str)} {k : Nat} (h : k < vs.length) : (bkW vs).take k ++ [(vs.length - 1 - k, vs.getD (vs.length - 1 - k) default)] = (bkW vs).take (k + 1) := by
  rw [List.take_add_one, bk_atW h]; rfl
theorem back_okW (A : Nat → Prop) (l Bs n₀ : Nat) (v : Value) (vs : List (Nat × Str)) (hA : ∀ k, n₀ ≤ k → A k) (hBn : Bs < n₀) (J Jx : List (Nat × (Nat × Str)) → World → Prop)
    (hY : ∀ pre x W, J pre W → pre.length < vs.length → YieldAt Fence.wide 0 Try.prog l (encVW x) W fun e W' =>
      (e = .returned (.bool true) ∧ J (pre ++ [x]) W' ∧ KpB n₀ W W') ∨ (e = .returned (.bool false) ∧ Jx (pre ++ [x]) W'))
    (w : World) (hBs : w.cell? ⟨Bs, 0, none⟩ = some v) (hs : RecsAt WaC 65 A w v vs) (h0 : J [] w) :
    Ret Try.prog 58 #[.func (.yield l) #[] #[], .pointer (some ⟨Bs, 0, none⟩)] w fun _ W' => (∃ xs, xs = bkW vs ∧ J xs W') ∨ (∃ pre, (∃ k, pre = (bkW vs).take k) ∧ Jx pre W') := by
  obtain ⟨p, cap, row, rfl, h1, h2, h3, hR⟩ := hs
  have hlen := bk_lenW vs
  refine ret_of_W Try.func58 rfl (Nat.le_of_ble_eq_true rfl) (res0 rfl) ?_
  refine W.seq ?_
  refine W.region ?_
  refine L.val (x_ld (v := .slice _ _ _) kdsk4_oc37 rfl hBs) rfl ?_
  refine L.val (x_len_slice Try.underlying37 rfl) rfl ?_
  refine L.val (x_sub rfl rfl (wr64 (by omega))) rfl ?_
  refine L.val (x_as (v := .int _ _) rfl) rfl ?_
  refine L.nil ?_
  refine thn_n ?_
  refine W.block ?_
  refine W.loop (fun m' E w' => ∃ (k : Nat), m' = vs.length - k ∧ E 0 = .func (.yield l) #[] #[] ∧ E 1 = .pointer (some ⟨Bs, 0, none⟩) ∧ E 3 = .int .i64 ((vs.length : Nat) - 1 - (k : Nat)) ∧ (k ≤ vs.length) ∧ (J ((bkW vs).take k) w') ∧ (RecRow WaC 65 A w' p row vs) ∧ (w'.cell? ⟨Bs, 0, none⟩ = some (.slice p vs.length cap))) (vs.length) ?_ ?_
  ·exact ⟨0, by omega, by first | rfl | exact vi (by omega), by first | rfl | exact vi (by omega), by first | rfl | exact vi (by omega), (by first | assumption | omega | rfl), (by simpa using h0), (by first | assumption | omega | rfl), (by first | assumption | omega | rfl)⟩
  ·rintro _ E wL7 ⟨k, em, e0, e1, e3, hk, hJ, hR, hBs⟩
   rw [upd_self e0, upd_self e1, upd_self e3]
   refine W.seq ?_
   refine W.seq ?_
   refine W.region ?_
   refine L.val (x_mv (v := .int _ _) rfl) rfl ?_
   refine L.val (x_geq rfl rfl) rfl ?_
   refine L.nil ?_
   refine thn_n ?_
   refine W.cond (b := _) rfl (fun g8 => ?_) (fun g8 => ?_)
   ·have h8 := of_decide_eq_true g8
    have hlt : k < vs.length := by omega
    obtain ⟨b, o, rfl, hAb, hc⟩ := hR.elem (i := vs.length - 1 - k) (by omega)
    have hver := (hR.each (vs.length - 1 - k) (by omega)).1
    have hver2 := (hR.each (vs.length - 1 - k) (by omega)).2
    rw [hver, ← fx_id hver2] at hc
    refine W.skip ?_
    refine thn_n ?_
    refine W.seq ?_
    refine W.block ?_
    refine W.seq ?_
    refine W.wide (m := 1) (WI.region ?_)
    refine LI.val (fun _ => trivial) (fun _ h => by cases h) (x_mv (v := .func _ _ _) rfl) rfl ?_
    refine LI.val (fun _ => trivial) (fun _ h => by cases h) (x_mv (v := .int _ _) rfl) rfl ?_
    refine LI.val (fun _ => trivial) (fun _ h => by cases h) (x_ld (v := .slice _ _ _) kdsk4_oc37 rfl hBs) rfl ?_
    refine LI.val (fun _ => trivial) (fun _ h => by cases h) (x_mv (v := .int _ _) rfl) rfl ?_
    refine LI.val (fun _ => trivial) (fun _ h => by cases h) (x_ia (j := vs.length - 1 - k) Try.underlying37 kdsk4_sz88 rfl rfl (by omega) (by omega)) rfl ?_
    refine LI.val (fun _ => trivial) (fun _ h => by cases h) (x_ldn (vs := waV (fx (vs.getD (vs.length - 1 - k) default))) kdsk4_ag88 rfl (waV_len (fx_len _)) hc) rfl ?_
    refine LI.yieldN (vs := (encVW (vs.length - 1 - k, vs.getD (vs.length - 1 - k) default)).toList) (R := fun e W' => ∃ z, e = .returned (.bool z) ∧ (z = true → J ((bkW vs).take k ++ [(vs.length - 1 - k, vs.getD (vs.length - 1 - k) default)]) W' ∧ KpB n₀ wL7 W') ∧ (z = false → Jx ((bkW vs).take k ++ [(vs.length - 1 - k, vs.getD (vs.length - 1 - k) default)]) W')) (fun _ => trivial) rfl rfl ?_ rfl ((hY ((bkW vs).take k) (vs.length - 1 - k, vs.getD (vs.length - 1 - k) default) wL7 hJ (by rw [List.length_take]; omega)).mono ?_) (fun e w' ⟨z, h, _⟩ => ⟨_, h⟩) ?_
    · show [Value.int .i64 ((vs.length : Nat) - 1 - (k : Nat)), _] = [Value.int .i64 ((vs.length - 1 - k : Nat) : Int), _]
      rw [show ((vs.length - 1 - k : Nat) : Int) = (vs.length : Nat) - 1 - (k : Nat) by omega]; rfl
    · rintro e W' (⟨rfl, a1, a2⟩ | ⟨rfl, a1⟩)
      · exact ⟨true, rfl, fun _ => ⟨a1, a2⟩, fun h => by cases h⟩
      · exact ⟨false, rfl, fun h => (by cases h), fun _ => a1⟩
    rintro u w13 ⟨z, hz, r1, r2⟩
    cases hz
    refine LI.val (fun _ => trivial) (fun _ h => by cases h) (x_not rfl) rfl ?_
    refine LI.nil ?_
    refine thn_n ?_
    refine W.cond (b := _) rfl (fun g18 => ?_) (fun g18 => ?_)
    ·have h18 := (not_t g18)
     refine W.ret (blk_r (thn_r (thn_r (blk_r (fin_mk (.inr rfl) ?_)))))
     exact .inr ⟨_, ⟨k + 1, bk_takeW hlt⟩, r2 (by simpa using g18)⟩
    ·have h18 := (not_f g18)
     have h18 := g18
     have hg := (r1 (by simpa using h18)).2.1
     have hR := hR.carryR (gr_of_below hg) hA
     have hBs := (gr_of_below hg).cell hBs (by show ¬ n₀ ≤ Bs; omega)
     refine W.skip ?_
     refine blk_n ?_
     refine thn_n ?_
     refine W.region ?_
     refine L.val (x_mv (v := .int _ _) rfl) rfl ?_
     refine L.val (x_sub rfl rfl (wr64 (by omega))) rfl ?_
     refine L.val (x_as (v := .int _ _) rfl) rfl ?_
     refine L.nil ?_
     refine thn_n ⟨rfl, ?_⟩
     refine ⟨_, ?_, k + 1, rfl, by first | rfl | exact vi (by omega), by first | rfl | exact vi (by omega), by first | rfl | exact vi (by omega), (by first | assumption | omega | rfl), (by rw [← bk_takeW hlt]; exact (r1 (by simpa using h18)).1), (by first | assumption | omega | rfl), (by first | assumption | omega | rfl)⟩
     omega
   ·have h8 := dle_f g8
    refine W.exit (thn_x (thn_x (blk_hit ?_)))
    refine fin_mk (.inl rfl) ?_
    exact .inl ⟨_, rfl, by rw [show k = vs.length by omega, ← hlen, List.take_length] at hJ; exact hJ⟩
theorem backward_okW (p : Option Addr) (n cap : Nat) (w : World) : Ret Try.prog 47 #[.slice p n cap] w fun r w' => r = .func (.func 58) #[] #[.pointer (some ⟨w.heap.size, 0, none⟩)] ∧ Box w' w.heap.size 37 [.slice p n cap] ∧ Bel w w' := by
  refine ret_of_W Try.func47 rfl (Nat.le_of_ble_eq_true rfl) (res1 rfl) ?_
  have hB := Gr.refl (fun _ => False) w
  refine W.seq ?_
  refine W.region ?_
  refine L.box (cs := [.slice p n cap]) rfl rfl (fun w1 bx1 hw hz1 => ?_)
  have hB := hB.carry hw
  refine L.val (x_as (v := _) rfl) rfl ?_
  refine L.nil ?_
  refine thn_n ?_
  refine W.seq ?_
  refine W.region ?_
  refine L.val (x_mkfn rfl rfl) rfl ?_
  refine L.val (x_as (v := _) rfl) rfl ?_
  refine L.nil ?_
  refine thn_n ?_
  refine W.ret (fin_mk (.inr rfl) ?_)
  exact ⟨rfl, bx1, hB⟩
theorem back_seqW (A : Nat → Prop) (Bs n₀ : Nat) (v : Value) (vs : List (Nat × Str)) (w : World) (hA : ∀ k, n₀ ≤ k → A k) (hBn : Bs < n₀) (hBs : Bs < w.heap.size) (hc : w.cell? ⟨Bs, 0, none⟩ = some v) (hs : RecsAt WaC 65 A w v vs) (hAw : ∀ k, w.heap.size ≤ k → A k) :
    SeqStopsK Fence.wide 1 Try.prog 58 #[.pointer (some ⟨Bs, 0, none⟩)] encVW (KpB n₀) (fun xs => xs = bkW vs) (fun pre => ∃ k, pre = (bkW vs).take k) vs.length w := by
  intro l J Jx w1 hW _ _ hY h0
  have hs1 := hs.carryR (gr_of_below hW) hAw
  have hc1 := (hW.cell (p := ⟨Bs, 0, none⟩) hBs).trans hc
  rw [show (#[Value.func (.yield l) #[] #[]] ++ #[Value.pointer (some ⟨Bs, 0, none⟩)] : Array Value) = #[.func (.yield l) #[] #[], .pointer (some ⟨Bs, 0, none⟩)] from rfl]
  refine callsIn_wide.2 (Calls.mono (back_okW A l Bs n₀ v vs hA hBn J Jx hY w1 hc1 hs1 h0) ?_)
  rintro e w2 ⟨u, rfl, h⟩
  exact ⟨⟨u, rfl⟩, h⟩
def rdD (D : Dk) (i : Nat) : Str := match D.ca.reverse.find? (fun y => y.1 == i) with
  | some x => x.2
  | none => D.pl.getD i []
theorem find_prefixW {α : Type} {p : α → Bool} {pre l : List α} {x : α} (hpre : ∀ y ∈ pre, p y = false) (hx : p x = true) (h : ∃ k, pre ++ [x] = l.take k) : l.find? p = some x := by
  obtain ⟨k, hk⟩ := h
  have e : l = (pre ++ [x]) ++ l.drop k := by rw [hk, List.take_append_drop]
  rw [e, List.append_assoc, List.find?_append, List.find?_eq_none.2 (fun y hy => by simp [hpre y hy])]
  simp [hx]
theorem plV_cell {w : World} {bp i : Nat} {pl : List Str} (h : Box w bp 86 (plV pl)) (hs : ∀ s ∈ pl, s.length = 64) (hi : i < pl.length) : ∀ m, m < 64 → w.cell? ⟨bp, 0 + i * 64 + m, none⟩ = ((pl.getD i []).map B8)[m]? := fun m hm => by
  have hg : (pl.map fun s => s.map B8).getD i [] = (pl.getD i []).map B8 := by
    rw [List.getD_eq_getElem?_getD, List.getD_eq_getElem?_getD, List.getElem?_map, List.getElem?_eq_getElem hi]; rfl
  have hl : ((pl.getD i []).map B8).length = 64 := by
    rw [List.length_map]
    exact hs _ (by rw [List.getD_eq_getElem?_getD, List.getElem?_eq_getElem hi]; exact List.getElem_mem hi)
  rw [List.getElem?_eq_getElem (by omega)]
  have := rowcK (tl := []) (plV_lens hs) (i := i) (j := m) (by rw [List.length_map]; exact hi) hm (by rw [hg]; exact List.getElem?_eq_getElem (by omega))
  rw [List.append_nil] at this
  exact h.cell this
theorem read_d (n0 b : Nat) (D : Dk) (i : Nat) (w : World) (h : DiskAt n0 w b D) (hd : D.dead = false) (hi : i < D.pl.length) : Ret Try.prog 31 #[.pointer (some ⟨b, 0, none⟩), .int .i64 (i : Nat)] w fun v w' => v = .tuple #[S (rdD D i), .int .i64 0] ∧ Bel w w' := by
  obtain ⟨h1, h2, bp, vc, vk, tn, ct, h3, hb, h5, hp, hc⟩ := id h
  obtain ⟨ac, cc, rfl, hcc⟩ := own_shape hc
  have hr : readyD D (i : Nat) = 0 := by unfold readyD; rw [hd, if_neg (by decide), if_pos (by omega)]
  have hrec : RecsAt WaC 65 (fun k => w.heap.size ≤ k) w (.slice ac D.ca.length cc) D.ca :=
    (rows_pureW (C := WaC) (A := fun _ => False) (w := w) (f := waV) D.ca fun x hx => ⟨rfl, (h2.cac x hx).2⟩).doneB hc (by have := h2.few; omega) (fun _ f => f.elim) (fun _ _ f => f) |>.mono (fun _ hb h => absurd h (by omega))
  refine ret_of_W_marksR Try.func31 rfl (Nat.le_of_ble_eq_true rfl) ?_
  have hB := Gr.refl (fun _ => False) w
  have hb0 := hb; have hp0 := hp; have hbw := hb.lt; have hpw := hp.lt
  refine W.seq ?_
  refine W.region ?_
  refine L.box (cs := [.int .i64 (i : Nat)]) rfl rfl (fun w3 bx3 hw hz3 => ?_)
  have hB := hB.carry hw; have hb := hb.carry hw; have hp := hp.carry hw; have hrec := hrec.carry hw
  refine L.alloc (cs := [S []]) kdsk4_zr9 rfl rfl (fun w4 bx4 hw hz4 => ?_)
  have hB := hB.carry hw; have hb := hb.carry hw; have hp := hp.carry hw; have hrec := hrec.carry hw; have bx3 := bx3.carry hw
  refine L.alloc (cs := [Value.int .i64 0]) kdsk4_zr31 rfl rfl (fun w5 bx5 hw hz5 => ?_)
  have hB := hB.carry hw; have hb := hb.carry hw; have hp := hp.carry hw; have hrec := hrec.carry hw; have bx3 := bx3.carry hw; have bx4 := bx4.carry hw
  refine L.nil ?_
  refine thn_n ?_
  refine W.seq ?_
  refine W.seq ?_
  refine W.region ?_
  refine L.val (x_mv (v := .pointer _) rfl) rfl ?_
  refine L.val (x_ld (v := .int _ _) kdsk4_oc3 rfl (bx3.cell (i := 0) rfl)) rfl ?_
  refine L.ret (x_call kdsk4_en40 rfl) rfl (ready_d n0 b D _ _ (h.bel hB)) ?_
  rintro _ w11 ⟨rfl, hq⟩
  rw [hq, hr]
  refine L.val (x_as (v := .int _ _) rfl) rfl ?_
  refine L.nil ?_
  refine thn_n ?_
  refine W.seq ?_
  refine W.region ?_
  refine L.val (x_mv (v := .int _ _) rfl) rfl ?_
  refine L.val (x_neq rfl rfl) rfl ?_
  refine L.nil ?_
  refine thn_n ?_
  refine W.cond (b := _) rfl (fun g13 => ?_) (fun g13 => ?_)
  ·have h13 := dne_t g13
   cases g13
  ·have h13 := dne_f g13
   refine W.skip ?_
   refine thn_n ?_
   refine W.seq ?_
   refine W.seq ?_
   refine W.region ?_
   refine L.val (x_mv (v := .pointer _) rfl) rfl ?_
   refine L.val (x_nil rfl) rfl ?_
   refine L.val (x_fa kdsk4_fo42_1 rfl) rfl ?_
   refine L.val (x_ld (v := .slice _ _ _) kdsk4_oc37 rfl (hb.cell0 rfl)) rfl ?_
   refine L.ret (x_call kdsk4_en47 rfl) rfl (backward_okW ac D.ca.length cc _) ?_
   rintro _ w19 ⟨rfl, bx19, hw⟩
   have hB := hB.carry hw; have hb := hb.carry hw; have hp := hp.carry hw; have hrec := hrec.carry hw; have bx3 := bx3.carry hw; have bx4 := bx4.carry hw; have bx5 := bx5.carry hw
   have hsz := hB.size
   have z19 := hw.size
   have hrec := hrec.mono (A' := fun k => w19.heap.size ≤ k) (fun b hb h => absurd h (by omega))
   have hbl19 := hb.lt; have hpl19 := hp.lt
   refine L.nil ?_
   refine thn_n ?_
   refine W.block ?_
   refine W.rangeFx (α := Nat × (Nat × Str)) (n₀ := w19.heap.size) (w0 := w19) (N := D.ca.length) rfl kdsk4_en58 (back_seqW (fun k => w19.heap.size ≤ k) _ w19.heap.size _ D.ca w19 (fun _ h => h) bx19.lt bx19.lt (bx19.cell (i := 0) rfl) hrec (fun _ h => h)) (RowKit.Below.refl _ _) (Nat.le_refl _) (fun _ => rfl) rfl
     (fun pre W => (∀ y ∈ pre, (y.2.1 == i) = false) ∧ Box W w.heap.size 3 [.int .i64 (i : Nat)] ∧ Box W w3.heap.size 9 [S []] ∧ Box W w4.heap.size 31 [.int .i64 0] ∧ Bel w W ∧ w19.heap.size ≤ W.heap.size)
     (fun c xs W => c = .ret ∧ ∃ pre x, xs = pre ++ [x] ∧ (∀ y ∈ pre, (y.2.1 == i) = false) ∧ (x.2.1 == i) = true ∧ Box W w3.heap.size 9 [S (fx x.2).2] ∧ Box W w4.heap.size 31 [.int .i64 0] ∧ Bel w W)
     (fun pre X Y row ⟨a1, a2, a3, a4, a5⟩ hg hr => ⟨a1, a2.from hg (fun r e => (hr r e).2), a3.from hg (fun r e => (hr r e).2), a4.from hg (fun r e => (hr r e).2), a5.1.from hg (fun r e => by have := (hr r e).1; omega), Nat.le_trans a5.2 hg.size⟩)
     (fun c pre X Y row ⟨a1, q, x, a2, a3, a4, a5, a6, a7⟩ hg hr => ⟨a1, q, x, a2, a3, a4, a5.from hg (fun r e => (hr r e).2), a6.from hg (fun r e => (hr r e).2), a7.from hg (fun r e => by have := (hr r e).1; omega)⟩)
     ⟨fun _ hy => (by cases hy), bx3, bx4, bx5, hB, Nat.le_refl _⟩
     (fun x E' W => ∃ j, E' 3 = .pointer (some ⟨w.heap.size, 0, none⟩) ∧ E' 4 = .pointer (some ⟨w3.heap.size, 0, none⟩) ∧ E' 5 = .pointer (some ⟨w4.heap.size, 0, none⟩) ∧ E' 8 = .pointer (some ⟨j, 0, none⟩) ∧ Box W j 88 (waV (fx x.2)))
     (fun x a' s X Y row ⟨j, e1, e2, e3, e4, a5⟩ hg hr => ⟨j, e1, e2, e3, e4, a5.from hg (fun r e => (hr r e).2)⟩)
     ?_ ?_ ?_ ?_
   ·rintro l pre x W ⟨hq, bx3, bx4, bx5, hB, hle⟩
    have hV := Gr.refl (fun _ => False) W
    have hsz := hB.size
    refine WI.reg rfl ?_
    refine L.alloc (cs := [Value.int .i64 0, Value.int .u8 0, Value.int .u8 0, Value.int .u8 0, Value.int .u8 0, Value.int .u8 0, Value.int .u8 0, Value.int .u8 0, Value.int .u8 0, Value.int .u8 0, Value.int .u8 0, Value.int .u8 0, Value.int .u8 0, Value.int .u8 0, Value.int .u8 0, Value.int .u8 0, Value.int .u8 0, Value.int .u8 0, Value.int .u8 0, Value.int .u8 0, Value.int .u8 0, Value.int .u8 0, Value.int .u8 0, Value.int .u8 0, Value.int .u8 0, Value.int .u8 0, Value.int .u8 0, Value.int .u8 0, Value.int .u8 0, Value.int .u8 0, Value.int .u8 0, Value.int .u8 0, Value.int .u8 0, Value.int .u8 0, Value.int .u8 0, Value.int .u8 0, Value.int .u8 0, Value.int .u8 0, Value.int .u8 0, Value.int .u8 0, Value.int .u8 0, Value.int .u8 0, Value.int .u8 0, Value.int .u8 0, Value.int .u8 0, Value.int .u8 0, Value.int .u8 0, Value.int .u8 0, Value.int .u8 0, Value.int .u8 0, Value.int .u8 0, Value.int .u8 0, Value.int .u8 0, Value.int .u8 0, Value.int .u8 0, Value.int .u8 0, Value.int .u8 0, Value.int .u8 0, Value.int .u8 0, Value.int .u8 0, Value.int .u8 0, Value.int .u8 0, Value.int .u8 0, Value.int .u8 0, Value.int .u8 0]) kdsk4_zr88 rfl rfl (fun w8 bx8 hw hz8 => ?_)
    have hB := hB.carry hw; have bx3 := bx3.carry hw; have bx4 := bx4.carry hw; have bx5 := bx5.carry hw; have hV := hV.carry hw
    refine L.setRow kdsk4_ag88 rfl rfl bx8 rfl (waV_len (fx_len _)) (waV_one _) (fun wl19 bx8 hw hzl19 => ?_)
    have hsz := hB.size
    have hB := hB.set hw (by omega); have bx3 := bx3.carryR hw (by omega); have bx4 := bx4.carryR hw (by omega); have bx5 := bx5.carryR hw (by omega); have hV := hV.set hw (by omega)
    refine L.nil ?_
    have hvs := hV.size
    exact ⟨rfl, rfl, (kp_of_bel w19.heap.size hV hle).1, (kp_of_bel w19.heap.size hV hle).2, ⟨hq, bx3, bx4, bx5, hB, by omega⟩, _, rfl, rfl, rfl, rfl, bx8⟩
   ·rintro l pre x E W ⟨hq, bx3, bx4, bx5, hB, hle⟩ ⟨j, e3, e4, e5, e8, bx8⟩ hlen
    rw [upd_self e3, upd_self e4, upd_self e5, upd_self e8]
    have hW := Gr.refl (fun k => k = w3.heap.size ∨ k = w4.heap.size) W
    have bxo4 := bx4; have bxo5 := bx5
    have hne : j ≠ w3.heap.size ∧ j ≠ w4.heap.size := ⟨box_ne bx8 bx4 (by decide), box_ne bx8 bx5 (by decide)⟩
    refine WI.block ?_
    refine WI.seq ?_
    refine WI.reg rfl ?_
    refine L.val (x_fa kdsk4_fo88_0 rfl) rfl ?_
    refine L.val (x_ld (v := .int _ _) kdsk4_oc3 rfl (bx8.cell0 rfl)) rfl ?_
    refine L.val (x_ld (v := .int _ _) kdsk4_oc3 rfl (bx3.cell (i := 0) rfl)) rfl ?_
    refine L.val (x_eql rfl rfl) rfl ?_
    refine L.nil ?_
    refine thn_n ?_
    refine WI.cond (b := _) rfl (fun g25 => ?_) (fun g25 => ?_)
    ·have h25 := of_decide_eq_true g25
     refine WI.seq ?_
     refine WI.reg rfl ?_
     refine L.val (x_fa kdsk4_fo88_1 rfl) rfl ?_
     refine L.val (x_slArr Try.underlying86 kdsk4_sz5 rfl rfl) rfl ?_
     refine L.val (x_b2s (l := (fx x.2).2) Try.underlying67 Try.underlying5 Try.underlying9 rfl (by rw [fx_len]) (fun m hm => bx8.rowD 1 (k := 64) (by simp [waV, fx_len]) m (by rwa [fx_len] at hm))) rfl ?_
     refine L.set (v := S _) kdsk4_sz9 rfl rfl rfl bx4 rfl (fun wl27 bx4 hw hzl27 => ?_)
     have hsz := hB.size
     have hB := hB.set hw (by omega); have bx3 := bx3.carryR hw (by omega); have bx5 := bx5.carryR hw (by omega); have bx8 := bx8.carryR hw (by omega); have hW := hW.trans (hw.mono (fun k _ e => by first | exact .inl e | exact .inr e))
     refine L.set (v := .int _ _) kdsk4_sz31 rfl rfl rfl bx5 rfl (fun wl28 bx5 hw hzl28 => ?_)
     have hsz := hB.size
     have hB := hB.set hw (by omega); have bx3 := bx3.carryR hw (by omega); have bx4 := bx4.carryR hw (by omega); have bx8 := bx8.carryR hw (by omega); have hW := hW.trans (hw.mono (fun k _ e => by first | exact .inl e | exact .inr e))
     refine L.nil ?_
     refine thn_n ?_
     refine WI.ret (blk_r (?_))
     have hk := kf_of_gr w19.heap.size hW (fun k o e ho => e.elim (fun e => by subst e; exact bxo4.cells ho) (fun e => by subst e; exact bxo5.cells ho))
     exact ⟨hk, rfl, pre, x, rfl, hq, (by have e : ((x.2.1 : Nat) : Int) = (i : Nat) := h25; rw [beq_iff_eq]; omega), bx4, bx5, hB⟩
    ·have h25 := of_decide_eq_false g25
     refine WI.skip ?_
     refine blk_n ?_
     have hk := kp_of_bel w19.heap.size (Gr.refl (fun _ => False) W) hle
     refine ⟨hk.1, hk.2, fun y hy => ?_, bx3, bx4, bx5, hB, hle⟩
     rcases List.mem_append.1 hy with hy | hy
     · exact hq y hy
     · rw [List.mem_singleton.1 hy, beq_eq_false_iff_ne]
       intro e
       exact h25 (by show ((x.2.1 : Nat) : Int) = _; rw [e])
   rotate_left 1
   ·rintro Db c pre Wd hD hpk ⟨rfl, q, x, rfl, hq, hx, bx4, bx5, hB⟩ hK
    have hf : (bkW D.ca).find? (fun y => y.2.1 == i) = some x := find_prefixW hq hx (by obtain ⟨k, hk⟩ := hpk; exact ⟨k, hk⟩)
    have hf2 : D.ca.reverse.find? (fun y => y.1 == i) = some x.2 := by
      rw [← bk_sndW, List.find?_map]
      show ((bkW D.ca).find? fun y => y.2.1 == i).map _ = _
      rw [hf]; rfl
    have hxm : x.2.2.length = 64 := (h2.cac x.2 (by have := List.mem_of_find?_eq_some hf2; simpa using this)).2
    have hrd : rdD D i = x.2.2 := by unfold rdD; rw [hf2]
    rw [hrd]
    rw [fx_id hxm] at bx4
    have hne : ∀ j, j < w19.heap.size → ¬ j = Db := fun j hj e => by omega
    refine W.ret (blk_r (thn_r (finMR_mk (.inr rfl) ?_)))
    exact ⟨Db, rfl, hK, _, resC2 rfl kdsk4_oc9 kdsk4_oc31 rfl rfl (bx4.carryR (gr_putObj _ _ _) (hne _ (by omega))) (bx5.carryR (gr_putObj _ _ _) (hne _ (by omega))), rfl, hB.set (gr_putObj _ _ _) (by omega)⟩
   rintro Db xs w8 hD rfl ⟨hq, bx3, bx4, bx5, hB, hle⟩ hK
   have hf2 : D.ca.reverse.find? (fun y => y.1 == i) = none := by
     rw [← bk_sndW, List.find?_map]
     show ((bkW D.ca).find? fun y => y.2.1 == i).map _ = _
     rw [List.find?_eq_none.2 (fun y hy => by rw [hq y hy]; simp)]; rfl
   have hrd : rdD D i = D.pl.getD i [] := by unfold rdD; rw [hf2]
   rw [hrd]
   have hb := hb0.carry hB
   have hp := hp0.carry hB
   have hsi : (D.pl.getD i []).length = 64 := h2.sec _ (by rw [List.getD_eq_getElem?_getD, List.getElem?_eq_getElem hi]; exact List.getElem_mem hi)
   refine blk_n ?_
   refine thn_n ?_
   refine W.seq ?_
   refine W.drawD (fun k => k = w3.heap.size ∨ k = w4.heap.size) (fun k => k = w3.heap.size ∨ k = w4.heap.size) 8 kdsk4_mixed (fun wD29 hw => ?_)
   have hb := hb.carry hw; have bx3 := bx3.carry hw; have bx4 := bx4.carry hw; have bx5 := bx5.carry hw
   have hB0 := Gr.refl (fun k => k = w3.heap.size ∨ k = w4.heap.size) wD29; have hR0 := Gr.refl (fun k => k = w3.heap.size ∨ k = w4.heap.size) wD29
   have hD := hw
   have hpD := hp.carry hw
   refine LAD.take0 (i := 0) rfl (by kernel_rfl) (by kernel_rfl) (by kernel_rfl) (by kernel_rfl) (fun w hw => x_mv (v := .pointer _) rfl) rfl ?_
   refine LAD.take0 (i := 1) rfl (by kernel_rfl) (by kernel_rfl) (by kernel_rfl) (by kernel_rfl) (fun w hw => x_nil rfl) rfl ?_
   refine LAD.take0 (i := 2) rfl (by kernel_rfl) (by kernel_rfl) (by kernel_rfl) (by kernel_rfl) (fun w hw => x_fa kdsk4_fo42_0 rfl) rfl ?_
   refine LAD.take0 (i := 3) rfl (by kernel_rfl) (by kernel_rfl) (by kernel_rfl) (by kernel_rfl) (fun w hw => x_ld (v := .slice _ _ _) kdsk4_oc36 rfl (hw.keepR (fun e => by rcases e with e | e <;> (have e : (_ : Nat) = _ := e; (try dsimp only at e); omega)) (hb.cell0 rfl))) rfl ?_
   refine LAD.take0 (i := 4) rfl (by kernel_rfl) (by kernel_rfl) (by kernel_rfl) (by kernel_rfl) (fun w hw => x_ld (v := .int _ _) kdsk4_oc3 rfl (hw.keepR (fun e => by rcases e with e | e <;> (have e : (_ : Nat) = _ := e; (try dsimp only at e); omega)) (bx3.cell (i := 0) rfl))) rfl ?_
   refine LAD.take0 (i := 5) rfl (by kernel_rfl) (by kernel_rfl) (by kernel_rfl) (by kernel_rfl) (fun w hw => x_ia (j := i) Try.underlying36 kdsk4_sz86 rfl rfl (by omega) (by omega)) rfl ?_
   refine LAD.take0 (i := 6) rfl (by kernel_rfl) (by kernel_rfl) (by kernel_rfl) (by kernel_rfl) (fun w hw => x_slArr Try.underlying86 kdsk4_sz5 rfl rfl) rfl ?_
   refine LAD.take0 (i := 7) rfl (by kernel_rfl) (by kernel_rfl) (by kernel_rfl) (by kernel_rfl) (fun w hw => x_b2s (l := D.pl.getD i []) Try.underlying67 Try.underlying5 Try.underlying9 rfl (by rw [hsi]) (fun m hm => plV_cell (hpD.carryR hw (fun e => by rcases e with e | e <;> omega)) h2.sec hi m (by rwa [hsi] at hm))) rfl ?_
   refine LAD.step (rs := [8]) hR0 (fun _ => hB0) (by kernel_rfl) (by simp) ⟨⟨_, rfl, ?_⟩, trivial⟩
   refine L.set (v := S _) kdsk4_sz9 rfl rfl rfl bx4 rfl (fun wl37 bx4 hw hzl37 => ?_)
   have hR0 := hR0.into hw (by first | exact .inl rfl | exact .inr rfl); have bx5 := bx5.carryR hw (by omega)
   refine L.nil ?_
   refine thn_n ?_
   refine LAD.step' (rs := [9]) hR0 (by kernel_rfl) (by kernel_rfl) (by simp) ⟨⟨_, rfl, ?_⟩, trivial⟩
   refine L.set (v := .int _ _) kdsk4_sz31 rfl rfl rfl bx5 rfl (fun wl38 bx5 hw hzl38 => ?_)
   have hR0 := hR0.into hw (by first | exact .inl rfl | exact .inr rfl); have bx4 := bx4.carryR hw (by omega)
   refine L.nil ?_
   refine thn_n ?_
   refine LAD.done (by kernel_rfl) (by kernel_rfl) hR0 ?_
   have hb := trivial
   have bx3 := trivial
   have hall := ((Gr.refl (fun k => k = w3.heap.size ∨ k = w4.heap.size) w8).carry hD).trans hR0
   refine thn_n ?_
   refine W.ret (finMR_mk (.inr rfl) ?_)
   have hK1 := defk hall hK (fun e => by rcases e with e | e <;> omega)
   have hBf := hB.step hall (fun i hi e => by rcases e with e | e <;> omega)
   exact ⟨Db, rfl, hK1, _, resC2 rfl kdsk4_oc9 kdsk4_oc31 rfl rfl (bx4.carryR (gr_putObj _ _ _) (fun e => by have e : w3.heap.size = Db := e; omega)) (bx5.carryR (gr_putObj _ _ _) (fun e => by have e : w4.heap.size = Db := e; omega)), rfl, hBf.set (gr_putObj _ _ _) (by omega)⟩
end Go.Gx
