/- A disk whose power may go: Write and Flush. Conditions: none. -/
import Derived.Test.YtfbcmonbmkafpaaGreatCmCrs2
import Derived.Test.YtfbcmonbmkafpaaGreatCmMapS
import Derived.Test.YtfbcmonbmkafpaaGreatCmRowG
namespace Go.Gx
open Go.Proofs
theorem kdsf4_ag118 : aggT Tryz.prog 118 65 = true := by kernel_rfl
theorem kdsf4_ag50 : aggT Tryz.prog 50 3 = true := by kernel_rfl
theorem kdsf4_el118 : elT Tryz.prog 118 65 = true := by kernel_rfl
theorem kdsf4_en60 : Go.Proofs.Enters Tryz.prog 60 := Go.Proofs.enters_of Tryz.func60 (by kernel_rfl) rfl
theorem kdsf4_en67 : Go.Proofs.Enters Tryz.prog 67 := Go.Proofs.enters_of Tryz.func67 (by kernel_rfl) rfl
theorem kdsf4_en68 : Go.Proofs.Enters Tryz.prog 68 := Go.Proofs.enters_of Tryz.func68 (by kernel_rfl) rfl
theorem kdsf4_fo100_1 : fieldOff Tryz.prog 100 1 = some 1 := by kernel_rfl
theorem kdsf4_fo100_2 : fieldOff Tryz.prog 100 2 = some 2 := by kernel_rfl
theorem kdsf4_fo118_1 : fieldOff Tryz.prog 118 1 = some 1 := by kernel_rfl
theorem kdsf4_mixed : Tryz.prog.follows .mixedOrders = true := by kernel_rfl
theorem kdsf4_oc98 : oneCellT Tryz.prog 98 = true := by kernel_rfl
theorem kdsf4_sz5 : (Tryz.prog.info? 5).map (·.size) = some 1 := by kernel_rfl
theorem kdsf4_sz98 : (Tryz.prog.info? 98).map (·.size) = some 1 := by kernel_rfl
theorem kdsf4_zr118 : (Tryz.prog.info? 118).bind (·.zero) = some (Value.agg [Value.int .i64 0, Value.int .u8 0, Value.int .u8 0, Value.int .u8 0, Value.int .u8 0, Value.int .u8 0, Value.int .u8 0, Value.int .u8 0, Value.int .u8 0, Value.int .u8 0, Value.int .u8 0, Value.int .u8 0, Value.int .u8 0, Value.int .u8 0, Value.int .u8 0, Value.int .u8 0, Value.int .u8 0, Value.int .u8 0, Value.int .u8 0, Value.int .u8 0, Value.int .u8 0, Value.int .u8 0, Value.int .u8 0, Value.int .u8 0, Value.int .u8 0, Value.int .u8 0, Value.int .u8 0, Value.int .u8 0, Value.int .u8 0, Value.int .u8 0, Value.int .u8 0, Value.int .u8 0, Value.int .u8 0, Value.int .u8 0, Value.int .u8 0, Value.int .u8 0, Value.int .u8 0, Value.int .u8 0, Value.int .u8 0, Value.int .u8 0, Value.int .u8 0, Value.int .u8 0, Value.int .u8 0, Value.int .u8 0, Value.int .u8 0, Value.int .u8 0, Value.int .u8 0, Value.int .u8 0, Value.int .u8 0, Value.int .u8 0, Value.int .u8 0, Value.int .u8 0, Value.int .u8 0, Value.int .u8 0, Value.int .u8 0, Value.int .u8 0, Value.int .u8 0, Value.int .u8 0, Value.int .u8 0, Value.int .u8 0, Value.int .u8 0, Value.int .u8 0, Value.int .u8 0, Value.int .u8 0, Value.int .u8 0].toArray) := by kernel_rfl
def Kn (D : Dk) (K : Fl) : Fl := if D.armed = 1 then K0 else K
theorem dropD_ok {D : Dk} {K : Fl} (h : DkOk D) : DkOk (dropD D K) := by
  refine ⟨?_, ?_, dropL_sec h.sec (fun x hx => ⟨(h.cac x hx).2, (h.cac x hx).1⟩), fun x hx => (by cases hx), ?_⟩
  · show 0 < (dropL K 0 D.ca D.pl).length; rw [dropL_len]; exact h.pos
  · show (dropL K 0 D.ca D.pl).length ≤ _; rw [dropL_len]; exact h.small
  · show 0 ≤ 100000 ∧ D.ops ≤ _; have := h.few; omega
theorem diskF_drop {n0 b bp : Nat} {w : World} {D : Dk} {K : Fl} (h1 : n0 ≤ b) (h3 : n0 ≤ bp) (h2 : DkOk D) (hb : Box w b 100 (dkV (.slice (some ⟨bp, 0, none⟩) D.pl.length D.pl.length) (.slice none 0 0) (.slice none 0 0) 0 0 (dropD D K))) (hp : Box w bp 111 (plV (dropL K 0 D.ca D.pl))) : DiskF n0 w b (dropD D K) K0 := by
  have e : (dropD D K).pl.length = D.pl.length := dropL_len _ _ _ _
  exact ⟨h1, dropD_ok h2, bp, .slice none 0 0, .slice none 0 0, h3, by rw [e]; exact hb, ⟨none, 0, rfl, Nat.le_refl _, by omega, by simp [K0], fun e => absurd rfl e⟩, hp, own_nil⟩
theorem fall_row {w : World} {b : Nat} {T : TypeId} {vp vc vk : Value} {tn ct : Int} {D : Dk} (h : Box w b T (dkV vp vc vk tn ct D)) : ∀ j, j < 3 → w.cell? ⟨b, 0 + 2 + j, none⟩ = [vk, .int .i64 tn, .int .i64 ct][j]? := fun j hj => by
  match j, hj with
  | 0, _ => exact h.cell (i := 2) rfl
  | 1, _ => exact h.cell (i := 3) rfl
  | 2, _ => exact h.cell (i := 4) rfl
theorem write_f (n0 b : Nat) (D : Dk) (K : Fl) (i : Nat) (s : Str) (w : World) (h : DiskF n0 w b D K) (ha : D.armed ≤ 9223372036854775807) (hd : D.dead = false) (hi : i < D.pl.length) (hs : s.length = 64) (hn : n0 ≤ w.heap.size) (hf : D.ca.length < 100000 ∧ D.ops < 1000000000) :
    Ret Tryz.prog 33 #[.pointer (some ⟨b, 0, none⟩), .int .i64 (i : Nat), S s] w fun v w' => v = .int .i64 (if D.armed = 1 then 190 else 0) ∧ DiskF n0 w' b (wrF D K i s) (Kn D K) ∧ Dg dkTy n0 w w' := by
  obtain ⟨h1, h2, bp, vc, vk, h3, hb, hk, hp, hc⟩ := id h
  have hk : AllBl n0 w vk K.keep := hk
  obtain ⟨pk, ck, rfl, -⟩ := id hk
  obtain ⟨ac, cc, rfl, hcc⟩ := own_shape hc
  have hr : readyD D (i : Nat) = 0 := by unfold readyD; rw [hd, if_neg (by decide), if_pos (by omega)]
  have hbl := hb.lt
  have hwl : (waV (i, s)).length = 65 := waV_len (x := (i, s)) hs
  have hqc : ∀ j, some j = (Value.slice ac D.ca.length cc).ownBlock → n0 ≤ j ∧ j < w.heap.size ∧ j ≠ b ∧ j ≠ bp := fun j hj => ⟨(Own.lt hc hj).1, (Own.lt hc hj).2, fun e => own_box_ne hc hb (by decide) (e ▸ hj), fun e => own_box_ne hc hp (by decide) (e ▸ hj)⟩
  have hbpne : bp ≠ b := box_ne hp hb (by decide)
  have hpl := hp.lt
  have hD1 : DkOk { wrD D i s with armed := D.armed - 1 } := ⟨h2.pos, h2.small, h2.sec, fun x hx => by
      rcases List.mem_append.1 hx with hx | hx
      · exact h2.cac x hx
      · rw [List.mem_singleton.1 hx]; exact ⟨hi, hs⟩, by simp only [wrD, List.length_append, List.length_singleton]; omega⟩
  refine ret_of_W Tryz.func33 rfl (Nat.le_of_ble_eq_true rfl) (res1 rfl) ?_
  have hB := Gr.refl (fun _ => False) w
  refine W.seq ?_
  refine W.region ?_
  refine L.val (x_as (v := .int _ _) rfl) rfl ?_
  refine L.nil ?_
  refine thn_n ?_
  refine W.seq ?_
  refine W.seq ?_
  refine W.region ?_
  refine L.val (x_mv (v := .pointer _) rfl) rfl ?_
  refine L.val (x_mv (v := .int _ _) rfl) rfl ?_
  refine L.ret (x_call kdsf4_en60 rfl) rfl (ready_d n0 b D _ _ h.at) ?_
  rintro _ w11 ⟨rfl, hq⟩
  rw [hq, hr]
  refine L.val (x_as (v := .int _ _) rfl) rfl ?_
  refine L.nil ?_
  refine thn_n ?_
  refine W.seq ?_
  refine W.region ?_
  refine L.val (x_mv (v := .int _ _) rfl) rfl ?_
  refine L.val (x_neq rfl rfl) rfl ?_
  refine L.nil ?_
  refine thn_n ?_
  refine W.cond (b := _) rfl (fun g13 => ?_) (fun g13 => ?_)
  ·have h13 := dne_t g13
   cases g13
  ·have h13 := dne_f g13
   refine W.skip ?_
   refine thn_n ?_
   refine W.seq ?_
   refine W.seq ?_
   refine W.region ?_
   refine L.val (x_mv (v := S _) rfl) rfl ?_
   refine L.val (x_len_str Tryz.underlying9 rfl) rfl ?_
   refine L.val (x_neq rfl rfl) rfl ?_
   refine L.nil ?_
   refine thn_n ?_
   refine W.cond (b := _) rfl (fun g17 => ?_) (fun g17 => ?_)
   ·have h17 := dne_t g17
    omega
   ·have h17 := dne_f g17
    refine W.skip ?_
    refine thn_n ?_
    refine W.seq ?_
    refine W.region ?_
    refine L.val (x_mv (v := .int _ _) rfl) rfl ?_
    refine L.val (x_build (cells := waV (i, zeros 64)) (places := [(0, 1), (1, 64)]) (zero := Value.int .i64 0 :: (zeros 64).map B8) (by kernel_rfl) rfl (fill0 rfl)) rfl ?_
    refine L.alloc (cs := [Value.int .i64 0, Value.int .u8 0, Value.int .u8 0, Value.int .u8 0, Value.int .u8 0, Value.int .u8 0, Value.int .u8 0, Value.int .u8 0, Value.int .u8 0, Value.int .u8 0, Value.int .u8 0, Value.int .u8 0, Value.int .u8 0, Value.int .u8 0, Value.int .u8 0, Value.int .u8 0, Value.int .u8 0, Value.int .u8 0, Value.int .u8 0, Value.int .u8 0, Value.int .u8 0, Value.int .u8 0, Value.int .u8 0, Value.int .u8 0, Value.int .u8 0, Value.int .u8 0, Value.int .u8 0, Value.int .u8 0, Value.int .u8 0, Value.int .u8 0, Value.int .u8 0, Value.int .u8 0, Value.int .u8 0, Value.int .u8 0, Value.int .u8 0, Value.int .u8 0, Value.int .u8 0, Value.int .u8 0, Value.int .u8 0, Value.int .u8 0, Value.int .u8 0, Value.int .u8 0, Value.int .u8 0, Value.int .u8 0, Value.int .u8 0, Value.int .u8 0, Value.int .u8 0, Value.int .u8 0, Value.int .u8 0, Value.int .u8 0, Value.int .u8 0, Value.int .u8 0, Value.int .u8 0, Value.int .u8 0, Value.int .u8 0, Value.int .u8 0, Value.int .u8 0, Value.int .u8 0, Value.int .u8 0, Value.int .u8 0, Value.int .u8 0, Value.int .u8 0, Value.int .u8 0, Value.int .u8 0, Value.int .u8 0]) kdsf4_zr118 rfl rfl (fun w8 bx8 hw hz8 => ?_)
    have hB := hB.carry hw; have hb := hb.carry hw; have hc := hc.carry hw; have hp := hp.carry hw; have hk := hk.carry hw
    have bx8o := bx8
    refine L.setRow kdsf4_ag118 rfl rfl bx8 rfl rfl (waV_one (i, zeros 64)) (fun wl17 bx8 hw hzl17 => ?_)
    have hsz := hB.size
    have hB := hB.set hw (by omega); have hb := hb.carryR hw (by omega); have hc := Own.carryR hc hw (fun j hj e => by have e : j = _ := e; have := hqc j hj; omega); have hp := hp.carryR hw (by omega); have hk := hk.box bx8o (by kernel_rfl) (by omega) hw
    refine L.nil ?_
    refine thn_n ?_
    refine W.seq ?_
    refine W.region ?_
    have bx8o := bx8
    refine L.val (x_fa kdsf4_fo118_1 rfl) rfl ?_
    refine L.val (x_slArr Tryz.underlying111 kdsf4_sz5 rfl rfl) rfl ?_
    refine L.val (x_mv (v := S _) rfl) rfl ?_
    refine L.cpS Tryz.underlying77 kdsf4_sz5 rfl rfl rfl bx8 (by omega) (by rw [hs]; exact Nat.le_refl _) (fun w23 bx8 hw hz23 => ?_)
    have hsB := hB.size
    have hB := hB.set hw (by omega); have hb := hb.carryR hw (by omega); have hp := hp.carryR hw (by omega)
    have hk := hk.box bx8o (by kernel_rfl) (by omega) hw
    have hc := Own.carryR hc hw (fun j hj e => by have e : j = _ := e; have := hqc j hj; omega)
    have e8 : (waV (i, zeros 64)).take (0 + 1) ++ s.map B8 ++ (waV (i, zeros 64)).drop (0 + 1 + s.length) = waV (i, s) := by
      rw [hs, List.drop_of_length_le (by rw [waV_len (zeros_len 64)]; exact Nat.le_refl _), List.append_nil]
      rfl
    rw [e8] at bx8
    have hb23 := hb
    have hc23 := hc
    have hk23 := hk
    refine L.nil ?_
    refine thn_n ?_
    refine W.seq ?_
    refine W.drawD (fun j => some j = (Value.slice ac D.ca.length cc).ownBlock ∨ j = b) (fun j => some j = (Value.slice ac D.ca.length cc).ownBlock) 10 kdsf4_mixed (fun wD24 hw => ?_)
    have hb := hb.carry hw; have hc := hc.carry hw; have hp := hp.carry hw; have bx8 := bx8.carry hw
    have hB0 := Gr.refl (fun j => some j = (Value.slice ac D.ca.length cc).ownBlock) wD24; have hR0 := Gr.refl (fun j => some j = (Value.slice ac D.ca.length cc).ownBlock ∨ j = b) wD24
    have hD := hw
    refine LAD.take0 (i := 0) rfl (by kernel_rfl) (by kernel_rfl) (by kernel_rfl) (by kernel_rfl) (fun w hw => x_mv (v := .pointer _) rfl) rfl ?_
    refine LAD.take0 (i := 1) rfl (by kernel_rfl) (by kernel_rfl) (by kernel_rfl) (by kernel_rfl) (fun w hw => x_mv (v := .pointer _) rfl) rfl ?_
    refine LAD.take0 (i := 2) rfl (by kernel_rfl) (by kernel_rfl) (by kernel_rfl) (by kernel_rfl) (fun w hw => x_nil rfl) rfl ?_
    refine LAD.take0 (i := 3) rfl (by kernel_rfl) (by kernel_rfl) (by kernel_rfl) (by kernel_rfl) (fun w hw => x_fa kdsf4_fo100_1 rfl) rfl ?_
    refine LAD.take1 (i := 4) rfl (by kernel_rfl) (by kernel_rfl) (by kernel_rfl) (by kernel_rfl) (by kernel_rfl) (by kernel_rfl) (fun w hw => x_ld (v := .slice _ _ _) kdsf4_oc98 rfl (hw.keepR (fun e => by have := hqc _ e; (try dsimp only at this); omega) (hb.cell0 rfl))) rfl ?_
    refine LAD.take0 (i := 5) rfl (by kernel_rfl) (by kernel_rfl) (by kernel_rfl) (by kernel_rfl) (fun w hw => x_ldn (vs := waV (i, s)) kdsf4_ag118 rfl hwl (hw.keepRowR (fun e => by rcases e with e | e; (have := hqc _ e; (try dsimp only at this); omega); (have e : (_ : Nat) = _ := e; (try dsimp only at e); omega)) hwl (bx8.row hwl))) rfl ?_
    refine LAD.step (rs := [6]) hR0 (fun _ => hB0) (by kernel_rfl) (by simp) ⟨⟨_, rfl, ?_⟩, trivial⟩
    refine L.bs (sz := 65) (cells := waV (i, s)) Tryz.underlying98 kdsf4_el118 rfl (by show (partsOk 65 0 [(0, Value.agg (waV (i, s)).toArray)] && decide ([((0 : Nat), Value.agg (waV (i, s)).toArray)].length = 1) && decide (0 < 1) && decide (1 * 65 ≤ 16777216)) = true; simp [partsOk, hwl, Value.cells]) (List.append_nil (waV (i, s))) rfl (fun w30 bx30 hw hz30 => ?_)
    have hB0 := hB0.carry hw; have hR0 := hR0.carry hw; have hb := hb.carry hw; have hc := hc.carry hw
    refine L.nil ?_
    refine thn_n ?_
    refine LAD.step (rs := [7]) hR0 (fun _ => hB0) (by kernel_rfl) (by simp) ⟨⟨_, rfl, ?_⟩, trivial⟩
    refine L.appendN (m := 1) Tryz.underlying98 kdsf4_el118 rfl rfl rfl hc (by rw [hwl]) (holdsN_box bx30) (waV_one (i, s)) (by omega) (by have := hB.size; have := hB0.size; have := hD.size; omega) (fun v31 w31 hO31 hg hob31 => ?_)
    have hB0 := hB0.intoR hg (fun k e => e)
    have hR0 := hR0.intoR hg (fun k e => .inl e)
    have hb := hb.carryR hg (fun e => (hqc _ e).2.2.1 rfl)
    have hb31 := hb
    obtain ⟨a31, c31, e31, -⟩ := own_shape hO31
    subst e31
    refine L.nil ?_
    refine thn_n ?_
    refine LAD.take0 (i := 8) rfl (by kernel_rfl) (by kernel_rfl) (by kernel_rfl) (by kernel_rfl) (fun w hw => x_nil rfl) rfl ?_
    refine LAD.take0 (i := 9) rfl (by kernel_rfl) (by kernel_rfl) (by kernel_rfl) (by kernel_rfl) (fun w hw => x_fa kdsf4_fo100_1 rfl) rfl ?_
    refine LAD.step (rs := [10]) hR0 (fun _ => hB0) (by kernel_rfl) (by simp) ⟨⟨_, rfl, ?_⟩, trivial⟩
    refine L.set (v := .slice _ _ _) kdsf4_sz98 rfl rfl rfl hb rfl (fun wl32 hb hw hzl32 => ?_)
    have hR0 := hR0.into hw (by first | exact .inl rfl | exact .inr rfl)
    have hn31 : ∀ j, some j = (Value.slice a31 (D.ca.length + 1) c31).ownBlock → j ≠ b := fun j hj e => own_box_ne hO31 hb31 (by decide) (e ▸ hj)
    have hO32 := Own.carryR hO31 hw (fun j hj e => hn31 j hj e)
    refine L.nil ?_
    refine thn_n ?_
    refine LAD.done (by kernel_rfl) (by kernel_rfl) hR0 ?_
    have hp := hp.carryR hR0 (fun e => by rcases e with e | e; exact (hqc _ e).2.2.2 rfl; exact hbpne e)
    have bx8 := trivial
    have hall : Gr (fun j => some j = (Value.slice ac D.ca.length cc).ownBlock ∨ j = b) w23 wl32 := ((Gr.refl _ _).carry hD).trans hR0
    have hdk : ∀ k, (some k = (Value.slice ac D.ca.length cc).ownBlock ∨ k = b) → DkB dkTy n0 w23 k := fun k e => by
      rcases e with e | rfl
      · exact DkB.own hc23 (by kernel_rfl) (Nat.le_refl _) k e
      · exact DkB.box hb23 (by kernel_rfl) h1
    have hk : AllBl n0 wl32 _ K.keep := hk23.dg (hall.mono fun k _ e => DkB.mono (hdk k e) lg_of_dk)
    have hDg : Dg dkTy n0 w wl32 := (Dg.of_bel hB).trans (hall.mono fun k _ e => hdk k e)
    have hOca : Own wl32 n0 118 65 (.slice a31 (D.ca.length + 1) c31) (D.ca ++ [(i, s)]).length ((D.ca ++ [(i, s)]).map waV).flatten := by simpa using hO32
    refine thn_n ?_
    refine W.seq ?_
    refine W.seq ?_
    refine W.region ?_
    refine L.val (x_mv (v := .pointer _) rfl) rfl ?_
    refine L.ret (x_call kdsf4_en67 rfl) rfl (falls_f b _ _ _ _ _ D _ hb (by omega) ha) ?_
    rintro _ w35 ⟨rfl, hb35, hG35⟩
    have hDg := hDg.trans (hG35.mono (R' := DkB dkTy n0 _) fun k _ e => by have e : k = b := e; rw [e]; exact DkB.box hb (by kernel_rfl) h1)
    have hk := hk.box hb (by kernel_rfl) h1 hG35
    have hp := hp.carryR hG35 (fun e => hbpne e)
    have hO35 := Own.carryR hOca hG35 (fun j hj e => hn31 j hj e)
    have hb := hb35
    refine L.nil ?_
    refine thn_n ?_
    refine W.cond (b := _) rfl (fun g35 => ?_) (fun g35 => ?_)
    ·have h35 := g35
     have ha1 : D.armed = 1 := by simpa using g35
     refine W.seq ?_
     refine W.region ?_
     refine L.val (x_mv (v := .pointer _) rfl) rfl ?_
     refine L.val (x_mv (v := .pointer _) rfl) rfl ?_
     refine L.val (x_nil rfl) rfl ?_
     refine L.val (x_fa kdsf4_fo100_2 rfl) rfl ?_
     refine L.val (x_ldn (vs := [.slice pk K.keep.length ck, .int .i64 K.torn, .int .i64 K.cut]) kdsf4_ag50 rfl rfl (fall_row hb)) rfl ?_
     refine L.ret (x_call kdsf4_en68 rfl) rfl (drop_f n0 b bp _ _ _ _ _ { wrD D i s with armed := D.armed - 1 } K _ h1 h3 hD1 hb hk hp hO35) ?_
     rintro _ w41 ⟨hb41, hp41, hG41⟩
     refine L.nil ?_
     refine thn_n ?_
     refine W.seq ?_
     refine W.region ?_
     refine L.val (x_as (v := .int _ _) rfl) rfl ?_
     refine L.nil ?_
     refine thn_n ?_
     refine W.ret (thn_r (fin_mk (.inr rfl) ?_))
     have e : wrF D K i s = dropD { wrD D i s with armed := D.armed - 1 } K := by unfold wrF; rw [if_pos ha1]; rfl
     rw [e, if_pos ha1]
     unfold Kn
     rw [if_pos ha1]
     exact ⟨rfl, diskF_drop h1 h3 hD1 hb41 hp41, hDg.trans hG41⟩
    ·have h35 := g35
     have ha1 : ¬ D.armed = 1 := by simpa using g35
     refine W.skip ?_
     refine thn_n ?_
     refine W.seq ?_
     refine W.region ?_
     refine L.val (x_as (v := .int _ _) rfl) rfl ?_
     refine L.nil ?_
     refine thn_n ?_
     refine W.ret (fin_mk (.inr rfl) ?_)
     have e : wrF D K i s = { wrD D i s with armed := D.armed - 1 } := by unfold wrF; rw [if_neg ha1]
     rw [e, if_neg ha1]
     unfold Kn
     rw [if_neg ha1]
     exact ⟨rfl, ⟨h1, hD1, bp, _, _, h3, hb, hk, hp, hO35⟩, hDg⟩
end Go.Gx
namespace Go.Gx
open Go.Proofs
theorem kdsf5_ag111 : aggT Tryz.prog 111 64 = true := by kernel_rfl
theorem kdsf5_ag118 : aggT Tryz.prog 118 65 = true := by kernel_rfl
theorem kdsf5_ag50 : aggT Tryz.prog 50 3 = true := by kernel_rfl
theorem kdsf5_en60 : Go.Proofs.Enters Tryz.prog 60 := Go.Proofs.enters_of Tryz.func60 (by kernel_rfl) rfl
theorem kdsf5_en67 : Go.Proofs.Enters Tryz.prog 67 := Go.Proofs.enters_of Tryz.func67 (by kernel_rfl) rfl
theorem kdsf5_en68 : Go.Proofs.Enters Tryz.prog 68 := Go.Proofs.enters_of Tryz.func68 (by kernel_rfl) rfl
theorem kdsf5_fo100_0 : fieldOff Tryz.prog 100 0 = some 0 := by kernel_rfl
theorem kdsf5_fo100_1 : fieldOff Tryz.prog 100 1 = some 1 := by kernel_rfl
theorem kdsf5_fo100_2 : fieldOff Tryz.prog 100 2 = some 2 := by kernel_rfl
theorem kdsf5_fo118_0 : fieldOff Tryz.prog 118 0 = some 0 := by kernel_rfl
theorem kdsf5_fo118_1 : fieldOff Tryz.prog 118 1 = some 1 := by kernel_rfl
theorem kdsf5_mixed : Tryz.prog.follows .mixedOrders = true := by kernel_rfl
theorem kdsf5_oc3 : oneCellT Tryz.prog 3 = true := by kernel_rfl
theorem kdsf5_oc97 : oneCellT Tryz.prog 97 = true := by kernel_rfl
theorem kdsf5_oc98 : oneCellT Tryz.prog 98 = true := by kernel_rfl
theorem kdsf5_sz111 : (Tryz.prog.info? 111).map (·.size) = some 64 := by kernel_rfl
theorem kdsf5_sz118 : (Tryz.prog.info? 118).map (·.size) = some 65 := by kernel_rfl
theorem kdsf5_sz98 : (Tryz.prog.info? 98).map (·.size) = some 1 := by kernel_rfl
theorem kdsf5_zr118 : (Tryz.prog.info? 118).bind (·.zero) = some (Value.agg [Value.int .i64 0, Value.int .u8 0, Value.int .u8 0, Value.int .u8 0, Value.int .u8 0, Value.int .u8 0, Value.int .u8 0, Value.int .u8 0, Value.int .u8 0, Value.int .u8 0, Value.int .u8 0, Value.int .u8 0, Value.int .u8 0, Value.int .u8 0, Value.int .u8 0, Value.int .u8 0, Value.int .u8 0, Value.int .u8 0, Value.int .u8 0, Value.int .u8 0, Value.int .u8 0, Value.int .u8 0, Value.int .u8 0, Value.int .u8 0, Value.int .u8 0, Value.int .u8 0, Value.int .u8 0, Value.int .u8 0, Value.int .u8 0, Value.int .u8 0, Value.int .u8 0, Value.int .u8 0, Value.int .u8 0, Value.int .u8 0, Value.int .u8 0, Value.int .u8 0, Value.int .u8 0, Value.int .u8 0, Value.int .u8 0, Value.int .u8 0, Value.int .u8 0, Value.int .u8 0, Value.int .u8 0, Value.int .u8 0, Value.int .u8 0, Value.int .u8 0, Value.int .u8 0, Value.int .u8 0, Value.int .u8 0, Value.int .u8 0, Value.int .u8 0, Value.int .u8 0, Value.int .u8 0, Value.int .u8 0, Value.int .u8 0, Value.int .u8 0, Value.int .u8 0, Value.int .u8 0, Value.int .u8 0, Value.int .u8 0, Value.int .u8 0, Value.int .u8 0, Value.int .u8 0, Value.int .u8 0, Value.int .u8 0].toArray) := by kernel_rfl
theorem flush_f (n0 b : Nat) (D : Dk) (K : Fl) (w : World) (h : DiskF n0 w b D K) (ha : D.armed ≤ 9223372036854775807) (hd : D.dead = false) (hn : n0 ≤ w.heap.size) (hf : D.ops < 1000000000) :
    Ret Tryz.prog 35 #[.pointer (some ⟨b, 0, none⟩)] w fun v w' => v = .int .i64 (if D.armed = 1 then 190 else 0) ∧ DiskF n0 w' b (flF D K) (Kn D K) ∧ Dg dkTy n0 w w' := by
  obtain ⟨h1, h2, bp, vc, vk, h3, hb, hk, hp, hc⟩ := id h
  have hk : AllBl n0 w vk K.keep := hk
  obtain ⟨pk, ck, rfl, -⟩ := id hk
  obtain ⟨ac, cc, rfl, hcc⟩ := own_shape hc
  have hr : readyD D 0 = 0 := by unfold readyD; rw [hd, if_neg (by decide), if_pos ⟨by omega, by have := h2.pos; omega⟩]
  have hbpne : bp ≠ b := box_ne hp hb (by decide)
  have hqc : ∀ j, some j = (Value.slice ac D.ca.length cc).ownBlock → j ≠ b ∧ j ≠ bp := fun j hj => ⟨fun e => own_box_ne hc hb (by decide) (e ▸ hj), fun e => own_box_ne hc hp (by decide) (e ▸ hj)⟩
  have hca : ∀ x ∈ D.ca, x.2.length = 64 := fun x hx => (h2.cac x hx).2
  have hfew := h2.few
  have hD1 : DkOk { D with ops := D.ops + 1, armed := D.armed - 1 } := ⟨h2.pos, h2.small, h2.sec, h2.cac, by dsimp only; omega⟩
  refine ret_of_W Tryz.func35 rfl (Nat.le_of_ble_eq_true rfl) (res1 rfl) ?_
  refine W.seq ?_
  refine W.region ?_
  refine L.val (x_as (v := .int _ _) rfl) rfl ?_
  refine L.nil ?_
  refine thn_n ?_
  refine W.seq ?_
  refine W.seq ?_
  refine W.region ?_
  refine L.val (x_mv (v := .pointer _) rfl) rfl ?_
  refine L.ret (x_call kdsf5_en60 rfl) rfl (ready_d n0 b D _ _ h.at) ?_
  rintro _ w7 ⟨rfl, hq⟩
  rw [hq, hr]
  refine L.val (x_as (v := .int _ _) rfl) rfl ?_
  refine L.nil ?_
  refine thn_n ?_
  refine W.seq ?_
  refine W.region ?_
  refine L.val (x_mv (v := .int _ _) rfl) rfl ?_
  refine L.val (x_neq rfl rfl) rfl ?_
  refine L.nil ?_
  refine thn_n ?_
  refine W.cond (b := _) rfl (fun g9 => ?_) (fun g9 => ?_)
  ·have h9 := dne_t g9
   cases g9
  ·have h9 := dne_f g9
   refine W.skip ?_
   refine thn_n ?_
   refine W.seq ?_
   refine W.seq ?_
   refine W.region ?_
   refine L.val (x_mv (v := .pointer _) rfl) rfl ?_
   refine L.ret (x_call kdsf5_en67 rfl) rfl (falls_f b _ _ _ _ _ D _ hb (by omega) ha) ?_
   rintro _ w12 ⟨rfl, hb12, hG12⟩
   have hp := hp.carryR hG12 (fun e => hbpne e)
   have hc := Own.carryR hc hG12 (fun j hj e => (hqc j hj).1 e)
   have hk := hk.box hb (by kernel_rfl) h1 hG12
   have hG : Dg dkTy n0 w w12 := hG12.mono (fun k _ e => by have e : k = b := e; rw [e]; exact DkB.box hb (by kernel_rfl) h1)
   have hb := hb12
   refine L.nil ?_
   refine thn_n ?_
   refine W.cond (b := _) rfl (fun g12 => ?_) (fun g12 => ?_)
   ·have h12 := g12
    have ha1 : D.armed = 1 := by simpa using g12
    refine W.seq ?_
    refine W.region ?_
    refine L.val (x_mv (v := .pointer _) rfl) rfl ?_
    refine L.val (x_mv (v := .pointer _) rfl) rfl ?_
    refine L.val (x_nil rfl) rfl ?_
    refine L.val (x_fa kdsf5_fo100_2 rfl) rfl ?_
    refine L.val (x_ldn (vs := [.slice pk K.keep.length ck, .int .i64 K.torn, .int .i64 K.cut]) kdsf5_ag50 rfl rfl (fall_row hb)) rfl ?_
    refine L.ret (x_call kdsf5_en68 rfl) rfl (drop_f n0 b bp _ _ _ _ _ { D with ops := D.ops + 1, armed := D.armed - 1 } K _ h1 h3 hD1 hb hk hp hc) ?_
    rintro _ w18 ⟨hb18, hp18, hG18⟩
    refine L.nil ?_
    refine thn_n ?_
    refine W.seq ?_
    refine W.region ?_
    refine L.val (x_as (v := .int _ _) rfl) rfl ?_
    refine L.nil ?_
    refine thn_n ?_
    refine W.ret (thn_r (fin_mk (.inr rfl) ?_))
    have e : flF D K = dropD { D with ops := D.ops + 1, armed := D.armed - 1 } K := by unfold flF; rw [if_pos ha1]; rfl
    rw [e, if_pos ha1]
    unfold Kn
    rw [if_pos ha1]
    exact ⟨rfl, diskF_drop h1 h3 hD1 hb18 hp18, hG.trans hG18⟩
   ·have h12 := g12
    have ha1 : ¬ D.armed = 1 := by simpa using g12
    refine W.skip ?_
    refine thn_n ?_
    refine W.seq ?_
    refine W.seq ?_
    refine W.region ?_
    refine L.val (x_mv (v := .pointer _) rfl) rfl ?_
    refine L.val (x_nil rfl) rfl ?_
    refine L.val (x_fa kdsf5_fo100_1 rfl) rfl ?_
    refine L.val (x_ld (v := .slice _ _ _) kdsf5_oc98 rfl (hb.cell0 rfl)) rfl ?_
    refine L.val (x_len_slice Tryz.underlying98 rfl) rfl ?_
    refine L.val (x_mv (v := .int _ _) rfl) rfl ?_
    refine L.nil ?_
    refine thn_n ?_
    refine W.block ?_
    refine W.loop (fun m' E w' => ∃ (j : Nat), m' = D.ca.length - j ∧ E 0 = .pointer (some ⟨b, 0, none⟩) ∧ E 22 = .slice ac D.ca.length cc ∧ E 23 = .int .i64 (D.ca.length : Nat) ∧ E 24 = .int .i64 (j : Nat) ∧ (j ≤ D.ca.length) ∧ (Dg dkTy n0 w w') ∧ (Box w' b 100 (dkV (.slice (some ⟨bp, 0, none⟩) D.pl.length D.pl.length) (.slice ac D.ca.length cc) (.slice pk K.keep.length ck) K.torn K.cut { D with ops := D.ops + 1, armed := D.armed - 1 })) ∧ (Box w' bp 111 (plV (apD D.pl (D.ca.take j)))) ∧ (Own w' n0 118 65 (.slice ac D.ca.length cc) D.ca.length (D.ca.map waV).flatten) ∧ (AllBl n0 w' (.slice pk K.keep.length ck) K.keep)) (D.ca.length) ?_ ?_
    ·exact ⟨0, by omega, by first | rfl | exact vi (by omega) | exact vs (by first | assumption | (rw [hst]; done) | (rw [hst]; simp only [List.append_assoc])), by first | rfl | exact vi (by omega) | exact vs (by first | assumption | (rw [hst]; done) | (rw [hst]; simp only [List.append_assoc])), by first | rfl | exact vi (by omega) | exact vs (by first | assumption | (rw [hst]; done) | (rw [hst]; simp only [List.append_assoc])), by first | rfl | exact vi (by omega) | exact vs (by first | assumption | (rw [hst]; done) | (rw [hst]; simp only [List.append_assoc])), (by first | assumption | omega | rfl), (by first | assumption | omega | rfl), (by first | assumption | omega | rfl), (by first | assumption | omega | rfl), (by first | assumption | omega | rfl), (by first | assumption | omega | rfl)⟩
    ·rintro _ E wL25 ⟨j, em, e0, e22, e23, e24, hj, hG, hb, hp, hc, hk⟩
     rw [upd_self e0, upd_self e22, upd_self e23, upd_self e24]
     refine W.seq ?_
     refine W.region ?_
     refine L.val (x_lss rfl rfl) rfl ?_
     refine L.nil ?_
     refine thn_n ?_
     refine W.seq ?_
     refine W.cond (b := _) rfl (fun g25 => ?_) (fun g25 => ?_)
     ·have h25 := of_decide_eq_true g25
      have hlt : j < D.ca.length := by omega
      obtain ⟨bc, rfl⟩ := own_pos hc (by omega)
      have hrow := own_rowK hc (ca_lens hca) (i := j) (by rw [List.length_map]; exact hlt)
      rw [ca_get hlt] at hrow
      obtain ⟨x, hx⟩ : ∃ x, x = D.ca.getD j default := ⟨_, rfl⟩
      rw [← hx] at hrow
      have hxm : x ∈ D.ca := by rw [hx, List.getD_eq_getElem?_getD, List.getElem?_eq_getElem hlt]; exact List.getElem_mem hlt
      obtain ⟨hx1, hx2⟩ := h2.cac x hxm
      have hwl : (waV x).length = 65 := waV_len hx2
      have hst := apD_take (pl := D.pl) hlt
      rw [← hx] at hst
      have hsec : ∀ s ∈ apD D.pl (D.ca.take j), s.length = 64 := apD_sec h2.sec (fun y hy => hca y (List.mem_of_mem_take hy))
      have hapl := apD_len (D.ca.take j) D.pl
      have hbl := hb.lt; have hbpl := hp.lt
      have hB := Gr.refl (fun _ => False) wL25
      refine W.skip ?_
      refine thn_n ?_
      refine W.seq ?_
      refine W.block ?_
      refine W.seq ?_
      refine W.region ?_
      have hc0 := hc
      refine L.val (x_ia (j := j) Tryz.underlying98 kdsf5_sz118 rfl rfl (by omega) (by omega)) rfl ?_
      refine L.val (x_ldn (vs := waV x) kdsf5_ag118 rfl hwl hrow) rfl ?_
      refine L.alloc (cs := [Value.int .i64 0, Value.int .u8 0, Value.int .u8 0, Value.int .u8 0, Value.int .u8 0, Value.int .u8 0, Value.int .u8 0, Value.int .u8 0, Value.int .u8 0, Value.int .u8 0, Value.int .u8 0, Value.int .u8 0, Value.int .u8 0, Value.int .u8 0, Value.int .u8 0, Value.int .u8 0, Value.int .u8 0, Value.int .u8 0, Value.int .u8 0, Value.int .u8 0, Value.int .u8 0, Value.int .u8 0, Value.int .u8 0, Value.int .u8 0, Value.int .u8 0, Value.int .u8 0, Value.int .u8 0, Value.int .u8 0, Value.int .u8 0, Value.int .u8 0, Value.int .u8 0, Value.int .u8 0, Value.int .u8 0, Value.int .u8 0, Value.int .u8 0, Value.int .u8 0, Value.int .u8 0, Value.int .u8 0, Value.int .u8 0, Value.int .u8 0, Value.int .u8 0, Value.int .u8 0, Value.int .u8 0, Value.int .u8 0, Value.int .u8 0, Value.int .u8 0, Value.int .u8 0, Value.int .u8 0, Value.int .u8 0, Value.int .u8 0, Value.int .u8 0, Value.int .u8 0, Value.int .u8 0, Value.int .u8 0, Value.int .u8 0, Value.int .u8 0, Value.int .u8 0, Value.int .u8 0, Value.int .u8 0, Value.int .u8 0, Value.int .u8 0, Value.int .u8 0, Value.int .u8 0, Value.int .u8 0, Value.int .u8 0]) kdsf5_zr118 rfl rfl (fun w5 bx5 hw hz5 => ?_)
      have hB := hB.carry hw; have hb := hb.carry hw; have hp := hp.carry hw; have hc := hc.carry hw; have hk := hk.carry hw
      have bx5o := bx5
      refine L.setRow kdsf5_ag118 rfl rfl bx5 rfl hwl (waV_one x) (fun wl28 bx5 hw hzl28 => ?_)
      have hsz := hB.size
      have hB := hB.set hw (by omega); have hb := hb.carryR hw (by omega); have hp := hp.carryR hw (by first | exact fun e => hbpne e | omega); have hc := Own.carryR hc hw (fun i hi e => by have e : i = _ := e; have := (Own.lt hc0 hi).2; omega); have hk := hk.box bx5o (by kernel_rfl) (by omega) hw
      have hB28 := hB
      refine L.nil ?_
      refine thn_n ?_
      refine W.drawD (fun i => i = bp ∨ i = bp) (fun _ => False) 9 kdsf5_mixed (fun wD28 hw => ?_)
      have hb := hb.carry hw; have bx5 := bx5.carry hw; have hc := hc.carry hw; have hB := hB.carry hw; have hk := hk.carry hw
      have hB0 := Gr.refl (fun _ => False) wD28; have hR0 := Gr.refl (fun i => i = bp ∨ i = bp) wD28
      have hD := hw
      refine LAD.take0 (i := 0) rfl (by kernel_rfl) (by kernel_rfl) (by kernel_rfl) (by kernel_rfl) (fun w hw => x_mv (v := .pointer _) rfl) rfl ?_
      refine LAD.take0 (i := 1) rfl (by kernel_rfl) (by kernel_rfl) (by kernel_rfl) (by kernel_rfl) (fun w hw => x_nil rfl) rfl ?_
      refine LAD.take0 (i := 2) rfl (by kernel_rfl) (by kernel_rfl) (by kernel_rfl) (by kernel_rfl) (fun w hw => x_fa kdsf5_fo100_0 rfl) rfl ?_
      refine LAD.take0 (i := 3) rfl (by kernel_rfl) (by kernel_rfl) (by kernel_rfl) (by kernel_rfl) (fun w hw => x_ld (v := .slice _ _ _) kdsf5_oc97 rfl (hw.keepR (fun e => by have e : (_ : Nat) = _ := e.elim id id; (try dsimp only at e); omega) (hb.cell0 rfl))) rfl ?_
      refine LAD.take0 (i := 4) rfl (by kernel_rfl) (by kernel_rfl) (by kernel_rfl) (by kernel_rfl) (fun w hw => x_fa kdsf5_fo118_0 rfl) rfl ?_
      refine LAD.take0 (i := 5) rfl (by kernel_rfl) (by kernel_rfl) (by kernel_rfl) (by kernel_rfl) (fun w hw => x_ld (v := .int _ _) kdsf5_oc3 rfl (hw.keepR (fun e => by have e : (_ : Nat) = _ := e.elim id id; (try dsimp only at e); omega) (bx5.cell0 rfl))) rfl ?_
      refine LAD.take0 (i := 6) rfl (by kernel_rfl) (by kernel_rfl) (by kernel_rfl) (by kernel_rfl) (fun w hw => x_fa kdsf5_fo118_1 rfl) rfl ?_
      refine LAD.take0 (i := 7) rfl (by kernel_rfl) (by kernel_rfl) (by kernel_rfl) (by kernel_rfl) (fun w hw => x_ldn (vs := x.2.map B8) kdsf5_ag111 rfl (by rw [List.length_map, hx2]) (hw.keepRowR (fun e => by have e : (_ : Nat) = _ := e.elim id id; (try dsimp only at e); omega) (by rw [List.length_map, hx2]) (bx5.rowD 1 (k := 64) (by simp [waV, hx2])))) rfl ?_
      refine LAD.take0 (i := 8) rfl (by kernel_rfl) (by kernel_rfl) (by kernel_rfl) (by kernel_rfl) (fun w hw => x_ia (j := x.1) Tryz.underlying97 kdsf5_sz111 rfl rfl (by omega) (by omega)) rfl ?_
      refine LAD.step (rs := [9]) hR0 (fun _ => hB0) (by kernel_rfl) (by simp) ⟨⟨_, rfl, ?_⟩, trivial⟩
      refine L.setPart (k := 64) kdsf5_ag111 rfl rfl (hp.carry hD) (by rw [plV_len hsec, hapl]; omega) (by rw [List.length_map, hx2]) (B8_one _) (fun wl38 hpN hw hzl38 => ?_)
      rw [plV_set hsec (by omega), ← hst] at hpN
      have hR0 := hR0.into hw (.inr rfl)
      refine L.nil ?_
      refine thn_n ?_
      refine LAD.done (by kernel_rfl) (by kernel_rfl) hR0 ?_
      have hb := hb.carryR hR0 (fun e => hbpne (e.elim id id).symm)
      have bx5 := trivial
      have hc := Own.carryR hc hR0 (fun i hi e => (hqc i hi).2 (e.elim id id))
      have hB := trivial
      have hk := hk.box (hp.carry hD) (by kernel_rfl) h3 (hR0.mono (fun _ _ e => e.elim id id))
      have hp2 := hpN
      have hall : Gr (fun i => i = bp ∨ i = bp) wl28 wl38 := ((Gr.refl _ _).carry hD).trans hR0
      have hG2 : Dg dkTy n0 w wl38 := (hG.trans (Dg.of_bel hB28)).trans (hall.mono fun k _ e => by rw [e.elim id id]; exact DkB.box hp (by kernel_rfl) h3)
      refine blk_n ?_
      refine thn_n ?_
      refine W.region ?_
      refine L.val (x_add rfl rfl (wr64 (by omega))) rfl ?_
      refine L.val (x_mv (v := .int _ _) rfl) rfl ?_
      refine L.nil ?_
      refine thn_n ⟨rfl, ?_⟩
      refine ⟨_, ?_, j + 1, rfl, by first | rfl | exact vi (by omega) | exact vs (by first | assumption | (rw [hst]; done) | (rw [hst]; simp only [List.append_assoc])), by first | rfl | exact vi (by omega) | exact vs (by first | assumption | (rw [hst]; done) | (rw [hst]; simp only [List.append_assoc])), by first | rfl | exact vi (by omega) | exact vs (by first | assumption | (rw [hst]; done) | (rw [hst]; simp only [List.append_assoc])), by first | rfl | exact vi (by omega) | exact vs (by first | assumption | (rw [hst]; done) | (rw [hst]; simp only [List.append_assoc])), (by first | assumption | omega | rfl), (by exact hG2), (by first | assumption | omega | rfl), (by exact hp2), (by first | assumption | omega | rfl), (by first | assumption | omega | rfl)⟩
      omega
     ·have h25 := dlt_f g25
      have hjn : j = D.ca.length := by omega
      subst hjn
      rw [List.take_length] at hp
      have hb25 := hb
      refine W.exit (thn_x (thn_x (blk_hit ?_)))
      refine thn_n ?_
      refine W.seq ?_
      refine W.region ?_
      refine L.val (x_mv (v := .pointer _) rfl) rfl ?_
      refine L.val (x_nil rfl) rfl ?_
      refine L.val (x_fa kdsf5_fo100_1 rfl) rfl ?_
      refine L.set (v := .slice _ _ _) kdsf5_sz98 rfl rfl rfl hb rfl (fun wl44 hb hw hzl44 => ?_)
      have hp := hp.carryR hw (by first | exact fun e => hbpne e | omega)
      refine L.nil ?_
      refine thn_n ?_
      refine W.seq ?_
      refine W.region ?_
      refine L.val (x_as (v := .int _ _) rfl) rfl ?_
      refine L.nil ?_
      refine thn_n ?_
      refine W.ret (fin_mk (.inr rfl) ?_)
      have e : flF D K = { flD D with armed := D.armed - 1 } := by unfold flF; rw [if_neg ha1]
      rw [e, if_neg ha1]
      unfold Kn
      rw [if_neg ha1]
      refine ⟨rfl, ⟨h1, ⟨?_, ?_, apD_sec h2.sec hca, fun x hx => (by cases hx), ?_⟩, bp, .slice none 0 0, .slice pk K.keep.length ck, h3, ?_, hk.box hb25 (by kernel_rfl) h1 hw, hp, own_nil⟩, hG.trans (hw.mono fun k _ e => ?_)⟩
      · show 0 < (apD D.pl D.ca).length; rw [apD_len]; exact h2.pos
      · show (apD D.pl D.ca).length ≤ _; rw [apD_len]; exact h2.small
      · show 0 ≤ 100000 ∧ D.ops + 1 ≤ _; omega
      · have e1 : ({ flD D with armed := D.armed - 1 } : Dk).pl.length = D.pl.length := apD_len _ _
        rw [e1]
        exact hb
      · have e : k = b := e
        rw [e]; exact DkB.box hb25 (by kernel_rfl) h1
end Go.Gx
namespace Go.Gx
open Go.Proofs
def armD (D : Dk) (i : Int) : Dk := if i < 0 then D else { D with armed := i.toNat }
theorem BlsAt.carryR {A R : Nat → Prop} {w w' : World} {v : Value} {l : List Bool} (h : BlsAt A w v l) (g : Gr R w w') (hR : ∀ k, R k → A k) : BlsAt A w' v l := h.move fun a v hA hv => ⟨g.cell hv (fun r => hA (hR _ r)), hA⟩
theorem BlsAt.carry {A : Nat → Prop} {w w' : World} {v : Value} {l : List Bool} (h : BlsAt A w v l) (g : Bel w w') : BlsAt A w' v l := h.carryR g (fun _ f => f.elim)
end Go.Gx
namespace Go.Gx
open Go.Proofs
structure RepC (D : Dk) (q : Pt) (all : List Str) : Prop where
  ok : QOk D q
  big : tooBig all = false
  tail : q.tail = (all.map frm).flatten.length
  cnt : q.cnt = all.length
  area : allA D q = (all.map frm).flatten
  z : q.ep = 0 → q = pt0 ∧ rdD D 0 = zeros 64 ∧ rdOk (rdD D 1) (roomN D.pl.length) = false
  hd : 0 < q.ep → rdD D (q.ep % 2) = hdrS q
  ot : 0 < q.ep → rdOk (rdD D ((q.ep + 1) % 2)) (roomN D.pl.length) = true → (rdPt (rdD D ((q.ep + 1) % 2))).ep < q.ep
  zp : ZP (roomN D.pl.length) (rdD D ((q.ep + 1) % 2))
theorem hdP_repC {D : Dk} {q : Pt} {all : List Str} (h : RepC D q all) (hok : DkOk D) : 0 < q.ep → hdP D 2 = (q, true) := fun h0 => by
  have hp := h.ok.pt hok
  have e1 : rdOk (hdrS q) (roomN D.pl.length) = true := rdOk_hdr hp h.ok.half h.ok.tail
  have e2 := rd_hdr hp (show q.half < 256 by have := h.ok.half; omega)
  have hd := h.hd h0; have ot := h.ot h0
  show stepP _ (rdD D 1) (stepP _ (rdD D 0) (pt0, false)) = _
  rcases Nat.mod_two_eq_zero_or_one q.ep with h1 | h1
  · rw [h1] at hd
    rw [show (q.ep + 1) % 2 = 1 by omega] at ot
    have s0 : stepP (roomN D.pl.length) (rdD D 0) (pt0, false) = (q, true) := by unfold stepP; rw [hd, e1, e2]; rfl
    rw [s0]
    unfold stepP
    cases h2 : rdOk (rdD D 1) (roomN D.pl.length) with
    | false => rfl
    | true =>
      have := ot h2
      rw [decide_eq_false (show ¬ q.ep < (rdPt (rdD D 1)).ep by omega)]; rfl
  · rw [h1] at hd
    rw [show (q.ep + 1) % 2 = 0 by omega] at ot
    have s1 : ∀ x : Pt × Bool, (x.2 = true → x.1.ep < q.ep) → stepP (roomN D.pl.length) (rdD D 1) x = (q, true) := fun x hx => by
      unfold stepP
      rw [hd, e1, e2]
      cases h3 : x.2 with
      | false => rfl
      | true => rw [decide_eq_true (hx h3)]; rfl
    refine s1 _ fun hx => ?_
    unfold stepP at hx ⊢
    cases h2 : rdOk (rdD D 0) (roomN D.pl.length) with
    | false => rw [h2] at hx; cases hx
    | true => exact ot h2
theorem open_repC {D : Dk} {q : Pt} {all : List Str} (h : RepC D q all) (hok : DkOk D) : openA D = (0, q, all) := by
  have hs := scan_frms h.big
  have key : (hdP D 2).1 = q ∧ ((hdP D 2).2 || frS D 2) = true := by
    rcases Nat.eq_zero_or_pos q.ep with h0 | h0
    · obtain ⟨e1, e2, e3⟩ := h.z h0
      have hh : hdP D 2 = (pt0, false) := by
        show stepP _ (rdD D 1) (stepP _ (rdD D 0) (pt0, false)) = _
        rw [e2]
        unfold stepP
        rw [rdOk_zeros, e3]; rfl
      rw [hh, e1]
      refine ⟨rfl, ?_⟩
      unfold frS
      rw [e2, beq_self_eq_true]; rfl
    · rw [hdP_repC h hok h0]; exact ⟨rfl, rfl⟩
  unfold openA
  rw [if_pos key.2, key.1, h.area, hs, if_pos ⟨h.tail.symm, h.cnt.symm⟩]
theorem ZP_zeros (room : Nat) : ZP room (zeros 64) := ZP_torn room pt0 (m := 0) (by omega)
theorem ZP_hdr (room : Nat) (p : Pt) : ZP room (hdrS p) := by
  have := ZP_torn room p (m := 64) (by omega)
  rwa [List.take_of_length_le (by rw [hdrS_len]; omega), Nat.sub_self, show zeros 0 = [] from rfl, List.append_nil] at this
theorem repC_new {m : Nat} (h : 6 ≤ m) : RepC (newD m) pt0 [] := by
  have r := rep_new h
  obtain ⟨e1, e2, e3⟩ := r.z rfl
  exact ⟨r.ok, rfl, rfl, rfl, rfl, fun _ => ⟨rfl, e2, by rw [e3]; exact rdOk_zeros _⟩, fun e => absurd e (by decide), fun e => absurd e (by decide), by
    show ZP _ (rdD (newD m) 1); rw [e3]; exact ZP_zeros _⟩
structure Nx (D : Dk) (q p : Pt) (at' : Nat) (s : Str) (all' : List Str) : Prop where
  ep : p.ep = q.ep + 1
  half : p.half ≤ 1
  room : at' + s.length ≤ roomN D.pl.length
  tail : p.tail = at' + s.length
  way : p.half = q.half ∧ at' = q.tail ∨ p.half ≠ q.half ∧ at' = 0
  big : tooBig all' = false
  area : (areaS D p ((at' + 63) / 64)).take at' ++ s = (all'.map frm).flatten
  cnt : p.cnt = all'.length
def chk (D : Dk) (p : Pt) (at' : Nat) (s : Str) : List (Nat × Str) := (List.range (nck D p at' s)).map fun k => (stN D.pl.length p.half + at' / 64 + k, ckS (allS D p at' s) k)
theorem chk_mem {D : Dk} {p : Pt} {at' : Nat} {s : Str} {x : Nat × Str} (h : x ∈ chk D p at' s) : ∃ k, k < nck D p at' s ∧ x = (stN D.pl.length p.half + at' / 64 + k, ckS (allS D p at' s) k) := by
  obtain ⟨k, hk, rfl⟩ := List.mem_map.1 h
  exact ⟨k, by simpa using hk, rfl⟩
theorem nck_le {D : Dk} {q p : Pt} {at' : Nat} {s : Str} {all' : List Str} (hok : DkOk D) (h6 : 6 ≤ D.pl.length) (nx : Nx D q p at' s all') : at' / 64 + nck D p at' s ≤ hlf D.pl.length ∧ nck D p at' s ≤ 2200 := by
  have hal := allS_len hok (s := s) h6 nx.half (at' := at') (by have := nx.room; omega)
  have hr := nx.room
  unfold roomN at hr
  have hs := hok.small
  have : hlf D.pl.length ≤ 2047 := by unfold hlf; omega
  unfold nck
  split
  · omega
  · rw [hal]; omega
theorem chk_nodup {D : Dk} {p : Pt} {at' : Nat} {s : Str} (sl : Nat) (hsl : sl < 2) : ((chk D p at' s ++ [(sl, zeros 64)]).map (·.1)).Nodup := by
  have h2 : 2 ≤ stN D.pl.length p.half := by unfold stN; omega
  rw [List.map_append, List.nodup_append]
  refine ⟨?_, by simp, ?_⟩
  · unfold chk
    rw [List.map_map]
    unfold List.Nodup
    rw [List.pairwise_map]
    exact List.Pairwise.imp (fun h e => h (by dsimp only [Function.comp] at e; omega)) List.nodup_range
  · intro a ha b hb e
    obtain ⟨x, hx, rfl⟩ := List.mem_map.1 ha
    obtain ⟨k, -, rfl⟩ := chk_mem hx
    simp only [List.map_cons, List.map_nil, List.mem_singleton] at hb
    dsimp only at e; omega
theorem left_bytes {D : Dk} {q p : Pt} {all all' : List Str} {at' : Nat} {s : Str} (h : RepC D q all) (hok : DkOk D) (nx : Nx D q p at' s all') {j k : Nat} (hj : j < q.tail) (hk : k < nck D p at' s) (he : stN D.pl.length q.half + j / 64 = stN D.pl.length p.half + at' / 64 + k) (n : Nat) :
    ((ckS (allS D p at' s) k).take n ++ (rdD D (stN D.pl.length q.half + j / 64)).drop n)[j % 64]? = (rdD D (stN D.pl.length q.half + j / 64))[j % 64]? := by
  have h6 := h.ok.h6
  have hnk := nck_le hok h6 nx
  have hqt := h.ok.tail
  have hqh := h.ok.half
  have hph := nx.half
  have hst := stN_le h6 hqh
  have hrN : roomN D.pl.length = hlf D.pl.length * 64 := rfl
  rcases nx.way with ⟨e1, e2⟩ | ⟨e1, e2⟩
  · rw [e1] at he
    have hk0 : k = 0 := by omega
    subst hk0
    have hja : j / 64 = at' / 64 := by omega
    have hm : at' % 64 ≠ 0 := by omega
    have hal := allS_len hok (s := s) h6 hph (at' := at') (by have := nx.room; omega)
    have hl := rdD_len hok (i := stN D.pl.length q.half + j / 64) (by omega)
    have e0 : (ckS (allS D p at' s) 0)[j % 64]? = (rdD D (stN D.pl.length q.half + j / 64))[j % 64]? := by
      rw [ckS_get (by omega) (by omega), Nat.mul_zero, Nat.zero_add]
      unfold allS
      rw [if_neg hm, e1, ← hja, List.getElem?_append_left (by rw [List.length_take, hl]; omega), List.getElem?_take, if_pos (by omega)]
    by_cases hn : j % 64 < n
    · rw [List.getElem?_append_left (by rw [List.length_take, ckS_len]; omega), List.getElem?_take, if_pos hn, e0]
    · rw [List.getElem?_append_right (by rw [List.length_take, ckS_len]; omega), List.length_take, ckS_len, List.getElem?_drop]
      congr 1; omega
  · exfalso
    subst e2
    unfold stN at he
    have hph2 : p.half = 0 ∨ p.half = 1 := by omega
    have hqh2 : q.half = 0 ∨ q.half = 1 := by omega
    rcases hph2 with a | a <;> rcases hqh2 with b | b <;> rw [a, b] at he e1 <;> omega
theorem repC_stay {D E : Dk} {q : Pt} {all : List Str} (h : RepC D q all) (hok : DkOk D) (hokE : DkOk E) (hq : QOk E q) (hl : E.pl.length = D.pl.length)
    (hb : ∀ j, j < q.tail → (rdD E (stN D.pl.length q.half + j / 64))[j % 64]? = (rdD D (stN D.pl.length q.half + j / 64))[j % 64]?)
    (h0 : rdD E (q.ep % 2) = rdD D (q.ep % 2)) (h1 : rdOk (rdD E ((q.ep + 1) % 2)) (roomN D.pl.length) = true → rdOk (rdD D ((q.ep + 1) % 2)) (roomN D.pl.length) = true ∧ rdPt (rdD E ((q.ep + 1) % 2)) = rdPt (rdD D ((q.ep + 1) % 2)))
    (h2 : ZP (roomN D.pl.length) (rdD E ((q.ep + 1) % 2))) : RepC E q all := by
  have hst := stN_le h.ok.h6 h.ok.half
  have hrN : roomN D.pl.length = hlf D.pl.length * 64 := rfl
  have hqt := h.ok.tail
  refine ⟨hq, h.big, h.tail, h.cnt, ?_, fun e => ?_, fun e => by rw [h0]; exact h.hd e, fun e hk => ?_, by rw [hl]; exact h2⟩
  · rw [← h.area]
    unfold allA
    apply List.ext_getElem?
    intro j
    rw [List.getElem?_take, List.getElem?_take]
    split
    · rename_i hj
      rw [areaS_get hokE q j ((q.tail + 63) / 64) (fun i hi => by rw [hl]; omega) (by omega), areaS_get hok q j ((q.tail + 63) / 64) (fun i hi => by omega) (by omega), hl]
      exact hb j hj
    · rfl
  · obtain ⟨a, b, c⟩ := h.z e
    rw [e] at h0 h1
    refine ⟨a, by have := h0; rw [show (0 : Nat) % 2 = 0 from rfl] at this; rw [this, b], ?_⟩
    rw [hl]
    cases hk : rdOk (rdD E 1) (roomN D.pl.length) with
    | false => rfl
    | true => have := (h1 hk).1; rw [show (0 + 1) % 2 = 1 from rfl, c] at this; cases this
  · rw [hl] at hk
    obtain ⟨a, b⟩ := h1 hk
    rw [b]; exact h.ot e a
theorem repC_done {D E : Dk} {q p : Pt} {all all' : List Str} {at' : Nat} {s : Str} (h : RepC D q all) (hok : DkOk D) (hokE : DkOk E) (hq : QOk E p) (nx : Nx D q p at' s all') (hokC : DkOk (comD D p at' s)) (hl : E.pl.length = D.pl.length) (hE : ∀ i, rdD E i = rdD (comD D p at' s) i) : RepC E p all' := by
  have h6 := h.ok.h6
  have hca := h.ok.ca
  have hst := stN_le h6 nx.half
  have hnk := nck_le hok h6 nx
  have h2 : 2 ≤ stN D.pl.length p.half := by unfold stN; omega
  have hrd := comD_rd (p := p) (at' := at') (s := s) hca h6 (by omega)
  have hep := nx.ep
  have hlen : p.tail = (all'.map frm).flatten.length := by
    rw [← nx.area, List.length_append, List.length_take, areaS_len hok _ (fun i hi => by have := nx.room; have e : roomN D.pl.length = hlf D.pl.length * 64 := rfl; omega), nx.tail]; omega
  have hos : rdD E ((p.ep + 1) % 2) = rdD D (q.ep % 2) := by
    rw [hE, hrd, if_neg (by omega), if_neg (by omega), show (p.ep + 1) % 2 = q.ep % 2 by omega]
  refine ⟨hq, nx.big, hlen, nx.cnt, ?_, fun e => by omega, fun _ => by rw [hE, hrd, if_pos rfl], fun _ hk => ?_, ?_⟩
  · rw [← nx.area, ← com_area hok hokC hca h6 nx.half nx.room nx.tail]
    have : ∀ k, areaS E p k = areaS (comD D p at' s) p k := fun k => by
      unfold areaS
      rw [hl, comD_len]
      congr 2
      funext i
      exact hE _
    unfold allA
    rw [this]
  · rw [hos, hl] at hk
    rw [hos]
    rcases Nat.eq_zero_or_pos q.ep with h0 | h0
    · obtain ⟨e1, e2, e3⟩ := h.z h0
      rw [h0, show (0 : Nat) % 2 = 0 from rfl, e2, rdOk_zeros] at hk
      cases hk
    · rw [h.hd h0, rd_hdr (h.ok.pt hok) (by have := h.ok.half; omega)]; omega
  · rw [hos]
    rcases Nat.eq_zero_or_pos q.ep with h0 | h0
    · obtain ⟨e1, e2, e3⟩ := h.z h0
      rw [h0, show (0 : Nat) % 2 = 0 from rfl, e2]; exact ZP_zeros _
    · rw [h.hd h0]; exact ZP_hdr _ _
end Go.Gx
