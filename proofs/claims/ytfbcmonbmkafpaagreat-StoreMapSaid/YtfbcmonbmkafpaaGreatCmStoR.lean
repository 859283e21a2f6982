/- How a transaction must be answered, as the law reckons it. Conditions: none. -/
import Derived.Test.YtfbcmonbmkafpaaGreatCmStoQ
import Derived.Test.YtfbcmonbmkafpaaGreatCmStoN
namespace Go.Gx
open Go.Proofs Go.Sort
theorem kstor_el9 : elT Tryz.prog 9 1 = true := by kernel_rfl
theorem kstor_en17 : Go.Proofs.Enters Tryz.prog 17 := Go.Proofs.enters_of Tryz.func17 (by kernel_rfl) rfl
theorem kstor_en19 : Go.Proofs.Enters Tryz.prog 19 := Go.Proofs.enters_of Tryz.func19 (by kernel_rfl) rfl
theorem kstor_en51 : Go.Proofs.Enters Tryz.prog 51 := Go.Proofs.enters_of Tryz.func51 (by kernel_rfl) rfl
theorem kstor_en52 : Go.Proofs.Enters Tryz.prog 52 := Go.Proofs.enters_of Tryz.func52 (by kernel_rfl) rfl
theorem kstor_en95 : Go.Proofs.Enters Tryz.prog 95 := Go.Proofs.enters_of Tryz.func95 (by kernel_rfl) rfl
theorem kstor_en96 : Go.Proofs.Enters Tryz.prog 96 := Go.Proofs.enters_of Tryz.func96 (by kernel_rfl) rfl
theorem kstor_fo95_0 : fieldOff Tryz.prog 95 0 = some 0 := by kernel_rfl
theorem kstor_fo95_1 : fieldOff Tryz.prog 95 1 = some 1 := by kernel_rfl
theorem kstor_fo95_2 : fieldOff Tryz.prog 95 2 = some 2 := by kernel_rfl
theorem kstor_mixed : Tryz.prog.follows .mixedOrders = true := by kernel_rfl
theorem kstor_oc4 : oneCellT Tryz.prog 4 = true := by kernel_rfl
theorem kstor_oc9 : oneCellT Tryz.prog 9 = true := by kernel_rfl
theorem kstor_sz95 : (Tryz.prog.info? 95).map (·.size) = some 3 := by kernel_rfl
theorem frm_txt (s : Str) : (frm s).length = (textB s).length + 4 := by unfold frm; rw [List.length_append, sumB_len]
theorem frm_le {s : Str} (h : s.length ≤ 20000) : (frm s).length ≤ 20007 := by
  have := numB_le (n := s.length) (by omega)
  rw [frm_txt]; unfold textB
  rw [List.length_append]; omega
theorem size23 (A : Nat → Prop) (v : Value) (l : List Ed) (w : World) (h : EdsAt A w v l) (hm : mayL l = true) (hn : l.length ≤ 6600) :
    Ret Tryz.prog 51 #[v] w fun r w' => (∃ n : Nat, r = .int .i64 (n : Nat) ∧ n ≤ 1000000000 ∧ ((bodyB l).length ≤ 20000 → n = (frm (bodyB l)).length) ∧ (20000 < (bodyB l).length → 20007 < n)) ∧ Bel w w' := by
  have hs := (h.up).mono (A' := fun k => w.heap.size ≤ k) (fun _ _ hk => .inr hk)
  obtain ⟨pv, cv, row, rfl, -⟩ := id hs
  have hbl := mayL_body hm (by omega)
  have hpl := partsV_len l
  refine ret_of_W Tryz.func51 rfl (Nat.le_of_ble_eq_true rfl) (res1 rfl) ?_
  have hB := Gr.refl (fun _ => False) w
  refine W.seq ?_
  refine W.region ?_
  refine L.val (x_as (v := .int _ _) rfl) rfl ?_
  refine L.nil ?_
  refine thn_n ?_
  refine W.seq ?_
  refine W.region ?_
  refine L.val (x_as (v := .slice _ _ _) rfl) rfl ?_
  refine L.nil ?_
  refine thn_n ?_
  refine W.seq ?_
  refine W.seq ?_
  refine W.region ?_
  refine L.val (x_as (v := .int _ _) rfl) rfl ?_
  refine L.nil ?_
  refine thn_n ?_
  refine W.block ?_
  refine W.loop (fun m' E w' => ∃ (i : Nat) (vo : Value), m' = l.length - i ∧ E 0 = .slice pv l.length cv ∧ E 3 = vo ∧ E 4 = .int .i64 (i : Nat) ∧ (i ≤ l.length) ∧ (Bel w w') ∧ (EdsAt (fun k => w.heap.size ≤ k) w' (.slice pv l.length cv) l) ∧ (Own w' w.heap.size 9 1 vo (3 * i) ((partsV (l.take i)).map S))) (l.length) ?_ ?_
  ·exact ⟨0, .slice none 0 0, by omega, by first | rfl | exact vi (by omega) | exact vs (by first | assumption | (rw [hst]; done) | (rw [hst]; simp only [List.append_assoc])), by first | rfl | exact vi (by omega) | exact vs (by first | assumption | (rw [hst]; done) | (rw [hst]; simp only [List.append_assoc])), by first | rfl | exact vi (by omega) | exact vs (by first | assumption | (rw [hst]; done) | (rw [hst]; simp only [List.append_assoc])), (by first | assumption | omega | rfl), (by first | assumption | omega | rfl), (by first | assumption | omega | rfl), (by exact own_nil)⟩
  ·rintro _ E wL5 ⟨i, vo, em, e0, e3, e4, hi, hB, hs, hO⟩
   rw [upd_self e0, upd_self e3, upd_self e4]
   refine W.seq ?_
   refine W.seq ?_
   refine W.region ?_
   refine L.val (x_mv (v := .int _ _) rfl) rfl ?_
   refine L.val (x_mv (v := .slice _ _ _) rfl) rfl ?_
   refine L.val (x_len_slice Tryz.underlying22 rfl) rfl ?_
   refine L.val (x_lss rfl rfl) rfl ?_
   refine L.nil ?_
   refine thn_n ?_
   refine W.cond (b := _) rfl (fun g8 => ?_) (fun g8 => ?_)
   ·have h8 := of_decide_eq_true g8
    have hlt : i < l.length := by omega
    obtain ⟨hek, be, oe, rfl, hnA, hc⟩ := eds_elem hs hlt
    have hbe : be < w.heap.size := Nat.lt_of_not_le hnA
    have hc0 := hc 0 (by omega)
    have hc1 := hc 1 (by omega)
    obtain ⟨av, cv2, ev, -⟩ := own_shape hO
    subst ev
    have hst := partsV_take hlt
    have hsB := hB.size
    have hq : ∀ j, some j = (Value.slice av (3 * i) cv2).ownBlock → w.heap.size ≤ j ∧ j < wL5.heap.size := fun j hj => Own.lt hO hj
    refine W.skip ?_
    refine thn_n ?_
    refine W.seq ?_
    refine W.block ?_
    refine W.drawD (fun j => some j = (Value.slice av (3 * i) cv2).ownBlock) (fun j => some j = (Value.slice av (3 * i) cv2).ownBlock) 12 kstor_mixed (fun wD11 hw => ?_)
    have hB := hB.carry hw; have hs := hs.carry hw; have hO := hO.carry hw
    have hB0 := Gr.refl (fun j => some j = (Value.slice av (3 * i) cv2).ownBlock) wD11; have hR0 := Gr.refl (fun j => some j = (Value.slice av (3 * i) cv2).ownBlock) wD11
    have hc0 := hw.keep hc0; have hc1 := hw.keep hc1; have hwD := hw.size
    refine LAD.take0 (i := 0) rfl (by kernel_rfl) (by kernel_rfl) (by kernel_rfl) (by kernel_rfl) (fun w hw => x_mv (v := .slice _ _ _) rfl) rfl ?_
    refine LAD.take0 (i := 1) rfl (by kernel_rfl) (by kernel_rfl) (by kernel_rfl) (by kernel_rfl) (fun w hw => x_mv (v := .slice _ _ _) rfl) rfl ?_
    refine LAD.take0 (i := 2) rfl (by kernel_rfl) (by kernel_rfl) (by kernel_rfl) (by kernel_rfl) (fun w hw => x_mv (v := .int _ _) rfl) rfl ?_
    refine LAD.take0 (i := 3) rfl (by kernel_rfl) (by kernel_rfl) (by kernel_rfl) (by kernel_rfl) (fun w hw => x_ia (j := i) Tryz.underlying22 kstor_sz95 rfl rfl (by omega) (by omega)) rfl ?_
    refine LAD.take0 (i := 4) rfl (by kernel_rfl) (by kernel_rfl) (by kernel_rfl) (by kernel_rfl) (fun w hw => x_fa kstor_fo95_0 rfl) rfl ?_
    refine LAD.take0 (i := 5) rfl (by kernel_rfl) (by kernel_rfl) (by kernel_rfl) (by kernel_rfl) (fun w hw => x_ld (v := S _) kstor_oc9 rfl (hw.keepR (fun e => by have := hq _ e; (try dsimp only at this); omega) hc0)) rfl ?_
    refine LAD.take0 (i := 6) rfl (by kernel_rfl) (by kernel_rfl) (by kernel_rfl) (by kernel_rfl) (fun w hw => x_mv (v := .slice _ _ _) rfl) rfl ?_
    refine LAD.take0 (i := 7) rfl (by kernel_rfl) (by kernel_rfl) (by kernel_rfl) (by kernel_rfl) (fun w hw => x_mv (v := .int _ _) rfl) rfl ?_
    refine LAD.take0 (i := 8) rfl (by kernel_rfl) (by kernel_rfl) (by kernel_rfl) (by kernel_rfl) (fun w hw => x_ia (j := i) Tryz.underlying22 kstor_sz95 rfl rfl (by omega) (by omega)) rfl ?_
    refine LAD.take0 (i := 9) rfl (by kernel_rfl) (by kernel_rfl) (by kernel_rfl) (by kernel_rfl) (fun w hw => x_fa kstor_fo95_1 rfl) rfl ?_
    refine LAD.take0 (i := 10) rfl (by kernel_rfl) (by kernel_rfl) (by kernel_rfl) (by kernel_rfl) (fun w hw => x_ld (v := S _) kstor_oc9 rfl (hw.keepR (fun e => by have := hq _ e; (try dsimp only at this); omega) hc1)) rfl ?_
    refine LAD.step (rs := [11]) hR0 (fun _ => hB0) (by kernel_rfl) (by simp) ⟨⟨_, rfl, ?_⟩, trivial⟩
    refine L.bs (sz := 1) (cells := [S (l.getD i default).key, S [86], S (l.getD i default).val]) Tryz.underlying33 kstor_el9 rfl rfl rfl rfl (fun w22 bx22 hw hz22 => ?_)
    have hB0 := hB0.carry hw; have hR0 := hR0.carry hw; have hO := hO.carry hw
    refine L.nil ?_
    refine thn_n ?_
    refine LAD.step (rs := [12]) hR0 (fun _ => hB0) (by kernel_rfl) (by simp) ⟨⟨_, rfl, ?_⟩, trivial⟩
    refine L.appendN (m := 3) Tryz.underlying33 kstor_el9 rfl rfl rfl hO rfl (holdsN_box bx22) (by simp [Value.oneCell', S]) (by omega) (by have := hR0.size; omega) (fun v23 w23 hO23 hg hob23 => ?_)
    obtain ⟨a23, c23, e23, -⟩ := own_shape hO23
    subst e23
    have hB0 := hB0.intoR hg (fun k e => e)
    have hR0 := hR0.intoR hg (fun k e => e)
    have hO2 : Own w23 w.heap.size 9 1 (.slice a23 (3 * i + 3) c23) (3 * (i + 1)) ((partsV (l.take (i + 1))).map S) := by
      rw [hst, List.map_append]; exact hO23
    refine L.nil ?_
    refine thn_n ?_
    refine LAD.take0 (i := 13) rfl (by kernel_rfl) (by kernel_rfl) (by kernel_rfl) (by kernel_rfl) (fun w hw => x_as (v := .slice _ _ _) rfl) rfl ?_
    refine LAD.done (by kernel_rfl) (by kernel_rfl) hR0 ?_
    have hB := hB.step hR0 (fun i hi e => by have h1 := hq _ e; (try dsimp only at h1); omega)
    have hs := hs.carryR hR0 (fun j e => (hq j e).1)
    refine blk_n ?_
    refine thn_n ?_
    refine W.region ?_
    refine L.val (x_mv (v := .int _ _) rfl) rfl ?_
    refine L.val (x_add rfl rfl (wr64 (by omega))) rfl ?_
    refine L.val (x_as (v := .int _ _) rfl) rfl ?_
    refine L.nil ?_
    refine thn_n ⟨rfl, ?_⟩
    refine ⟨_, ?_, i + 1, _, rfl, by first | rfl | exact vi (by omega) | exact vs (by first | assumption | (rw [hst]; done) | (rw [hst]; simp only [List.append_assoc])), by first | rfl | exact vi (by omega) | exact vs (by first | assumption | (rw [hst]; done) | (rw [hst]; simp only [List.append_assoc])), by first | rfl | exact vi (by omega) | exact vs (by first | assumption | (rw [hst]; done) | (rw [hst]; simp only [List.append_assoc])), (by first | assumption | omega | rfl), (by first | assumption | omega | rfl), (by first | assumption | omega | rfl), (by exact hO2)⟩
    omega
   ·have h8 := dlt_f g8
    have hie : i = l.length := by omega
    subst hie
    rw [List.take_length, ← hpl] at hO
    obtain ⟨av, cv2, ev, -⟩ := own_shape hO
    subst ev
    have hS : StrsAt (fun k => k < w.heap.size) wL5 (.slice av (partsV l).length cv2) (partsV l) := strs_done hO (by omega) (fun x hx => by have := partsV_mem hm hx; omega) (fun j hj => by omega)
    refine W.exit (thn_x (thn_x (blk_hit ?_)))
    refine thn_n ?_
    refine W.seq ?_
    refine W.region ?_
    refine L.val (x_mv (v := .slice _ _ _) rfl) rfl ?_
    refine L.ret (x_call kstor_en96 rfl) rfl (refListS _ _ (partsV l) _ hS (by omega) (fun s hs => partsV_mem hm hs)) ?_
    rintro _ w25 ⟨⟨x, rfl, hx⟩, hw⟩
    have hB := hB.carry hw; have hs := hs.carry hw; have hO := hO.carry hw
    have hxb : x.length = (bodyB l).length := hx.trans (partsV_list l)
    refine L.ret (x_call kstor_en95 rfl) rfl (refTextS x (by omega) _) ?_
    rintro _ w26 ⟨⟨y, rfl, hy1, hy2, hy3⟩, hw⟩
    have hB := hB.carry hw; have hs := hs.carry hw; have hO := hO.carry hw
    refine L.val (x_len_str Tryz.underlying9 rfl) rfl ?_
    refine L.val (x_add rfl rfl (wr64 (by omega))) rfl ?_
    refine L.val (x_as (v := .int _ _) rfl) rfl ?_
    refine L.nil ?_
    refine thn_n ?_
    refine W.ret (fin_mk (.inr rfl) ?_)
    refine ⟨⟨y.length + 4, rfl, by omega, fun hb => ?_, fun hb => ?_⟩, hB⟩
    · have h1 := hy2 (by omega)
      have h2 : (textB x).length = (textB (bodyB l)).length := by unfold textB; rw [List.length_append, List.length_append, hxb]
      rw [frm_txt]; omega
    · have h1 := hy3 (by omega)
      omega
theorem notMay (e : Ed) : (e.key == [] || decide ((100 : Int) < ((e.key.length : Nat) : Int)) || decide ((8100 : Int) < ((e.val.length : Nat) : Int)) || e.gone && !e.val == []) = !mayE e := by
  have e1 : decide ((100 : Int) < ((e.key.length : Nat) : Int)) = decide (100 < e.key.length) := by rw [decide_eq_decide]; omega
  have e2 : decide ((8100 : Int) < ((e.val.length : Nat) : Int)) = decide (8100 < e.val.length) := by rw [decide_eq_decide]; omega
  unfold mayE
  rw [e1, e2]
  cases (e.key == []) <;> cases decide (100 < e.key.length) <;> cases decide (8100 < e.val.length) <;> cases e.gone <;> cases (e.val == []) <;> rfl
theorem mayL_take {l : List Ed} {k : Nat} (h : k < l.length) : mayL (l.take (k + 1)) = (mayL (l.take k) && mayE (l.getD k default)) := by
  unfold mayL
  rw [take_snoc (d := default) h, List.all_append]; simp
theorem may52 (A : Nat → Prop) (v : Value) (l : List Ed) (w : World) (h : EdsAt A w v l) : Ret Tryz.prog 52 #[v] w fun r w' => r = .bool (mayL l) ∧ Bel w w' := by
  obtain ⟨pv, cv, row, rfl, -, -, hln, -⟩ := id h
  refine ret_of_W Tryz.func52 rfl (Nat.le_of_ble_eq_true rfl) (res1 rfl) ?_
  have hB := Gr.refl (fun _ => False) w
  refine W.seq ?_
  refine W.region ?_
  refine L.val (x_as (v := .bool _) rfl) rfl ?_
  refine L.nil ?_
  refine thn_n ?_
  refine W.seq ?_
  refine W.seq ?_
  refine W.region ?_
  refine L.val (x_as (v := .int _ _) rfl) rfl ?_
  refine L.nil ?_
  refine thn_n ?_
  refine W.block ?_
  refine W.loop (fun m' E w' => ∃ (i : Nat), m' = l.length - i ∧ E 0 = .slice pv l.length cv ∧ E 3 = .int .i64 (i : Nat) ∧ (i ≤ l.length) ∧ (Bel w w') ∧ (EdsAt A w' (.slice pv l.length cv) l) ∧ (mayL (l.take i) = true)) (l.length) ?_ ?_
  ·exact ⟨0, by omega, by first | rfl | exact vi (by omega) | exact vs (by first | assumption | (rw [hst]; done) | (rw [hst]; simp only [List.append_assoc])), by first | rfl | exact vi (by omega) | exact vs (by first | assumption | (rw [hst]; done) | (rw [hst]; simp only [List.append_assoc])), (by first | assumption | omega | rfl), (by first | assumption | omega | rfl), (by first | assumption | omega | rfl), (by rfl)⟩
  ·rintro _ E wL4 ⟨i, em, e0, e3, hi, hB, h, hq⟩
   rw [upd_self e0, upd_self e3]
   refine W.seq ?_
   refine W.seq ?_
   refine W.region ?_
   refine L.val (x_mv (v := .int _ _) rfl) rfl ?_
   refine L.val (x_mv (v := .slice _ _ _) rfl) rfl ?_
   refine L.val (x_len_slice Tryz.underlying22 rfl) rfl ?_
   refine L.val (x_lss rfl rfl) rfl ?_
   refine L.nil ?_
   refine thn_n ?_
   refine W.cond (b := _) rfl (fun g7 => ?_) (fun g7 => ?_)
   ·have h7 := of_decide_eq_true g7
    have hlt : i < l.length := by omega
    obtain ⟨hek, be, oe, rfl, hnA, hc⟩ := eds_elem h hlt
    have hc0 := hc 0 (by omega)
    have hc1 := hc 1 (by omega)
    have hc2 := hc 2 (by omega)
    have hst := mayL_take hlt
    refine W.skip ?_
    refine thn_n ?_
    refine W.seq ?_
    refine W.block ?_
    refine W.seq ?_
    refine W.region ?_
    refine L.val (x_mv (v := .slice _ _ _) rfl) rfl ?_
    refine L.val (x_mv (v := .int _ _) rfl) rfl ?_
    refine L.val (x_ia (j := i) Tryz.underlying22 kstor_sz95 rfl rfl (by omega) (by omega)) rfl ?_
    refine L.val (x_fa kstor_fo95_0 rfl) rfl ?_
    refine L.val (x_ld (v := S _) kstor_oc9 rfl hc0) rfl ?_
    refine L.val (x_eqs rfl rfl) rfl ?_
    refine L.val (x_mv (v := .bool _) rfl) rfl ?_
    refine' L.group0 7 17 23 23 16 false rfl ?_ ?_ ?_
    rotate_left 1
    ·intro g16
     have h16 := seq_f g16
     refine L.gyes' (dj := 16) (b := _) rfl rfl g16 ?_
     refine L.val (x_mv (v := .slice _ _ _) rfl) rfl ?_
     refine L.gyes' (dj := 16) (b := _) rfl rfl g16 ?_
     refine L.val (x_mv (v := .int _ _) rfl) rfl ?_
     refine L.gyes' (dj := 16) (b := _) rfl rfl g16 ?_
     refine L.val (x_ia (j := i) Tryz.underlying22 kstor_sz95 rfl rfl (by omega) (by omega)) rfl ?_
     refine L.gyes' (dj := 16) (b := _) rfl rfl g16 ?_
     refine L.val (x_fa kstor_fo95_0 rfl) rfl ?_
     refine L.gyes' (dj := 16) (b := _) rfl rfl g16 ?_
     refine L.val (x_ld (v := S _) kstor_oc9 rfl hc0) rfl ?_
     refine L.gyes' (dj := 16) (b := _) rfl rfl g16 ?_
     refine L.val (x_len_str Tryz.underlying9 rfl) rfl ?_
     refine L.gyes' (dj := 16) (b := _) rfl rfl g16 ?_
     refine L.val (x_gtr rfl rfl) rfl ?_
     refine L.nil ?_
     refine thn_n ⟨rfl, rfl, ?_, rfl⟩
     repeat (first | exact jeq.refl _ _ _ | refine jeq.upd rfl ?_ | refine jeq.jk rfl rfl ?_)
    ·intro g16
     refine L.gno (dj := 16) (b := _) rfl rfl g16 rfl ?_
     refine L.gno (dj := 16) (b := _) rfl rfl g16 rfl ?_
     refine L.gno (dj := 16) (b := _) rfl rfl g16 rfl ?_
     refine L.gno (dj := 16) (b := _) rfl rfl g16 rfl ?_
     refine L.gno (dj := 16) (b := _) rfl rfl g16 rfl ?_
     refine L.gno (dj := 16) (b := _) rfl rfl g16 rfl ?_
     refine L.gno (dj := 16) (b := _) rfl rfl g16 rfl ?_
     refine L.nil (thn_n ⟨rfl, rfl, ?_⟩)
     repeat (first | exact jeq.refl _ _ _ | refine jeq.upd rfl ?_ | refine jeq.jk rfl rfl ?_)
    intro J16 j16
    refine L.val (x_or rfl j16) rfl ?_
    refine L.val (x_mv (v := .bool _) rfl) rfl ?_
    refine' L.group0 7 26 32 32 25 false rfl ?_ ?_ ?_
    rotate_left 1
    ·intro g25
     have h25 := g25
     refine L.gyes' (dj := 25) (b := _) rfl rfl g25 ?_
     refine L.val (x_mv (v := .slice _ _ _) rfl) rfl ?_
     refine L.gyes' (dj := 25) (b := _) rfl rfl g25 ?_
     refine L.val (x_mv (v := .int _ _) rfl) rfl ?_
     refine L.gyes' (dj := 25) (b := _) rfl rfl g25 ?_
     refine L.val (x_ia (j := i) Tryz.underlying22 kstor_sz95 rfl rfl (by omega) (by omega)) rfl ?_
     refine L.gyes' (dj := 25) (b := _) rfl rfl g25 ?_
     refine L.val (x_fa kstor_fo95_1 rfl) rfl ?_
     refine L.gyes' (dj := 25) (b := _) rfl rfl g25 ?_
     refine L.val (x_ld (v := S _) kstor_oc9 rfl hc1) rfl ?_
     refine L.gyes' (dj := 25) (b := _) rfl rfl g25 ?_
     refine L.val (x_len_str Tryz.underlying9 rfl) rfl ?_
     refine L.gyes' (dj := 25) (b := _) rfl rfl g25 ?_
     refine L.val (x_gtr rfl rfl) rfl ?_
     refine L.nil ?_
     refine thn_n ⟨rfl, rfl, ?_, rfl⟩
     repeat (first | exact jeq.refl _ _ _ | refine jeq.upd rfl ?_ | refine jeq.jk rfl rfl ?_)
    ·intro g25
     refine L.gno (dj := 25) (b := _) rfl rfl g25 rfl ?_
     refine L.gno (dj := 25) (b := _) rfl rfl g25 rfl ?_
     refine L.gno (dj := 25) (b := _) rfl rfl g25 rfl ?_
     refine L.gno (dj := 25) (b := _) rfl rfl g25 rfl ?_
     refine L.gno (dj := 25) (b := _) rfl rfl g25 rfl ?_
     refine L.gno (dj := 25) (b := _) rfl rfl g25 rfl ?_
     refine L.gno (dj := 25) (b := _) rfl rfl g25 rfl ?_
     refine L.nil (thn_n ⟨rfl, rfl, ?_⟩)
     repeat (first | exact jeq.refl _ _ _ | refine jeq.upd rfl ?_ | refine jeq.jk rfl rfl ?_)
    intro J25 j25
    refine L.val (x_or rfl j25) rfl ?_
    refine L.val (x_mv (v := .bool _) rfl) rfl ?_
    refine' L.group0 13 35 47 47 34 false rfl ?_ ?_ ?_
    rotate_left 1
    ·intro g34
     have h34 := g34
     refine L.gyes' (dj := 34) (b := _) rfl rfl g34 ?_
     refine L.val (x_mv (v := .slice _ _ _) rfl) rfl ?_
     refine L.gyes' (dj := 34) (b := _) rfl rfl g34 ?_
     refine L.val (x_mv (v := .int _ _) rfl) rfl ?_
     refine L.gyes' (dj := 34) (b := _) rfl rfl g34 ?_
     refine L.val (x_ia (j := i) Tryz.underlying22 kstor_sz95 rfl rfl (by omega) (by omega)) rfl ?_
     refine L.gyes' (dj := 34) (b := _) rfl rfl g34 ?_
     refine L.val (x_fa kstor_fo95_2 rfl) rfl ?_
     refine L.gyes' (dj := 34) (b := _) rfl rfl g34 ?_
     refine L.val (x_ld (v := .bool _) kstor_oc4 rfl hc2) rfl ?_
     refine L.gyes' (dj := 34) (b := _) rfl rfl g34 ?_
     refine L.val (x_mv (v := .bool _) rfl) rfl ?_
     refine' L.group0 6 41 46 46 40 true rfl ?_ ?_ ?_
     rotate_left 1
     ·intro g40
      have h40 := g40
      refine L.gyes' (dj := 40) (b := _) rfl rfl g40 ?_
      refine L.val (x_mv (v := .slice _ _ _) rfl) rfl ?_
      refine L.gyes' (dj := 40) (b := _) rfl rfl g40 ?_
      refine L.val (x_mv (v := .int _ _) rfl) rfl ?_
      refine L.gyes' (dj := 40) (b := _) rfl rfl g40 ?_
      refine L.val (x_ia (j := i) Tryz.underlying22 kstor_sz95 rfl rfl (by omega) (by omega)) rfl ?_
      refine L.gyes' (dj := 40) (b := _) rfl rfl g40 ?_
      refine L.val (x_fa kstor_fo95_1 rfl) rfl ?_
      refine L.gyes' (dj := 40) (b := _) rfl rfl g40 ?_
      refine L.val (x_ld (v := S _) kstor_oc9 rfl hc1) rfl ?_
      refine L.gyes' (dj := 40) (b := _) rfl rfl g40 ?_
      refine L.val (x_nes rfl rfl) rfl ?_
      refine L.nil ?_
      refine thn_n ⟨rfl, rfl, ?_, rfl⟩
      repeat (first | exact jeq.refl _ _ _ | refine jeq.upd rfl ?_ | refine jeq.jk rfl rfl ?_)
     ·intro g40
      refine L.gno (dj := 40) (b := _) rfl rfl g40 rfl ?_
      refine L.gno (dj := 40) (b := _) rfl rfl g40 rfl ?_
      refine L.gno (dj := 40) (b := _) rfl rfl g40 rfl ?_
      refine L.gno (dj := 40) (b := _) rfl rfl g40 rfl ?_
      refine L.gno (dj := 40) (b := _) rfl rfl g40 rfl ?_
      refine L.gno (dj := 40) (b := _) rfl rfl g40 rfl ?_
      refine L.nil (thn_n ⟨rfl, rfl, ?_⟩)
      repeat (first | exact jeq.refl _ _ _ | refine jeq.upd rfl ?_ | refine jeq.jk rfl rfl ?_)
     intro J40 j40
     refine L.gyes' (dj := 34) (b := _) rfl rfl g34 ?_
     refine L.val (x_and rfl j40) rfl ?_
     refine L.nil ?_
     refine thn_n ⟨rfl, rfl, ?_, rfl⟩
     repeat (first | exact jeq.refl _ _ _ | refine jeq.upd rfl ?_ | refine jeq.jk rfl rfl ?_)
    ·intro g34
     refine L.gno (dj := 34) (b := _) rfl rfl g34 rfl ?_
     refine L.gno (dj := 34) (b := _) rfl rfl g34 rfl ?_
     refine L.gno (dj := 34) (b := _) rfl rfl g34 rfl ?_
     refine L.gno (dj := 34) (b := _) rfl rfl g34 rfl ?_
     refine L.gno (dj := 34) (b := _) rfl rfl g34 rfl ?_
     refine L.gno (dj := 34) (b := _) rfl rfl g34 rfl ?_
     refine L.gun (dj := 40) rfl rfl rfl ?_
     refine L.gun (dj := 40) rfl rfl rfl ?_
     refine L.gun (dj := 40) rfl rfl rfl ?_
     refine L.gun (dj := 40) rfl rfl rfl ?_
     refine L.gun (dj := 40) rfl rfl rfl ?_
     refine L.gun (dj := 40) rfl rfl rfl ?_
     refine L.gno (dj := 34) (b := _) rfl rfl g34 rfl ?_
     refine L.nil (thn_n ⟨rfl, rfl, ?_⟩)
     repeat (first | exact jeq.refl _ _ _ | refine jeq.upd rfl ?_ | refine jeq.jk rfl rfl ?_)
    intro J34 j34
    refine L.val (x_or rfl j34) rfl ?_
    refine L.nil ?_
    refine thn_n ?_
    refine W.cond (b := _) rfl (fun g48 => ?_) (fun g48 => ?_)
    ·have h48 := g48
     have hf : mayE (l.getD i default) = false := by
       have g := g48
       rw [notMay] at g
       simpa using g
     have hF : mayL l = false := by
       unfold mayL
       rw [List.all_eq_false]
       exact ⟨l.getD i default, by rw [List.getD_eq_getElem?_getD, List.getElem?_eq_getElem hlt]; exact List.getElem_mem hlt, by rw [hf]; decide⟩
     refine W.seq ?_
     refine W.region ?_
     refine L.val (x_as (v := .bool _) rfl) rfl ?_
     refine L.nil ?_
     refine thn_n ?_
     refine W.ret (blk_r (thn_r (thn_r (blk_r (thn_r (fin_mk (.inr rfl) ?_))))))
     rw [hF]; exact ⟨rfl, hB⟩
    ·have h48 := g48
     have hf : mayE (l.getD i default) = true := by
       have g := g48
       rw [notMay] at g
       simpa using g
     have hq2 : mayL (l.take (i + 1)) = true := by rw [hst, hq, hf]; rfl
     refine W.skip ?_
     refine blk_n ?_
     refine thn_n ?_
     refine W.region ?_
     refine L.val (x_mv (v := .int _ _) rfl) rfl ?_
     refine L.val (x_add rfl rfl (wr64 (by omega))) rfl ?_
     refine L.val (x_as (v := .int _ _) rfl) rfl ?_
     refine L.nil ?_
     refine thn_n ⟨rfl, ?_⟩
     refine ⟨_, ?_, i + 1, rfl, by first | rfl | exact vi (by omega) | exact vs (by first | assumption | (rw [hst]; done) | (rw [hst]; simp only [List.append_assoc])), by first | rfl | exact vi (by omega) | exact vs (by first | assumption | (rw [hst]; done) | (rw [hst]; simp only [List.append_assoc])), (by first | assumption | omega | rfl), (by first | assumption | omega | rfl), (by first | assumption | omega | rfl), (by exact hq2)⟩
     omega
   ·have h7 := dlt_f g7
    have hie : i = l.length := by omega
    subst hie
    rw [List.take_length] at hq
    refine W.exit (thn_x (thn_x (blk_hit ?_)))
    refine thn_n ?_
    refine W.seq ?_
    refine W.region ?_
    refine L.val (x_as (v := .bool _) rfl) rfl ?_
    refine L.nil ?_
    refine thn_n ?_
    refine W.ret (fin_mk (.inr rfl) ?_)
    rw [hq]; exact ⟨rfl, hB⟩
theorem whl_take {G : List Ed} {k : Nat} (h : k < G.length) : whl (G.take (k + 1)) = whl (G.take k) + (frm (bodyB [G.getD k default])).length := by
  unfold whl
  rw [snap_take h, List.map_append, List.flatten_append, List.length_append]; simp
theorem whl_le {G : List Ed} (h : mayL G = true) : ∀ k, k ≤ G.length → whl (G.take k) ≤ k * 20007 := fun k => by
  induction k with
  | zero => intro _; exact Nat.le_refl _
  | succ k ih =>
    intro hk
    have ih := ih (by omega)
    unfold mayL at h
    have := body1_len (List.all_eq_true.1 h (G.getD k default) (by rw [List.getD_eq_getElem?_getD, List.getElem?_eq_getElem (by omega)]; exact List.getElem_mem (by omega)))
    have := frm_le (s := bodyB [G.getD k default]) (by omega)
    rw [whl_take (by omega)]; omega
theorem whole23 (A : Nat → Prop) (v : Value) (G : List Ed) (w : World) (h : EdsAt A w v G) (hm : mayL G = true) (hn : G.length ≤ 100000) : Ret Tryz.prog 17 #[v] w fun r w' => r = .int .i64 (whl G : Nat) ∧ Bel w w' := by
  obtain ⟨pv, cv, row, rfl, hcv, -⟩ := id h
  have hwl := whl_le hm
  refine ret_of_W Tryz.func17 rfl (Nat.le_of_ble_eq_true rfl) (res1 rfl) ?_
  have hB := Gr.refl (fun _ => False) w
  refine W.seq ?_
  refine W.region ?_
  refine L.val (x_as (v := .int _ _) rfl) rfl ?_
  refine L.nil ?_
  refine thn_n ?_
  refine W.seq ?_
  refine W.region ?_
  refine L.val (x_as (v := .int _ _) rfl) rfl ?_
  refine L.nil ?_
  refine thn_n ?_
  refine W.seq ?_
  refine W.seq ?_
  refine W.region ?_
  refine L.val (x_as (v := .int _ _) rfl) rfl ?_
  refine L.nil ?_
  refine thn_n ?_
  refine W.block ?_
  refine W.loop (fun m' E w' => ∃ (i : Nat), m' = G.length - i ∧ E 0 = .slice pv G.length cv ∧ E 3 = .int .i64 (whl (G.take i) : Nat) ∧ E 4 = .int .i64 (i : Nat) ∧ (i ≤ G.length) ∧ (Bel w w') ∧ (EdsAt A w' (.slice pv G.length cv) G)) (G.length) ?_ ?_
  ·exact ⟨0, by omega, by first | rfl | exact vi (by omega) | exact vs (by first | assumption | (rw [hst]; done) | (rw [hst]; simp only [List.append_assoc])), by first | rfl | exact vi (by omega) | exact vs (by first | assumption | (rw [hst]; done) | (rw [hst]; simp only [List.append_assoc])), by first | rfl | exact vi (by omega) | exact vs (by first | assumption | (rw [hst]; done) | (rw [hst]; simp only [List.append_assoc])), (by first | assumption | omega | rfl), (by first | assumption | omega | rfl), (by first | assumption | omega | rfl)⟩
  ·rintro _ E wL5 ⟨i, em, e0, e3, e4, hi, hB, h⟩
   rw [upd_self e0, upd_self e3, upd_self e4]
   refine W.seq ?_
   refine W.seq ?_
   refine W.region ?_
   refine L.val (x_mv (v := .int _ _) rfl) rfl ?_
   refine L.val (x_mv (v := .slice _ _ _) rfl) rfl ?_
   refine L.val (x_len_slice Tryz.underlying22 rfl) rfl ?_
   refine L.val (x_lss rfl rfl) rfl ?_
   refine L.nil ?_
   refine thn_n ?_
   refine W.cond (b := _) rfl (fun g8 => ?_) (fun g8 => ?_)
   ·have h8 := of_decide_eq_true g8
    have hlt : i < G.length := by omega
    obtain ⟨hek, be, oe, rfl, hnA, hc⟩ := eds_elem h hlt
    have h1 := eds_one h hlt
    have hmi : mayE (G.getD i default) = true := by
      unfold mayL at hm
      exact List.all_eq_true.1 hm _ (by rw [List.getD_eq_getElem?_getD, List.getElem?_eq_getElem hlt]; exact List.getElem_mem hlt)
    have hbl := body1_len hmi
    have hfl := frm_le (s := bodyB [G.getD i default]) (by omega)
    have hst := whl_take hlt
    have hwi := hwl i hi
    refine W.skip ?_
    refine thn_n ?_
    refine W.seq ?_
    refine W.block ?_
    refine W.region ?_
    refine L.val (x_mv (v := .int _ _) rfl) rfl ?_
    refine L.val (x_mv (v := .slice _ _ _) rfl) rfl ?_
    refine L.val (x_mv (v := .int _ _) rfl) rfl ?_
    refine L.val (x_mv (v := .int _ _) rfl) rfl ?_
    refine L.val (x_add rfl rfl (wr64 (by omega))) rfl ?_
    refine L.val (x_slAll (j := i) (j' := i + 1) Tryz.underlying22 kstor_sz95 rfl rfl rfl rfl rfl (by omega) (by omega) (by omega)) rfl ?_
    rw [show i + 1 - i = 1 by omega]
    refine L.ret (x_call kstor_en51 rfl) rfl (size23 _ _ [G.getD i default] _ h1 (by unfold mayL; rw [List.all_cons, hmi]; rfl) (by simp)) ?_
    rintro _ w17 ⟨⟨n, rfl, -, hn1, -⟩, hw⟩
    have hB := hB.carry hw; have h := h.carry hw
    have hn1 := hn1 (by omega)
    subst hn1
    refine L.val (x_add rfl rfl (wr64 (by omega))) rfl ?_
    refine L.val (x_as (v := .int _ _) rfl) rfl ?_
    refine L.nil ?_
    refine blk_n ?_
    refine thn_n ?_
    refine W.region ?_
    refine L.val (x_mv (v := .int _ _) rfl) rfl ?_
    refine L.val (x_add rfl rfl (wr64 (by omega))) rfl ?_
    refine L.val (x_as (v := .int _ _) rfl) rfl ?_
    refine L.nil ?_
    refine thn_n ⟨rfl, ?_⟩
    refine ⟨_, ?_, i + 1, rfl, by first | rfl | exact vi (by omega) | exact vs (by first | assumption | (rw [hst]; done) | (rw [hst]; simp only [List.append_assoc])), by first | rfl | exact vi (by omega) | exact vs (by first | assumption | (rw [hst]; done) | (rw [hst]; simp only [List.append_assoc])), by first | rfl | exact vi (by omega) | exact vs (by first | assumption | (rw [hst]; done) | (rw [hst]; simp only [List.append_assoc])), (by first | assumption | omega | rfl), (by first | assumption | omega | rfl), (by first | assumption | omega | rfl)⟩
    omega
   ·have h8 := dlt_f g8
    have hie : i = G.length := by omega
    subst hie
    rw [List.take_length] at *
    refine W.exit (thn_x (thn_x (blk_hit ?_)))
    refine thn_n ?_
    refine W.seq ?_
    refine W.region ?_
    refine L.val (x_mv (v := .int _ _) rfl) rfl ?_
    refine L.val (x_as (v := .int _ _) rfl) rfl ?_
    refine L.nil ?_
    refine thn_n ?_
    refine W.ret (fin_mk (.inr rfl) ?_)
    exact ⟨rfl, hB⟩
theorem full23 (A B : Nat → Prop) (v u : Value) (l G : List Ed) (room tail : Nat) (w : World) (h : EdsAt A w v l) (hu : EdsAt B w u G) (hG : Rises G) (hmG : mayL G = true) (hl0 : l ≠ []) (hln : l.length ≤ 6600) (hGn : G.length ≤ 10000) (hr : room ≤ 1000000) (ht : tail ≤ 1000000) :
    Ret Tryz.prog 18 #[v, u, .int .i64 (room : Nat), .int .i64 (tail : Nat)] w fun r w' => r = .tuple #[.int .i64 (codeC room tail G l).1, .int .i64 ((codeC room tail G l).2 : Nat)] ∧ Bel w w' := by
  obtain ⟨pv, cv, rv, rfl, -⟩ := id h
  obtain ⟨pu, cu, ru, rfl, -⟩ := id hu
  have hcl := comes_len l G
  have hfl : (bodyB l).length ≤ 20000 → (frm (bodyB l)).length ≤ 20007 := frm_le
  have hwl : mayL l = true → whl (comes G l) ≤ (comes G l).length * 20007 := fun hm => by have := whl_le (may_comes hmG hm) (comes G l).length (Nat.le_refl _); rwa [List.take_length] at this
  refine ret_of_W Tryz.func18 rfl (Nat.le_of_ble_eq_true rfl) (res2 rfl) ?_
  have hB := Gr.refl (fun _ => False) w
  refine W.seq ?_
  refine W.region ?_
  refine L.val (x_as (v := .int _ _) rfl) rfl ?_
  refine L.val (x_as (v := .int _ _) rfl) rfl ?_
  refine L.nil ?_
  refine thn_n ?_
  refine W.seq ?_
  refine W.region ?_
  refine L.val (x_mv (v := .slice _ _ _) rfl) rfl ?_
  refine L.val (x_mv (v := .slice _ _ _) rfl) rfl ?_
  refine L.ret (x_call kstor_en19 rfl) rfl (goes23 0 A B _ _ G l _ hu h hG (by omega)) ?_
  rintro _ w13 ⟨hv13, hw⟩
  have hB := hB.carry hw; have h := h.carry hw; have hu := hu.carry hw
  have hv13 : EdsAt (DkB stTy 0 w13) w13 _ (comes G l) := hv13
  obtain ⟨p13, c13, r13, rfl, -⟩ := id hv13
  have hv13 := (hv13.up).mono (A' := fun k => w13.heap.size ≤ k) (fun _ _ hk => .inr hk)
  refine L.val (x_as (v := .slice _ _ _) rfl) rfl ?_
  refine L.nil ?_
  refine thn_n ?_
  refine W.seq ?_
  refine W.block ?_
  refine W.seq ?_
  refine W.region ?_
  refine L.val (x_mv (v := .slice _ _ _) rfl) rfl ?_
  refine L.ret (x_call kstor_en52 rfl) rfl (may52 _ _ l _ h) ?_
  rintro _ w16 ⟨rfl, hw⟩
  have hB := hB.carry hw; have h := h.carry hw; have hu := hu.carry hw; have hv13 := hv13.carry hw
  refine L.val (x_not rfl) rfl ?_
  refine L.val (x_as (v := .bool _) rfl) rfl ?_
  refine L.nil ?_
  refine thn_n ?_
  refine W.cond (b := _) rfl (fun g17 => ?_) (fun g17 => ?_)
  ·have h17 := (not_t g17)
   have hm : ¬ mayL l = true := by simpa using g17
   have hC : codeC room tail G l = (230, tail) := by unfold codeC; rw [if_neg hm]
   refine W.seq ?_
   refine W.region ?_
   refine L.val (x_mv (v := .int _ _) rfl) rfl ?_
   refine L.val (x_as (v := .int _ _) rfl) rfl ?_
   refine L.val (x_as (v := .int _ _) rfl) rfl ?_
   refine L.nil ?_
   refine thn_n ?_
   refine W.ret (blk_r (thn_r (fin_mk (.inr rfl) ?_)))
   rw [hC]; exact ⟨rfl, hB⟩
  ·have h17 := (not_f g17)
   have hm : mayL l = true := by simpa using g17
   have hwl := hwl hm
   refine W.seq ?_
   refine W.region ?_
   refine L.val (x_mv (v := .slice _ _ _) rfl) rfl ?_
   refine L.ret (x_call kstor_en51 rfl) rfl (size23 _ _ l _ h hm hln) ?_
   rintro _ w21 ⟨⟨n, rfl, hn0, hn1, hn2⟩, hw⟩
   have hB := hB.carry hw; have h := h.carry hw; have hu := hu.carry hw; have hv13 := hv13.carry hw
   refine L.val (x_gtr rfl rfl) rfl ?_
   refine L.val (x_as (v := .bool _) rfl) rfl ?_
   refine L.nil ?_
   refine thn_n ?_
   refine W.cond (b := _) rfl (fun g22 => ?_) (fun g22 => ?_)
   ·have h22 := of_decide_eq_true g22
    have hbig : 20000 < (bodyB l).length := by
      rcases Nat.lt_or_ge 20000 (bodyB l).length with h | h
      · exact h
      · have := hn1 h; have := hfl h; omega
    have hC : codeC room tail G l = (3, tail) := by unfold codeC; rw [if_pos hm, if_neg hl0, if_pos hbig]
    refine W.seq ?_
    refine W.region ?_
    refine L.val (x_mv (v := .int _ _) rfl) rfl ?_
    refine L.val (x_as (v := .int _ _) rfl) rfl ?_
    refine L.val (x_as (v := .int _ _) rfl) rfl ?_
    refine L.nil ?_
    refine thn_n ?_
    refine W.ret (blk_r (thn_r (fin_mk (.inr rfl) ?_)))
    rw [hC]; exact ⟨rfl, hB⟩
   ·have h22 := dlt_f g22
    have hbig : ¬ 20000 < (bodyB l).length := fun h => by have := hn2 h; omega
    have hfl := hfl (by omega)
    refine W.seq ?_
    refine W.region ?_
    refine L.val (x_mv (v := .slice _ _ _) rfl) rfl ?_
    refine L.ret (x_call kstor_en51 rfl) rfl (size23 _ _ l _ h hm hln) ?_
    rintro _ w26 ⟨⟨n2, rfl, -, hn3, -⟩, hw⟩
    have hB := hB.carry hw; have h := h.carry hw; have hu := hu.carry hw; have hv13 := hv13.carry hw
    have hn3 := hn3 (by omega)
    refine L.val (x_mv (v := .int _ _) rfl) rfl ?_
    refine L.val (x_mv (v := .int _ _) rfl) rfl ?_
    refine L.val (x_sub rfl rfl (wr64 (by omega))) rfl ?_
    refine L.val (x_leq rfl rfl) rfl ?_
    refine L.val (x_as (v := .bool _) rfl) rfl ?_
    refine L.nil ?_
    refine thn_n ?_
    refine W.cond (b := _) rfl (fun g30 => ?_) (fun g30 => ?_)
    ·have h30 := of_decide_eq_true g30
     have hC : codeC room tail G l = (0, tail + (frm (bodyB l)).length) := by unfold codeC; rw [if_pos hm, if_neg hl0, if_neg hbig, if_pos (by omega)]
     refine W.seq ?_
     refine W.region ?_
     refine L.val (x_mv (v := .int _ _) rfl) rfl ?_
     refine L.val (x_mv (v := .slice _ _ _) rfl) rfl ?_
     refine L.ret (x_call kstor_en51 rfl) rfl (size23 _ _ l _ h hm hln) ?_
     rintro _ w33 ⟨⟨n3, rfl, -, hn4, -⟩, hw⟩
     have hB := hB.carry hw; have h := h.carry hw; have hu := hu.carry hw; have hv13 := hv13.carry hw
     have hn4 := hn4 (by omega)
     subst hn4
     refine L.val (x_add rfl rfl (wr64 (by omega))) rfl ?_
     refine L.val (x_as (v := .int _ _) rfl) rfl ?_
     refine L.val (x_as (v := .int _ _) rfl) rfl ?_
     refine L.nil ?_
     refine thn_n ?_
     refine W.ret (blk_r (thn_r (fin_mk (.inr rfl) ?_)))
     rw [hC]; exact ⟨rfl, hB⟩
    ·have h30 := dle_f g30
     have hno : ¬ tail + (frm (bodyB l)).length ≤ room := by omega
     refine W.seq ?_
     refine W.region ?_
     refine L.val (x_mv (v := .slice _ _ _) rfl) rfl ?_
     refine L.ret (x_call kstor_en17 rfl) rfl (whole23 _ _ (comes G l) _ hv13 (may_comes hmG hm) (by omega)) ?_
     rintro _ w37 ⟨rfl, hw⟩
     have hB := hB.carry hw; have h := h.carry hw; have hu := hu.carry hw; have hv13 := hv13.carry hw
     refine L.val (x_mv (v := .int _ _) rfl) rfl ?_
     refine L.val (x_leq rfl rfl) rfl ?_
     refine L.val (x_as (v := .bool _) rfl) rfl ?_
     refine L.nil ?_
     refine thn_n ?_
     refine W.cond (b := _) rfl (fun g39 => ?_) (fun g39 => ?_)
     ·have h39 := of_decide_eq_true g39
      have hC : codeC room tail G l = (0, whl (comes G l)) := by unfold codeC; rw [if_pos hm, if_neg hl0, if_neg hbig, if_neg hno, if_pos (by omega)]
      refine W.seq ?_
      refine W.region ?_
      refine L.val (x_mv (v := .slice _ _ _) rfl) rfl ?_
      refine L.ret (x_call kstor_en17 rfl) rfl (whole23 _ _ (comes G l) _ hv13 (may_comes hmG hm) (by omega)) ?_
      rintro _ w41 ⟨rfl, hw⟩
      have hB := hB.carry hw; have h := h.carry hw; have hu := hu.carry hw; have hv13 := hv13.carry hw
      refine L.val (x_as (v := .int _ _) rfl) rfl ?_
      refine L.val (x_as (v := .int _ _) rfl) rfl ?_
      refine L.nil ?_
      refine thn_n ?_
      refine W.ret (blk_r (thn_r (fin_mk (.inr rfl) ?_)))
      rw [hC]; exact ⟨rfl, hB⟩
     ·have h39 := dle_f g39
      have hC : codeC room tail G l = (210, tail) := by unfold codeC; rw [if_pos hm, if_neg hl0, if_neg hbig, if_neg hno, if_neg (by omega)]
      refine W.skip ?_
      refine blk_n ?_
      refine thn_n ?_
      refine W.seq ?_
      refine W.region ?_
      refine L.val (x_mv (v := .int _ _) rfl) rfl ?_
      refine L.val (x_as (v := .int _ _) rfl) rfl ?_
      refine L.val (x_as (v := .int _ _) rfl) rfl ?_
      refine L.nil ?_
      refine thn_n ?_
      refine W.ret (fin_mk (.inr rfl) ?_)
      rw [hC]; exact ⟨rfl, hB⟩
end Go.Gx
namespace Go.Gx
open Go.Proofs Go.Sort
theorem DiskF.le0 {n0 n1 b : Nat} {w : World} {D : Dk} (h : DiskF n1 w b D K0) (hn : n0 ≤ n1) : DiskF n0 w b D K0 := by
  obtain ⟨h1, h2, bp, vc, vk, h3, h4, ⟨pk, ck, e, a1, a2, a3, a4⟩, h6, h7⟩ := h
  exact ⟨Nat.le_trans hn h1, h2, bp, vc, vk, Nat.le_trans hn h3, h4, ⟨pk, ck, e, a1, a2, a3, fun h => absurd rfl h⟩, h6, h7.weak hn⟩
theorem sa_eds {A : Nat → Prop} {w : World} {a : Sa} {ve vk : Value} (h : SaC A w (saV a ve vk) a) : EdsAt A w ve a.eds := by
  obtain ⟨ve', vk', eW, h1, -⟩ := h
  simp only [saV, List.cons.injEq] at eW
  rw [eW.2.1]; exact h1
theorem saV_one {A : Nat → Prop} {w : World} {a : Sa} {ve vk : Value} (h : SaC A w (saV a ve vk) a) : ∀ v ∈ saV a ve vk, v.oneCell' = true := Car.one h
theorem SaC.carry {A : Nat → Prop} {w w' : World} {cs : List Value} {a : Sa} (h : SaC A w cs a) (g : Bel w w') : SaC A w' cs a := Car.carry h g
theorem SRep.arm {D : Dk} {q : Pt} {G : List Ed} {c : Nat} (h : SRep (una D) q G c) (i : Int) : SRep (una (armD D i)) q G c ∧ (armD D i).dead = D.dead ∧ (armD D i).ops = D.ops ∧ (armD D i).pl = D.pl := by
  unfold armD
  split
  · exact ⟨h, rfl, rfl, rfl⟩
  · exact ⟨h, rfl, rfl, rfl⟩
theorem SRep.keys {D : Dk} {q : Pt} {G : List Ed} {c : Nat} (h : SRep D q G c) : ∀ e ∈ G, e.key.length ≤ 1000 := fun e he => by
  have hm := h.may
  unfold mayL at hm
  have := mayE_len (List.all_eq_true.1 hm e he)
  omega
structure StS (n0 : Nat) (w : World) (b bs bl : Nat) (va : Value) (D : Dk) (K : Fl) (q : Pt) (G : List Ed) (i n m : Nat) : Prop where
  rep : SRep (una D) q G (60000 + i)
  live : D.dead = false
  arm : D.armed ≤ 9223372036854775807
  ops : D.ops ≤ 2300 * i
  ep : q.ep ≤ i
  pl : D.pl.length = n
  disk : DiskF n0 w b D K
  log : LogB n0 w bl b q false
  sto : StoAt n0 w bs bl G
  held : AllE n0 w va G
  siz : sizG G ≤ 3 * m ∧ G.length ≤ m
theorem StS.carry {n0 : Nat} {w w' : World} {b bs bl : Nat} {va : Value} {D : Dk} {K : Fl} {q : Pt} {G : List Ed} {i n m : Nat} (h : StS n0 w b bs bl va D K q G i n m) (g : Bel w w') : StS n0 w' b bs bl va D K q G i n m :=
  ⟨h.rep, h.live, h.arm, h.ops, h.ep, h.pl, h.disk.bel g, h.log.bel g, h.sto.carry g, h.held.carry g, h.siz⟩
end Go.Gx
