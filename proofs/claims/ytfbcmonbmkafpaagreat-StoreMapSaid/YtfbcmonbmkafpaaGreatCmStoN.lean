/- What must be held behind a transaction: the law's function. Conditions: none. -/
import Derived.Test.YtfbcmonbmkafpaaGreatCmStoL
namespace Go.Gx
open Go.Proofs Go.Sort
theorem kston_ag95 : aggT Tryz.prog 95 3 = true := by kernel_rfl
theorem kston_el95 : elT Tryz.prog 95 3 = true := by kernel_rfl
theorem kston_fo95_0 : fieldOff Tryz.prog 95 0 = some 0 := by kernel_rfl
theorem kston_fo95_2 : fieldOff Tryz.prog 95 2 = some 2 := by kernel_rfl
theorem kston_mixed : Tryz.prog.follows .mixedOrders = true := by kernel_rfl
theorem kston_oc4 : oneCellT Tryz.prog 4 = true := by kernel_rfl
theorem kston_oc9 : oneCellT Tryz.prog 9 = true := by kernel_rfl
theorem kston_sz95 : (Tryz.prog.info? 95).map (·.size) = some 3 := by kernel_rfl
def n1G (e : Ed) (st : List Ed × Bool) (x : Ed) : List Ed := if !st.2 && !ltStr x.key e.key then st.1 ++ [e] else st.1
theorem stepG_n1 (e : Ed) (st : List Ed × Bool) (x : Ed) : stepG e st x = (if x.key = e.key then n1G e st x else n1G e st x ++ [x], st.2 || !ltStr x.key e.key) := rfl
theorem goes23 (n0 : Nat) (A : Nat → Prop) (B : Nat → Prop) (v u : Value) (H l : List Ed) (w : World) (hv : EdsAt B w v H) (hs0 : EdsAt A w u l) (hH : Rises H) (hlen : H.length + l.length ≤ 100000) :
    Ret Tryz.prog 19 #[v, u] w fun r w' => AllE n0 w' r (comes H l) ∧ Bel w w' := by
  have hs := (hs0.up).mono (A' := fun k => w.heap.size ≤ k) (fun _ _ hk => .inr hk)
  have hvn := (hv.up).mono (A' := fun k => w.heap.size ≤ k) (fun _ _ hk => .inr hk)
  have hokH := eds_ok hv
  have hokl := eds_ok hs
  obtain ⟨pv, cv, rv, rfl, -⟩ := id hv
  obtain ⟨pl, cl, rl, rfl, -⟩ := id hs
  have hcl := fun i => comes_len (l.take i) H
  have hok : ∀ i, ∀ e ∈ comes H (l.take i), EdOk e := fun i e he => by
    have hsub : ∀ (l G : List Ed) (e : Ed), e ∈ comes G l → e ∈ G ∨ e ∈ l := fun l => by
      induction l with
      | nil => exact fun G e he => .inl he
      | cons x l ih =>
        intro G e he
        rcases ih (come1 G x) e he with h1 | h1
        · rcases come1_mem h1 with rfl | h1
          · exact .inr (by simp)
          · exact .inl h1
        · exact .inr (List.mem_cons_of_mem _ h1)
    rcases hsub _ _ _ he with h | h
    · exact hokH e h
    · exact hokl e (List.mem_of_mem_take h)
  refine ret_of_W Tryz.func19 rfl (Nat.le_of_ble_eq_true rfl) (res1 rfl) ?_
  have hB := Gr.refl (fun _ => False) w
  refine W.seq ?_
  refine W.region ?_
  refine L.val (x_as (v := .slice _ _ _) rfl) rfl ?_
  refine L.nil ?_
  refine thn_n ?_
  refine W.seq ?_
  refine W.region ?_
  refine L.bs0 Tryz.underlying22 kston_el95 rfl (fun w10 bx10 hw hz10 => ?_)
  have hB := hB.carry hw; have hs := hs.carry hw; have hvn := hvn.carry hw
  refine L.val (x_mv (v := .slice _ _ _) rfl) rfl ?_
  refine L.appendN (m := H.length) Tryz.underlying22 kston_el95 rfl rfl rfl bx10 (edV_flat H) (eds_holdsN hvn) (edV_ones H) (by omega) (by omega) (fun v12 w12 hO12 hg hob12 => ?_)
  obtain ⟨a12, c12, e12, -⟩ := own_shape hO12
  subst e12
  have hB := hB.step hg (fun i hi e => by have e : i = w.heap.size := Option.some.inj e; omega)
  have hs := hs.carryR hg (fun k e => by have e : k = w.heap.size := Option.some.inj e; omega)
  have hO : Own w12 w.heap.size 95 3 (.slice a12 (0 + H.length) c12) H.length (H.map edV).flatten := by simpa using hO12
  refine L.val (x_as (v := .slice _ _ _) rfl) rfl ?_
  refine L.nil ?_
  refine thn_n ?_
  refine W.seq ?_
  refine W.seq ?_
  refine W.region ?_
  refine L.val (x_as (v := .int _ _) rfl) rfl ?_
  refine L.nil ?_
  refine thn_n ?_
  refine W.block ?_
  refine W.loop (fun m' E w' => ∃ (i : Nat) (vo : Value), m' = l.length - i ∧ E 1 = .slice pl l.length cl ∧ E 5 = vo ∧ E 6 = .int .i64 (i : Nat) ∧ (i ≤ l.length) ∧ (Bel w w') ∧ (EdsAt (fun k => w.heap.size ≤ k) w' (.slice pl l.length cl) l) ∧ (Own w' w.heap.size 95 3 vo (comes H (l.take i)).length ((comes H (l.take i)).map edV).flatten)) (l.length) ?_ ?_
  ·exact ⟨0, _, by omega, by first | rfl | exact vi (by omega) | exact vs (by first | assumption | (rw [hst]; done) | (rw [hst]; simp only [List.append_assoc])), by first | rfl | exact vi (by omega) | exact vs (by first | assumption | (rw [hst]; done) | (rw [hst]; simp only [List.append_assoc])), by first | rfl | exact vi (by omega) | exact vs (by first | assumption | (rw [hst]; done) | (rw [hst]; simp only [List.append_assoc])), (by first | assumption | omega | rfl), (by first | assumption | omega | rfl), (by first | assumption | omega | rfl), (by exact hO)⟩
  ·rintro _ E wL13 ⟨i, vo, em, e1, e5, e6, hi, hB, hs, hO⟩
   rw [upd_self e1, upd_self e5, upd_self e6]
   refine W.seq ?_
   refine W.seq ?_
   refine W.region ?_
   refine L.val (x_mv (v := .int _ _) rfl) rfl ?_
   refine L.val (x_mv (v := .slice _ _ _) rfl) rfl ?_
   refine L.val (x_len_slice Tryz.underlying22 rfl) rfl ?_
   refine L.val (x_lss rfl rfl) rfl ?_
   refine L.nil ?_
   refine thn_n ?_
   refine W.cond (b := _) rfl (fun g16 => ?_) (fun g16 => ?_)
   ·have h16 := of_decide_eq_true g16
    have hlt : i < l.length := by omega
    obtain ⟨hek, be, oe, rfl, -, hce⟩ := eds_elem hs hlt
    have hce2 := hce 2 (by omega)
    have hst : comes H (l.take (i + 1)) = come1 (comes H (l.take i)) (l.getD i default) := by rw [take_snoc (d := default) hlt, come1_snoc]
    have hGi : Rises (comes H (l.take i)) := comes_rises hH
    have hli := hcl i
    rw [List.length_take] at hli
    have hoki := hok i
    have hcome := goes_come (e := l.getD i default) hGi
    obtain ⟨ao, co, eo, -⟩ := own_shape hO
    subst eo
    generalize hGG : comes H (l.take i) = G at *
    generalize hee : l.getD i default = e at *
    have hsB := hB.size
    have hqo : ∀ j, some j = (Value.slice ao G.length co).ownBlock → w.heap.size ≤ j ∧ j < wL13.heap.size := fun j hj => Own.lt hO hj
    refine W.skip ?_
    refine thn_n ?_
    refine W.seq ?_
    refine W.block ?_
    refine W.seq ?_
    refine W.region ?_
    refine L.val (x_as (v := .slice _ _ _) rfl) rfl ?_
    refine L.nil ?_
    refine thn_n ?_
    refine W.seq ?_
    refine W.region ?_
    refine L.val (x_mv (v := .slice _ _ _) rfl) rfl ?_
    refine L.val (x_mv (v := .int _ _) rfl) rfl ?_
    refine L.val (x_ia (j := i) Tryz.underlying22 kston_sz95 rfl rfl (by omega) (by omega)) rfl ?_
    refine L.val (x_fa kston_fo95_2 rfl) rfl ?_
    refine L.val (x_ld (v := .bool _) kston_oc4 rfl hce2) rfl ?_
    refine L.val (x_as (v := .bool _) rfl) rfl ?_
    refine L.nil ?_
    refine thn_n ?_
    refine W.seq ?_
    refine W.seq ?_
    refine W.region ?_
    refine L.val (x_as (v := .int _ _) rfl) rfl ?_
    refine L.nil ?_
    refine thn_n ?_
    refine W.block ?_
    refine W.loop (fun m' E w' => ∃ (k : Nat) (vn : Value) (p : Bool), m' = G.length - k ∧ E 1 = .slice (some ⟨be, oe, none⟩) l.length cl ∧ E 5 = .slice ao G.length co ∧ E 6 = .int .i64 (i : Nat) ∧ E 7 = vn ∧ E 8 = .bool p ∧ E 9 = .int .i64 (k : Nat) ∧ (k ≤ G.length) ∧ (Bel w w') ∧ (EdsAt (fun k => w.heap.size ≤ k) w' (.slice (some ⟨be, oe, none⟩) l.length cl) l) ∧ (Own w' w.heap.size 95 3 (.slice ao G.length co) G.length (G.map edV).flatten) ∧ (Own w' wL13.heap.size 95 3 vn (foldG e ([], e.gone) (G.take k)).1.length ((foldG e ([], e.gone) (G.take k)).1.map edV).flatten) ∧ (wL13.heap.size ≤ w'.heap.size) ∧ (p = (foldG e ([], e.gone) (G.take k)).2)) (G.length) ?_ ?_
    ·exact ⟨0, .slice none 0 0, e.gone, by omega, by first | rfl | exact vi (by omega) | exact vs (by first | assumption | (rw [hst]; done) | (rw [hst]; simp only [List.append_assoc])), by first | rfl | exact vi (by omega) | exact vs (by first | assumption | (rw [hst]; done) | (rw [hst]; simp only [List.append_assoc])), by first | rfl | exact vi (by omega) | exact vs (by first | assumption | (rw [hst]; done) | (rw [hst]; simp only [List.append_assoc])), by first | rfl | exact vi (by omega) | exact vs (by first | assumption | (rw [hst]; done) | (rw [hst]; simp only [List.append_assoc])), by first | rfl | exact vi (by omega) | exact vs (by first | assumption | (rw [hst]; done) | (rw [hst]; simp only [List.append_assoc])), by first | rfl | exact vi (by omega) | exact vs (by first | assumption | (rw [hst]; done) | (rw [hst]; simp only [List.append_assoc])), (by first | assumption | omega | rfl), (by first | assumption | omega | rfl), (by first | assumption | omega | rfl), (by first | assumption | omega | rfl), (by exact own_nil), (by first | assumption | omega | rfl), (by rfl)⟩
    ·rintro _ E wL24 ⟨k, vn, p, em, e1, e5, e6, e7, e8, e9, hk, hB, hs, hO, hN, hz, hpp⟩
     rw [upd_self e1, upd_self e5, upd_self e6, upd_self e7, upd_self e8, upd_self e9]
     refine W.seq ?_
     refine W.seq ?_
     refine W.region ?_
     refine L.val (x_mv (v := .int _ _) rfl) rfl ?_
     refine L.val (x_mv (v := .slice _ _ _) rfl) rfl ?_
     refine L.val (x_len_slice Tryz.underlying22 rfl) rfl ?_
     refine L.val (x_lss rfl rfl) rfl ?_
     refine L.nil ?_
     refine thn_n ?_
     refine W.cond (b := _) rfl (fun g27 => ?_) (fun g27 => ?_)
     ·have h27 := of_decide_eq_true g27
      have hltk : k < G.length := by omega
      obtain ⟨bo, rfl⟩ := own_pos hO (by omega)
      have hrow := own_rowK hO (edV_lens G) (i := k) (by rw [List.length_map]; exact hltk)
      rw [edV_get hltk] at hrow
      have hrow0 := hrow 0 (by omega)
      obtain ⟨-, be', oe', ebe, -, hce⟩ := eds_elem hs hlt
      cases ebe
      rw [hee] at hce
      have hce0 := hce 0 (by omega)
      have hfs := foldG_take (e := e) (st := ([], e.gone)) hltk
      have hfl : (foldG e ([], e.gone) (G.take k)).1.length ≤ 0 + 2 * (G.take k).length := foldG_len e (G.take k) ([], e.gone)
      rw [List.length_take] at hfl
      generalize hst0 : foldG e ([], e.gone) (G.take k) = st at *
      subst hpp
      rw [stepG_n1] at hfs
      generalize hxx : G.getD k default = x at *
      obtain ⟨an, cn, en, -⟩ := own_shape hN
      subst en
      refine W.skip ?_
      refine thn_n ?_
      refine W.seq ?_
      refine W.block ?_
      refine W.cut (fun D' E' w' => D' = [] ∧ ∃ vn1, E' 1 = .slice (some ⟨be, oe, none⟩) l.length cl ∧ E' 5 = .slice (some ⟨bo, 0, none⟩) G.length co ∧ E' 6 = .int .i64 (i : Nat) ∧ E' 7 = vn1 ∧ E' 8 = .bool (st.2 || !ltStr x.key e.key) ∧ E' 9 = .int .i64 (k : Nat) ∧ Bel w w' ∧ EdsAt (fun k => w.heap.size ≤ k) w' (.slice (some ⟨be, oe, none⟩) l.length cl) l ∧ Own w' w.heap.size 95 3 (.slice (some ⟨bo, 0, none⟩) G.length co) G.length (G.map edV).flatten ∧ Own w' wL13.heap.size 95 3 vn1 (n1G e st x).length ((n1G e st x).map edV).flatten ∧ wL13.heap.size ≤ w'.heap.size) ?_ ?_
      ·refine W.seq ?_
       refine W.drawF 15 kston_mixed (fun wF30 hB0 => ?_)
       refine LAC.takeN (i := 0) rfl (by kernel_rfl) (by kernel_rfl) (by kernel_rfl) (by kernel_rfl) (fun w hw => x_mv (v := .bool _) rfl) rfl ?_
       refine LAC.takeN (i := 1) rfl (by kernel_rfl) (by kernel_rfl) (by kernel_rfl) (by kernel_rfl) (fun w hw => x_not rfl) rfl ?_
       refine LAC.takeN (i := 2) rfl (by kernel_rfl) (by kernel_rfl) (by kernel_rfl) (by kernel_rfl) (fun w hw => x_mv (v := .bool _) rfl) rfl ?_
       refine LAC.split (dj := 32) (b := _) rfl (fun g32 => ?_) (fun g32 => ?_)
       ·have h32 := (not_t g32)
        have hp : st.2 = false := h32
        refine LAC.takeG (i := 3) rfl (by kernel_rfl) (by kernel_rfl) (by kernel_rfl) (by kernel_rfl) (dj := 32) (b := _) rfl rfl g32 (fun w hw => x_mv (v := .slice _ _ _) rfl) rfl ?_
        refine LAC.takeG (i := 4) rfl (by kernel_rfl) (by kernel_rfl) (by kernel_rfl) (by kernel_rfl) (dj := 32) (b := _) rfl rfl g32 (fun w hw => x_mv (v := .int _ _) rfl) rfl ?_
        refine LAC.takeG (i := 5) rfl (by kernel_rfl) (by kernel_rfl) (by kernel_rfl) (by kernel_rfl) (dj := 32) (b := _) rfl rfl g32 (fun w hw => x_ia (j := k) Tryz.underlying22 kston_sz95 rfl rfl (by omega) (by omega)) rfl ?_
        refine LAC.takeG (i := 6) rfl (by kernel_rfl) (by kernel_rfl) (by kernel_rfl) (by kernel_rfl) (dj := 32) (b := _) rfl rfl g32 (fun w hw => x_fa kston_fo95_0 rfl) rfl ?_
        refine LAC.takeG (i := 7) rfl (by kernel_rfl) (by kernel_rfl) (by kernel_rfl) (by kernel_rfl) (dj := 32) (b := _) rfl rfl g32 (fun w hw => x_ld (v := S _) kston_oc9 rfl (hw.keep hrow0)) rfl ?_
        refine LAC.takeG (i := 8) rfl (by kernel_rfl) (by kernel_rfl) (by kernel_rfl) (by kernel_rfl) (dj := 32) (b := _) rfl rfl g32 (fun w hw => x_mv (v := .slice _ _ _) rfl) rfl ?_
        refine LAC.takeG (i := 9) rfl (by kernel_rfl) (by kernel_rfl) (by kernel_rfl) (by kernel_rfl) (dj := 32) (b := _) rfl rfl g32 (fun w hw => x_mv (v := .int _ _) rfl) rfl ?_
        refine LAC.takeG (i := 10) rfl (by kernel_rfl) (by kernel_rfl) (by kernel_rfl) (by kernel_rfl) (dj := 32) (b := _) rfl rfl g32 (fun w hw => x_ia (j := i) Tryz.underlying22 kston_sz95 rfl rfl (by omega) (by omega)) rfl ?_
        refine LAC.takeG (i := 11) rfl (by kernel_rfl) (by kernel_rfl) (by kernel_rfl) (by kernel_rfl) (dj := 32) (b := _) rfl rfl g32 (fun w hw => x_fa kston_fo95_0 rfl) rfl ?_
        refine LAC.takeG (i := 12) rfl (by kernel_rfl) (by kernel_rfl) (by kernel_rfl) (by kernel_rfl) (dj := 32) (b := _) rfl rfl g32 (fun w hw => x_ld (v := S _) kston_oc9 rfl (hw.keep hce0)) rfl ?_
        refine LAC.takeG (i := 13) rfl (by kernel_rfl) (by kernel_rfl) (by kernel_rfl) (by kernel_rfl) (dj := 32) (b := _) rfl rfl g32 (fun w hw => x_ges rfl rfl) rfl ?_
        refine LAC.takeN (i := 14) rfl (by kernel_rfl) (by kernel_rfl) (by kernel_rfl) (by kernel_rfl) (fun w hw => x_pick_t (v := .bool _) (congrArg Value.bool g32) rfl) rfl ?_
        refine LAC.doneF (by kernel_rfl) hB0 ?_
        have hB := hB.carry hB0; have hs := hs.carry hB0; have hO := hO.carry hB0; have hN := hN.carry hB0
        have hz := Nat.le_trans hz hB0.size
        refine thn_n ?_
        refine W.cond (b := _) rfl (fun g43 => ?_) (fun g43 => ?_)
        ·have h43 := g43
         have hge : (!ltStr x.key e.key) = true := by rw [← ltS_less]; exact g43
         have hn1 : n1G e st x = st.1 ++ [e] := by unfold n1G; rw [hp, hge]; rfl
         have hb8 : true = (st.2 || !ltStr x.key e.key) := by rw [hge, Bool.or_true]
         obtain ⟨-, be', oe', ebe, -, hce⟩ := eds_elem hs hlt
         cases ebe
         rw [hee] at hce
         refine W.seq ?_
         refine W.region ?_
         refine L.val (x_mv (v := .slice _ _ _) rfl) rfl ?_
         refine L.val (x_mv (v := .slice _ _ _) rfl) rfl ?_
         refine L.val (x_mv (v := .int _ _) rfl) rfl ?_
         refine L.val (x_ia (j := i) Tryz.underlying22 kston_sz95 rfl rfl (by omega) (by omega)) rfl ?_
         refine L.val (x_ldn (vs := edV e) kston_ag95 rfl rfl hce) rfl ?_
         refine L.bs (sz := 3) (cells := edV e) Tryz.underlying22 kston_el95 rfl rfl rfl rfl (fun w50 bx50 hw hz50 => ?_)
         have hB := hB.carry hw; have hs := hs.carry hw; have hO := hO.carry hw; have hN := hN.carry hw
         have hz50 := Nat.le_trans hz hw.size
         have hz51 := hB.size
         refine L.appendN (m := 1) Tryz.underlying22 kston_el95 rfl rfl rfl hN rfl (holdsN_box bx50) (edV_one _) (by omega) (by omega) (fun v51 w51 hO51 hg hob51 => ?_)
         obtain ⟨a51, c51, e51, -⟩ := own_shape hO51
         subst e51
         have hz := Nat.le_trans hz50 hg.size
         have hB := hB.step hg (fun i hi e' => by have := (Own.lt hN e').1; omega)
         have hs := hs.carryR hg (fun k e' => by have := (Own.lt hN e').1; omega)
         have hO := Own.carryR hO hg (fun j hj e' => by have h1 := (hqo j hj).2; have h2 := (Own.lt hN e').1; omega)
         have hN1 : Own w51 wL13.heap.size 95 3 (.slice a51 (st.1.length + 1) c51) (n1G e st x).length ((n1G e st x).map edV).flatten := by
           rw [hn1, List.length_append, List.map_append, List.flatten_append]; simpa using hO51
         refine L.val (x_as (v := .slice _ _ _) rfl) rfl ?_
         refine L.nil ?_
         refine thn_n ?_
         refine W.region ?_
         refine L.val (x_as (v := .bool _) rfl) rfl ?_
         refine L.nil ?_
         refine thn_n ?_
         exact ⟨rfl, _, rfl, rfl, rfl, rfl, congrArg Value.bool hb8, rfl, hB, hs, hO, hN1, hz⟩
        ·have h43 := g43
         have hge : (!ltStr x.key e.key) = false := by rw [← ltS_less]; exact g43
         have hn1 : n1G e st x = st.1 := by unfold n1G; rw [hp, hge]; rfl
         have hb8 : st.2 = (st.2 || !ltStr x.key e.key) := by rw [hge, Bool.or_false]
         refine W.skip ?_
         refine thn_n ?_
         exact ⟨rfl, _, rfl, rfl, rfl, rfl, congrArg Value.bool hb8, rfl, hB, hs, hO, (by rw [hn1]; exact hN), hz⟩
       ·have h32 := (not_f g32)
        have hp : st.2 = true := h32
        have hn1 : n1G e st x = st.1 := by unfold n1G; rw [hp]; rfl
        have hb8 : st.2 = (st.2 || !ltStr x.key e.key) := by rw [hp]; rfl
        refine LAC.takeU (i := 3) rfl (by kernel_rfl) (by kernel_rfl) (by kernel_rfl) (by kernel_rfl) (dj := 32) (b := _) rfl rfl g32 rfl ?_
        refine LAC.takeU (i := 4) rfl (by kernel_rfl) (by kernel_rfl) (by kernel_rfl) (by kernel_rfl) (dj := 32) (b := _) rfl rfl g32 rfl ?_
        refine LAC.takeU (i := 5) rfl (by kernel_rfl) (by kernel_rfl) (by kernel_rfl) (by kernel_rfl) (dj := 32) (b := _) rfl rfl g32 rfl ?_
        refine LAC.takeU (i := 6) rfl (by kernel_rfl) (by kernel_rfl) (by kernel_rfl) (by kernel_rfl) (dj := 32) (b := _) rfl rfl g32 rfl ?_
        refine LAC.takeU (i := 7) rfl (by kernel_rfl) (by kernel_rfl) (by kernel_rfl) (by kernel_rfl) (dj := 32) (b := _) rfl rfl g32 rfl ?_
        refine LAC.takeU (i := 8) rfl (by kernel_rfl) (by kernel_rfl) (by kernel_rfl) (by kernel_rfl) (dj := 32) (b := _) rfl rfl g32 rfl ?_
        refine LAC.takeU (i := 9) rfl (by kernel_rfl) (by kernel_rfl) (by kernel_rfl) (by kernel_rfl) (dj := 32) (b := _) rfl rfl g32 rfl ?_
        refine LAC.takeU (i := 10) rfl (by kernel_rfl) (by kernel_rfl) (by kernel_rfl) (by kernel_rfl) (dj := 32) (b := _) rfl rfl g32 rfl ?_
        refine LAC.takeU (i := 11) rfl (by kernel_rfl) (by kernel_rfl) (by kernel_rfl) (by kernel_rfl) (dj := 32) (b := _) rfl rfl g32 rfl ?_
        refine LAC.takeU (i := 12) rfl (by kernel_rfl) (by kernel_rfl) (by kernel_rfl) (by kernel_rfl) (dj := 32) (b := _) rfl rfl g32 rfl ?_
        refine LAC.takeU (i := 13) rfl (by kernel_rfl) (by kernel_rfl) (by kernel_rfl) (by kernel_rfl) (dj := 32) (b := _) rfl rfl g32 rfl ?_
        refine LAC.takeN (i := 14) rfl (by kernel_rfl) (by kernel_rfl) (by kernel_rfl) (by kernel_rfl) (fun w hw => x_pick_f (v := .bool _) (congrArg Value.bool g32) rfl) rfl ?_
        refine LAC.doneF (by kernel_rfl) hB0 ?_
        have hB := hB.carry hB0; have hs := hs.carry hB0; have hO := hO.carry hB0; have hN := hN.carry hB0
        have hz := Nat.le_trans hz hB0.size
        refine thn_n ?_
        refine W.cond (b := false) rfl (fun h => nomatch h) (fun _ => ?_)
        refine W.skip ?_
        refine thn_n ?_
        exact ⟨rfl, _, rfl, rfl, rfl, rfl, congrArg Value.bool hb8, rfl, hB, hs, hO, (by rw [hn1]; exact hN), hz⟩
      ·rintro D' E w52 ⟨rfl, vn1, e1, e5, e6, e7, e8, e9, hB, hs, hO, hN, hz⟩
       obtain ⟨an1, cn1, en1, -⟩ := own_shape hN
       subst en1
       rw [upd_self e1, upd_self e5, upd_self e6, upd_self e7, upd_self e8, upd_self e9]
       have hn1l : (n1G e st x).length ≤ st.1.length + 1 := by
         unfold n1G
         split
         · rw [List.length_append]; simp
         · omega
       have hrow := own_rowK hO (edV_lens G) (i := k) (by rw [List.length_map]; exact hltk)
       rw [edV_get hltk, hxx] at hrow
       have hrow0 := hrow 0 (by omega)
       obtain ⟨-, be', oe', ebe, -, hce⟩ := eds_elem hs hlt
       cases ebe
       rw [hee] at hce
       have hce0 := hce 0 (by omega)
       refine W.seq ?_
       refine W.drawF 11 kston_mixed (fun wF52 hB0 => ?_)
       refine LAC.takeN (i := 0) rfl (by kernel_rfl) (by kernel_rfl) (by kernel_rfl) (by kernel_rfl) (fun w hw => x_mv (v := .slice _ _ _) rfl) rfl ?_
       refine LAC.takeN (i := 1) rfl (by kernel_rfl) (by kernel_rfl) (by kernel_rfl) (by kernel_rfl) (fun w hw => x_mv (v := .int _ _) rfl) rfl ?_
       refine LAC.takeN (i := 2) rfl (by kernel_rfl) (by kernel_rfl) (by kernel_rfl) (by kernel_rfl) (fun w hw => x_ia (j := k) Tryz.underlying22 kston_sz95 rfl rfl (by omega) (by omega)) rfl ?_
       refine LAC.takeN (i := 3) rfl (by kernel_rfl) (by kernel_rfl) (by kernel_rfl) (by kernel_rfl) (fun w hw => x_fa kston_fo95_0 rfl) rfl ?_
       refine LAC.takeN (i := 4) rfl (by kernel_rfl) (by kernel_rfl) (by kernel_rfl) (by kernel_rfl) (fun w hw => x_ld (v := S _) kston_oc9 rfl (hw.keep hrow0)) rfl ?_
       refine LAC.takeN (i := 5) rfl (by kernel_rfl) (by kernel_rfl) (by kernel_rfl) (by kernel_rfl) (fun w hw => x_mv (v := .slice _ _ _) rfl) rfl ?_
       refine LAC.takeN (i := 6) rfl (by kernel_rfl) (by kernel_rfl) (by kernel_rfl) (by kernel_rfl) (fun w hw => x_mv (v := .int _ _) rfl) rfl ?_
       refine LAC.takeN (i := 7) rfl (by kernel_rfl) (by kernel_rfl) (by kernel_rfl) (by kernel_rfl) (fun w hw => x_ia (j := i) Tryz.underlying22 kston_sz95 rfl rfl (by omega) (by omega)) rfl ?_
       refine LAC.takeN (i := 8) rfl (by kernel_rfl) (by kernel_rfl) (by kernel_rfl) (by kernel_rfl) (fun w hw => x_fa kston_fo95_0 rfl) rfl ?_
       refine LAC.takeN (i := 9) rfl (by kernel_rfl) (by kernel_rfl) (by kernel_rfl) (by kernel_rfl) (fun w hw => x_ld (v := S _) kston_oc9 rfl (hw.keep hce0)) rfl ?_
       refine LAC.takeN (i := 10) rfl (by kernel_rfl) (by kernel_rfl) (by kernel_rfl) (by kernel_rfl) (fun w hw => x_nes rfl rfl) rfl ?_
       refine LAC.doneF (by kernel_rfl) hB0 ?_
       have hB := hB.carry hB0; have hs := hs.carry hB0; have hO := hO.carry hB0; have hN := hN.carry hB0
       have hz := Nat.le_trans hz hB0.size
       refine thn_n ?_
       refine W.cond (b := _) rfl (fun g62 => ?_) (fun g62 => ?_)
       ·have h62 := sne_t g62
        have hne : ¬ x.key = e.key := h62
        rw [if_neg hne] at hfs
        have hrow := own_rowK hO (edV_lens G) (i := k) (by rw [List.length_map]; exact hltk)
        rw [edV_get hltk, hxx] at hrow
        refine W.region ?_
        refine L.val (x_mv (v := .slice _ _ _) rfl) rfl ?_
        refine L.val (x_mv (v := .slice _ _ _) rfl) rfl ?_
        refine L.val (x_mv (v := .int _ _) rfl) rfl ?_
        refine L.val (x_ia (j := k) Tryz.underlying22 kston_sz95 rfl rfl (by omega) (by omega)) rfl ?_
        refine L.val (x_ldn (vs := edV x) kston_ag95 rfl rfl hrow) rfl ?_
        refine L.bs (sz := 3) (cells := edV x) Tryz.underlying22 kston_el95 rfl rfl rfl rfl (fun w68 bx68 hw hz68 => ?_)
        have hB := hB.carry hw; have hs := hs.carry hw; have hO := hO.carry hw; have hN := hN.carry hw
        have hz68 := Nat.le_trans hz hw.size
        refine L.appendN (m := 1) Tryz.underlying22 kston_el95 rfl rfl rfl hN rfl (holdsN_box bx68) (edV_one _) (by omega) (by omega) (fun v69 w69 hO69 hg hob69 => ?_)
        obtain ⟨a69, c69, e69, -⟩ := own_shape hO69
        subst e69
        have hz2 := Nat.le_trans hz68 hg.size
        have hB := hB.step hg (fun i hi e' => by have := (Own.lt hN e').1; omega)
        have hs := hs.carryR hg (fun k e' => by have := (Own.lt hN e').1; omega)
        have hO := Own.carryR hO hg (fun j hj e' => by have h1 := (hqo j hj).2; have h2 := (Own.lt hN e').1; omega)
        have hN2 : Own w69 wL13.heap.size 95 3 (.slice a69 ((n1G e st x).length + 1) c69) (foldG e ([], e.gone) (G.take (k + 1))).1.length ((foldG e ([], e.gone) (G.take (k + 1))).1.map edV).flatten := by
          rw [hfs, List.length_append, List.map_append, List.flatten_append]; simpa using hO69
        have hpp2 : (st.2 || !ltStr x.key e.key) = (foldG e ([], e.gone) (G.take (k + 1))).2 := by rw [hfs]
        refine L.val (x_as (v := .slice _ _ _) rfl) rfl ?_
        refine L.nil ?_
        refine blk_n ?_
        refine thn_n ?_
        refine W.region ?_
        refine L.val (x_mv (v := .int _ _) rfl) rfl ?_
        refine L.val (x_add rfl rfl (wr64 (by omega))) rfl ?_
        refine L.val (x_as (v := .int _ _) rfl) rfl ?_
        refine L.nil ?_
        refine thn_n ⟨rfl, ?_⟩
        refine ⟨_, ?_, k + 1, _, _, rfl, by first | rfl | exact vi (by omega) | exact vs (by first | assumption | (rw [hst]; done) | (rw [hst]; simp only [List.append_assoc])), by first | rfl | exact vi (by omega) | exact vs (by first | assumption | (rw [hst]; done) | (rw [hst]; simp only [List.append_assoc])), by first | rfl | exact vi (by omega) | exact vs (by first | assumption | (rw [hst]; done) | (rw [hst]; simp only [List.append_assoc])), by first | rfl | exact vi (by omega) | exact vs (by first | assumption | (rw [hst]; done) | (rw [hst]; simp only [List.append_assoc])), by first | rfl | exact vi (by omega) | exact vs (by first | assumption | (rw [hst]; done) | (rw [hst]; simp only [List.append_assoc])), by first | rfl | exact vi (by omega) | exact vs (by first | assumption | (rw [hst]; done) | (rw [hst]; simp only [List.append_assoc])), (by first | assumption | omega | rfl), (by first | assumption | omega | rfl), (by first | assumption | omega | rfl), (by first | assumption | omega | rfl), (by exact hN2), (by exact hz2), (by exact hpp2)⟩
        omega
       ·have h62 := sne_f g62
        have hee2 : x.key = e.key := h62
        rw [if_pos hee2] at hfs
        have hN2 : Own wF52 wL13.heap.size 95 3 (.slice an1 (n1G e st x).length cn1) (foldG e ([], e.gone) (G.take (k + 1))).1.length ((foldG e ([], e.gone) (G.take (k + 1))).1.map edV).flatten := by rw [hfs]; exact hN
        have hz2 := hz
        have hpp2 : (st.2 || !ltStr x.key e.key) = (foldG e ([], e.gone) (G.take (k + 1))).2 := by rw [hfs]
        refine W.skip ?_
        refine blk_n ?_
        refine thn_n ?_
        refine W.region ?_
        refine L.val (x_mv (v := .int _ _) rfl) rfl ?_
        refine L.val (x_add rfl rfl (wr64 (by omega))) rfl ?_
        refine L.val (x_as (v := .int _ _) rfl) rfl ?_
        refine L.nil ?_
        refine thn_n ⟨rfl, ?_⟩
        refine ⟨_, ?_, k + 1, _, _, rfl, by first | rfl | exact vi (by omega) | exact vs (by first | assumption | (rw [hst]; done) | (rw [hst]; simp only [List.append_assoc])), by first | rfl | exact vi (by omega) | exact vs (by first | assumption | (rw [hst]; done) | (rw [hst]; simp only [List.append_assoc])), by first | rfl | exact vi (by omega) | exact vs (by first | assumption | (rw [hst]; done) | (rw [hst]; simp only [List.append_assoc])), by first | rfl | exact vi (by omega) | exact vs (by first | assumption | (rw [hst]; done) | (rw [hst]; simp only [List.append_assoc])), by first | rfl | exact vi (by omega) | exact vs (by first | assumption | (rw [hst]; done) | (rw [hst]; simp only [List.append_assoc])), by first | rfl | exact vi (by omega) | exact vs (by first | assumption | (rw [hst]; done) | (rw [hst]; simp only [List.append_assoc])), (by first | assumption | omega | rfl), (by first | assumption | omega | rfl), (by first | assumption | omega | rfl), (by first | assumption | omega | rfl), (by exact hN2), (by exact hz2), (by exact hpp2)⟩
        omega
     ·have h27 := dlt_f g27
      have hke : k = G.length := by omega
      subst hke
      rw [List.take_length] at hpp hN
      have hfl : (foldG e ([], e.gone) G).1.length ≤ 0 + 2 * G.length := foldG_len e G ([], e.gone)
      obtain ⟨an, cn, en, -⟩ := own_shape hN
      subst en
      obtain ⟨-, be', oe', ebe, -, hce⟩ := eds_elem hs hlt
      cases ebe
      rw [hee] at hce
      generalize hst0 : foldG e ([], e.gone) G = st at *
      subst hpp
      refine W.exit (thn_x (thn_x (blk_hit ?_)))
      refine thn_n ?_
      refine W.seq ?_
      refine W.seq ?_
      refine W.region ?_
      refine L.val (x_mv (v := .bool _) rfl) rfl ?_
      refine L.val (x_not rfl) rfl ?_
      refine L.nil ?_
      refine thn_n ?_
      refine W.cond (b := _) rfl (fun g71 => ?_) (fun g71 => ?_)
      ·have h71 := (not_t g71)
       have hp : st.2 = false := h71
       rw [hp, if_neg (by decide)] at hcome
       refine W.region ?_
       refine L.val (x_mv (v := .slice _ _ _) rfl) rfl ?_
       refine L.val (x_mv (v := .slice _ _ _) rfl) rfl ?_
       refine L.val (x_mv (v := .int _ _) rfl) rfl ?_
       refine L.val (x_ia (j := i) Tryz.underlying22 kston_sz95 rfl rfl (by omega) (by omega)) rfl ?_
       refine L.val (x_ldn (vs := edV e) kston_ag95 rfl rfl hce) rfl ?_
       refine L.bs (sz := 3) (cells := edV e) Tryz.underlying22 kston_el95 rfl rfl rfl rfl (fun w77 bx77 hw hz77 => ?_)
       have hB := hB.carry hw; have hs := hs.carry hw; have hO := hO.carry hw; have hN := hN.carry hw
       have hz77 := Nat.le_trans hz hw.size
       refine L.appendN (m := 1) Tryz.underlying22 kston_el95 rfl rfl rfl hN rfl (holdsN_box bx77) (edV_one _) (by omega) (by omega) (fun v78 w78 hO78 hg hob78 => ?_)
       obtain ⟨a78, c78, e78, -⟩ := own_shape hO78
       subst e78
       have hB := hB.step hg (fun i hi e' => by have := (Own.lt hN e').1; omega)
       have hs := hs.carryR hg (fun k e' => by have := (Own.lt hN e').1; omega)
       have hO2 : Own w78 w.heap.size 95 3 (.slice a78 (st.1.length + 1) c78) (comes H (l.take (i + 1))).length ((comes H (l.take (i + 1))).map edV).flatten := by
         rw [hst, ← hcome, List.length_append, List.map_append, List.flatten_append]
         refine Own.weak ?_ hsB
         simpa using hO78
       refine L.val (x_as (v := .slice _ _ _) rfl) rfl ?_
       refine L.nil ?_
       refine thn_n ?_
       refine W.region ?_
       refine L.val (x_mv (v := .slice _ _ _) rfl) rfl ?_
       refine L.val (x_as (v := .slice _ _ _) rfl) rfl ?_
       refine L.nil ?_
       refine blk_n ?_
       refine thn_n ?_
       refine W.region ?_
       refine L.val (x_mv (v := .int _ _) rfl) rfl ?_
       refine L.val (x_add rfl rfl (wr64 (by omega))) rfl ?_
       refine L.val (x_as (v := .int _ _) rfl) rfl ?_
       refine L.nil ?_
       refine thn_n ⟨rfl, ?_⟩
       refine ⟨_, ?_, i + 1, _, rfl, by first | rfl | exact vi (by omega) | exact vs (by first | assumption | (rw [hst]; done) | (rw [hst]; simp only [List.append_assoc])), by first | rfl | exact vi (by omega) | exact vs (by first | assumption | (rw [hst]; done) | (rw [hst]; simp only [List.append_assoc])), by first | rfl | exact vi (by omega) | exact vs (by first | assumption | (rw [hst]; done) | (rw [hst]; simp only [List.append_assoc])), (by first | assumption | omega | rfl), (by first | assumption | omega | rfl), (by first | assumption | omega | rfl), (by exact hO2)⟩
       omega
      ·have h71 := (not_f g71)
       have hp : st.2 = true := h71
       rw [hp, if_pos rfl] at hcome
       have hO2 : Own wL24 w.heap.size 95 3 (.slice an st.1.length cn) (comes H (l.take (i + 1))).length ((comes H (l.take (i + 1))).map edV).flatten := by rw [hst, ← hcome]; exact hN.weak hsB
       refine W.skip ?_
       refine thn_n ?_
       refine W.region ?_
       refine L.val (x_mv (v := .slice _ _ _) rfl) rfl ?_
       refine L.val (x_as (v := .slice _ _ _) rfl) rfl ?_
       refine L.nil ?_
       refine blk_n ?_
       refine thn_n ?_
       refine W.region ?_
       refine L.val (x_mv (v := .int _ _) rfl) rfl ?_
       refine L.val (x_add rfl rfl (wr64 (by omega))) rfl ?_
       refine L.val (x_as (v := .int _ _) rfl) rfl ?_
       refine L.nil ?_
       refine thn_n ⟨rfl, ?_⟩
       refine ⟨_, ?_, i + 1, _, rfl, by first | rfl | exact vi (by omega) | exact vs (by first | assumption | (rw [hst]; done) | (rw [hst]; simp only [List.append_assoc])), by first | rfl | exact vi (by omega) | exact vs (by first | assumption | (rw [hst]; done) | (rw [hst]; simp only [List.append_assoc])), by first | rfl | exact vi (by omega) | exact vs (by first | assumption | (rw [hst]; done) | (rw [hst]; simp only [List.append_assoc])), (by first | assumption | omega | rfl), (by first | assumption | omega | rfl), (by first | assumption | omega | rfl), (by exact hO2)⟩
       omega
   ·have h16 := dlt_f g16
    have hie : i = l.length := by omega
    subst hie
    rw [List.take_length] at hO
    have hok := hok l.length
    rw [List.take_length] at hok
    have hcl := hcl l.length
    rw [List.take_length] at hcl
    obtain ⟨ao, co, eo, -⟩ := own_shape hO
    subst eo
    refine W.exit (thn_x (thn_x (blk_hit ?_)))
    refine thn_n ?_
    refine W.seq ?_
    refine W.region ?_
    refine L.val (x_mv (v := .slice _ _ _) rfl) rfl ?_
    refine L.val (x_as (v := .slice _ _ _) rfl) rfl ?_
    refine L.nil ?_
    refine thn_n ?_
    refine W.ret (fin_mk (.inr rfl) ?_)
    exact ⟨own_allE hO hok (by omega), hB⟩
end Go.Gx
