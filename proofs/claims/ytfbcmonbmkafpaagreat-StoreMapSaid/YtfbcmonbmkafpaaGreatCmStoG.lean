/- A store's Commit and Compact, through falls. Conditions: none. -/
import Derived.Test.YtfbcmonbmkafpaaGreatCmWaf3
import Derived.Test.YtfbcmonbmkafpaaGreatCmStoE
import Derived.Test.YtfbcmonbmkafpaaGreatCmRowG
namespace Go.Gx
open Go.Proofs Go.Sort
theorem kstog_ag26 : aggT Tryz.prog 26 1 = true := by kernel_rfl
theorem kstog_el9 : elT Tryz.prog 9 1 = true := by kernel_rfl
theorem kstog_en41 : Go.Proofs.Enters Tryz.prog 41 := Go.Proofs.enters_of Tryz.func41 (by kernel_rfl) rfl
theorem kstog_en42 : Go.Proofs.Enters Tryz.prog 42 := Go.Proofs.enters_of Tryz.func42 (by kernel_rfl) rfl
theorem kstog_en43 : Go.Proofs.Enters Tryz.prog 43 := Go.Proofs.enters_of Tryz.func43 (by kernel_rfl) rfl
theorem kstog_en44 : Go.Proofs.Enters Tryz.prog 44 := Go.Proofs.enters_of Tryz.func44 (by kernel_rfl) rfl
theorem kstog_en45 : Go.Proofs.Enters Tryz.prog 45 := Go.Proofs.enters_of Tryz.func45 (by kernel_rfl) rfl
theorem kstog_en46 : Go.Proofs.Enters Tryz.prog 46 := Go.Proofs.enters_of Tryz.func46 (by kernel_rfl) rfl
theorem kstog_en47 : Go.Proofs.Enters Tryz.prog 47 := Go.Proofs.enters_of Tryz.func47 (by kernel_rfl) rfl
theorem kstog_fo26_0 : fieldOff Tryz.prog 26 0 = some 0 := by kernel_rfl
theorem kstog_fo29_0 : fieldOff Tryz.prog 29 0 = some 0 := by kernel_rfl
theorem kstog_fo29_1 : fieldOff Tryz.prog 29 1 = some 1 := by kernel_rfl
theorem kstog_mixed : Tryz.prog.follows .mixedOrders = true := by kernel_rfl
theorem kstog_oc24 : oneCellT Tryz.prog 24 = true := by kernel_rfl
theorem kstog_oc27 : oneCellT Tryz.prog 27 = true := by kernel_rfl
theorem kstog_si26 : structInfo Tryz.prog 26 = some ([(0, 1)], [Value.map none]) := by kernel_rfl
theorem kstog_zr26 : (Tryz.prog.info? 26).bind (·.zero) = some (Value.agg [Value.map none].toArray) := by kernel_rfl
def stTy (T : TypeId) : Bool := lgTy T || T == 29
theorem st_of_lg (T : TypeId) (h : lgTy T = true) : stTy T = true := by unfold stTy; rw [h]; rfl
def comS (D : Dk) (K K1 : Fl) (q : Pt) (G l : List Ed) : Int × Dk × Pt :=
  if mayL l = true then (if l = [] then (0, D, q) else if (appF D K q [bodyB l]).1 = 210 then turnF D K1 q (allB (snapL (comes G l))) else appF D K q [bodyB l]) else (230, D, q)
theorem appF_210 {D : Dk} {K : Fl} {q : Pt} {l : List Str} (h : (appF D K q l).1 = 210) : (appF D K q l).2.1 = D ∧ (appF D K q l).2.2 = q := by
  unfold appF at h ⊢
  split
  · rename_i h1
    rw [if_pos h1] at h
    split
    · exact ⟨rfl, rfl⟩
    · rename_i h2
      rw [if_neg h2] at h
      unfold outF at h
      dsimp only at h
      split at h <;> exact absurd h (by decide)
  · exact ⟨rfl, rfl⟩
theorem StoAt.dg {n0 n1 bs bl : Nat} {w w' : World} {G : List Ed} (h : StoAt n0 w bs bl G) (g : Dg lgTy n1 w w') : StoAt n0 w' bs bl G := by
  obtain ⟨m, h1, h2, h3⟩ := h
  refine ⟨m, h1, h2.dg g rfl, h3.carryR g (fun k hk e => ?_)⟩
  rcases h3 with ⟨e1, -⟩ | ⟨mb, l', e1, -, hH⟩
  · rw [e1] at hk; cases hk
  · rw [e1] at hk; cases hk
    obtain ⟨-, cs, T, m', he, -⟩ := e
    obtain ⟨es, ck', hes, -⟩ := hH.map
    rw [hes] at he; cases he
theorem MapHas.dg {ty : TypeId → Bool} {n0 n1 : Nat} {w w' : World} {m : Option Nat} {G : List Ed} (h3 : MapHas n0 w m G) (g : Dg ty n1 w w') : MapHas n0 w' m G := by
  refine h3.carryR g (fun k hk e => ?_)
  rcases h3 with ⟨e1, -⟩ | ⟨mb, l', e1, -, hH⟩
  · rw [e1] at hk; cases hk
  · rw [e1] at hk; cases hk
    obtain ⟨-, cs, T, m', he, -⟩ := e
    obtain ⟨es, ck', hes, -⟩ := hH.map
    rw [hes] at he; cases he
theorem HoldsM.dg {ty : TypeId → Bool} {n1 : Nat} {w w' : World} {mb : Nat} {l : List (Str × Value)} {G : List Ed} (hH : HoldsM w mb l G) (g : Dg ty n1 w w') : HoldsM w' mb l G := hH.carryR g (fun e => by
  obtain ⟨-, cs, T, m', he, -⟩ := e
  obtain ⟨es, ck', hes, -⟩ := hH.map
  rw [hes] at he; cases he)
theorem clone_has (n0 : Nat) (m : Option Nat) (G : List Ed) (w : World) (h : MapHas n0 w m G) : Ret Tryz.prog 43 #[.map m] w fun v w' => (∃ m', v = .map m' ∧ MapHas w.heap.size w' m' G) ∧ Bel w w' := by
  rcases h with ⟨rfl, rfl⟩ | ⟨mb, l, rfl, -, hH⟩
  · exact (clone_none w).mono fun v w' ⟨h1, h2⟩ => ⟨⟨none, h1, .inl ⟨rfl, rfl⟩⟩, by rw [h2]; exact Gr.refl _ _⟩
  · exact (clone_map mb l w hH.map).mono fun v w' ⟨⟨h1, h2⟩, h3⟩ => ⟨⟨_, h1, .inr ⟨_, l, rfl, Nat.le_refl _, ⟨h2, hH.get⟩⟩⟩, h3⟩
theorem mayL_body {l : List Ed} (h : mayL l = true) (hn : l.length ≤ 1000000) : (bodyB l).length ≤ 9 + l.length * 8300 := by
  have h1 : ∀ l : List Ed, mayL l = true → ((bodyL l).map textB).flatten.length ≤ l.length * 8300 := fun l => by
    induction l with
    | nil => intro _; exact Nat.le_refl _
    | cons e l ih =>
      intro hm
      unfold mayL at hm
      rw [List.all_cons, Bool.and_eq_true] at hm
      have ih := ih hm.2
      obtain ⟨a1, a2⟩ := mayE_len hm.1
      have e1 : bodyL (e :: l) = e.key :: (if e.gone then [71] else [86]) :: e.val :: bodyL l := rfl
      have a3 := numB_le (n := e.key.length) (by omega)
      have a4 := numB_le (n := e.val.length) (by omega)
      have a5 := numB_le (n := 1) (by omega)
      have a6 : (if e.gone then ([71] : Str) else [86]).length = 1 := by split <;> rfl
      rw [e1]
      simp only [List.map_cons, List.flatten_cons, List.length_append, textB, a6, List.length_cons]
      omega
  have h2 := h1 l h
  have h3 : (numB (bodyL l).length).length ≤ 9 := by
    unfold numB
    split
    · simp
    · simp only [List.length_cons, beN_len]
      have := bodyL_len l
      unfold widN
      have hb : Lib.bitLen (bodyL l).length ≤ 64 := Lib.bitLen_le _ 64 (by omega) (by omega)
      omega
  unfold bodyB listB
  rw [List.length_append]; omega
theorem DiskF.sto {n0 b bs : Nat} {w w' : World} {D : Dk} {K : Fl} {m : Option Nat} {p : Option Addr} (h : DiskF n0 w b D K) (hb : Box w bs 29 [.map m, .pointer p]) (g : Gr (fun k => k = bs) w w') : DiskF n0 w' b D K := by
  obtain ⟨h1, h2, bp, vc, vk, h3, h4, h5, h6, h7⟩ := h
  refine ⟨h1, h2, bp, vc, vk, h3, h4.carryR g (box_ne h4 hb (by decide)), ?_, h6.carryR g (box_ne h6 hb (by decide)), Own.carryR h7 g fun j hj e => ?_⟩
  · obtain ⟨pk, cap, e, a1, a2, a3, a4⟩ := h5
    refine ⟨pk, cap, e, a1, a2, a3, fun hl => ?_⟩
    obtain ⟨kb, ko, hp, hA, hcell⟩ := a4 hl
    have hne : kb ≠ bs := fun e => by
      have hc0 := hcell 0 (List.length_pos_iff.2 hl)
      subst e
      have hbx := hb
      unfold Box at hbx
      unfold World.cell? at hc0
      simp only [hbx, Nat.add_zero] at hc0
      rcases ko with _ | _ | ko <;> simp at hc0
    have hblk : w'.heap[kb]? = w.heap[kb]? := g.block kb (World.block_lt_of_cell? w _ (hcell 0 (List.length_pos_iff.2 hl))) hne
    exact ⟨kb, ko, hp, fun ⟨d1, cs, T, m', d2, d3⟩ => hA ⟨d1, cs, T, m', by rw [← hblk]; exact d2, d3⟩, fun i hi => g.cell (hcell i hi) hne⟩
  · have e : j = bs := e
    subst e
    exact own_box_ne h7 hb (by decide) hj
theorem alF_nil (D : Dk) (K : Fl) (q : Pt) : appF D K q [] = (0, D, q) := by
  unfold appF
  rw [if_neg (fun e => e.2 rfl)]; rfl
theorem compact_s (n0 bs bl b : Nat) (D : Dk) (K : Fl) (q : Pt) (G : List Ed) (w : World) (h : DiskF n0 w b D K) (hl : LogB n0 w bl b q false) (hq : QOk (una D) q) (har : D.armed ≤ 9223372036854775807) (hst : StoAt n0 w bs bl G) (hG : Rises G) (hmay : mayL G = true) (hn : n0 ≤ w.heap.size) (hGl : G.length ≤ 1000000) (hne : need (allB (snapL G)) ≤ 10000000) :
    Ret Tryz.prog 11 #[.pointer (some ⟨bs, 0, none⟩)] w fun v w' => v = .int .i64 (turnF D K q (allB (snapL G))).1 ∧ (∃ K2, DiskF n0 w' b (turnF D K q (allB (snapL G))).2.1 K2) ∧ LogB n0 w' bl b (turnF D K q (allB (snapL G))).2.2 (turnF D K q (allB (snapL G))).2.1.dead ∧ StoAt n0 w' bs bl G ∧ Dg stTy n0 w w' := by
  obtain ⟨m, hbs, hb, hm⟩ := id hst
  refine ret_of_W Tryz.func11 rfl (Nat.le_of_ble_eq_true rfl) (res1 rfl) ?_
  refine W.seq ?_
  refine W.region ?_
  refine L.val (x_as (v := .int _ _) rfl) rfl ?_
  refine L.nil ?_
  refine thn_n ?_
  refine W.seq ?_
  refine W.seq ?_
  refine W.region ?_
  refine L.val (x_mv (v := .pointer _) rfl) rfl ?_
  refine L.val (x_eqp0 Tryz.underlying23 rfl rfl) rfl ?_
  refine L.val (x_mv (v := .bool _) rfl) rfl ?_
  refine' L.group0 5 6 10 10 5 false rfl ?_ ?_ ?_
  rotate_left 1
  ·intro g5
   have h5 := g5
   refine L.gyes' (dj := 5) (b := _) rfl rfl g5 ?_
   refine L.val (x_mv (v := .pointer _) rfl) rfl ?_
   refine L.gyes' (dj := 5) (b := _) rfl rfl g5 ?_
   refine L.val (x_nil rfl) rfl ?_
   refine L.gyes' (dj := 5) (b := _) rfl rfl g5 ?_
   refine L.val (x_fa kstog_fo29_1 rfl) rfl ?_
   refine L.gyes' (dj := 5) (b := _) rfl rfl g5 ?_
   refine L.val (x_ld (v := .pointer _) kstog_oc27 rfl (hb.cell0 rfl)) rfl ?_
   refine L.gyes' (dj := 5) (b := _) rfl rfl g5 ?_
   refine L.val (x_eqp0 Tryz.underlying27 rfl rfl) rfl ?_
   refine L.nil ?_
   refine thn_n ⟨rfl, rfl, ?_, rfl⟩
   repeat (first | exact jeq.refl _ _ _ | refine jeq.upd rfl ?_ | refine jeq.jk rfl rfl ?_)
  ·intro g5
   refine L.gno (dj := 5) (b := _) rfl rfl g5 rfl ?_
   refine L.gno (dj := 5) (b := _) rfl rfl g5 rfl ?_
   refine L.gno (dj := 5) (b := _) rfl rfl g5 rfl ?_
   refine L.gno (dj := 5) (b := _) rfl rfl g5 rfl ?_
   refine L.gno (dj := 5) (b := _) rfl rfl g5 rfl ?_
   refine L.nil (thn_n ⟨rfl, rfl, ?_⟩)
   repeat (first | exact jeq.refl _ _ _ | refine jeq.upd rfl ?_ | refine jeq.jk rfl rfl ?_)
  intro J5 j5
  refine L.val (x_or rfl j5) rfl ?_
  refine L.nil ?_
  refine thn_n ?_
  refine W.cond (b := _) rfl (fun g11 => ?_) (fun g11 => ?_)
  ·have h11 := g11
   cases g11
  ·have h11 := g11
   refine W.skip ?_
   refine thn_n ?_
   refine W.seq ?_
   refine W.drawD (fun _ => True) (fun _ => False) 8 kstog_mixed (fun wD12 hw => ?_)
   have hB0 := Gr.refl (fun _ => False) wD12; have hR0 := Gr.refl (fun _ => True) wD12
   have hb := hb.carry hw; have hm := hm.carry hw; have h := h.bel hw; have hl := hl.bel hw; have hst := hst.carry hw; have hG0 : Dg lgTy n0 w wD12 := Dg.of_bel hw; have hn := Nat.le_trans hn hw.size
   refine LAD.take0 (i := 0) rfl (by kernel_rfl) (by kernel_rfl) (by kernel_rfl) (by kernel_rfl) (fun w hw => x_mv (v := .pointer _) rfl) rfl ?_
   refine LAD.take0 (i := 1) rfl (by kernel_rfl) (by kernel_rfl) (by kernel_rfl) (by kernel_rfl) (fun w hw => x_nil rfl) rfl ?_
   refine LAD.take0 (i := 2) rfl (by kernel_rfl) (by kernel_rfl) (by kernel_rfl) (by kernel_rfl) (fun w hw => x_fa kstog_fo29_1 rfl) rfl ?_
   refine LAD.take1 (i := 3) rfl (by kernel_rfl) (by kernel_rfl) (by kernel_rfl) (by kernel_rfl) (by kernel_rfl) (by kernel_rfl) (fun w hw => x_ld (v := .pointer _) kstog_oc27 rfl (hw.keepR (fun e => e) (hb.cell0 rfl))) rfl ?_
   refine LAD.take0 (i := 4) rfl (by kernel_rfl) (by kernel_rfl) (by kernel_rfl) (by kernel_rfl) (fun w hw => x_mv (v := .pointer _) rfl) rfl ?_
   refine LAD.take0 (i := 5) rfl (by kernel_rfl) (by kernel_rfl) (by kernel_rfl) (by kernel_rfl) (fun w hw => x_nil rfl) rfl ?_
   refine LAD.take0 (i := 6) rfl (by kernel_rfl) (by kernel_rfl) (by kernel_rfl) (by kernel_rfl) (fun w hw => x_fa kstog_fo29_0 rfl) rfl ?_
   refine LAD.step (rs := [7]) hR0 (fun _ => hB0) (by kernel_rfl) (by simp) ⟨⟨_, rfl, ?_⟩, trivial⟩
   refine L.ret (x_call kstog_en47 rfl) rfl (snapshot_ok _ (hb.carry hB0) (hm.carry hB0) hG hmay hGl) ?_
   rintro v19 w19 ⟨hv19, hw⟩
   have hB0 := hB0.carry hw; have hR0 := hR0.carry hw; have hb := hb.carry hw
   obtain ⟨p19, c19, rfl, -⟩ := id hv19
   have hv19 := hv19.new
   refine L.nil ?_
   refine thn_n ?_
   refine LAD.step (rs := [8]) hR0 (fun _ => hB0) (by kernel_rfl) (by simp) ⟨⟨_, rfl, ?_⟩, trivial⟩
   refine L.ret (x_call kstog_en46 rfl) rfl (turn_f n0 bl b _ _ (allB (snapL G)) D K q _ (h.bel hB0) (hl.bel hB0) hq har hv19 (Nat.le_trans hn hB0.size) hne) ?_
   rintro _ w20 ⟨rfl, h20, hl20, hg20⟩
   have hG20d : Dg lgTy n0 wD12 w20 := (Dg.of_bel hB0).trans hg20
   have hst20 := hst.dg hG20d
   have hG20 := hG0.trans hG20d
   have hR0 := hR0.trans (Gr.mono hg20 (fun _ _ _ => trivial))
   have hb : True := trivial
   refine L.nil ?_
   refine thn_n ?_
   refine LAD.take0 (i := 9) rfl (by kernel_rfl) (by kernel_rfl) (by kernel_rfl) (by kernel_rfl) (fun w hw => x_as (v := .int _ _) rfl) rfl ?_
   refine LAD.done (by kernel_rfl) (by kernel_rfl) hR0 ?_
   refine thn_n ?_
   refine W.ret (fin_mk (.inr rfl) ?_)
   exact ⟨rfl, h20, hl20, hst20, Dg.mono hG20 st_of_lg⟩
theorem commit_s (n0 bs bl b : Nat) (A : Nat → Prop) (v : Value) (l : List Ed) (D : Dk) (K : Fl) (q : Pt) (G : List Ed) (w : World) (h : DiskF n0 w b D K) (hl : LogB n0 w bl b q false) (hq : QOk (una D) q) (har : D.armed ≤ 9223372036854775807) (hst : StoAt n0 w bs bl G) (hG : Rises G) (hmay : mayL G = true) (hs : EdsAt A w v l) (hn : n0 ≤ w.heap.size)
    (hln : l.length ≤ 10000) (hGl : (comes G l).length ≤ 1000000) (hne : mayL l = true → need (allB (snapL (comes G l))) ≤ 10000000) :
    Ret Tryz.prog 10 #[.pointer (some ⟨bs, 0, none⟩), v] w fun v w' => ∃ K1, v = .int .i64 (comS D K K1 q G l).1 ∧ (∃ K2, DiskF n0 w' b (comS D K K1 q G l).2.1 K2) ∧ LogB n0 w' bl b (comS D K K1 q G l).2.2 (comS D K K1 q G l).2.1.dead ∧ StoAt n0 w' bs bl (if (comS D K K1 q G l).1 = 0 then comes G l else G) ∧ Dg stTy n0 w w' := by
  obtain ⟨m, hbs, hb, hm⟩ := id hst
  have hs := (hs.up).mono (A' := fun k => w.heap.size ≤ k) (fun _ _ hk => .inr hk)
  obtain ⟨pv, cv, row, rfl, -⟩ := id hs
  have hdd : D.dead = false := hq.live
  have hbl := hb.lt
  refine ret_of_W Tryz.func10 rfl (Nat.le_of_ble_eq_true rfl) (res1 rfl) ?_
  have hB := Gr.refl (fun _ => False) w
  refine W.seq ?_
  refine W.region ?_
  refine L.val (x_as (v := .int _ _) rfl) rfl ?_
  refine L.nil ?_
  refine thn_n ?_
  refine W.seq ?_
  refine W.seq ?_
  refine W.region ?_
  refine L.val (x_mv (v := .pointer _) rfl) rfl ?_
  refine L.val (x_eqp0 Tryz.underlying23 rfl rfl) rfl ?_
  refine L.val (x_mv (v := .bool _) rfl) rfl ?_
  refine' L.group0 5 10 14 14 9 false rfl ?_ ?_ ?_
  rotate_left 1
  ·intro g9
   have h9 := g9
   refine L.gyes' (dj := 9) (b := _) rfl rfl g9 ?_
   refine L.val (x_mv (v := .pointer _) rfl) rfl ?_
   refine L.gyes' (dj := 9) (b := _) rfl rfl g9 ?_
   refine L.val (x_nil rfl) rfl ?_
   refine L.gyes' (dj := 9) (b := _) rfl rfl g9 ?_
   refine L.val (x_fa kstog_fo29_1 rfl) rfl ?_
   refine L.gyes' (dj := 9) (b := _) rfl rfl g9 ?_
   refine L.val (x_ld (v := .pointer _) kstog_oc27 rfl (hb.cell0 rfl)) rfl ?_
   refine L.gyes' (dj := 9) (b := _) rfl rfl g9 ?_
   refine L.val (x_eqp0 Tryz.underlying27 rfl rfl) rfl ?_
   refine L.nil ?_
   refine thn_n ⟨rfl, rfl, ?_, rfl⟩
   repeat (first | exact jeq.refl _ _ _ | refine jeq.upd rfl ?_ | refine jeq.jk rfl rfl ?_)
  ·intro g9
   refine L.gno (dj := 9) (b := _) rfl rfl g9 rfl ?_
   refine L.gno (dj := 9) (b := _) rfl rfl g9 rfl ?_
   refine L.gno (dj := 9) (b := _) rfl rfl g9 rfl ?_
   refine L.gno (dj := 9) (b := _) rfl rfl g9 rfl ?_
   refine L.gno (dj := 9) (b := _) rfl rfl g9 rfl ?_
   refine L.nil (thn_n ⟨rfl, rfl, ?_⟩)
   repeat (first | exact jeq.refl _ _ _ | refine jeq.upd rfl ?_ | refine jeq.jk rfl rfl ?_)
  intro J9 j9
  refine L.val (x_or rfl j9) rfl ?_
  refine L.nil ?_
  refine thn_n ?_
  refine W.cond (b := _) rfl (fun g15 => ?_) (fun g15 => ?_)
  ·have h15 := g15
   cases g15
  ·have h15 := g15
   refine W.skip ?_
   refine thn_n ?_
   refine W.seq ?_
   refine W.seq ?_
   refine W.region ?_
   refine L.val (x_mv (v := .slice _ _ _) rfl) rfl ?_
   refine L.ret (x_call kstog_en41 rfl) rfl (may_ok _ _ l _ (hs.carry hB)) ?_
   rintro _ w17 ⟨rfl, hw⟩
   have hB := hB.carry hw; have hb := hb.carry hw
   refine L.val (x_not rfl) rfl ?_
   refine L.nil ?_
   refine thn_n ?_
   refine W.cond (b := _) rfl (fun g18 => ?_) (fun g18 => ?_)
   ·have h18 := (not_t g18)
    have hml : ¬ mayL l = true := by simpa using g18
    have hr : comS D K K q G l = (230, D, q) := by unfold comS; rw [if_neg hml]
    refine W.seq ?_
    refine W.region ?_
    refine L.val (x_as (v := .int _ _) rfl) rfl ?_
    refine L.nil ?_
    refine thn_n ?_
    refine W.ret (thn_r (fin_mk (.inr rfl) ?_))
    refine ⟨K, ?_⟩
    rw [hr]
    dsimp only
    rw [if_neg (by decide)]
    exact ⟨rfl, ⟨K, h.bel hB⟩, (show (D.dead = false) from hdd) ▸ hl.bel hB, hst.carry hB, Dg.of_bel hB⟩
   ·have h18 := (not_f g18)
    have hml : mayL l = true := by simpa using g18
    refine W.skip ?_
    refine thn_n ?_
    refine W.seq ?_
    refine W.seq ?_
    refine W.region ?_
    refine L.val (x_mv (v := .slice _ _ _) rfl) rfl ?_
    refine L.val (x_len_slice Tryz.underlying22 rfl) rfl ?_
    refine L.val (x_eql rfl rfl) rfl ?_
    refine L.nil ?_
    refine thn_n ?_
    refine W.cond (b := _) rfl (fun g21 => ?_) (fun g21 => ?_)
    ·have h21 := of_decide_eq_true g21
     have hl0 : l = [] := List.eq_nil_of_length_eq_zero (by omega)
     have hr : comS D K K q G l = (0, D, q) := by unfold comS; rw [if_pos hml, if_pos hl0]
     have hap := append_f n0 bl b (fun _ => False) (.slice none 0 0) [] D K q
     rw [alF_nil] at hap
     have hcG : comes G l = G := by rw [hl0]; rfl
     refine W.seq ?_
     refine W.region ?_
     refine L.val (x_mv (v := .pointer _) rfl) rfl ?_
     refine L.val (x_nil rfl) rfl ?_
     refine L.val (x_fa kstog_fo29_1 rfl) rfl ?_
     refine L.val (x_ld (v := .pointer _) kstog_oc27 rfl (hb.cell0 rfl)) rfl ?_
     refine L.ret (x_call kstog_en42 rfl) rfl (hap _ (h.bel hB) (hl.bel hB) hq har (StrsAt.nil _ _ _ _ (by omega)) (Nat.le_trans hn hB.size) (by decide)) ?_
     rintro _ w26 ⟨rfl, h26, hl26, hg26⟩
     refine L.val (x_as (v := .int _ _) rfl) rfl ?_
     refine L.nil ?_
     refine thn_n ?_
     refine W.ret (thn_r (fin_mk (.inr rfl) ?_))
     refine ⟨K, ?_⟩
     rw [hr]
     dsimp only
     rw [if_pos rfl, hcG]
     have hG26 : Dg lgTy n0 w w26 := (Dg.of_bel hB).trans hg26
     exact ⟨rfl, h26, (show (D.dead = false) from hdd) ▸ hl26, hst.dg hG26, Dg.mono hG26 st_of_lg⟩
    ·have h21 := of_decide_eq_false g21
     have hl0 : ¬ l = [] := fun e => h21 (by rw [e]; rfl)
     refine W.skip ?_
     refine thn_n ?_
     refine W.seq ?_
     refine W.region ?_
     refine L.val (x_mv (v := .pointer _) rfl) rfl ?_
     refine L.val (x_nil rfl) rfl ?_
     refine L.val (x_fa kstog_fo29_0 rfl) rfl ?_
     refine L.val (x_fa kstog_fo26_0 rfl) rfl ?_
     have hs17 := hB.size
     refine L.val (x_ld (v := .map _) kstog_oc24 rfl (hb.cell0 rfl)) rfl ?_
     refine L.ret (x_call kstog_en43 rfl) rfl (clone_has n0 m G _ (hm.carry hB)) ?_
     rintro v32 w32 ⟨⟨m2, rfl, hm2⟩, hw⟩
     have hB := hB.carry hw; have hb := hb.carry hw
     have hs32 := hB.size
     have hs1732 := hw.size
     refine L.val (x_build (cells := [.map _]) kstog_si26 rfl rfl) rfl ?_
     have hm2o := hm2
     refine L.alloc (cs := [Value.map none]) kstog_zr26 rfl rfl (fun w5 bx5 hw hz5 => ?_)
     have hB := hB.carry hw; have hb := hb.carry hw
     have hw5 := hw
     have hs325 := hw.size
     refine L.setRow kstog_ag26 rfl rfl bx5 rfl rfl (fun v hv => by rw [List.mem_singleton.1 hv]; rfl) (fun wl33 bx5 hw hzl33 => ?_)
     have hsz := hB.size
     have hB := hB.set hw (by omega); have hb := hb.carryR hw (fun e => by have e : bs = w32.heap.size := e; omega)
     have hm2 : MapHas w17.heap.size wl33 m2 G := (hm2o.carry hw5).carryR hw (fun k hk e => by
       rcases hm2o with ⟨e1, -⟩ | ⟨mb, l', e1, -, hH⟩
       · rw [e1] at hk; cases hk
       · rw [e1] at hk; cases hk
         have := hH.map.lt
         have e : k = w32.heap.size := e
         omega)
     have hm2lt : ∀ k, m2 = some k → w17.heap.size ≤ k := fun k hk => by
       rcases hm2o with ⟨e1, -⟩ | ⟨mb, l', e1, h2, hH⟩
       · rw [e1] at hk; cases hk
       · rw [e1] at hk; cases hk; exact h2
     have hsl33 := hB.size
     refine L.nil ?_
     refine thn_n ?_
     refine W.seq ?_
     refine W.region ?_
     refine L.val (x_mv (v := .slice _ _ _) rfl) rfl ?_
     refine L.ret (x_call kstog_en44 rfl) rfl (apply_ok w17.heap.size (fun k => w.heap.size ≤ k) _ 26 [] m2 G _ l _ bx5 hm2 hG (hs.carry hB) (by omega) (fun k hk => by have := hm2lt k hk; omega) (by omega)) ?_
     rintro _ w35 ⟨mb, lm, bx5, hnm, hH, hmm, hG35⟩
     have hb := hb.carryR hG35 (fun e => by
       rcases e with e | e
       · omega
       · have := hm2lt _ e.symm; omega)
     have hB := hB.step hG35 (fun k hk e => by
       rcases e with e | e
       · omega
       · have := hm2lt _ e.symm; omega)
     have h := h.bel hB; have hl := hl.bel hB; have hst := hst.carry hB; have hs := hs.carry hB
     have hn := Nat.le_trans hn hB.size
     have hGs := comes_rises (l := l) hG
     have hcm := may_comes hmay hml
     have hB35 := hB
     refine L.nil ?_
     refine thn_n ?_
     refine W.seq ?_
     refine W.drawD (fun _ => True) (fun _ => False) 7 kstog_mixed (fun wD36 hw => ?_)
     have hB := hB.carry hw; have hb := hb.carry hw; have bx5 := bx5.carry hw
     have hB0 := Gr.refl (fun _ => False) wD36; have hR0 := Gr.refl (fun _ => True) wD36
     have h := h.bel hw; have hl := hl.bel hw; have hst := hst.carry hw; have hs := hs.carry hw; have hH := hH.carry hw; have hn := Nat.le_trans hn hw.size
     refine LAD.take0 (i := 0) rfl (by kernel_rfl) (by kernel_rfl) (by kernel_rfl) (by kernel_rfl) (fun w hw => x_mv (v := .pointer _) rfl) rfl ?_
     refine LAD.take0 (i := 1) rfl (by kernel_rfl) (by kernel_rfl) (by kernel_rfl) (by kernel_rfl) (fun w hw => x_nil rfl) rfl ?_
     refine LAD.take0 (i := 2) rfl (by kernel_rfl) (by kernel_rfl) (by kernel_rfl) (by kernel_rfl) (fun w hw => x_fa kstog_fo29_1 rfl) rfl ?_
     refine LAD.take1 (i := 3) rfl (by kernel_rfl) (by kernel_rfl) (by kernel_rfl) (by kernel_rfl) (by kernel_rfl) (by kernel_rfl) (fun w hw => x_ld (v := .pointer _) kstog_oc27 rfl (hw.keepR (fun e => e) (hb.cell0 rfl))) rfl ?_
     refine LAD.take0 (i := 4) rfl (by kernel_rfl) (by kernel_rfl) (by kernel_rfl) (by kernel_rfl) (fun w hw => x_mv (v := .slice _ _ _) rfl) rfl ?_
     refine LAD.step (rs := [5]) hR0 (fun _ => hB0) (by kernel_rfl) (by simp) ⟨⟨_, rfl, ?_⟩, trivial⟩
     refine L.ret (x_call kstog_en45 rfl) rfl (body_ok _ _ l _ (hs.carry hB0) (by omega) (by have := mayL_body hml (by omega); omega)) ?_
     rintro _ w41 ⟨rfl, hw⟩
     have hB0 := hB0.carry hw; have hR0 := hR0.carry hw; have hb := hb.carry hw
     refine L.nil ?_
     refine thn_n ?_
     refine LAD.step (rs := [6]) hR0 (fun _ => hB0) (by kernel_rfl) (by simp) ⟨⟨_, rfl, ?_⟩, trivial⟩
     refine L.bs (sz := 1) (cells := [S (bodyB l)]) Tryz.underlying33 kstog_el9 rfl rfl rfl rfl (fun w42 bx42 hw hz42 => ?_)
     have hB0 := hB0.carry hw; have hR0 := hR0.carry hw; have hb := hb.carry hw
     have hbS : StrsAt (fun _ => False) w42 (.slice (some ⟨w41.heap.size, 0, none⟩) 1 1) [bodyB l] := strs_new [bodyB l] bx42 (by simp) (fun x hx => by rw [List.mem_singleton.1 hx]; have := mayL_body hml (by omega); omega)
     refine L.nil ?_
     refine thn_n ?_
     refine LAD.step (rs := [7]) hR0 (fun _ => hB0) (by kernel_rfl) (by simp) ⟨⟨_, rfl, ?_⟩, trivial⟩
     refine L.ret (x_call kstog_en42 rfl) rfl (append_f n0 bl b _ _ [bodyB l] D K q _ (h.bel hB0) (hl.bel hB0) hq har hbS (Nat.le_trans hn hB0.size) (by simp [need]; omega)) ?_
     rintro _ w43 ⟨rfl, ⟨K1, h43⟩, hl43, hg43⟩
     have hG43 : Dg lgTy n0 wD36 w43 := (Dg.of_bel hB0).trans hg43
     have hG43w : Dg lgTy n0 w w43 := (Dg.of_bel hB).trans hG43
     have hR0 := hR0.trans (Gr.mono hg43 (fun _ _ _ => trivial))
     have hb := hb.dg hg43 rfl
     have hst43 := hst.dg hG43
     have bx543 := bx5.dg hG43 rfl
     have hH43 : HoldsM w43 mb lm (comes G l) := hH.dg hG43
     refine L.nil ?_
     refine thn_n ?_
     refine LAD.take0 (i := 8) rfl (by kernel_rfl) (by kernel_rfl) (by kernel_rfl) (by kernel_rfl) (fun w hw => x_as (v := .int _ _) rfl) rfl ?_
     refine LAD.done (by kernel_rfl) (by kernel_rfl) hR0 ?_
     have hB := Gr.refl (fun _ => False) w43
     have bx5 := bx543
     refine thn_n ?_
     refine W.cut (fun D' E' w' => D' = [] ∧ ∃ K1 : Fl, E' 0 = .pointer (some ⟨bs, 0, none⟩) ∧ E' 5 = .pointer (some ⟨w32.heap.size, 0, none⟩) ∧ E' 6 = .int .i64 (comS D K K1 q G l).1 ∧ (∃ K2, DiskF n0 w' b (comS D K K1 q G l).2.1 K2) ∧ LogB n0 w' bl b (comS D K K1 q G l).2.2 (comS D K K1 q G l).2.1.dead ∧ StoAt n0 w' bs bl G ∧ Box w' bs 29 [.map m, .pointer (some ⟨bl, 0, none⟩)] ∧ Box w' w32.heap.size 26 [.map (some mb)] ∧ HoldsM w' mb lm (comes G l) ∧ Dg lgTy n0 w w') ?_ ?_
     ·refine W.seq ?_
      refine W.region ?_
      refine L.val (x_mv (v := .int _ _) rfl) rfl ?_
      refine L.val (x_eql rfl rfl) rfl ?_
      refine L.nil ?_
      refine thn_n ?_
      refine W.cond (b := _) rfl (fun g45 => ?_) (fun g45 => ?_)
      ·have h45 := of_decide_eq_true g45
       have h210 : (appF D K q [bodyB l]).1 = 210 := by simpa using g45
       obtain ⟨h210a, h210b⟩ := appF_210 h210
       rw [h210a] at h43 hl43
       rw [h210b] at hl43
       have hl43 : LogB n0 w43 bl b q false := (show (D.dead = false) from hdd) ▸ hl43
       have hr : comS D K K1 q G l = turnF D K1 q (allB (snapL (comes G l))) := by unfold comS; rw [if_pos hml, if_neg hl0, if_pos h210]
       refine W.drawD (fun _ => True) (fun _ => False) 5 kstog_mixed (fun wD46 hw => ?_)
       have hB := hB.carry hw; have hb := hb.carry hw; have bx5 := bx5.carry hw
       have hB0 := Gr.refl (fun _ => False) wD46; have hR0 := Gr.refl (fun _ => True) wD46
       have h43 := h43.bel hw; have hl43 := hl43.bel hw; have hst43 := hst43.carry hw; have hH43 := hH43.carry hw; have hG43w : Dg lgTy n0 w wD46 := hG43w.trans (Dg.of_bel hw); have hn46 : n0 ≤ wD46.heap.size := by have := hG43w.size; omega
       refine LAD.take0 (i := 0) rfl (by kernel_rfl) (by kernel_rfl) (by kernel_rfl) (by kernel_rfl) (fun w hw => x_mv (v := .pointer _) rfl) rfl ?_
       refine LAD.take0 (i := 1) rfl (by kernel_rfl) (by kernel_rfl) (by kernel_rfl) (by kernel_rfl) (fun w hw => x_nil rfl) rfl ?_
       refine LAD.take0 (i := 2) rfl (by kernel_rfl) (by kernel_rfl) (by kernel_rfl) (by kernel_rfl) (fun w hw => x_fa kstog_fo29_1 rfl) rfl ?_
       refine LAD.take1 (i := 3) rfl (by kernel_rfl) (by kernel_rfl) (by kernel_rfl) (by kernel_rfl) (by kernel_rfl) (by kernel_rfl) (fun w hw => x_ld (v := .pointer _) kstog_oc27 rfl (hw.keepR (fun e => e) (hb.cell0 rfl))) rfl ?_
       refine LAD.step (rs := [4]) hR0 (fun _ => hB0) (by kernel_rfl) (by simp) ⟨⟨_, rfl, ?_⟩, trivial⟩
       refine L.ret (x_call kstog_en47 rfl) rfl (snapshot_ok (n0 := n0) (m := some mb) _ (bx5.carry hB0) (.inr ⟨mb, lm, rfl, by omega, hH43.carry hB0⟩) hGs hcm hGl) ?_
       rintro v50 w50 ⟨hv50, hw⟩
       have hB0 := hB0.carry hw; have hR0 := hR0.carry hw; have hb := hb.carry hw; have bx5 := bx5.carry hw
       obtain ⟨p50, c50, rfl, -⟩ := id hv50
       have hv50 := hv50.new
       refine L.nil ?_
       refine thn_n ?_
       refine LAD.step (rs := [5]) hR0 (fun _ => hB0) (by kernel_rfl) (by simp) ⟨⟨_, rfl, ?_⟩, trivial⟩
       refine L.ret (x_call kstog_en46 rfl) rfl (turn_f n0 bl b _ _ (allB (snapL (comes G l))) D K1 q _ (h43.bel hB0) (hl43.bel hB0) hq har hv50 (Nat.le_trans hn46 hB0.size) (hne hml)) ?_
       rintro _ w51 ⟨rfl, h51, hl51, hg51⟩
       have hG51 : Dg lgTy n0 wD46 w51 := (Dg.of_bel hB0).trans hg51
       have hG51w : Dg lgTy n0 w w51 := hG43w.trans hG51
       have hR0 := hR0.trans (Gr.mono hg51 (fun _ _ _ => trivial))
       have hb := hb.dg hg51 rfl
       have hst51 := hst43.dg hG51
       have bx5 := bx5.dg hg51 rfl
       have hH51 : HoldsM w51 mb lm (comes G l) := hH43.dg hG51
       refine L.nil ?_
       refine thn_n ?_
       refine LAD.take0 (i := 6) rfl (by kernel_rfl) (by kernel_rfl) (by kernel_rfl) (by kernel_rfl) (fun w hw => x_as (v := .int _ _) rfl) rfl ?_
       refine LAD.done (by kernel_rfl) (by kernel_rfl) hR0 ?_
       have hB := Gr.refl (fun _ => False) w51
       refine thn_n ?_
       exact ⟨rfl, K1, rfl, rfl, congrArg (fun r : Int × Dk × Pt => Value.int .i64 r.1) hr.symm, (by rw [hr]; exact h51), (by rw [hr]; exact hl51), hst51, hb, bx5, hH51, hG51w⟩
      ·have h45 := of_decide_eq_false g45
       have h210 : ¬ (appF D K q [bodyB l]).1 = 210 := by simpa using g45
       have hr : comS D K K1 q G l = appF D K q [bodyB l] := by unfold comS; rw [if_pos hml, if_neg hl0, if_neg h210]
       refine W.skip ?_
       refine thn_n ?_
       exact ⟨rfl, K1, rfl, rfl, congrArg (fun r : Int × Dk × Pt => Value.int .i64 r.1) hr.symm, (by rw [hr]; exact ⟨K1, h43⟩), (by rw [hr]; exact hl43), hst43, hb, bx5, hH43, hG43w⟩
     ·rintro D' E w52 ⟨rfl, K1, e0, e5, e6, hD52, hl52, hst52, hb, bx5, hH52, hG52⟩
      rw [upd_self e0, upd_self e5, upd_self e6]
      generalize hrr : comS D K K1 q G l = r at *
      refine W.seq ?_
      refine W.seq ?_
      refine W.region ?_
      refine L.val (x_mv (v := .int _ _) rfl) rfl ?_
      refine L.val (x_eql rfl rfl) rfl ?_
      refine L.nil ?_
      refine thn_n ?_
      refine W.cond (b := _) rfl (fun g53 => ?_) (fun g53 => ?_)
      ·have h53 := of_decide_eq_true g53
       have h53 : r.1 = 0 := by simpa using g53
       refine W.region ?_
       refine L.val (x_mv (v := .pointer _) rfl) rfl ?_
       refine L.val (x_ldn (vs := _) kstog_ag26 rfl rfl (bx5.row rfl)) rfl ?_
       refine L.val (x_nil rfl) rfl ?_
       refine L.val (x_fa kstog_fo29_0 rfl) rfl ?_
       refine L.setPart (o := 0) (k := 1) (new := [.map (some mb)]) kstog_ag26 rfl rfl hb (by show 0 + 1 ≤ 2; omega) rfl (fun v hv => by rw [List.mem_singleton.1 hv]; rfl) (fun wl60 hbN hw hzl60 => ?_)
       have hG60 : Dg stTy n0 w wl60 := (Dg.mono hG52 st_of_lg).trans (hw.mono (fun k _ e => by have e : k = bs := e; rw [e]; exact DkB.box hb (by kernel_rfl) hbs))
       have hl60 : LogB n0 wl60 bl b r.2.2 r.2.1.dead := ⟨hl52.1, hl52.2.carryR hw (box_ne hl52.2 hb (by decide))⟩
       have hD60 : ∃ K2, DiskF n0 wl60 b r.2.1 K2 := by obtain ⟨K2, hD⟩ := hD52; exact ⟨K2, hD.sto hb hw⟩
       have hst60 : StoAt n0 wl60 bs bl (comes G l) := ⟨some mb, hbs, hbN, .inr ⟨mb, lm, rfl, by omega, hH52.carryR hw (fun e => by
         obtain ⟨es, ck, hes, -⟩ := hH52.map
         have hbx := hb
         have e : mb = bs := e
         unfold Box at hbx
         rw [← e, hes] at hbx; cases hbx)⟩⟩
       refine L.nil ?_
       refine thn_n ?_
       refine W.seq ?_
       refine W.region ?_
       refine L.val (x_mv (v := .int _ _) rfl) rfl ?_
       refine L.val (x_as (v := .int _ _) rfl) rfl ?_
       refine L.nil ?_
       refine thn_n ?_
       refine W.ret (fin_mk (.inr rfl) ?_)
       refine ⟨K1, ?_⟩
       rw [hrr]
       first
       | (rw [if_pos h53]; exact ⟨rfl, hD60, hl60, hst60, hG60⟩)
       | (rw [if_neg h53]; exact ⟨rfl, hD52, hl52, hst52, Dg.mono hG52 st_of_lg⟩)
      ·have h53 := of_decide_eq_false g53
       have h53 : ¬ r.1 = 0 := by simpa using g53
       refine W.skip ?_
       refine thn_n ?_
       refine W.seq ?_
       refine W.region ?_
       refine L.val (x_mv (v := .int _ _) rfl) rfl ?_
       refine L.val (x_as (v := .int _ _) rfl) rfl ?_
       refine L.nil ?_
       refine thn_n ?_
       refine W.ret (fin_mk (.inr rfl) ?_)
       refine ⟨K1, ?_⟩
       rw [hrr]
       first
       | (rw [if_pos h53]; exact ⟨rfl, hD60, hl60, hst60, hG60⟩)
       | (rw [if_neg h53]; exact ⟨rfl, hD52, hl52, hst52, Dg.mono hG52 st_of_lg⟩)
end Go.Gx
namespace Go.Gx
open Go.Proofs Go.Sort
def SRep (D : Dk) (q : Pt) (G : List Ed) (c : Nat) : Prop := ∃ ls : List (List Ed), RepC D q (allB ls) ∧ (∀ l ∈ ls, mayL l = true) ∧ comes [] ls.flatten = G ∧ ls.length ≤ c
theorem SRep.mono {D : Dk} {q : Pt} {G : List Ed} {c c' : Nat} (h : SRep D q G c) (hc : c ≤ c') : SRep D q G c' := by
  obtain ⟨ls, h1, h2, h3, h4⟩ := h
  exact ⟨ls, h1, h2, h3, Nat.le_trans h4 hc⟩
theorem SRep.rises {D : Dk} {q : Pt} {G : List Ed} {c : Nat} (h : SRep D q G c) : Rises G := by
  obtain ⟨ls, -, -, rfl, -⟩ := h
  exact comes_rises rises_nil
theorem SRep.may {D : Dk} {q : Pt} {G : List Ed} {c : Nat} (h : SRep D q G c) : mayL G = true := by
  obtain ⟨ls, -, h2, rfl, -⟩ := h
  refine may_comes rfl ?_
  unfold mayL
  rw [List.all_eq_true]
  intro e he
  obtain ⟨l, hl, hel⟩ := List.mem_flatten.1 he
  have := h2 l hl
  unfold mayL at this
  exact List.all_eq_true.1 this e hel
theorem SRep.ok {D : Dk} {q : Pt} {G : List Ed} {c : Nat} (h : SRep D q G c) : QOk D q := by
  obtain ⟨ls, h1, -⟩ := h
  exact h1.ok
theorem SRep.cnt {D : Dk} {q : Pt} {G : List Ed} {c : Nat} (h : SRep D q G c) : q.cnt ≤ c := by
  obtain ⟨ls, h1, -, -, h4⟩ := h
  rw [h1.cnt]; unfold allB; rw [List.length_map]; exact h4
theorem SRep.new {m : Nat} (h : 6 ≤ m) : SRep (newD m) pt0 [] 0 := ⟨[], repC_new h, by simp, rfl, Nat.le_refl _⟩
theorem SRep.open {D : Dk} {q : Pt} {G : List Ed} {c : Nat} (h : SRep (una D) q G c) (hok : DkOk D) : ∃ ls : List (List Ed), openA D = (0, q, allB ls) ∧ (∀ l ∈ ls, mayL l = true) ∧ tooBig (allB ls) = false ∧ comes [] ls.flatten = G := by
  obtain ⟨ls, h1, h2, h3, h4⟩ := h
  exact ⟨ls, (una_open _).symm.trans (open_repC h1 hok.una), h2, h1.big, h3⟩
structure FinS (D : Dk) (q : Pt) (G G' : List Ed) (c : Nat) (r : Int × Dk × Pt) : Prop where
  len : r.2.1.pl.length = D.pl.length
  ops : r.2.1.ops ≤ D.ops + 2300
  arm : r.2.1.armed ≤ D.armed
  code : r.1 = 190 ↔ r.2.1.dead = true
  live : r.2.1.dead = false → r.2.2.ep ≤ q.ep + 1 ∧ SRep (una r.2.1) r.2.2 (if r.1 = 0 then G' else G) c
  dead : r.2.1.dead = true → r.2.1.armed = 0 ∧ ∃ p, p.ep ≤ q.ep + 1 ∧ (SRep (bt r.2.1) p G c ∨ SRep (bt r.2.1) p G' c)
theorem Fin2.sto {D : Dk} {q : Pt} {ls ls' : List (List Ed)} {G G' : List Ed} {c : Nat} {r : Int × Dk × Pt} (h : Fin2 D q (allB ls) (allB ls') r) (h1 : ∀ l ∈ ls, mayL l = true) (h2 : comes [] ls.flatten = G) (h3 : ls.length ≤ c) (h1' : ∀ l ∈ ls', mayL l = true) (h2' : comes [] ls'.flatten = G') (h3' : ls'.length ≤ c) : FinS D q G G' c r := by
  refine ⟨h.len, h.ops, h.arm, h.code, fun e => ⟨(h.live e).1, ?_⟩, fun e => ⟨(h.dead e).1, ?_⟩⟩
  · have := (h.live e).2
    split
    · rename_i h0; rw [if_pos h0] at this; exact ⟨ls', this, h1', h2', h3'⟩
    · rename_i h0; rw [if_neg h0] at this; exact ⟨ls, this, h1, h2, h3⟩
  · obtain ⟨p, hp, h4⟩ := (h.dead e).2
    exact ⟨p, hp, h4.imp (fun h5 => ⟨ls, h5, h1, h2, h3⟩) (fun h5 => ⟨ls', h5, h1', h2', h3'⟩)⟩
theorem FinS.same {D : Dk} {q : Pt} {G G' : List Ed} {c : Nat} {e : Int} (hd : D.dead = false) (h : SRep (una D) q G c) (h1 : e ≠ 190) (h2 : e = 0 → G' = G) : FinS D q G G' c (e, D, q) := by
  refine ⟨rfl, Nat.le_add_right _ _, Nat.le_refl _, ⟨fun e => absurd e h1, fun e => ?_⟩, fun _ => ⟨Nat.le_succ _, ?_⟩, fun e => ?_⟩
  · have e : D.dead = true := e
    rw [hd] at e; cases e
  · dsimp only
    split
    · rename_i e; rw [h2 e]; exact h
    · exact h
  · have e : D.dead = true := e
    rw [hd] at e; cases e
theorem turn_fin {D : Dk} {K : Fl} {q : Pt} {G G' : List Ed} {c : Nat} (hd : D.dead = false) (h : SRep (una D) q G c) (hok : DkOk D) (hokR : DkOk (turnF D K q (allB (snapL G'))).2.1) (hG' : Rises G') (hm' : mayL G' = true) (hc : G'.length ≤ c) (hep : q.ep + 1 < 1000000000) (hcc : c + G'.length < 2000000000) (hops : D.ops + 2300 < 900000000) : FinS D q G G' c (turnF D K q (allB (snapL G'))) := by
  obtain ⟨ls, h1, h2, h3, h4⟩ := h
  have hF := does_fin (K := K) ⟨1, allB (snapL G'), 0, [], 0, 0⟩ hd h1 hok (by simpa [doesF] using hokR) hep (by
    unfold allB snapL; simp only [List.length_map]; omega) hops
  have e1 : doesF D K q ⟨1, allB (snapL G'), 0, [], 0, 0⟩ = turnF D K q (allB (snapL G')) := by simp [doesF]
  have e2 : goesA (allB ls) ⟨1, allB (snapL G'), 0, [], 0, 0⟩ = allB (snapL G') := by simp [goesA]
  rw [e1, e2] at hF
  exact hF.sto h2 h3 h4 (may_snap hm') (snap_comes hG') (by unfold snapL; rw [List.length_map]; exact hc)
theorem com_fin {D : Dk} {K K1 : Fl} {q : Pt} {G l : List Ed} {c : Nat} (hd : D.dead = false) (h : SRep (una D) q G c) (hok : DkOk D) (hokR : DkOk (comS D K K1 q G l).2.1) (hc : (comes G l).length ≤ c + 1) (hep : q.ep + 1 < 1000000000) (hcc : c + c + 2 < 2000000000) (hops : D.ops + 2300 < 900000000) : FinS D q G (comes G l) (c + 1) (comS D K K1 q G l) := by
  have hG := h.rises
  have hm := h.may
  unfold comS at hokR ⊢
  by_cases h1 : mayL l = true
  · rw [if_pos h1] at hokR ⊢
    by_cases h2 : l = []
    · rw [if_pos h2]
      exact FinS.same hd (h.mono (Nat.le_succ _)) (by decide) (fun _ => by rw [h2]; rfl)
    · rw [if_neg h2] at hokR ⊢
      by_cases h3 : (appF D K q [bodyB l]).1 = 210
      · rw [if_pos h3] at hokR ⊢
        exact turn_fin hd (h.mono (Nat.le_succ _)) hok hokR (comes_rises hG) (may_comes hm h1) hc hep (by omega) hops
      · rw [if_neg h3] at hokR ⊢
        obtain ⟨ls, a1, a2, a3, a4⟩ := h
        have hF := does_fin (K := K) ⟨0, [bodyB l], 0, [], 0, 0⟩ hd a1 hok (by simpa [doesF] using hokR) hep (by
          unfold allB; simp only [List.length_map, List.length_cons, List.length_nil]; omega) hops
        have e1 : doesF D K q ⟨0, [bodyB l], 0, [], 0, 0⟩ = appF D K q [bodyB l] := by simp [doesF]
        have e2 : goesA (allB ls) ⟨0, [bodyB l], 0, [], 0, 0⟩ = allB (ls ++ [l]) := by simp [goesA, allB]
        rw [e1, e2] at hF
        refine hF.sto a2 a3 (by omega) (fun x hx => ?_) ?_ (by rw [List.length_append]; simp only [List.length_cons, List.length_nil]; omega)
        · rcases List.mem_append.1 hx with hx | hx
          · exact a2 x hx
          · rw [List.mem_singleton.1 hx]; exact h1
        · rw [List.flatten_append, comes_append, a3]; simp
  · rw [if_neg h1]
    exact FinS.same hd (h.mono (Nat.le_succ _)) (by decide) (fun e => absurd e (by decide))
def sizG (G : List Ed) : Nat := (G.map fun e => e.key.length + e.val.length + 30).sum
theorem sizG_come1 : ∀ (G : List Ed) (e : Ed), sizG (come1 G e) ≤ sizG G + (e.key.length + e.val.length + 30)
  | [], e => by
    rw [come1]
    split
    · exact Nat.zero_le _
    · unfold sizG; simp
  | x :: l, e => by
    have ih := sizG_come1 l e
    rw [come1]
    unfold sizG at *
    split
    · simp only [List.map_cons, List.sum_cons]; omega
    · rw [List.map_append, List.sum_append]
      split <;> split <;> simp only [List.map_cons, List.map_nil, List.sum_cons, List.sum_nil] <;> omega
theorem sizG_comes : ∀ (l G : List Ed), sizG (comes G l) ≤ sizG G + sizG l
  | [], G => Nat.le_add_right _ _
  | e :: l, G => by
    have h1 := sizG_come1 G e
    have h2 := sizG_comes l (come1 G e)
    have e1 : comes G (e :: l) = comes (come1 G e) l := rfl
    have e2 : sizG (e :: l) = (e.key.length + e.val.length + 30) + sizG l := by unfold sizG; simp
    rw [e1, e2]; omega
theorem body1_siz {e : Ed} (h : mayE e = true) : (bodyB [e]).length ≤ e.key.length + e.val.length + 9 := by
  obtain ⟨h1, h2⟩ := mayE_len h
  have e1 : bodyB [e] = numB 3 ++ (textB e.key ++ (textB (if e.gone then [71] else [86]) ++ (textB e.val ++ []))) := rfl
  rw [e1]
  unfold textB
  simp only [List.length_append, List.length_nil]
  have a1 : (numB 3).length = 1 := by decide
  have a2 := numB_le (n := e.key.length) (by omega)
  have a2' : (numB e.key.length).length = 1 := by unfold numB; rw [if_pos (by omega)]; rfl
  have a3 := numB_le (n := e.val.length) (by omega)
  have a4 : (if e.gone then ([71] : Str) else [86]).length = 1 := by split <;> rfl
  rw [a4]
  have a5 : (numB 1).length = 1 := by decide
  omega
theorem need_snap {G : List Ed} (h : mayL G = true) : need (allB (snapL G)) ≤ sizG G := by
  unfold need allB snapL sizG
  unfold mayL at h
  induction G with
  | nil => exact Nat.le_refl _
  | cons e l ih =>
    rw [List.all_cons, Bool.and_eq_true] at h
    have := body1_siz h.1
    have ih := ih h.2
    simp only [List.map_cons, List.sum_cons, List.map_map] at ih ⊢
    omega
end Go.Gx
namespace Go.Gx
open Go.Proofs Go.Sort
theorem wrF_calm {D : Dk} (ha : D.armed = 0) (K : Fl) (i : Nat) (s : Str) : (wrF D K i s).armed = 0 ∧ (wrF D K i s).dead = D.dead := by
  unfold wrF
  rw [if_neg (by omega)]
  exact ⟨by show D.armed - 1 = 0; omega, rfl⟩
theorem flF_calm {D : Dk} (ha : D.armed = 0) (K : Fl) : (flF D K).armed = 0 ∧ (flF D K).dead = D.dead := by
  unfold flF
  rw [if_neg (by omega)]
  exact ⟨by show D.armed - 1 = 0; omega, rfl⟩
theorem runW_calm (K : Fl) : ∀ (l : List (Nat × Str)) {D : Dk}, D.armed = 0 → D.dead = false → (runW K D l).armed = 0 ∧ (runW K D l).dead = false
  | [], _, ha, hd => ⟨ha, hd⟩
  | x :: r, D, ha, hd => by
    obtain ⟨h1, h2⟩ := wrF_calm ha K x.1 x.2
    rw [hd] at h2
    rw [runW, h2, if_neg (by decide)]
    exact runW_calm K r h1 h2
theorem comF_calm {D : Dk} (ha : D.armed = 0) (hd : D.dead = false) (K : Fl) (ws : List (Nat × Str)) (sl : Nat) (hdr : Str) : (comF D K ws sl hdr).armed = 0 ∧ (comF D K ws sl hdr).dead = false := by
  obtain ⟨a1, a2⟩ := runW_calm K ws ha hd
  obtain ⟨b1, b2⟩ := wrF_calm a1 K sl (zeros 64)
  rw [a2] at b2
  obtain ⟨c1, c2⟩ := flF_calm b1 K
  rw [b2] at c2
  obtain ⟨d1, d2⟩ := wrF_calm c1 K sl hdr
  rw [c2] at d2
  obtain ⟨e1, e2⟩ := flF_calm d1 K
  rw [d2] at e2
  unfold comF
  dsimp only
  rw [a2, if_neg (by decide), b2, if_neg (by decide), c2, if_neg (by decide), d2, if_neg (by decide)]
  exact ⟨e1, e2⟩
def whl (G : List Ed) : Nat := ((allB (snapL G)).map frm).flatten.length
def codeC (room tail : Nat) (G l : List Ed) : Int × Nat :=
  if mayL l = true then (if l = [] then (0, tail) else if 20000 < (bodyB l).length then (3, tail) else if tail + (frm (bodyB l)).length ≤ room then (0, tail + (frm (bodyB l)).length) else if whl (comes G l) ≤ room then (0, whl (comes G l)) else (210, tail)) else (230, tail)
theorem outF_calm {D : Dk} (ha : D.armed = 0) (hd : D.dead = false) (K : Fl) (q p : Pt) (at' : Nat) (s : Str) : (outF D K q p at' s).1 = 0 ∧ (outF D K q p at' s).2.2 = p ∧ (outF D K q p at' s).2.1.armed = 0 ∧ (outF D K q p at' s).2.1.dead = false := by
  obtain ⟨h1, h2⟩ := comF_calm ha hd K (chk D p at' s) (p.ep % 2) (hdrS p)
  unfold outF
  dsimp only
  refine ⟨?_, ?_, h1, h2⟩ <;> rw [h2] <;> rfl
theorem turn_calm {D : Dk} (ha : D.armed = 0) (hd : D.dead = false) (K : Fl) (q : Pt) {G : List Ed} (hm : mayL G = true) :
    (turnF D K q (allB (snapL G))).1 = (if whl G ≤ roomN D.pl.length then 0 else 210) ∧ (turnF D K q (allB (snapL G))).2.2.tail = (if whl G ≤ roomN D.pl.length then whl G else q.tail) ∧ (turnF D K q (allB (snapL G))).2.1.armed = 0 ∧ (turnF D K q (allB (snapL G))).2.1.dead = false := by
  have hk : makeS (allB (snapL G)) = (((allB (snapL G)).map frm).flatten, 0) := by unfold makeS; rw [snap_big hm]; rfl
  unfold turnF
  rw [hk, if_pos rfl]
  by_cases h : whl G ≤ roomN D.pl.length
  · rw [if_pos h, if_pos h, if_neg (by show ¬ roomN D.pl.length < whl G; omega)]
    obtain ⟨h1, h2, h3, h4⟩ := outF_calm ha hd K q (turnP q (allB (snapL G))) 0 ((allB (snapL G)).map frm).flatten
    refine ⟨h1, ?_, h3, h4⟩
    rw [h2]
    show (makeS (allB (snapL G))).1.length = _
    rw [hk]; rfl
  · rw [if_neg h, if_neg h, if_pos (by show roomN D.pl.length < whl G; omega)]
    exact ⟨rfl, rfl, ha, hd⟩
theorem com_calm {D : Dk} (ha : D.armed = 0) (hd : D.dead = false) (K K1 : Fl) (q : Pt) {G l : List Ed} (hm : mayL G = true) :
    (comS D K K1 q G l).1 = (codeC (roomN D.pl.length) q.tail G l).1 ∧ (comS D K K1 q G l).2.2.tail = (codeC (roomN D.pl.length) q.tail G l).2 ∧ (comS D K K1 q G l).2.1.armed = 0 ∧ (comS D K K1 q G l).2.1.dead = false := by
  unfold comS codeC
  by_cases h1 : mayL l = true
  · rw [if_pos h1, if_pos h1]
    by_cases h2 : l = []
    · rw [if_pos h2, if_pos h2]; exact ⟨rfl, rfl, ha, hd⟩
    · rw [if_neg h2, if_neg h2]
      by_cases h3 : 20000 < (bodyB l).length
      · have hk : makeS [bodyB l] = ([], 3) := by
          unfold makeS
          have : tooBig [bodyB l] = true := by unfold tooBig; simp [h3]
          rw [this]; rfl
        have ha2 : appF D K q [bodyB l] = (3, D, q) := by
          unfold appF
          rw [hk, if_neg (fun e => absurd e.1 (by decide))]
        rw [ha2, if_neg (show ¬ (3 : Int) = 210 by decide), if_pos h3]
        exact ⟨rfl, rfl, ha, hd⟩
      · have hk : makeS [bodyB l] = (frm (bodyB l), 0) := by
          unfold makeS
          have : tooBig [bodyB l] = false := by unfold tooBig; simpa using h3
          rw [this]; simp
        rw [if_neg h3]
        by_cases h4 : q.tail + (frm (bodyB l)).length ≤ roomN D.pl.length
        · have ha2 : appF D K q [bodyB l] = outF D K q (appP q [bodyB l]) q.tail (frm (bodyB l)) := by
            unfold appF
            rw [hk, if_pos ⟨rfl, by simp⟩, if_neg (by show ¬ roomN D.pl.length < q.tail + (frm (bodyB l)).length; omega)]
          obtain ⟨o1, o2, o3, o4⟩ := outF_calm ha hd K q (appP q [bodyB l]) q.tail (frm (bodyB l))
          rw [ha2, if_neg (by rw [o1]; decide), if_pos h4]
          refine ⟨o1, ?_, o3, o4⟩
          rw [o2]
          show q.tail + (makeS [bodyB l]).1.length = _
          rw [hk]
        · have ha2 : appF D K q [bodyB l] = (210, D, q) := by
            unfold appF
            rw [hk, if_pos ⟨rfl, by simp⟩, if_pos (by show roomN D.pl.length < q.tail + (frm (bodyB l)).length; omega)]
          rw [ha2, if_pos rfl, if_neg h4]
          obtain ⟨o1, o2, o3, o4⟩ := turn_calm ha hd K1 q (may_comes hm h1)
          refine ⟨?_, ?_, o3, o4⟩
          · rw [o1]; split <;> rfl
          · rw [o2]; split <;> rfl
  · rw [if_neg h1, if_neg h1]
    exact ⟨rfl, rfl, ha, hd⟩
end Go.Gx
namespace Go.Gx
open Go.Proofs
theorem dig_le {n k : Nat} (hn : n < 18446744073709551616) (h : 0 < n / 256 ^ (k - 1)) : k ≤ 8 := by
  rcases Nat.lt_or_ge 8 k with h1 | h1
  · have h2 : (256 : Nat) ^ 8 ≤ 256 ^ (k - 1) := Nat.pow_le_pow_right (by omega) (by omega)
    have h3 : (256 : Nat) ^ 8 = 18446744073709551616 := by decide
    rw [Nat.div_eq_of_lt (by omega)] at h; cases h
  · exact h1
theorem dig_numB {n k : Nat} (hn : n ≤ 20000) (h248 : 247 < n) (h0 : n / 256 ^ k = 0) (h : k = 0 ∨ 0 < n / 256 ^ (k - 1)) : 1 + k = (numB n).length := by
  have e : (numB n).length = 1 + widN n := by unfold numB; rw [if_neg (by omega), List.length_cons, beN_len, Nat.add_comm]
  have hk : k ≤ 2 := by
    rcases h with h | h
    · omega
    · rcases Nat.lt_or_ge 2 k with h1 | h1
      · have h2 : (256 : Nat) ^ 2 ≤ 256 ^ (k - 1) := Nat.pow_le_pow_right (by omega) (by omega)
        rw [Nat.div_eq_of_lt (by omega)] at h; cases h
      · exact h1
  rw [e]
  rcases Nat.lt_or_ge n 256 with h1 | h1
  · rw [widN_1 (by omega) h1]
    have : k = 0 ∨ k = 1 ∨ k = 2 := by omega
    rcases this with rfl | rfl | rfl
    · rw [Nat.pow_zero, Nat.div_one] at h0; omega
    · rfl
    · rcases h with h | h
      · omega
      · rw [show 2 - 1 = 1 from rfl, Nat.pow_one] at h; omega
  · rw [widN_2 h1 (by omega)]
    have : k = 0 ∨ k = 1 ∨ k = 2 := by omega
    rcases this with rfl | rfl | rfl
    · rw [Nat.pow_zero, Nat.div_one] at h0; omega
    · rw [Nat.pow_one] at h0; omega
    · rfl
end Go.Gx
