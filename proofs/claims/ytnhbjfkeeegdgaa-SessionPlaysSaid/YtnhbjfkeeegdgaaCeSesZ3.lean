/- Sessions, the reference: Get and Keys. Conditions: none. -/
import Derived.Test.YtnhbjfkeeegdgaaCeSesZ
namespace Go.Gx
open Go.Proofs
theorem ksesz3_el9 : elT Try.prog 9 1 = true := by kernel_rfl
theorem ksesz3_en75 : Go.Proofs.Enters Try.prog 75 := Go.Proofs.enters_of Try.func75 (by kernel_rfl) rfl
theorem ksesz3_en76 : Go.Proofs.Enters Try.prog 76 := Go.Proofs.enters_of Try.func76 (by kernel_rfl) rfl
theorem ksesz3_fo144_1 : fieldOff Try.prog 144 1 = some 1 := by kernel_rfl
theorem ksesz3_fo144_2 : fieldOff Try.prog 144 2 = some 2 := by kernel_rfl
theorem ksesz3_fo144_3 : fieldOff Try.prog 144 3 = some 3 := by kernel_rfl
theorem ksesz3_fo34_0 : fieldOff Try.prog 34 0 = some 0 := by kernel_rfl
theorem ksesz3_fo34_1 : fieldOff Try.prog 34 1 = some 1 := by kernel_rfl
theorem ksesz3_fo93_2 : fieldOff Try.prog 93 2 = some 2 := by kernel_rfl
theorem ksesz3_mixed : Try.prog.follows .mixedOrders = true := by kernel_rfl
theorem ksesz3_oc22 : oneCellT Try.prog 22 = true := by kernel_rfl
theorem ksesz3_oc37 : oneCellT Try.prog 37 = true := by kernel_rfl
theorem ksesz3_oc9 : oneCellT Try.prog 9 = true := by kernel_rfl
theorem ksesz3_oc91 : oneCellT Try.prog 91 = true := by kernel_rfl
theorem ksesz3_sz144 : (Try.prog.info? 144).map (·.size) = some 6 := by kernel_rfl
theorem ksesz3_sz34 : (Try.prog.info? 34).map (·.size) = some 3 := by kernel_rfl
theorem ksesz3_sz37 : (Try.prog.info? 37).map (·.size) = some 1 := by kernel_rfl
theorem any_last {l : List Ed} {k : Str} : (l.any fun e => e.key == k) = !decide (lastE l k = none) := by
  by_cases h : lastE l k = none
  · rw [decide_eq_true h, List.any_eq_false.2 (fun e he => by simpa using lastE_none.1 h e he)]; rfl
  · rw [decide_eq_false h]
    obtain ⟨e, he⟩ := Option.ne_none_iff_exists'.1 h
    obtain ⟨h1, h2⟩ := lastE_key he
    exact List.any_eq_true.2 ⟨e, h2, by simpa using h1⟩
theorem valE_find {l : List Ed} (hr : Rises l) {k : Str} {i : Nat} (hi : i < l.length) (hk : (l.getD i default).key = k) : valE l k = some (l.getD i default).val := by
  have hm : l.getD i default ∈ l := by rw [List.getD_eq_getElem?_getD, List.getElem?_eq_getElem hi]; exact List.getElem_mem hi
  have := ((rises_find hr).1 hm).2
  rwa [hk] at this
theorem valE_no {l : List Ed} {k : Str} (h : ∀ j, j < l.length → (l.getD j default).key ≠ k) : valE l k = none := by
  have : lastE l k = none := lastE_none.2 fun e he => by
    obtain ⟨j, hj, rfl⟩ := List.getElem_of_mem he
    have := h j hj
    rwa [List.getD_eq_getElem?_getD, List.getElem?_eq_getElem hj] at this
  unfold valE; rw [this]; rfl
theorem getS_ses (s : Bs) {i : Nat} (key : Str) (hi : i < s.all.length) : (s.getS ((i + 1 : Nat) : Int) key).all.length = s.all.length ∧ (s.getS ((i + 1 : Nat) : Int) key).log = s.log ∧ (s.getS ((i + 1 : Nat) : Int) key).first = s.first ∧
    ((s.getS ((i + 1 : Nat) : Int) key).all.getD i default).opn = (s.all.getD i default).opn ∧ ((s.getS ((i + 1 : Nat) : Int) key).all.getD i default).eds = (s.all.getD i default).eds ∧ ((s.getS ((i + 1 : Nat) : Int) key).all.getD i default).at_ = (s.all.getD i default).at_ := by
  unfold Bs.getS
  split
  · rw [ses_succ, upd_succ]
    refine ⟨List.length_set, rfl, rfl, ?_⟩
    dsimp only
    rw [getD_set hi, if_pos rfl]
    exact ⟨rfl, rfl, rfl⟩
  · exact ⟨rfl, rfl, rfl, rfl, rfl, rfl⟩
theorem sees_comes (s : Bs) (x : Sx) : comes (comes [] (s.hist x.at_)) x.eds = comes [] (s.seesE x) := by rw [Bs.seesE, comes_append]
theorem hist_le (s : Bs) (n : Nat) : (s.hist n).length ≤ (s.first :: s.log).flatten.length := by
  unfold Bs.hist
  rw [List.flatten_cons, List.flatten_cons, List.length_append, List.length_append]
  have : (s.log.take n).flatten.length ≤ s.log.flatten.length := by
    conv => rhs; rw [← List.take_append_drop n s.log, List.flatten_append, List.length_append]
    omega
  omega
theorem get_ref (ow : Labels) (t b : Nat) (s : Bs) (vh vd va : Value) (rd ra : List (List Value)) (id : Int) (key : Str) (w : World) (h : RefAt ow t w b s vh vd va rd ra) (hn : s.all.length ≤ 1000000) (hq : ∀ x ∈ s.all, x.gets.length ≤ 1000000 ∧ x.eds.length ≤ 10000) (hs : (s.first :: s.log).flatten.length ≤ 900000) (hkl : key.length ≤ 9223372036854775807) :
    Ret Try.prog 38 #[.pointer (some ⟨b, 0, none⟩), .int .i64 id, S key] w fun v w' => v = (if s.isOpen id then .tuple #[S (s.getA id key).1, .bool (s.getA id key).2, .int .i64 0] else .tuple #[S [], .bool false, .int .i64 400]) ∧
      ∃ ow' ra', Goes t w w' ow ow' ∧ RefAt ow' t w' b (if s.isOpen id then s.getS id key else s) vh vd va rd ra' := by
  have hb := h.box
  by_cases ho : s.isOpen id
  · rw [if_pos ho, if_pos ho]
    obtain ⟨i, rfl, hi, hop⟩ := open_id ho
    obtain ⟨ba, cap, tl, rfl, hbA, hlA⟩ := h.rowsAt hi
    obtain ⟨vs, ve, vg, vx, er, h1c, hx⟩ := h.each i hi
    obtain ⟨x1, x2, x3, x4, x5, x6⟩ := hx hop
    obtain ⟨ae, ce, rfl, hce⟩ := own_shape x3.1
    obtain ⟨ag, cg, rfl, hcg⟩ := own_shape x5.1
    have hlen := hq (s.all.getD i default) (by rw [List.getD_eq_getElem?_getD, List.getElem?_eq_getElem hi]; exact List.getElem_mem _)
    have hx2 := row_cellk (tl := tl) (j := 2) h.lens (by rw [h.len]; exact hi) (by omega) (x := .slice ae (s.all.getD i default).eds.length ce) (by rw [er]; rfl)
    have hx3 := row_cellk (tl := tl) (j := 3) h.lens (by rw [h.len]; exact hi) (by omega) (x := .slice ag (s.all.getD i default).gets.length cg) (by rw [er]; rfl)
    have hEe := own_eds (x3.1) x4 (by omega)
    have hbAl := hbA.lt
    refine ret_of_W Try.func38 rfl (Nat.le_of_ble_eq_true rfl) (res3 rfl) ?_
    refine W.seq ?_
    refine W.region ?_
    refine L.val (x_as (v := S _) rfl) rfl ?_
    refine L.val (x_as (v := .bool _) rfl) rfl ?_
    refine L.val (x_as (v := .int _ _) rfl) rfl ?_
    refine L.nil ?_
    refine thn_n ?_
    refine W.seq ?_
    refine W.seq ?_
    refine W.region ?_
    refine L.val (x_mv (v := .pointer _) rfl) rfl ?_
    refine L.val (x_mv (v := .int _ _) rfl) rfl ?_
    refine L.ret (x_call ksesz3_en76 rfl) rfl (open_ref ow t b s _ _ _ _ _ _ _ h hn) ?_
    rintro _ w16 ⟨rfl, rfl⟩
    refine L.val (x_not rfl) rfl ?_
    refine L.nil ?_
    refine thn_n ?_
    refine W.cond (b := _) rfl (fun g17 => ?_) (fun g17 => ?_)
    ·have h17 := (not_t g17)
     rw [decide_eq_true ho] at g17; cases g17
    ·have h17 := (not_f g17)
     refine W.skip ?_
     refine thn_n ?_
     refine W.seq ?_
     refine W.region ?_
     refine L.val (x_mv (v := .pointer _) rfl) rfl ?_
     refine L.val (x_nil rfl) rfl ?_
     refine L.val (x_fa ksesz3_fo93_2 rfl) rfl ?_
     refine L.val (x_ld (v := .slice _ _ _) ksesz3_oc91 rfl (hb.cell0 rfl)) rfl ?_
     refine L.val (x_mv (v := .int _ _) rfl) rfl ?_
     refine L.val (x_sub rfl rfl (wr64 (by omega))) rfl ?_
     refine L.val (x_ia (j := i) Try.underlying91 ksesz3_sz144 rfl rfl (by omega) (by omega)) rfl ?_
     refine L.val (x_as (v := .pointer _) rfl) rfl ?_
     refine L.nil ?_
     refine thn_n ?_
     refine W.seq ?_
     refine W.region ?_
     refine L.val (x_as (v := .bool _) rfl) rfl ?_
     refine L.nil ?_
     refine thn_n ?_
     refine W.seq ?_
     refine W.seq ?_
     refine W.region ?_
     refine L.val (x_as (v := .int _ _) rfl) rfl ?_
     refine L.nil ?_
     refine thn_n ?_
     refine W.block ?_
     refine W.loop (fun m' E w' => ∃ (k : Nat), m' = (s.all.getD i default).eds.length - k ∧ E 2 = S key ∧ E 9 = .pointer (some ⟨ba, 0 + i * 6, none⟩) ∧ E 10 = .bool (((s.all.getD i default).eds.take k).any fun e => e.key == key) ∧ E 11 = .int .i64 (k : Nat) ∧ (k ≤ (s.all.getD i default).eds.length) ∧ (w' = w16)) ((s.all.getD i default).eds.length) ?_ ?_
     ·exact ⟨0, by omega, by first | rfl | exact vi (by omega), by first | rfl | exact vi (by omega), by first | rfl | exact vi (by omega) | exact vb (by assumption), by first | rfl | exact vi (by omega), (by first | assumption | omega | rfl), (by first | assumption | omega | rfl)⟩
     ·rintro _ E wL25 ⟨k, em, e2, e9, e10, e11, hk, hw0⟩
      rw [upd_self e2, upd_self e9, upd_self e10, upd_self e11]
      refine W.seq ?_
      refine W.seq ?_
      refine W.region ?_
      refine L.val (x_mv (v := .int _ _) rfl) rfl ?_
      refine L.val (x_mv (v := .pointer _) rfl) rfl ?_
      refine L.val (x_nil rfl) rfl ?_
      refine L.val (x_fa ksesz3_fo144_2 rfl) rfl ?_
      refine L.val (x_ld (v := .slice _ _ _) ksesz3_oc22 rfl (by rw [hw0]; exact hbA.cell hx2)) rfl ?_
      refine L.val (x_len_slice Try.underlying22 rfl) rfl ?_
      refine L.val (x_lss rfl rfl) rfl ?_
      refine L.nil ?_
      refine thn_n ?_
      refine W.cond (b := _) rfl (fun g31 => ?_) (fun g31 => ?_)
      ·have h31 := of_decide_eq_true g31
       have hlt : k < (s.all.getD i default).eds.length := by omega
       obtain ⟨be, oe, rfl, hce'⟩ := eds_cell hEe hlt
       have hbk := (any_take (p := fun e : Ed => e.key == key) hlt default).symm
       rw [hw0]
       refine W.skip ?_
       refine thn_n ?_
       refine W.seq ?_
       refine W.block ?_
       refine W.region ?_
       refine L.val (x_mv (v := .bool _) rfl) rfl ?_
       refine L.val (x_mv (v := .bool _) rfl) rfl ?_
       refine' L.group0 10 36 45 45 35 false rfl ?_ ?_ ?_
       rotate_left 1
       ·intro g35
        have h35 := g35
        refine L.gyes' (dj := 35) (b := _) rfl rfl g35 ?_
        refine L.val (x_mv (v := .pointer _) rfl) rfl ?_
        refine L.gyes' (dj := 35) (b := _) rfl rfl g35 ?_
        refine L.val (x_nil rfl) rfl ?_
        refine L.gyes' (dj := 35) (b := _) rfl rfl g35 ?_
        refine L.val (x_fa ksesz3_fo144_2 rfl) rfl ?_
        refine L.gyes' (dj := 35) (b := _) rfl rfl g35 ?_
        refine L.val (x_ld (v := .slice _ _ _) ksesz3_oc22 rfl (hbA.cell hx2)) rfl ?_
        refine L.gyes' (dj := 35) (b := _) rfl rfl g35 ?_
        refine L.val (x_mv (v := .int _ _) rfl) rfl ?_
        refine L.gyes' (dj := 35) (b := _) rfl rfl g35 ?_
        refine L.val (x_ia (j := k) Try.underlying22 ksesz3_sz34 rfl rfl (by omega) (by omega)) rfl ?_
        refine L.gyes' (dj := 35) (b := _) rfl rfl g35 ?_
        refine L.val (x_fa ksesz3_fo34_0 rfl) rfl ?_
        refine L.gyes' (dj := 35) (b := _) rfl rfl g35 ?_
        refine L.val (x_ld (v := S _) ksesz3_oc9 rfl (hce' 0 (by omega))) rfl ?_
        refine L.gyes' (dj := 35) (b := _) rfl rfl g35 ?_
        refine L.val (x_mv (v := S _) rfl) rfl ?_
        refine L.gyes' (dj := 35) (b := _) rfl rfl g35 ?_
        refine L.val (x_eqs rfl rfl) rfl ?_
        refine L.nil ?_
        refine thn_n ⟨rfl, rfl, ?_, rfl⟩
        repeat (first | exact jeq.refl _ _ _ | refine jeq.upd rfl ?_ | refine jeq.jk rfl rfl ?_)
       ·intro g35
        refine L.gno (dj := 35) (b := _) rfl rfl g35 rfl ?_
        refine L.gno (dj := 35) (b := _) rfl rfl g35 rfl ?_
        refine L.gno (dj := 35) (b := _) rfl rfl g35 rfl ?_
        refine L.gno (dj := 35) (b := _) rfl rfl g35 rfl ?_
        refine L.gno (dj := 35) (b := _) rfl rfl g35 rfl ?_
        refine L.gno (dj := 35) (b := _) rfl rfl g35 rfl ?_
        refine L.gno (dj := 35) (b := _) rfl rfl g35 rfl ?_
        refine L.gno (dj := 35) (b := _) rfl rfl g35 rfl ?_
        refine L.gno (dj := 35) (b := _) rfl rfl g35 rfl ?_
        refine L.gno (dj := 35) (b := _) rfl rfl g35 rfl ?_
        refine L.nil (thn_n ⟨rfl, rfl, ?_⟩)
        repeat (first | exact jeq.refl _ _ _ | refine jeq.upd rfl ?_ | refine jeq.jk rfl rfl ?_)
       intro J35 j35
       refine L.val (x_or rfl j35) rfl ?_
       refine L.val (x_as (v := .bool _) rfl) rfl ?_
       refine L.nil ?_
       refine blk_n ?_
       refine thn_n ?_
       refine W.region ?_
       refine L.val (x_mv (v := .int _ _) rfl) rfl ?_
       refine L.val (x_add rfl rfl (wr64 (by omega))) rfl ?_
       refine L.val (x_as (v := .int _ _) rfl) rfl ?_
       refine L.nil ?_
       refine thn_n ⟨rfl, ?_⟩
       refine ⟨_, ?_, k + 1, rfl, by first | rfl | exact vi (by omega), by first | rfl | exact vi (by omega), by first | rfl | exact vi (by omega) | exact vb (by assumption), by first | rfl | exact vi (by omega), (by first | assumption | omega | rfl), (by first | assumption | omega | rfl)⟩
       omega
      ·have h31 := dlt_f g31
       have hk2 : k = (s.all.getD i default).eds.length := by omega
       subst hk2
       rw [hw0]
       refine W.exit (thn_x (thn_x (blk_hit ?_)))
       refine thn_n ?_
       refine W.cut (fun D' E' w' => D' = [] ∧ ∃ ow' ra', E' 2 = S key ∧ E' 9 = .pointer (some ⟨ba, 0 + i * 6, none⟩) ∧ Goes t w16 w' ow ow' ∧ RefAt ow' t w' b (s.getS ((i + 1 : Nat) : Int) key) vh vd (.slice (some ⟨ba, 0, none⟩) s.all.length cap) rd ra') ?_ ?_
       ·refine W.seq ?_
        refine W.region ?_
        refine L.val (x_mv (v := .bool _) rfl) rfl ?_
        refine L.val (x_not rfl) rfl ?_
        refine L.nil ?_
        refine thn_n ?_
        refine W.cond (b := _) rfl (fun g48 => ?_) (fun g48 => ?_)
        ·have h48 := (not_t g48)
         have hno : lastE (s.ses ((i + 1 : Nat) : Int)).eds key = none := by
           rw [ses_succ]
           refine Classical.byContradiction fun hh => ?_
           rw [List.take_length, any_last, decide_eq_false hh] at h48
           cases h48
         have hB := Gr.refl (fun _ => False) w16
         have hE := x5.1
         have hqe : ∀ j, some j = (Value.slice ag (s.all.getD i default).gets.length cg).ownBlock → j ≠ ba ∧ j < w16.heap.size := fun j hj => ⟨lab_part2 (x5.2 j hj) hlA (by simp), (Own.lt hE hj).2⟩
         have hbA0 := hbA
         refine W.region ?_
         refine L.val (x_mv (v := .pointer _) rfl) rfl ?_
         refine L.val (x_mv (v := .pointer _) rfl) rfl ?_
         refine L.val (x_nil rfl) rfl ?_
         refine L.val (x_fa ksesz3_fo144_3 rfl) rfl ?_
         refine L.val (x_ld (v := .slice _ _ _) ksesz3_oc37 rfl (hbA.cell hx3)) rfl ?_
         refine L.val (x_mv (v := S _) rfl) rfl ?_
         refine L.bs (sz := 1) (cells := [S key]) Try.underlying37 ksesz3_el9 rfl rfl rfl rfl (fun w55 bx55 hw hz55 => ?_)
         have hB := hB.carry hw; have hE := hE.carry hw; have hbA := hbA.carry hw
         refine L.appendN (m := 1) Try.underlying37 ksesz3_el9 rfl rfl rfl hE rfl (holdsN_box bx55) (by simp [Value.oneCell', S]) (by omega) (by omega) (fun v56 w56 hO56 hg hob56 => ?_)
         have hall := ((Gr.refl (fun j => some j = (Value.slice ag (s.all.getD i default).gets.length cg).ownBlock ∨ j = ba) w16).carry hB).intoR hg (fun k e => .inl e)
         have hbA := hbA.carryR hg (fun e => (hqe _ e).1 rfl)
         have hs55 := hB.size
         obtain ⟨a56, c56, e56, -⟩ := own_shape hO56
         subst e56
         refine L.val (x_nil rfl) rfl ?_
         refine L.val (x_fa ksesz3_fo144_3 rfl) rfl ?_
         refine L.set (v := .slice a56 ((s.all.getD i default).gets.length + 1) c56) (i := 0 + i * 6 + 3) ksesz3_sz37 rfl rfl rfl hbA (h.blt hi (by omega)) (fun wl57 hbN hw hzl57 => ?_)
         rw [flat_set_tlk h.lens (by rw [h.len]; exact hi) (by omega)] at hbN
         have hall := hall.into hw (.inr rfl)
         have hobn : ∀ j, some j = (Value.slice a56 ((s.all.getD i default).gets.length + 1) c56).ownBlock → j ≠ ba := fun j hj => by
           rcases hob56 with e | e
           · rw [e] at hj; exact (hqe j hj).1
           · rw [e] at hj; cases hj; omega
         have hO57 := Own.carryR hO56 hw (fun j hj e => hobn j hj e)
         refine L.nil ?_
         refine thn_n ?_
         obtain ⟨ow', hK, hl', hn'⟩ := RefAt.grow (p := .asked i) h.free hlA hbAl x5.2 hall (hob56.imp id (fun e => ⟨_, e, by omega⟩)) (fun j hj => (Own.lt hO57 hj).2)
         have hN := h.row (x' := { s.all.getD i default with gets := (s.all.getD i default).gets ++ [key] }) hi hK (fun p hp => hp.imp id (fun e => .inr (.inl e))) hbA0 hbN hl' (by
           rw [er]
           refine ⟨vs, _, _, vx, rfl, ?_, fun _ => ⟨x1, eds_keep x2 hK, x3.keep hK (by simp), x4, ⟨?_, hn'⟩, x6.keep hK (by simp)⟩⟩
           · intro u hu
             rcases List.mem_or_eq_of_mem_set hu with hu | rfl
             · exact h1c u (by rw [er]; exact hu)
             · rfl
           · simpa using hO57)
         have hgs : s.getS ((i + 1 : Nat) : Int) key = { s with all := s.all.set i { s.all.getD i default with gets := (s.all.getD i default).gets ++ [key] } } := by unfold Bs.getS; rw [if_pos hno, ses_succ, upd_succ]
         rw [hgs]
         exact ⟨rfl, ow', _, rfl, rfl, hK.goes, hN⟩
        ·have h48 := (not_f g48)
         refine W.skip ?_
         refine thn_n ?_
         have hsome : ¬ lastE (s.ses ((i + 1 : Nat) : Int)).eds key = none := fun hh => by rw [ses_succ] at hh; rw [List.take_length, any_last, decide_eq_true hh] at h48; cases h48
         have hgs : s.getS ((i + 1 : Nat) : Int) key = s := by unfold Bs.getS; rw [if_neg hsome]
         rw [hgs]
         exact ⟨rfl, ow, ra, rfl, rfl, Goes.refl h.free, h⟩
       ·rintro D E w59 ⟨rfl, ow', ra', e2, e9, hG, hR⟩
        rw [upd_self e2, upd_self e9]
        obtain ⟨q1, q2, q3, q4, q5, q6⟩ := getS_ses s key hi
        have hi2 : i < (s.getS ((i + 1 : Nat) : Int) key).all.length := by rw [q1]; exact hi
        obtain ⟨ba', cap', tl', e', hbA', hlA'⟩ := hR.rowsAt hi2
        rw [q1] at e'
        cases e'
        obtain ⟨vs', ve', vg', vx', er', h1c', hx'⟩ := hR.each i hi2
        obtain ⟨y1, y2, y3, y4, -, -⟩ := hx' (q4.trans hop)
        have hh : (s.getS ((i + 1 : Nat) : Int) key).hist = s.hist := by funext n; unfold Bs.hist; rw [q2, q3]
        rw [q6, hh] at y2
        rw [q5] at y3 y4
        obtain ⟨ae', ce', rfl, -⟩ := own_shape y3.1
        obtain ⟨as', cs', rfl, -⟩ := eds_holds y2
        have hy1 := row_cellk (tl := tl') (j := 1) hR.lens (by rw [hR.len]; exact hi2) (by omega) (x := .slice as' (comes [] (s.hist (s.all.getD i default).at_)).length cs') (by rw [er']; rfl)
        have hy2 := row_cellk (tl := tl') (j := 2) hR.lens (by rw [hR.len]; exact hi2) (by omega) (x := .slice ae' (s.all.getD i default).eds.length ce') (by rw [er']; rfl)
        have hye := own_eds y3.1 y4 (by omega)
        have hcl := comes_len (h := s.hist (s.all.getD i default).at_)
        have hhl := hist_le s (s.all.getD i default).at_
        refine W.seq ?_
        refine W.drawF 10 ksesz3_mixed (fun wF59 hB0 => ?_)
        refine LAC.takeN (i := 0) rfl (by kernel_rfl) (by kernel_rfl) (by kernel_rfl) (by kernel_rfl) (fun w hw => x_mv (v := .pointer _) rfl) rfl ?_
        refine LAC.takeN (i := 1) rfl (by kernel_rfl) (by kernel_rfl) (by kernel_rfl) (by kernel_rfl) (fun w hw => x_nil rfl) rfl ?_
        refine LAC.takeN (i := 2) rfl (by kernel_rfl) (by kernel_rfl) (by kernel_rfl) (by kernel_rfl) (fun w hw => x_fa ksesz3_fo144_1 rfl) rfl ?_
        refine LAC.takeN (i := 3) rfl (by kernel_rfl) (by kernel_rfl) (by kernel_rfl) (by kernel_rfl) (fun w hw => x_ld (v := .slice _ _ _) ksesz3_oc22 rfl (hw.keep (hbA'.cell hy1))) rfl ?_
        refine LAC.takeN (i := 4) rfl (by kernel_rfl) (by kernel_rfl) (by kernel_rfl) (by kernel_rfl) (fun w hw => x_mv (v := .pointer _) rfl) rfl ?_
        refine LAC.takeN (i := 5) rfl (by kernel_rfl) (by kernel_rfl) (by kernel_rfl) (by kernel_rfl) (fun w hw => x_nil rfl) rfl ?_
        refine LAC.takeN (i := 6) rfl (by kernel_rfl) (by kernel_rfl) (by kernel_rfl) (by kernel_rfl) (fun w hw => x_fa ksesz3_fo144_2 rfl) rfl ?_
        refine LAC.takeN (i := 7) rfl (by kernel_rfl) (by kernel_rfl) (by kernel_rfl) (by kernel_rfl) (fun w hw => x_ld (v := .slice _ _ _) ksesz3_oc22 rfl (hw.keep (hbA'.cell hy2))) rfl ?_
        refine LAC.step (rs := [8]) (fun _ => hB0) (by kernel_rfl) (by simp) ⟨⟨_, rfl, ?_⟩, trivial⟩
        refine L.ret (x_call ksesz3_en75 rfl) rfl (comes_ref _ _ _ _ (comes [] (s.hist (s.all.getD i default).at_)) (s.all.getD i default).eds _ (y2.carry hB0) (hye.carry hB0) (by omega)) ?_
        rintro v67 w67 ⟨⟨hE67, h67⟩, hw⟩
        have hB0 := hB0.carry hw
        rw [sees_comes] at hE67
        obtain ⟨p12, c12, e12, -⟩ := eds_holds hE67
        subst e12
        refine L.nil ?_
        refine thn_n ?_
        refine LAC.takeN (i := 9) rfl (by kernel_rfl) (by kernel_rfl) (by kernel_rfl) (by kernel_rfl) (fun w hw => x_as (v := .slice _ _ _) rfl) rfl ?_
        refine LAC.doneF (by kernel_rfl) hB0 ?_
        have hR67 := hR.bel hB0
        have hG67 := hG.trans (Goes.bel hR.free hB0)
        obtain ⟨l, hldef⟩ : ∃ l, l = comes [] (s.seesE (s.all.getD i default)) := ⟨_, rfl⟩
        rw [← hldef] at hE67 ⊢
        have hll : l.length ≤ 1000000 := by
          rw [hldef]
          refine Nat.le_trans comes_len ?_
          unfold Bs.seesE
          rw [List.length_append]; omega
        have hrl : Rises l := by rw [hldef]; exact comes_rises rises_nil
        have hga : ∀ o, valE l key = o → s.getA ((i + 1 : Nat) : Int) key = (match o with | some v => (v, true) | none => ([], false)) := fun o e => by
          rw [hldef, comes_val rises_nil, List.nil_append] at e
          unfold Bs.getA
          rw [ses_succ, e]
          rfl
        refine thn_n ?_
        refine W.seq ?_
        refine W.seq ?_
        refine W.region ?_
        refine L.val (x_as (v := .int _ _) rfl) rfl ?_
        refine L.nil ?_
        refine thn_n ?_
        refine W.block ?_
        refine W.loop (fun m' E w' => ∃ (k : Nat), m' = l.length - k ∧ E 2 = S key ∧ E 12 = .slice p12 l.length c12 ∧ E 13 = .int .i64 (k : Nat) ∧ (k ≤ l.length) ∧ (w' = w67) ∧ (∀ j, j < k → (l.getD j default).key ≠ key)) (l.length) ?_ ?_
        ·exact ⟨0, by omega, by first | rfl | exact vi (by omega), by first | rfl | exact vi (by omega), by first | rfl | exact vi (by omega), (by first | assumption | omega | rfl), (by first | assumption | omega | rfl), (by exact fun j hj => absurd hj (by omega))⟩
        ·rintro _ E wL68 ⟨k, em, e2, e12, e13, hk, hw0, hno⟩
         rw [upd_self e2, upd_self e12, upd_self e13]
         refine W.seq ?_
         refine W.seq ?_
         refine W.region ?_
         refine L.val (x_mv (v := .int _ _) rfl) rfl ?_
         refine L.val (x_mv (v := .slice _ _ _) rfl) rfl ?_
         refine L.val (x_len_slice Try.underlying22 rfl) rfl ?_
         refine L.val (x_lss rfl rfl) rfl ?_
         refine L.nil ?_
         refine thn_n ?_
         refine W.cond (b := _) rfl (fun g71 => ?_) (fun g71 => ?_)
         ·have h71 := of_decide_eq_true g71
          have hlt : k < l.length := by omega
          obtain ⟨be, oe, rfl, hcl'⟩ := eds_cell hE67 hlt
          rw [hw0]
          refine W.skip ?_
          refine thn_n ?_
          refine W.seq ?_
          refine W.block ?_
          refine W.seq ?_
          refine W.region ?_
          refine L.val (x_mv (v := .slice _ _ _) rfl) rfl ?_
          refine L.val (x_mv (v := .int _ _) rfl) rfl ?_
          refine L.val (x_ia (j := k) Try.underlying22 ksesz3_sz34 rfl rfl (by omega) (by omega)) rfl ?_
          refine L.val (x_fa ksesz3_fo34_0 rfl) rfl ?_
          refine L.val (x_ld (v := S _) ksesz3_oc9 rfl (hcl' 0 (by omega))) rfl ?_
          refine L.val (x_mv (v := S _) rfl) rfl ?_
          refine L.val (x_eqs rfl rfl) rfl ?_
          refine L.nil ?_
          refine thn_n ?_
          refine W.cond (b := _) rfl (fun g80 => ?_) (fun g80 => ?_)
          ·have h80 := seq_t g80
           refine W.seq ?_
           refine W.region ?_
           refine L.val (x_mv (v := .slice _ _ _) rfl) rfl ?_
           refine L.val (x_mv (v := .int _ _) rfl) rfl ?_
           refine L.val (x_ia (j := k) Try.underlying22 ksesz3_sz34 rfl rfl (by omega) (by omega)) rfl ?_
           refine L.val (x_fa ksesz3_fo34_1 rfl) rfl ?_
           refine L.val (x_ld (v := S _) ksesz3_oc9 rfl (hcl' 1 (by omega))) rfl ?_
           refine L.val (x_as (v := S _) rfl) rfl ?_
           refine L.val (x_as (v := .bool _) rfl) rfl ?_
           refine L.val (x_as (v := .int _ _) rfl) rfl ?_
           refine L.nil ?_
           refine thn_n ?_
           refine W.ret (blk_r (thn_r (thn_r (blk_r (thn_r (fin_mk (.inr rfl) ?_))))))
           rw [hga _ (valE_find hrl hlt h80)]
           exact ⟨rfl, ow', ra', hG67, hR67⟩
          ·have h80 := seq_f g80
           refine W.skip ?_
           refine blk_n ?_
           refine thn_n ?_
           refine W.region ?_
           refine L.val (x_mv (v := .int _ _) rfl) rfl ?_
           refine L.val (x_add rfl rfl (wr64 (by omega))) rfl ?_
           refine L.val (x_as (v := .int _ _) rfl) rfl ?_
           refine L.nil ?_
           refine thn_n ⟨rfl, ?_⟩
           refine ⟨_, ?_, k + 1, rfl, by first | rfl | exact vi (by omega), by first | rfl | exact vi (by omega), by first | rfl | exact vi (by omega), (by first | assumption | omega | rfl), (by first | assumption | omega | rfl), (by exact fun j hj => by rcases Nat.lt_succ_iff_lt_or_eq.1 hj with h1 | rfl; exact hno j h1; exact h80)⟩
           omega
         ·have h71 := dlt_f g71
          have hk2 : k = l.length := by omega
          subst hk2
          rw [hw0]
          refine W.exit (thn_x (thn_x (blk_hit ?_)))
          refine thn_n ?_
          refine W.seq ?_
          refine W.region ?_
          refine L.val (x_as (v := S _) rfl) rfl ?_
          refine L.val (x_as (v := .bool _) rfl) rfl ?_
          refine L.val (x_as (v := .int _ _) rfl) rfl ?_
          refine L.nil ?_
          refine thn_n ?_
          refine W.ret (fin_mk (.inr rfl) ?_)
          rw [hga _ (valE_no hno)]
          exact ⟨rfl, ow', ra', hG67, hR67⟩
  · rw [if_neg ho, if_neg ho]
    refine ret_of_W Try.func38 rfl (Nat.le_of_ble_eq_true rfl) (res3 rfl) ?_
    refine W.seq ?_
    refine W.region ?_
    refine L.val (x_as (v := S _) rfl) rfl ?_
    refine L.val (x_as (v := .bool _) rfl) rfl ?_
    refine L.val (x_as (v := .int _ _) rfl) rfl ?_
    refine L.nil ?_
    refine thn_n ?_
    refine W.seq ?_
    refine W.seq ?_
    refine W.region ?_
    refine L.val (x_mv (v := .pointer _) rfl) rfl ?_
    refine L.val (x_mv (v := .int _ _) rfl) rfl ?_
    refine L.ret (x_call ksesz3_en76 rfl) rfl (open_ref ow t b s _ _ _ _ _ _ _ h hn) ?_
    rintro _ w16 ⟨rfl, rfl⟩
    refine L.val (x_not rfl) rfl ?_
    refine L.nil ?_
    refine thn_n ?_
    refine W.cond (b := _) rfl (fun g17 => ?_) (fun g17 => ?_)
    ·have h17 := (not_t g17)
     refine W.seq ?_
     refine W.region ?_
     refine L.val (x_as (v := S _) rfl) rfl ?_
     refine L.val (x_as (v := .bool _) rfl) rfl ?_
     refine L.val (x_as (v := .int _ _) rfl) rfl ?_
     refine L.nil ?_
     refine thn_n ?_
     refine W.ret (thn_r (fin_mk (.inr rfl) ?_))
     exact ⟨rfl, ow, ra, Goes.refl h.free, h⟩
    ·have h17 := (not_f g17)
     rw [decide_eq_false ho] at g17; cases g17
end Go.Gx
namespace Go.Gx
open Go.Proofs
theorem ksesz4_el9 : elT Try.prog 9 1 = true := by kernel_rfl
theorem ksesz4_en75 : Go.Proofs.Enters Try.prog 75 := Go.Proofs.enters_of Try.func75 (by kernel_rfl) rfl
theorem ksesz4_en76 : Go.Proofs.Enters Try.prog 76 := Go.Proofs.enters_of Try.func76 (by kernel_rfl) rfl
theorem ksesz4_en77 : Go.Proofs.Enters Try.prog 77 := Go.Proofs.enters_of Try.func77 (by kernel_rfl) rfl
theorem ksesz4_fo144_1 : fieldOff Try.prog 144 1 = some 1 := by kernel_rfl
theorem ksesz4_fo144_2 : fieldOff Try.prog 144 2 = some 2 := by kernel_rfl
theorem ksesz4_fo144_4 : fieldOff Try.prog 144 4 = some 4 := by kernel_rfl
theorem ksesz4_fo34_0 : fieldOff Try.prog 34 0 = some 0 := by kernel_rfl
theorem ksesz4_fo93_2 : fieldOff Try.prog 93 2 = some 2 := by kernel_rfl
theorem ksesz4_mixed : Try.prog.follows .mixedOrders = true := by kernel_rfl
theorem ksesz4_oc22 : oneCellT Try.prog 22 = true := by kernel_rfl
theorem ksesz4_oc37 : oneCellT Try.prog 37 = true := by kernel_rfl
theorem ksesz4_oc9 : oneCellT Try.prog 9 = true := by kernel_rfl
theorem ksesz4_oc91 : oneCellT Try.prog 91 = true := by kernel_rfl
theorem ksesz4_sz144 : (Try.prog.info? 144).map (·.size) = some 6 := by kernel_rfl
theorem ksesz4_sz34 : (Try.prog.info? 34).map (·.size) = some 3 := by kernel_rfl
theorem ksesz4_sz37 : (Try.prog.info? 37).map (·.size) = some 1 := by kernel_rfl
theorem keysS_ses (s : Bs) {i : Nat} (key : Str) (hi : i < s.all.length) : (s.keysS ((i + 1 : Nat) : Int) key) = { s with all := s.all.set i { s.all.getD i default with heads := (s.all.getD i default).heads ++ [key] } } := by
  unfold Bs.keysS; rw [ses_succ, upd_succ]
def ksOf (h : Str) (l : List Ed) : List Str := (l.map (·.key)).filter fun k => h.isPrefixOf k
theorem ksOf_step {h : Str} {l : List Ed} {k : Nat} (hk : k < l.length) : ksOf h (l.take (k + 1)) = ksOf h (l.take k) ++ (if h.isPrefixOf (l.getD k default).key then [(l.getD k default).key] else []) := by
  rw [ksOf, take_snoc (d := default) hk, List.map_append, List.filter_append]
  simp only [List.map_cons, List.map_nil, List.filter_cons, List.filter_nil]
  rfl
theorem ksOf_le (h : Str) (l : List Ed) : (ksOf h l).length ≤ l.length := by
  unfold ksOf
  exact Nat.le_trans (List.length_filter_le _ _) (by simp)
theorem eds_oks {A : Nat → Prop} {w : World} {v : Value} {l : List Ed} (h : EdsAt A w v l) : ∀ e ∈ l, EdOk e := by
  obtain ⟨_, _, _, _, _, h⟩ := eds_holds h
  exact h
theorem keys_ref (ow : Labels) (t b : Nat) (s : Bs) (vh vd va : Value) (rd ra : List (List Value)) (id : Int) (ahead : Str) (w : World) (h : RefAt ow t w b s vh vd va rd ra) (hn : s.all.length ≤ 1000000) (hq : ∀ x ∈ s.all, x.heads.length ≤ 1000000 ∧ x.eds.length ≤ 10000) (hs : (s.first :: s.log).flatten.length ≤ 900000) :
    Ret Try.prog 39 #[.pointer (some ⟨b, 0, none⟩), .int .i64 id, S ahead] w fun v w' => (∃ u, v = .tuple #[u, .int .i64 (if s.isOpen id then 0 else 400)] ∧ StrsAt (fun k => k < w.heap.size) w' u (if s.isOpen id then s.keysA id ahead else [])) ∧
      ∃ ow' ra', Goes t w w' ow ow' ∧ RefAt ow' t w' b (if s.isOpen id then s.keysS id ahead else s) vh vd va rd ra' := by
  have hb := h.box
  by_cases ho : s.isOpen id
  · rw [if_pos ho, if_pos ho, if_pos ho]
    obtain ⟨i, rfl, hi, hop⟩ := open_id ho
    obtain ⟨ba, cap, tl, rfl, hbA, hlA⟩ := h.rowsAt hi
    obtain ⟨vs, ve, vg, vx, er, h1c, hx⟩ := h.each i hi
    obtain ⟨x1, x2, x3, x4, x5, x6⟩ := hx hop
    obtain ⟨ax, cx, rfl, hcx⟩ := own_shape x6.1
    have hlen := hq (s.all.getD i default) (by rw [List.getD_eq_getElem?_getD, List.getElem?_eq_getElem hi]; exact List.getElem_mem _)
    have hx4 := row_cellk (tl := tl) (j := 4) h.lens (by rw [h.len]; exact hi) (by omega) (x := .slice ax (s.all.getD i default).heads.length cx) (by rw [er]; rfl)
    have hbAl := hbA.lt
    refine ret_of_W Try.func39 rfl (Nat.le_of_ble_eq_true rfl) (res2 rfl) ?_
    refine W.seq ?_
    refine W.region ?_
    refine L.val (x_as (v := .slice _ _ _) rfl) rfl ?_
    refine L.val (x_as (v := .int _ _) rfl) rfl ?_
    refine L.nil ?_
    refine thn_n ?_
    refine W.seq ?_
    refine W.seq ?_
    refine W.region ?_
    refine L.val (x_mv (v := .pointer _) rfl) rfl ?_
    refine L.val (x_mv (v := .int _ _) rfl) rfl ?_
    refine L.ret (x_call ksesz4_en76 rfl) rfl (open_ref ow t b s _ _ _ _ _ _ _ h hn) ?_
    rintro _ w14 ⟨rfl, rfl⟩
    refine L.val (x_not rfl) rfl ?_
    refine L.nil ?_
    refine thn_n ?_
    refine W.cond (b := _) rfl (fun g15 => ?_) (fun g15 => ?_)
    ·have h15 := (not_t g15)
     rw [decide_eq_true ho] at g15; cases g15
    ·have h15 := (not_f g15)
     refine W.skip ?_
     refine thn_n ?_
     refine W.seq ?_
     refine W.region ?_
     refine L.val (x_mv (v := .pointer _) rfl) rfl ?_
     refine L.val (x_nil rfl) rfl ?_
     refine L.val (x_fa ksesz4_fo93_2 rfl) rfl ?_
     refine L.val (x_ld (v := .slice _ _ _) ksesz4_oc91 rfl (hb.cell0 rfl)) rfl ?_
     refine L.val (x_mv (v := .int _ _) rfl) rfl ?_
     refine L.val (x_sub rfl rfl (wr64 (by omega))) rfl ?_
     refine L.val (x_ia (j := i) Try.underlying91 ksesz4_sz144 rfl rfl (by omega) (by omega)) rfl ?_
     refine L.val (x_as (v := .pointer _) rfl) rfl ?_
     refine L.nil ?_
     refine thn_n ?_
     refine W.seq ?_
     refine W.region ?_
     have hB := Gr.refl (fun _ => False) w14
     have hE := x6.1
     have hqe : ∀ j, some j = (Value.slice ax (s.all.getD i default).heads.length cx).ownBlock → j ≠ ba ∧ j < w14.heap.size := fun j hj => ⟨lab_part2 (x6.2 j hj) hlA (by simp), (Own.lt hE hj).2⟩
     have hbA0 := hbA
     refine L.val (x_mv (v := .pointer _) rfl) rfl ?_
     refine L.val (x_mv (v := .pointer _) rfl) rfl ?_
     refine L.val (x_nil rfl) rfl ?_
     refine L.val (x_fa ksesz4_fo144_4 rfl) rfl ?_
     refine L.val (x_ld (v := .slice _ _ _) ksesz4_oc37 rfl (hbA.cell hx4)) rfl ?_
     refine L.val (x_mv (v := S _) rfl) rfl ?_
     refine L.bs (sz := 1) (cells := [S ahead]) Try.underlying37 ksesz4_el9 rfl rfl rfl rfl (fun w29 bx29 hw hz29 => ?_)
     have hB := hB.carry hw; have hE := hE.carry hw; have hbA := hbA.carry hw
     refine L.appendN (m := 1) Try.underlying37 ksesz4_el9 rfl rfl rfl hE rfl (holdsN_box bx29) (by simp [Value.oneCell', S]) (by omega) (by omega) (fun v30 w30 hO30 hg hob30 => ?_)
     have hall := ((Gr.refl (fun j => some j = (Value.slice ax (s.all.getD i default).heads.length cx).ownBlock ∨ j = ba) w14).carry hB).intoR hg (fun k e => .inl e)
     have hbA := hbA.carryR hg (fun e => (hqe _ e).1 rfl)
     have hs29 := hB.size
     obtain ⟨a30, c30, e30, -⟩ := own_shape hO30
     subst e30
     refine L.val (x_nil rfl) rfl ?_
     refine L.val (x_fa ksesz4_fo144_4 rfl) rfl ?_
     refine L.set (v := .slice a30 ((s.all.getD i default).heads.length + 1) c30) (i := 0 + i * 6 + 4) ksesz4_sz37 rfl rfl rfl hbA (h.blt hi (by omega)) (fun wl27 hbN hw hzl27 => ?_)
     rw [flat_set_tlk h.lens (by rw [h.len]; exact hi) (by omega)] at hbN
     have hall := hall.into hw (.inr rfl)
     have hobn : ∀ j, some j = (Value.slice a30 ((s.all.getD i default).heads.length + 1) c30).ownBlock → j ≠ ba := fun j hj => by
       rcases hob30 with e | e
       · rw [e] at hj; exact (hqe j hj).1
       · rw [e] at hj; cases hj; omega
     have hO27 := Own.carryR hO30 hw (fun j hj e => hobn j hj e)
     obtain ⟨ow', hK, hl', hn'⟩ := RefAt.grow (p := .heads i) h.free hlA hbAl x6.2 hall (hob30.imp id (fun e => ⟨_, e, by omega⟩)) (fun j hj => (Own.lt hO27 hj).2)
     have hN := h.row (x' := { s.all.getD i default with heads := (s.all.getD i default).heads ++ [ahead] }) hi hK (fun p hp => hp.imp id (fun e => .inr (.inr e))) hbA0 hbN hl' (by
       rw [er]
       refine ⟨vs, _, vg, _, rfl, ?_, fun _ => ⟨x1, eds_keep x2 hK, x3.keep hK (by simp), x4, x5.keep hK (by simp), ⟨?_, hn'⟩⟩⟩
       · intro u hu
         rcases List.mem_or_eq_of_mem_set hu with hu | rfl
         · exact h1c u (by rw [er]; exact hu)
         · rfl
       · simpa using hO27)
     rw [← keysS_ses s ahead hi] at hN
     have hG := hK.goes
     have hi2 : i < (s.keysS ((i + 1 : Nat) : Int) ahead).all.length := by rw [keysS_ses s ahead hi]; show i < (s.all.set i _).length; rw [List.length_set]; exact hi
     have q : (s.keysS ((i + 1 : Nat) : Int) ahead).all.getD i default = { s.all.getD i default with heads := (s.all.getD i default).heads ++ [ahead] } := by rw [keysS_ses s ahead hi]; show (s.all.set i _).getD i default = _; rw [getD_set hi, if_pos rfl]
     have hh : (s.keysS ((i + 1 : Nat) : Int) ahead).hist = s.hist := by rw [keysS_ses s ahead hi]; rfl
     obtain ⟨vs', ve', vg', vx', er', h1c', hx'⟩ := hN.each i hi2
     rw [q] at hx' er'
     obtain ⟨y1, y2, y3, y4, -, -⟩ := hx' hop
     rw [hh] at y2
     obtain ⟨ae', ce', rfl, -⟩ := own_shape y3.1
     obtain ⟨as', cs', rfl, -⟩ := eds_holds y2
     have hy1 := row_cellk (tl := tl) (j := 1) hN.lens (by rw [hN.len]; exact hi2) (by omega) (x := .slice as' (comes [] (s.hist (s.all.getD i default).at_)).length cs') (by rw [er']; rfl)
     have hy2 := row_cellk (tl := tl) (j := 2) hN.lens (by rw [hN.len]; exact hi2) (by omega) (x := .slice ae' (s.all.getD i default).eds.length ce') (by rw [er']; rfl)
     have hye := own_eds y3.1 y4 (by show (s.all.getD i default).eds.length ≤ _; omega)
     have hcl := comes_len (h := s.hist (s.all.getD i default).at_)
     have hhl := hist_le s (s.all.getD i default).at_
     refine L.nil ?_
     refine thn_n ?_
     refine W.seq ?_
     refine W.drawF 10 ksesz4_mixed (fun wF33 hB0 => ?_)
     refine LAC.takeN (i := 0) rfl (by kernel_rfl) (by kernel_rfl) (by kernel_rfl) (by kernel_rfl) (fun w hw => x_mv (v := .pointer _) rfl) rfl ?_
     refine LAC.takeN (i := 1) rfl (by kernel_rfl) (by kernel_rfl) (by kernel_rfl) (by kernel_rfl) (fun w hw => x_nil rfl) rfl ?_
     refine LAC.takeN (i := 2) rfl (by kernel_rfl) (by kernel_rfl) (by kernel_rfl) (by kernel_rfl) (fun w hw => x_fa ksesz4_fo144_1 rfl) rfl ?_
     refine LAC.takeN (i := 3) rfl (by kernel_rfl) (by kernel_rfl) (by kernel_rfl) (by kernel_rfl) (fun w hw => x_ld (v := .slice _ _ _) ksesz4_oc22 rfl (hw.keep (hbN.cell hy1))) rfl ?_
     refine LAC.takeN (i := 4) rfl (by kernel_rfl) (by kernel_rfl) (by kernel_rfl) (by kernel_rfl) (fun w hw => x_mv (v := .pointer _) rfl) rfl ?_
     refine LAC.takeN (i := 5) rfl (by kernel_rfl) (by kernel_rfl) (by kernel_rfl) (by kernel_rfl) (fun w hw => x_nil rfl) rfl ?_
     refine LAC.takeN (i := 6) rfl (by kernel_rfl) (by kernel_rfl) (by kernel_rfl) (by kernel_rfl) (fun w hw => x_fa ksesz4_fo144_2 rfl) rfl ?_
     refine LAC.takeN (i := 7) rfl (by kernel_rfl) (by kernel_rfl) (by kernel_rfl) (by kernel_rfl) (fun w hw => x_ld (v := .slice _ _ _) ksesz4_oc22 rfl (hw.keep (hbN.cell hy2))) rfl ?_
     refine LAC.step (rs := [8]) (fun _ => hB0) (by kernel_rfl) (by simp) ⟨⟨_, rfl, ?_⟩, trivial⟩
     refine L.ret (x_call ksesz4_en75 rfl) rfl (comes_ref _ _ _ _ (comes [] (s.hist (s.all.getD i default).at_)) (s.all.getD i default).eds _ (y2.carry hB0) (hye.carry hB0) (by omega)) ?_
     rintro v41 w41 ⟨⟨hE41, h41⟩, hw⟩
     have hB0 := hB0.carry hw
     rw [sees_comes] at hE41
     obtain ⟨p9, c9, e9, -⟩ := eds_holds hE41
     subst e9
     refine L.nil ?_
     refine thn_n ?_
     refine LAC.takeN (i := 9) rfl (by kernel_rfl) (by kernel_rfl) (by kernel_rfl) (by kernel_rfl) (fun w hw => x_as (v := .slice _ _ _) rfl) rfl ?_
     refine LAC.doneF (by kernel_rfl) hB0 ?_
     have hbN := hbN.carry hB0
     have hR41 := hN.bel hB0
     have hG41 := hG.trans (Goes.bel hN.free hB0)
     obtain ⟨l, hldef⟩ : ∃ l, l = comes [] (s.seesE (s.all.getD i default)) := ⟨_, rfl⟩
     rw [← hldef] at hE41 ⊢
     have hll : l.length ≤ 1000000 := by
       rw [hldef]
       refine Nat.le_trans comes_len ?_
       unfold Bs.seesE
       rw [List.length_append]; omega
     have hsz : w14.heap.size ≤ w41.heap.size := Nat.le_trans hall.size hB0.size
     have hB2 := Gr.refl (fun _ => False) w41
     refine thn_n ?_
     refine W.seq ?_
     refine W.region ?_
     refine L.val (x_as (v := .slice _ _ _) rfl) rfl ?_
     refine L.nil ?_
     refine thn_n ?_
     refine W.seq ?_
     refine W.seq ?_
     refine W.region ?_
     refine L.val (x_as (v := .int _ _) rfl) rfl ?_
     refine L.nil ?_
     refine thn_n ?_
     refine W.block ?_
     refine W.loop (fun m' E w' => ∃ (k : Nat) (v10 : Value), m' = l.length - k ∧ E 2 = S ahead ∧ E 9 = .slice p9 l.length c9 ∧ E 10 = v10 ∧ E 11 = .int .i64 (k : Nat) ∧ (k ≤ l.length) ∧ (Bel w41 w') ∧ (Own w' w41.heap.size 9 1 v10 (ksOf ahead (l.take k)).length ((ksOf ahead (l.take k)).map S))) (l.length) ?_ ?_
     ·exact ⟨0, _, by omega, by first | rfl | exact vi (by omega) | exact vs (by first | assumption | (rw [hst]; done) | (rw [hst]; simp only [List.append_assoc])), by first | rfl | exact vi (by omega) | exact vs (by first | assumption | (rw [hst]; done) | (rw [hst]; simp only [List.append_assoc])), by first | rfl | exact vi (by omega) | exact vs (by first | assumption | (rw [hst]; done) | (rw [hst]; simp only [List.append_assoc])), by first | rfl | exact vi (by omega) | exact vs (by first | assumption | (rw [hst]; done) | (rw [hst]; simp only [List.append_assoc])), (by first | assumption | omega | rfl), (by first | assumption | omega | rfl), (by exact own_nil)⟩
     ·rintro _ E wL42 ⟨k, v10, em, e2, e9, e10, e11, hk, hB2, hO⟩
      rw [upd_self e2, upd_self e9, upd_self e10, upd_self e11]
      refine W.seq ?_
      refine W.seq ?_
      refine W.region ?_
      refine L.val (x_mv (v := .int _ _) rfl) rfl ?_
      refine L.val (x_mv (v := .slice _ _ _) rfl) rfl ?_
      refine L.val (x_len_slice Try.underlying22 rfl) rfl ?_
      refine L.val (x_lss rfl rfl) rfl ?_
      refine L.nil ?_
      refine thn_n ?_
      refine W.cond (b := _) rfl (fun g45 => ?_) (fun g45 => ?_)
      ·have h45 := of_decide_eq_true g45
       have hlt : k < l.length := by omega
       obtain ⟨be, oe, rfl, hcl'⟩ := eds_cell (hE41.carry hB2) hlt
       obtain ⟨a10, c10, e10v, -⟩ := own_shape hO
       subst e10v
       have hkl := ksOf_le ahead (l.take k)
       rw [List.length_take] at hkl
       have hst := ksOf_step (h := ahead) hlt
       refine W.skip ?_
       refine thn_n ?_
       refine W.seq ?_
       refine W.block ?_
       refine W.seq ?_
       refine W.region ?_
       refine L.val (x_mv (v := .slice _ _ _) rfl) rfl ?_
       refine L.val (x_mv (v := .int _ _) rfl) rfl ?_
       refine L.val (x_ia (j := k) Try.underlying22 ksesz4_sz34 rfl rfl (by omega) (by omega)) rfl ?_
       refine L.val (x_fa ksesz4_fo34_0 rfl) rfl ?_
       refine L.val (x_ld (v := S _) ksesz4_oc9 rfl (hcl' 0 (by omega))) rfl ?_
       refine L.val (x_mv (v := S _) rfl) rfl ?_
       refine L.ret (x_call ksesz4_en77 rfl) rfl (begins_ref _ _ _) ?_
       rintro _ w54 ⟨rfl, rfl⟩
       refine L.nil ?_
       refine thn_n ?_
       refine W.cond (b := _) rfl (fun g54 => ?_) (fun g54 => ?_)
       ·have h54 := g54
        rw [if_pos g54] at hst
        refine W.region ?_
        refine L.val (x_mv (v := .slice _ _ _) rfl) rfl ?_
        refine L.val (x_mv (v := .slice _ _ _) rfl) rfl ?_
        refine L.val (x_mv (v := .int _ _) rfl) rfl ?_
        refine L.val (x_ia (j := k) Try.underlying22 ksesz4_sz34 rfl rfl (by omega) (by omega)) rfl ?_
        refine L.val (x_fa ksesz4_fo34_0 rfl) rfl ?_
        refine L.val (x_ld (v := S _) ksesz4_oc9 rfl (hcl' 0 (by omega))) rfl ?_
        refine L.bs (sz := 1) (cells := [S (l.getD k default).key]) Try.underlying37 ksesz4_el9 rfl rfl rfl rfl (fun w61 bx61 hw hz61 => ?_)
        have hB2 := hB2.carry hw; have hO := hO.carry hw
        have hs62 := hB2.size
        refine L.appendN (m := 1) Try.underlying37 ksesz4_el9 rfl rfl rfl hO rfl (holdsN_box bx61) (by simp [Value.oneCell', S]) (by omega) (by omega) (fun v62 w62 hO62 hg hob62 => ?_)
        have hB2 := hB2.step hg (fun i hi e => by have := (Own.lt hO e).1; omega)
        have hO2 : Own w62 w41.heap.size 9 1 v62 (ksOf ahead (l.take (k + 1))).length ((ksOf ahead (l.take (k + 1))).map S) := by
          rw [hst]; simpa using hO62
        obtain ⟨a62, c62, e62, -⟩ := own_shape hO62
        subst e62
        refine L.val (x_as (v := .slice _ _ _) rfl) rfl ?_
        refine L.nil ?_
        refine blk_n ?_
        refine thn_n ?_
        refine W.region ?_
        refine L.val (x_mv (v := .int _ _) rfl) rfl ?_
        refine L.val (x_add rfl rfl (wr64 (by omega))) rfl ?_
        refine L.val (x_as (v := .int _ _) rfl) rfl ?_
        refine L.nil ?_
        refine thn_n ⟨rfl, ?_⟩
        refine ⟨_, ?_, k + 1, _, rfl, by first | rfl | exact vi (by omega) | exact vs (by first | assumption | (rw [hst]; done) | (rw [hst]; simp only [List.append_assoc])), by first | rfl | exact vi (by omega) | exact vs (by first | assumption | (rw [hst]; done) | (rw [hst]; simp only [List.append_assoc])), by first | rfl | exact vi (by omega) | exact vs (by first | assumption | (rw [hst]; done) | (rw [hst]; simp only [List.append_assoc])), by first | rfl | exact vi (by omega) | exact vs (by first | assumption | (rw [hst]; done) | (rw [hst]; simp only [List.append_assoc])), (by first | assumption | omega | rfl), (by first | assumption | omega | rfl), (by exact hO2)⟩
        omega
       ·have h54 := g54
        rw [if_neg (by rw [g54]; decide), List.append_nil] at hst
        have hO2 : Own w54 w41.heap.size 9 1 (.slice a10 (ksOf ahead (l.take k)).length c10) (ksOf ahead (l.take (k + 1))).length ((ksOf ahead (l.take (k + 1))).map S) := by rw [hst]; exact hO
        refine W.skip ?_
        refine blk_n ?_
        refine thn_n ?_
        refine W.region ?_
        refine L.val (x_mv (v := .int _ _) rfl) rfl ?_
        refine L.val (x_add rfl rfl (wr64 (by omega))) rfl ?_
        refine L.val (x_as (v := .int _ _) rfl) rfl ?_
        refine L.nil ?_
        refine thn_n ⟨rfl, ?_⟩
        refine ⟨_, ?_, k + 1, _, rfl, by first | rfl | exact vi (by omega) | exact vs (by first | assumption | (rw [hst]; done) | (rw [hst]; simp only [List.append_assoc])), by first | rfl | exact vi (by omega) | exact vs (by first | assumption | (rw [hst]; done) | (rw [hst]; simp only [List.append_assoc])), by first | rfl | exact vi (by omega) | exact vs (by first | assumption | (rw [hst]; done) | (rw [hst]; simp only [List.append_assoc])), by first | rfl | exact vi (by omega) | exact vs (by first | assumption | (rw [hst]; done) | (rw [hst]; simp only [List.append_assoc])), (by first | assumption | omega | rfl), (by first | assumption | omega | rfl), (by exact hO2)⟩
        omega
      ·have h45 := dlt_f g45
       obtain ⟨a10, c10, e10v, -⟩ := own_shape hO
       subst e10v
       have hk2 : k = l.length := by omega
       subst hk2
       refine W.exit (thn_x (thn_x (blk_hit ?_)))
       refine thn_n ?_
       refine W.seq ?_
       refine W.region ?_
       refine L.val (x_mv (v := .slice _ _ _) rfl) rfl ?_
       refine L.val (x_as (v := .slice _ _ _) rfl) rfl ?_
       refine L.val (x_as (v := .int _ _) rfl) rfl ?_
       refine L.nil ?_
       refine thn_n ?_
       refine W.ret (fin_mk (.inr rfl) ?_)
       simp only [List.take_length] at hO ⊢
       have hka : s.keysA ((i + 1 : Nat) : Int) ahead = ksOf ahead l := by unfold Bs.keysA; rw [ses_succ, ← hldef]; rfl
       rw [hka]
       have hkl := ksOf_le ahead l
       exact ⟨⟨_, rfl, strs_done hO (by omega) (fun x hx => by
         obtain ⟨e, he, rfl⟩ := List.mem_map.1 (List.mem_filter.1 hx).1
         exact (eds_oks hE41 e he).1) (fun j hj => by omega)⟩, ow', _, hG41.trans (Goes.bel hR41.free hB2), hR41.bel hB2⟩
  · rw [if_neg ho, if_neg ho, if_neg ho]
    refine ret_of_W Try.func39 rfl (Nat.le_of_ble_eq_true rfl) (res2 rfl) ?_
    refine W.seq ?_
    refine W.region ?_
    refine L.val (x_as (v := .slice _ _ _) rfl) rfl ?_
    refine L.val (x_as (v := .int _ _) rfl) rfl ?_
    refine L.nil ?_
    refine thn_n ?_
    refine W.seq ?_
    refine W.seq ?_
    refine W.region ?_
    refine L.val (x_mv (v := .pointer _) rfl) rfl ?_
    refine L.val (x_mv (v := .int _ _) rfl) rfl ?_
    refine L.ret (x_call ksesz4_en76 rfl) rfl (open_ref ow t b s _ _ _ _ _ _ _ h hn) ?_
    rintro _ w14 ⟨rfl, rfl⟩
    refine L.val (x_not rfl) rfl ?_
    refine L.nil ?_
    refine thn_n ?_
    refine W.cond (b := _) rfl (fun g15 => ?_) (fun g15 => ?_)
    ·have h15 := (not_t g15)
     refine W.seq ?_
     refine W.region ?_
     refine L.val (x_as (v := .slice _ _ _) rfl) rfl ?_
     refine L.val (x_as (v := .int _ _) rfl) rfl ?_
     refine L.nil ?_
     refine thn_n ?_
     refine W.ret (thn_r (fin_mk (.inr rfl) ?_))
     exact ⟨⟨_, rfl, StrsAt.nil _ _ _ _ (by simp)⟩, ow, ra, Goes.refl h.free, h⟩
    ·have h15 := (not_f g15)
     rw [decide_eq_false ho] at g15; cases g15
end Go.Gx
