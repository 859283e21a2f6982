/- Sessions, the reference: New. Conditions: none. -/
import Derived.Test.YtnhbjfkeeegdgaaCeSesZ5
namespace Go.Gx
open Go.Proofs
theorem ksesz7_ag34 : aggT Try.prog 34 3 = true := by kernel_rfl
theorem ksesz7_el34 : elT Try.prog 34 3 = true := by kernel_rfl
theorem ksesz7_en75 : Go.Proofs.Enters Try.prog 75 := Go.Proofs.enters_of Try.func75 (by kernel_rfl) rfl
theorem ksesz7_si93 : structInfo Try.prog 93 = some ([(0, 1), (1, 1), (2, 1)], [Value.slice none 0 0, Value.slice none 0 0, Value.slice none 0 0]) := by kernel_rfl
theorem ksesz7_sz34 : (Try.prog.info? 34).map (·.size) = some 3 := by kernel_rfl
theorem new_refdone {ow : Labels} {t b : Nat} {w w1 w2 : World} {v : Value} {l : List Ed} (hf : ∀ k, w.heap.size ≤ k → ow k = none) (hB : Bel w w1) (hw : Bel w1 w2) (hv : EdsAt (fun k => k < w.heap.size) w1 v (comes [] l)) (hb : Box w2 b 93 [v, .slice none 0 0, .slice none 0 0]) (hz : b = w1.heap.size) :
    ∃ ow', Goes t w w2 ow ow' ∧ RefAt ow' t w2 b ⟨l, [], []⟩ v (.slice none 0 0) (.slice none 0 0) [] [] := by
  have hs := hB.size
  have hbl := hb.lt
  have hK : Keeps t (fun _ => False) w w2 ow (relab ow t [(b, .base)]) := keeps_relab _ ((hB.trans hw).mono (fun _ _ f => f.elim)) hf (fun x hx => by
    rw [List.mem_singleton.1 hx]; exact ⟨by show w.heap.size ≤ b; omega, hbl⟩)
  refine ⟨_, hK.goes, by simp [relab], hb, ?_, ⟨own_nil, fun j hj => by cases hj⟩, RowsC.nil, ⟨own_nil, fun j hj => by cases hj⟩, rfl, fun i hi => absurd hi (by simp), hK.end_⟩
  have hst : (⟨l, [], []⟩ : Bs).state = comes [] l := by simp [Bs.state, Bs.hist]
  rw [hst]
  refine (hv.up.carry hw).mono fun k hk hn => ?_
  by_cases hkb : k = b
  · exact .inr (by omega)
  · refine .inl (Decidable.byContradiction fun hh => hn ?_)
    rw [relab_old (fun x hx => by rw [List.mem_singleton.1 hx]; exact fun e => hkb e.symm)]
    exact hf k (by omega)
theorem new_ref (ow : Labels) (t : Nat) (A : Nat → Prop) (v : Value) (l : List Ed) (w : World) (hl : EdsAt A w v l) (hn : l.length ≤ 1000) (hf : ∀ k, w.heap.size ≤ k → ow k = none) :
    Ret Try.prog 37 #[v] w fun r w' => ∃ b ow' vh, r = .pointer (some ⟨b, 0, none⟩) ∧ Goes t w w' ow ow' ∧ RefAt ow' t w' b ⟨l, [], []⟩ vh (.slice none 0 0) (.slice none 0 0) [] [] := by
  obtain ⟨pl, cl, rfl, -, -, hok⟩ := eds_holds hl
  refine ret_of_W Try.func37 rfl (Nat.le_of_ble_eq_true rfl) (res1 rfl) ?_
  have hB := Gr.refl (fun _ => False) w
  refine W.seq ?_
  refine W.region ?_
  refine L.val (x_as (v := .pointer _) rfl) rfl ?_
  refine L.nil ?_
  refine thn_n ?_
  refine W.seq ?_
  refine W.region ?_
  refine L.val (x_as (v := .slice _ _ _) rfl) rfl ?_
  refine L.nil ?_
  refine thn_n ?_
  refine W.seq ?_
  refine W.seq ?_
  refine W.region ?_
  refine L.val (x_as (v := .int _ _) rfl) rfl ?_
  refine L.nil ?_
  refine thn_n ?_
  refine W.block ?_
  refine W.loop (fun m' E w' => ∃ (k : Nat) (v3 : Value), m' = l.length - k ∧ E 0 = .slice pl l.length cl ∧ E 3 = v3 ∧ E 4 = .int .i64 (k : Nat) ∧ (k ≤ l.length) ∧ (Bel w w') ∧ (EdsAt (fun j => j < w.heap.size) w' v3 (comes [] (l.take k)))) (l.length) ?_ ?_
  ·exact ⟨0, _, by omega, by first | rfl | exact vi (by omega) | exact vs (by first | assumption | (rw [hst]; done) | (rw [hst]; simp only [List.append_assoc])), by first | rfl | exact vi (by omega) | exact vs (by first | assumption | (rw [hst]; done) | (rw [hst]; simp only [List.append_assoc])), by first | rfl | exact vi (by omega) | exact vs (by first | assumption | (rw [hst]; done) | (rw [hst]; simp only [List.append_assoc])), (by first | assumption | omega | rfl), (by first | assumption | omega | rfl), (by exact RecsAt.nil (by simp))⟩
  ·rintro _ E wL5 ⟨k, v3, em, e0, e3, e4, hk, hB, hH⟩
   rw [upd_self e0, upd_self e3, upd_self e4]
   refine W.seq ?_
   refine W.seq ?_
   refine W.region ?_
   refine L.val (x_mv (v := .int _ _) rfl) rfl ?_
   refine L.val (x_mv (v := .slice _ _ _) rfl) rfl ?_
   refine L.val (x_len_slice Try.underlying22 rfl) rfl ?_
   refine L.val (x_lss rfl rfl) rfl ?_
   refine L.nil ?_
   refine thn_n ?_
   refine W.cond (b := _) rfl (fun g8 => ?_) (fun g8 => ?_)
   ·have h8 := of_decide_eq_true g8
    have hlt : k < l.length := by omega
    obtain ⟨p3, c3, e3v, -⟩ := eds_holds hH
    subst e3v
    obtain ⟨bl, ol, rfl, hcl⟩ := eds_cell (hl.carry hB) hlt
    have hle : EdOk (l.getD k default) := by rw [List.getD_eq_getElem?_getD, List.getElem?_eq_getElem hlt]; exact hok _ (List.getElem_mem hlt)
    have hcm := comes_len (h := l.take k)
    rw [List.length_take] at hcm
    have hst : comes [] (l.take (k + 1)) = comes (comes [] (l.take k)) [l.getD k default] := by rw [take_snoc (d := default) hlt, comes_append]
    have hsB := hB.size
    refine W.skip ?_
    refine thn_n ?_
    refine W.seq ?_
    refine W.block ?_
    refine W.region ?_
    refine L.val (x_mv (v := .slice _ _ _) rfl) rfl ?_
    refine L.val (x_mv (v := .slice _ _ _) rfl) rfl ?_
    refine L.val (x_mv (v := .int _ _) rfl) rfl ?_
    refine L.val (x_ia (j := k) Try.underlying22 ksesz7_sz34 rfl rfl (by omega) (by omega)) rfl ?_
    refine L.val (x_ldn (vs := edV (l.getD k default)) ksesz7_ag34 rfl rfl hcl) rfl ?_
    refine L.bs (sz := 3) (cells := edV (l.getD k default)) Try.underlying22 ksesz7_el34 rfl rfl rfl rfl (fun w16 bx16 hw hz16 => ?_)
    have hB := hB.carry hw; have hH := hH.carry hw
    refine L.ret (x_call ksesz7_en75 rfl) rfl (comes_ref _ (fun _ => False) _ _ (comes [] (l.take k)) [l.getD k default] _ hH (eds_of_box [l.getD k default] bx16 (fun f => f) (by simp) (fun e he => by rw [List.mem_singleton.1 he]; exact hle)) (by simp; omega)) ?_
    rintro v17 w17 ⟨⟨hE17, h17⟩, hw⟩
    have hB := hB.carry hw; have hH := hH.carry hw; have bx16 := bx16.carry hw
    obtain ⟨p17, c17, e17, -⟩ := eds_holds hE17
    subst e17
    have hH2 : EdsAt (fun j => j < w.heap.size) w17 (.slice p17 (comes (comes [] (l.take k)) [l.getD k default]).length c17) (comes [] (l.take (k + 1))) := by
      rw [hst]
      exact RecsAt.mono hE17 fun j _ hj => by omega
    refine L.val (x_as (v := .slice _ _ _) rfl) rfl ?_
    refine L.nil ?_
    refine blk_n ?_
    refine thn_n ?_
    refine W.region ?_
    refine L.val (x_mv (v := .int _ _) rfl) rfl ?_
    refine L.val (x_add rfl rfl (wr64 (by omega))) rfl ?_
    refine L.val (x_as (v := .int _ _) rfl) rfl ?_
    refine L.nil ?_
    refine thn_n ⟨rfl, ?_⟩
    refine ⟨_, ?_, k + 1, _, rfl, by first | rfl | exact vi (by omega) | exact vs (by first | assumption | (rw [hst]; done) | (rw [hst]; simp only [List.append_assoc])), by first | rfl | exact vi (by omega) | exact vs (by first | assumption | (rw [hst]; done) | (rw [hst]; simp only [List.append_assoc])), by first | rfl | exact vi (by omega) | exact vs (by first | assumption | (rw [hst]; done) | (rw [hst]; simp only [List.append_assoc])), (by first | assumption | omega | rfl), (by first | assumption | omega | rfl), (by exact hH2)⟩
    omega
   ·have h8 := dlt_f g8
    obtain ⟨p3, c3, e3v, -⟩ := eds_holds hH
    subst e3v
    have hk2 : k = l.length := by omega
    subst hk2
    rw [List.take_length] at hH
    have hB1 := hB
    refine W.exit (thn_x (thn_x (blk_hit ?_)))
    refine thn_n ?_
    refine W.seq ?_
    refine W.region ?_
    refine L.val (x_mv (v := .slice _ _ _) rfl) rfl ?_
    refine L.val (x_build (cells := [.slice _ _ _, .slice _ _ _, .slice _ _ _]) ksesz7_si93 rfl rfl) rfl ?_
    refine L.box (cs := [.slice p3 (comes [] (l.take l.length)).length c3, .slice none 0 0, .slice none 0 0]) rfl rfl (fun w20 bx20 hw hz20 => ?_)
    have hB := hB.carry hw
    have hw20 := hw
    refine L.val (x_as (v := .pointer _) rfl) rfl ?_
    refine L.nil ?_
    refine thn_n ?_
    refine W.ret (fin_mk (.inr rfl) ?_)
    rw [List.take_length] at *
    obtain ⟨ow', hG, hR⟩ := new_refdone (t := t) hf hB1 hw20 hH bx20 rfl
    exact ⟨_, ow', _, rfl, hG, hR⟩
end Go.Gx
