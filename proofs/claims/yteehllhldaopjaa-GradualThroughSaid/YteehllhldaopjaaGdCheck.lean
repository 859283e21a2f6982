/- The program's own Check, Size, Deep, Closed: what the reference's say. Conditions: none. -/
import Derived.Test.YteehllhldaopjaaGdFits
namespace Go.Gx
open Go.Proofs
theorem kcheck_ag25 : aggT Try.prog 25 5 = true := by kernel_rfl
theorem kcheck_en64 : Go.Proofs.Enters Try.prog 64 := Go.Proofs.enters_of Try.func64 (by kernel_rfl) rfl
theorem kcheck_en65 : Go.Proofs.Enters Try.prog 65 := Go.Proofs.enters_of Try.func65 (by kernel_rfl) rfl
theorem kcheck_en66 : Go.Proofs.Enters Try.prog 66 := Go.Proofs.enters_of Try.func66 (by kernel_rfl) rfl
theorem kcheck_fo25_4 : fieldOff Try.prog 25 4 = some 4 := by kernel_rfl
theorem kcheck_oc23 : oneCellT Try.prog 23 = true := by kernel_rfl
theorem kcheck_sz25 : (Try.prog.info? 25).map (·.size) = some 5 := by kernel_rfl
theorem kcheck_zr25 : (Try.prog.info? 25).bind (·.zero) = some (Value.agg [Value.int .i64 0, S [], S [], Value.slice none 0 0, Value.slice none 0 0].toArray) := by kernel_rfl
theorem length_le_size : ∀ l : List Sh, l.length ≤ sizeL l
  | [] => Nat.zero_le _
  | p :: ps => by
    have := length_le_size ps
    have h : 1 ≤ p.size := by cases p; simp [Sh.size]
    simp only [List.length_cons, sizeL]; omega
theorem parts_le (s : Sh) : s.parts.length ≤ s.size := by
  have := length_le_size s.parts
  rw [Sh.size_eq]; omega
theorem cnt_cases (s : Sh) : ∃ (a b : Int) (c : Bool), cntS s = .tuple #[.int .i64 a, .int .i64 b, .bool c] ∧ ((s.size ≤ 400 ∧ a = s.size ∧ b = s.deep ∧ c = true) ∨ (400 < s.size ∧ a = 401 ∧ b = 0 ∧ c = false)) := by
  unfold cntS
  split
  · exact ⟨_, _, _, rfl, .inl ⟨by assumption, rfl, rfl, rfl⟩⟩
  · exact ⟨_, _, _, rfl, .inr ⟨by omega, rfl, rfl, rfl⟩⟩
theorem all_ok (g : Nat) (pS : Sh → Bool) (M : Nat) (eg : Enters Try.prog g) (hg : ∀ (A : Nat → Prop) (s : Sh) (cs : List Value) (w : World), ShC A w cs s → s.size ≤ M → Ret Try.prog g #[.agg cs.toArray] w fun v w' => v = .bool (pS s) ∧ Bel w w') :
    ∀ (N : Nat) (s : Sh), SizeOf.sizeOf s < N → s.size ≤ M → ∀ (A : Nat → Prop) (cs : List Value) (w : World), ShC A w cs s →
    Ret Try.prog 65 #[.agg cs.toArray, .func (.func g) #[] #[]] w fun v w' => v = .bool (s.allB pS) ∧ Bel w w' := by
  intro N
  induction N with
  | zero => intro s h; omega
  | succ N ih =>
    intro s hN hM A0 cs w hs0
    obtain ⟨A, hs, hU⟩ : ∃ A : Nat → Prop, ShC A w cs s ∧ (∀ k, w.heap.size ≤ k → A k) := ⟨_, hs0.up, fun _ => .inr⟩
    clear hs0
    obtain ⟨vn, vp, rfl, hn, hp, hof, hnm⟩ := hs.inv
    obtain ⟨p, cap, row, rfl, p1, p2, p3, hr⟩ := hp
    refine ret_of_W Try.func65 rfl (Nat.le_of_ble_eq_true rfl) (res1 rfl) ?_
    have hB := Gr.refl (fun _ => False) w
    refine W.seq ?_
    refine W.region ?_
    refine L.box (cs := _) rfl rfl (fun w2 bx2 hw hz2 => ?_)
    have hB := hB.carry hw; have hr := hr.carry hw; have hs := hs.carry hw
    refine L.val (x_as (v := .bool _) rfl) rfl ?_
    refine L.nil ?_
    refine thn_n ?_
    refine W.seq ?_
    refine W.seq ?_
    refine W.region ?_
    refine L.val (x_mv (v := .func _ _ _) rfl) rfl ?_
    refine L.val (x_ldn (vs := _) kcheck_ag25 rfl rfl (bx2.row rfl)) rfl ?_
    refine L.ret (x_callv eg rfl rfl) rfl (hg A s _ _ hs hM) ?_
    rintro _ w9 ⟨rfl, hw⟩
    have hB := hB.carry hw; have hr := hr.carry hw; have hs := hs.carry hw; have bx2 := bx2.carry hw
    refine L.val (x_not rfl) rfl ?_
    refine L.nil ?_
    refine thn_n ?_
    refine W.cond (b := _) rfl (fun g10 => ?_) (fun g10 => ?_)
    ·have h10 := (not_t g10)
     refine W.seq ?_
     refine W.region ?_
     refine L.val (x_as (v := .bool _) rfl) rfl ?_
     refine L.nil ?_
     refine thn_n ?_
     refine W.ret (thn_r (fin_mk (.inr rfl) ?_))
     exact ⟨vb (by rw [Sh.allB_eq, h10]; rfl), hB⟩
    ·have h10 := (not_f g10)
     refine W.skip ?_
     refine thn_n ?_
     refine W.seq ?_
     refine W.seq ?_
     refine W.region ?_
     refine L.val (x_fa kcheck_fo25_4 rfl) rfl ?_
     refine L.val (x_ld (v := .slice _ _ _) kcheck_oc23 rfl (bx2.cell0 rfl)) rfl ?_
     refine L.val (x_len_slice Try.underlying23 rfl) rfl ?_
     refine L.val (x_mv (v := .int _ _) rfl) rfl ?_
     refine L.nil ?_
     refine thn_n ?_
     refine W.block ?_
     refine W.loop (fun m' E w' => ∃ (k : Nat), m' = s.parts.length - k ∧ E 1 = .func (.func g) #[] #[] ∧ E 12 = .slice p s.parts.length cap ∧ E 13 = .int .i64 (s.parts.length : Nat) ∧ E 14 = .int .i64 (k : Nat) ∧ (Bel w w') ∧ (ShRow A w' p row s.parts) ∧ (k ≤ s.parts.length) ∧ (allL pS (s.parts.take k) = true)) (s.parts.length) ?_ ?_
     ·exact ⟨0, by omega, by first | rfl | exact vi (by omega), by first | rfl | exact vi (by omega), by first | rfl | exact vi (by omega), by first | rfl | exact vi (by omega), (by first | assumption | omega | rfl), (by first | assumption | omega | rfl), (by first | assumption | omega | rfl), (by rfl)⟩
     ·rintro _ E wL15 ⟨k, em, e1, e12, e13, e14, hB, hr, hk, ha⟩
      rw [upd_self e1, upd_self e12, upd_self e13, upd_self e14]
      refine W.seq ?_
      refine W.region ?_
      refine L.val (x_lss rfl rfl) rfl ?_
      refine L.nil ?_
      refine thn_n ?_
      refine W.seq ?_
      refine W.cond (b := _) rfl (fun g15 => ?_) (fun g15 => ?_)
      ·have h15 := of_decide_eq_true g15
       have hlt : k < s.parts.length := by omega
       obtain ⟨b, o, rfl, hc⟩ := hr.elem hlt
       refine W.skip ?_
       refine thn_n ?_
       refine W.seq ?_
       refine W.block ?_
       refine W.seq ?_
       refine W.region ?_
       have hsz15 := hB.size
       refine L.val (x_ia  Try.underlying23 kcheck_sz25 rfl rfl rfl (by omega)) rfl ?_
       refine L.val (x_ldn (vs := row k) kcheck_ag25 rfl (hr.five k hlt) hc) rfl ?_
       refine L.alloc (cs := [Value.int .i64 0, S [], S [], Value.slice none 0 0, Value.slice none 0 0]) kcheck_zr25 rfl rfl (fun w6 bx6 hw hz6 => ?_)
       have hB := hB.carry hw; have hr := hr.carry hw
       refine L.setRow kcheck_ag25 rfl rfl bx6 rfl (hr.five k hlt) (ShC.one (hr.each k hlt)) (fun wl16 bx6 hw hzl16 => ?_)
       have hsz := hB.size
       have hB := hB.set hw (by omega); have hr := hr.carryR hw (fun k e => hU k (by have : k = _ := e; omega))
       refine L.nil ?_
       refine thn_n ?_
       refine W.seq ?_
       refine W.region ?_
       refine L.val (x_ldn (vs := _) kcheck_ag25 rfl (hr.five k hlt) (bx6.row (hr.five k hlt))) rfl ?_
       refine L.val (x_mv (v := .func _ _ _) rfl) rfl ?_
       refine L.ret (x_call kcheck_en65 rfl) rfl (ih _ (by have := Sh.part_lt hlt; omega) (by have := Sh.part_size hlt; omega) A _ _ (hr.each k hlt)) ?_
       rintro _ w20 ⟨rfl, hw⟩
       have hB := hB.carry hw; have hr := hr.carry hw; have bx6 := bx6.carry hw
       refine L.val (x_not rfl) rfl ?_
       refine L.nil ?_
       refine thn_n ?_
       refine W.cond (b := _) rfl (fun g21 => ?_) (fun g21 => ?_)
       ·have h21 := (not_t g21)
        refine W.seq ?_
        refine W.region ?_
        refine L.val (x_as (v := .bool _) rfl) rfl ?_
        refine L.nil ?_
        refine thn_n ?_
        refine W.ret (blk_r (thn_r (thn_r (blk_r (thn_r (fin_mk (.inr rfl) ?_))))))
        exact ⟨vb (by rw [Sh.allB_eq, allL_miss hlt h21]; simp), hB⟩
       ·have h21 := (not_f g21)
        refine W.skip ?_
        refine blk_n ?_
        refine thn_n ?_
        refine W.region ?_
        refine L.val (x_add rfl rfl (wr64 (by omega))) rfl ?_
        refine L.val (x_mv (v := .int _ _) rfl) rfl ?_
        refine L.nil ?_
        refine thn_n ⟨rfl, ?_⟩
        refine ⟨_, ?_, k + 1, rfl, by first | rfl | exact vi (by omega), by first | rfl | exact vi (by omega), by first | rfl | exact vi (by omega), by first | rfl | exact vi (by omega), (by first | assumption | omega | rfl), (by first | assumption | omega | rfl), (by first | assumption | omega | rfl), (by rw [allL_take hlt, ha, h21]; rfl)⟩
        omega
      ·have h15 := dlt_f g15
       refine W.exit (thn_x (thn_x (blk_hit ?_)))
       refine thn_n ?_
       refine W.seq ?_
       refine W.region ?_
       refine L.val (x_as (v := .bool _) rfl) rfl ?_
       refine L.nil ?_
       refine thn_n ?_
       refine W.ret (fin_mk (.inr rfl) ?_)
       rw [List.take_of_length_le (by omega)] at ha
       exact ⟨vb (by rw [Sh.allB_eq, h10, ha]; rfl), hB⟩
theorem checkL (A : Nat → Prop) (s : Sh) (cs : List Value) (w : World) (hs : ShC A w cs s) :
    Ret Try.prog 29 #[.agg cs.toArray] w fun v w' => v = .int .i64 (checkS s) ∧ Bel w w' := by
  have hlen := hs.len
  obtain ⟨cv, hcv⟩ : ∃ cv, cv = cntS s := ⟨_, rfl⟩
  refine ret_of_W Try.func29 rfl (Nat.le_of_ble_eq_true rfl) (res1 rfl) ?_
  have hB := Gr.refl (fun _ => False) w
  refine W.seq ?_
  refine W.region ?_
  refine L.box (cs := cs) rfl rfl (fun w1 bx1 hw hz1 => ?_)
  have hB := hB.carry hw; have hs := hs.carry hw
  refine L.val (x_as (v := .int _ _) rfl) rfl ?_
  refine L.nil ?_
  refine thn_n ?_
  refine W.seq ?_
  refine W.region ?_
  refine L.val (x_ldn (vs := cs) kcheck_ag25 rfl hlen (bx1.row hlen)) rfl ?_
  refine L.ret (x_call kcheck_en64 rfl) rfl (count_ok A s _ _ hs) ?_
  rintro _ w8 ⟨rfl, hw⟩
  have hB := hB.carry hw; have hs := hs.carry hw; have bx1 := bx1.carry hw
  obtain ⟨a, b, c, hc, hd⟩ := cnt_cases s
  rw [hc]
  refine L.val (x_mv (v := _) rfl) rfl ?_
  refine L.val (x_ext (v := .int _ _) rfl rfl) rfl ?_
  refine L.val (x_ext (v := .int _ _) rfl rfl) rfl ?_
  refine L.val (x_ext (v := .bool _) rfl rfl) rfl ?_
  refine L.val (x_as (v := .int _ _) rfl) rfl ?_
  refine L.val (x_as (v := .int _ _) rfl) rfl ?_
  refine L.val (x_as (v := .bool _) rfl) rfl ?_
  refine L.nil ?_
  refine thn_n ?_
  refine W.seq ?_
  refine W.block ?_
  refine W.seq ?_
  refine W.region ?_
  refine L.val (x_mv (v := .bool _) rfl) rfl ?_
  refine L.val (x_not rfl) rfl ?_
  refine L.val (x_as (v := .bool _) rfl) rfl ?_
  refine L.nil ?_
  refine thn_n ?_
  refine W.cond (b := _) rfl (fun g14 => ?_) (fun g14 => ?_)
  ·have h14 := (not_t g14)
   refine W.seq ?_
   refine W.region ?_
   refine L.val (x_as (v := .int _ _) rfl) rfl ?_
   refine L.nil ?_
   refine thn_n ?_
   refine W.ret (blk_r (thn_r (fin_mk (.inr rfl) ?_)))
   exact ⟨vi (by rcases hd with h | h; rw [h.2.2.2] at g14; cases g14; unfold checkS; rw [if_pos (by omega)]), hB⟩
  ·have h14 := (not_f g14)
   refine W.seq ?_
   refine W.region ?_
   refine L.val (x_mv (v := .int _ _) rfl) rfl ?_
   refine L.val (x_gtr rfl rfl) rfl ?_
   refine L.val (x_as (v := .bool _) rfl) rfl ?_
   refine L.nil ?_
   refine thn_n ?_
   refine W.cond (b := _) rfl (fun g17 => ?_) (fun g17 => ?_)
   ·have h17 := of_decide_eq_true g17
    refine W.seq ?_
    refine W.region ?_
    refine L.val (x_as (v := .int _ _) rfl) rfl ?_
    refine L.nil ?_
    refine thn_n ?_
    refine W.ret (blk_r (thn_r (fin_mk (.inr rfl) ?_)))
    exact ⟨vi (by rcases hd with h | h; unfold checkS; rw [if_neg (by omega), if_pos (by omega)]; rw [h.2.2.2] at g14; cases g14), hB⟩
   ·have h17 := dlt_f g17
    refine W.seq ?_
    refine W.region ?_
    refine L.val (x_ldn (vs := cs) kcheck_ag25 rfl hlen (bx1.row hlen)) rfl ?_
    refine L.ret (x_call kcheck_en65 rfl) rfl (all_ok 66 fitsS 400 kcheck_en66 (fun A s cs w h hm => fits_ok A s cs w h (by have := parts_le s; omega)) _ s (Nat.lt_succ_self _) (by rcases hd with h | h; omega; rw [h.2.2.2] at g14; cases g14) A cs _ hs) ?_
    rintro _ w20 ⟨rfl, hw⟩
    have hB := hB.carry hw; have hs := hs.carry hw; have bx1 := bx1.carry hw
    refine L.val (x_not rfl) rfl ?_
    refine L.val (x_as (v := .bool _) rfl) rfl ?_
    refine L.nil ?_
    refine thn_n ?_
    refine W.cond (b := _) rfl (fun g21 => ?_) (fun g21 => ?_)
    ·have h21 := (not_t g21)
     refine W.seq ?_
     refine W.region ?_
     refine L.val (x_as (v := .int _ _) rfl) rfl ?_
     refine L.nil ?_
     refine thn_n ?_
     refine W.ret (blk_r (thn_r (fin_mk (.inr rfl) ?_)))
     exact ⟨vi (by rcases hd with h | h; unfold checkS; rw [if_neg (by omega), if_neg (by omega), if_pos h21]; rw [h.2.2.2] at g14; cases g14), hB⟩
    ·have h21 := (not_f g21)
     refine W.skip ?_
     refine blk_n ?_
     refine thn_n ?_
     refine W.seq ?_
     refine W.region ?_
     refine L.val (x_as (v := .int _ _) rfl) rfl ?_
     refine L.nil ?_
     refine thn_n ?_
     refine W.ret (fin_mk (.inr rfl) ?_)
     exact ⟨vi (by rcases hd with h | h; unfold checkS; rw [if_neg (by omega), if_neg (by omega), if_neg (by rw [h21]; simp)]; rw [h.2.2.2] at g14; cases g14), hB⟩
def sizeS (s : Sh) : Int := if s.size ≤ 400 then s.size else 401
theorem sizeL_ok (A : Nat → Prop) (s : Sh) (cs : List Value) (w : World) (hs : ShC A w cs s) :
    Ret Try.prog 41 #[.agg cs.toArray] w fun v w' => v = .int .i64 (sizeS s) ∧ Bel w w' := by
  have hlen := hs.len
  refine ret_of_W Try.func41 rfl (Nat.le_of_ble_eq_true rfl) (res1 rfl) ?_
  have hB := Gr.refl (fun _ => False) w
  refine W.seq ?_
  refine W.region ?_
  refine L.box (cs := cs) rfl rfl (fun w1 bx1 hw hz1 => ?_)
  have hB := hB.carry hw; have hs := hs.carry hw
  refine L.val (x_as (v := .int _ _) rfl) rfl ?_
  refine L.nil ?_
  refine thn_n ?_
  refine W.seq ?_
  refine W.region ?_
  refine L.val (x_ldn (vs := cs) kcheck_ag25 rfl hlen (bx1.row hlen)) rfl ?_
  refine L.ret (x_call kcheck_en64 rfl) rfl (count_ok A s _ _ hs) ?_
  rintro _ w8 ⟨rfl, hw⟩
  have hB := hB.carry hw; have hs := hs.carry hw; have bx1 := bx1.carry hw
  obtain ⟨a, b, c, hc, hd⟩ := cnt_cases s
  rw [hc]
  refine L.val (x_mv (v := _) rfl) rfl ?_
  refine L.val (x_ext (v := .int _ _) rfl rfl) rfl ?_
  refine L.val (x_ext (v := .int _ _) rfl rfl) rfl ?_
  refine L.val (x_ext (v := .bool _) rfl rfl) rfl ?_
  refine L.val (x_as (v := .int _ _) rfl) rfl ?_
  refine L.val (x_as (v := .int _ _) rfl) rfl ?_
  refine L.val (x_as (v := .bool _) rfl) rfl ?_
  refine L.nil ?_
  refine thn_n ?_
  refine W.seq ?_
  refine W.region ?_
  refine L.val (x_mv (v := .int _ _) rfl) rfl ?_
  refine L.val (x_as (v := .int _ _) rfl) rfl ?_
  refine L.nil ?_
  refine thn_n ?_
  refine W.ret (fin_mk (.inr rfl) ?_)
  exact ⟨vi (by unfold sizeS; split <;> omega), hB⟩
end Go.Gx
