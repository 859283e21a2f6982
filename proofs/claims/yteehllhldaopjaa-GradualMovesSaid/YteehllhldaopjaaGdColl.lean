/- slices.Values, slices.Collect, slices.AppendSeq over strings: what came is what is held. Conditions: none. -/
import Derived.Test.YteehllhldaopjaaGdSeq
import Derived.Test.YteehllhldaopjaaGdSh
namespace Go.Gx
open Go.Proofs
theorem kcoll_el9 : elT Try.prog 9 1 = true := by kernel_rfl
theorem kcoll_oc22 : oneCellT Try.prog 22 = true := by kernel_rfl
theorem kcoll_oc9 : oneCellT Try.prog 9 = true := by kernel_rfl
theorem kcoll_sz22 : (Try.prog.info? 22).map (·.size) = some 1 := by kernel_rfl
theorem kcoll_sz9 : (Try.prog.info? 9).map (·.size) = some 1 := by kernel_rfl
theorem gr_of_below {n₀ : Nat} {a b : World} (h : RowKit.Below n₀ a b) : Gr (fun k => n₀ ≤ k) a b := ⟨h.os, h.tape, h.output, h.size, fun k _ hn => h.block k (by omega)⟩
theorem vals_ok (A : Nat → Prop) (l Bs n₀ : Nat) (v : Value) (ss : List Str) (hA : ∀ k, n₀ ≤ k → A k) (J Jx : List Str → World → Prop)
    (hY : ∀ pre x W, J pre W → pre.length < ss.length → YieldAt Fence.wide 0 Try.prog l #[S x] W fun e W' =>
      (e = .returned (.bool true) ∧ J (pre ++ [x]) W' ∧ RowKit.Below n₀ W W') ∨ (e = .returned (.bool false) ∧ Jx (pre ++ [x]) W'))
    (w : World) (hBs : w.cell? ⟨Bs, 0, none⟩ = some v) (hs : StrsAt A w v ss) (h0 : J [] w) :
    Ret Try.prog 141 #[.func (.yield l) #[] #[], .pointer (some ⟨Bs, 0, none⟩)] w fun _ W' => (∃ xs, xs = ss ∧ J xs W') ∨ (∃ pre : List Str, True ∧ Jx pre W') := by
  obtain ⟨p, cap, rfl, h1, h2, h3, hL, hh⟩ := id hs
  clear hh
  refine ret_of_W Try.func141 rfl (Nat.le_of_ble_eq_true rfl) (res0 rfl) ?_
  refine W.seq ?_
  refine W.region ?_
  refine L.val (x_ld (v := .slice _ _ _) kcoll_oc22 rfl hBs) rfl ?_
  refine L.val (x_len_slice Try.underlying22 rfl) rfl ?_
  refine L.val (x_mv (v := .int _ _) rfl) rfl ?_
  refine L.nil ?_
  refine thn_n ?_
  refine W.block ?_
  refine W.loop (fun m' E w' => ∃ (k : Nat), m' = ss.length - k ∧ E 0 = .func (.yield l) #[] #[] ∧ E 5 = .slice p ss.length cap ∧ E 6 = .int .i64 (ss.length : Nat) ∧ E 7 = .int .i64 (k : Nat) ∧ (k ≤ ss.length) ∧ (J (ss.take k) w') ∧ (StrsAt A w' (.slice p ss.length cap) ss)) (ss.length) ?_ ?_
  ·exact ⟨0, by omega, by first | rfl | exact vi (by omega), by first | rfl | exact vi (by omega), by first | rfl | exact vi (by omega), by first | rfl | exact vi (by omega), (by first | assumption | omega | rfl), (by simpa using h0), (by first | assumption | omega | rfl)⟩
  ·rintro _ E wL8 ⟨k, em, e0, e5, e6, e7, hk, hJ, hs⟩
   rw [upd_self e0, upd_self e5, upd_self e6, upd_self e7]
   refine W.seq ?_
   refine W.region ?_
   refine L.val (x_lss rfl rfl) rfl ?_
   refine L.nil ?_
   refine thn_n ?_
   refine W.seq ?_
   refine W.cond (b := _) rfl (fun g8 => ?_) (fun g8 => ?_)
   ·have h8 := of_decide_eq_true g8
    have hlt : k < ss.length := by omega
    have hc := hs.elem hlt
    obtain ⟨b, o, rfl, hc⟩ := hc
    refine W.skip ?_
    refine thn_n ?_
    refine W.seq ?_
    refine W.block ?_
    refine W.seq ?_
    refine W.region ?_
    refine L.val (x_ia1  Try.underlying22 kcoll_sz9 rfl rfl rfl (by omega)) rfl ?_
    refine L.val (x_ld (v := S _) kcoll_oc9 rfl hc) rfl ?_
    refine L.val (x_as (v := S _) rfl) rfl ?_
    refine L.nil ?_
    refine thn_n ?_
    refine W.seq ?_
    refine W.wide (m := 1) (WI.region ?_)
    refine LI.val (fun _ => trivial) (fun _ h => by cases h) (x_mv (v := .func _ _ _) rfl) rfl ?_
    refine LI.val (fun _ => trivial) (fun _ h => by cases h) (x_mv (v := S _) rfl) rfl ?_
    refine LI.yield (R := fun e W' => ∃ z, e = .returned (.bool z) ∧ (z = true → J (ss.take k ++ [ss.getD k []]) W' ∧ RowKit.Below n₀ wL8 W') ∧ (z = false → Jx (ss.take k ++ [ss.getD k []]) W')) (fun _ => trivial) rfl rfl rfl rfl ((hY (ss.take k) (ss.getD k []) wL8 hJ (by rw [List.length_take]; omega)).mono ?_) (fun e w' ⟨z, h, _⟩ => ⟨_, h⟩) ?_
    · rintro e W' (⟨rfl, a1, a2⟩ | ⟨rfl, a1⟩)
      · exact ⟨true, rfl, fun _ => ⟨a1, a2⟩, fun h => by cases h⟩
      · exact ⟨false, rfl, fun h => (by cases h), fun _ => a1⟩
    rintro u w13 ⟨z, hz, r1, r2⟩
    cases hz
    refine LI.val (fun _ => trivial) (fun _ h => by cases h) (x_not rfl) rfl ?_
    refine LI.nil ?_
    refine thn_n ?_
    refine W.cond (b := _) rfl (fun g14 => ?_) (fun g14 => ?_)
    ·have h14 := (not_t g14)
     refine W.ret (blk_r (thn_r (thn_r (blk_r (fin_mk (.inr rfl) ?_)))))
     exact .inr ⟨_, trivial, r2 (by simpa using g14)⟩
    ·have h14 := (not_f g14)
     have h14 := g14
     have hs := hs.carryR (gr_of_below (r1 (by simpa using h14)).2) hA
     refine W.skip ?_
     refine blk_n ?_
     refine thn_n ?_
     refine W.region ?_
     refine L.val (x_add rfl rfl (wr64 (by omega))) rfl ?_
     refine L.val (x_mv (v := .int _ _) rfl) rfl ?_
     refine L.nil ?_
     refine thn_n ⟨rfl, ?_⟩
     refine ⟨_, ?_, k + 1, rfl, by first | rfl | exact vi (by omega), by first | rfl | exact vi (by omega), by first | rfl | exact vi (by omega), by first | rfl | exact vi (by omega), (by first | assumption | omega | rfl), (by rw [take_snoc (d := []) hlt]; exact (r1 (by simpa using h14)).1), (by first | assumption | omega | rfl)⟩
     omega
   ·have h8 := dlt_f g8
    refine W.exit (thn_x (thn_x (blk_hit ?_)))
    refine fin_mk (.inl rfl) ?_
    exact .inl ⟨ss, rfl, by rw [show k = ss.length by omega, List.take_length] at hJ; exact hJ⟩
theorem vals_seq (A : Nat → Prop) (Bs n₀ : Nat) (v : Value) (ss : List Str) (w : World) (hA : ∀ k, n₀ ≤ k → A k) (hBs : Bs < w.heap.size) (hc : w.cell? ⟨Bs, 0, none⟩ = some v) (hs : StrsAt A w v ss) (hAw : ∀ k, w.heap.size ≤ k → A k) :
    SeqStopsK Fence.wide 1 Try.prog 141 #[.pointer (some ⟨Bs, 0, none⟩)] (fun x : Str => #[S x]) (RowKit.Below n₀) (fun xs => xs = ss) (fun _ => True) ss.length w := by
  intro l J Jx w1 hW _ _ hY h0
  have hs1 := hs.carryR (gr_of_below hW) hAw
  have hc1 := (hW.cell (p := ⟨Bs, 0, none⟩) hBs).trans hc
  rw [show (#[Value.func (.yield l) #[] #[]] ++ #[Value.pointer (some ⟨Bs, 0, none⟩)] : Array Value) = #[.func (.yield l) #[] #[], .pointer (some ⟨Bs, 0, none⟩)] from rfl]
  refine callsIn_wide.2 (Calls.mono (vals_ok A l Bs n₀ v ss hA J Jx hY w1 hc1 hs1 h0) ?_)
  rintro e w2 ⟨u, rfl, h⟩
  exact ⟨⟨u, rfl⟩, h⟩
theorem seq_ok (gf : Nat) (lb : Array Value) (ss : List Str) (w : World) (eg : Go.Proofs.Enters Try.prog gf) (hl : ss.length ≤ 100000000000)
    (hseq : SeqStopsK Fence.wide 1 Try.prog gf lb (fun x : Str => #[S x]) (RowKit.Below w.heap.size) (fun xs => xs = ss) (fun _ => True) ss.length w) :
    Ret Try.prog 163 #[.slice none 0 0, .func (.func gf) #[] lb] w fun v w' => Own w' (w.heap.size + 1) 9 1 v ss.length (ss.map S) ∧ (ss = [] → v = .slice none 0 0) ∧ Bel w w' := by
  refine ret_of_W_marks Try.func163 rfl (Nat.le_of_ble_eq_true rfl) (res1 rfl) ?_
  have hB := Gr.refl (fun _ => False) w
  refine W.seq ?_
  refine W.region ?_
  refine L.box (cs := _) rfl rfl (fun w2 bx2 hw hz2 => ?_)
  have hB := hB.carry hw
  refine L.val (x_as (v := _) rfl) rfl ?_
  refine L.nil ?_
  refine thn_n ?_
  refine W.seq ?_
  refine W.seq ?_
  refine W.region ?_
  refine L.val (x_mv (v := _) rfl) rfl ?_
  refine L.nil ?_
  refine thn_n ?_
  refine W.block ?_
  refine W.wide (m := 2) (WI.rangeF (by decide) rfl eg hseq (Bel.below hB) (by omega)
    (fun pre w' => ∃ v, Box w' w.heap.size 22 [v] ∧ Own w' (w.heap.size + 1) 9 1 v pre.length (pre.map S) ∧ RowKit.Below w.heap.size w w' ∧ (pre = [] → v = .slice none 0 0)) ?_ ⟨_, bx2, own_nil, Bel.below hB, fun _ => rfl⟩ rfl rfl ?_ ?_)
  · rintro pre a b row ⟨v, h1, h2, h3, h4⟩ hg hr
    have hg' := gr_of_grown hg
    refine ⟨v, h1.carryR hg' (fun e => ?_), h2.carryR hg' (fun j hj e => ?_), h3.grown hg h3.size (fun k e => by have := (hr k e).1; omega), h4⟩
    · have := (hr _ e.symm).1; omega
    · obtain ⟨_, o, ho, hn⟩ := hr _ e.symm
      rw [h2.cells hj ho] at hn; cases hn
  · rintro l pre x w5 ⟨v, h1, h2, h3, -⟩ hlen
    refine WI.block (WI.region ?_)
    refine LI.val (fun _ => trivial) (fun _ h => by cases h) (x_ld (v := v) kcoll_oc22 rfl (h1.cell (i := 0) rfl)) rfl ?_
    refine LI.val (fun _ => trivial) (fun _ h => by cases h) (x_mv (v := S x) rfl) rfl ?_
    refine LI.val (fun _ => trivial) (fun _ h => by cases h) (x_bs (sz := 1) (cells := [S x]) Try.underlying22 kcoll_el9 rfl rfl rfl) rfl ?_
    have b5 := bel_alloc w5 (.cells [S x].toArray 9)
    have h1 := h1.carry b5
    have h2 := h2.carry b5
    have bx := box_alloc w5 9 [S x]
    obtain ⟨v', w6, hrun, a1, a2, a3, a4⟩ := append_run (ty := 22) (a := ⟨w5.heap.size, 0, none⟩) (m := 1) 1 (news := [S x]) Try.underlying22 kcoll_el9 h2 rfl bx.news (by simp [Value.oneCell', S]) (by omega) (by have := h3.size; simp; omega)
    refine LI.val (fun _ => trivial) (fun _ h => by cases h) (x_append rfl rfl hrun) rfl ?_
    have hbl := h1.lt
    have hne : ∀ j, some j = v.ownBlock → w.heap.size + 1 ≤ j := fun j hj => (h2.lt hj).1
    have h1 := h1.carryR a2 (fun e => by have := hne _ e; omega)
    refine LI.skip (fun _ => trivial) (fun _ h => by cases h) (x_st (v := v') kcoll_sz22 rfl rfl (by rcases a1.open with ⟨rfl, _⟩ | ⟨_, _, _, rfl, _⟩ <;> rfl) (h1.cell (i := 0) rfl) (h1.free 0)) ?_
    have g7 : Gr (fun k => w.heap.size ≤ k) w5 (w6.setCell ⟨w.heap.size, 0, none⟩ v') := ((b5.mono fun _ _ f => f.elim).trans (a2.mono fun k _ hk => by have := hne k hk; omega)).trans ((gr_setCell w6 ⟨w.heap.size, 0, none⟩ v').mono fun k _ hk => by have : k = w.heap.size := hk; omega)
    have hB7 := below_of_gr g7 h3.size
    refine LI.nil ⟨rfl, ?_, hB7, _, h1.set 0 v', ?_, h3.trans hB7, fun h => by simp at h⟩
    · exact ((KeepsOthers.alloc w5 _).trans (keeps_of_gr a2 fun k o hk ho => h2.cells hk ho)).trans (KeepsOthers.setCell _ _ _)
    · have := Own.carryR a1 (gr_setCell w6 ⟨w.heap.size, 0, none⟩ v') (fun j hj e => by have := (a1.lt hj).1; have e : j = w.heap.size := e; omega)
      simpa using this
  rintro Db xs w5 hD rfl ⟨v, h1, h2, h3, h4⟩ hK
  refine blk_n ?_
  refine thn_n ?_
  refine W.seq ?_
  refine W.region ?_
  refine L.val (x_ld (v := v) kcoll_oc22 rfl (h1.cell (i := 0) rfl)) rfl ?_
  refine L.val (x_as (v := _) rfl) rfl ?_
  refine L.nil ?_
  refine thn_n ?_
  refine W.ret (finM_mk (.inr rfl) ?_)
  exact ⟨Db, rfl, hK, Own.carryR h2 (gr_putObj _ _ _) (fun j hj e => by have e : j = Db := e; subst e; have := h2.cells hj hK; cases this), h4, (bel_of h3).set (gr_putObj _ _ _) (by omega)⟩
end Go.Gx
