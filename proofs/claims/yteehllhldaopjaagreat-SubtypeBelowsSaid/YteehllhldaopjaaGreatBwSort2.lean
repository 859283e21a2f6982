/- Records and sums in their one order: the program's walk. Conditions: none. -/
import Derived.Test.YteehllhldaopjaaGreatBwCheck
namespace Go.Gx
open Go.Proofs Go.Sort
theorem ksort2_ag25 : aggT Tryz.prog 25 5 = true := by kernel_rfl
theorem ksort2_el25 : elT Tryz.prog 25 5 = true := by kernel_rfl
theorem ksort2_el3 : elT Tryz.prog 3 1 = true := by kernel_rfl
theorem ksort2_el9 : elT Tryz.prog 9 1 = true := by kernel_rfl
theorem ksort2_en122 : Go.Proofs.Enters Tryz.prog 122 := Go.Proofs.enters_of Tryz.func122 (by kernel_rfl) rfl
theorem ksort2_en123 : Go.Proofs.Enters Tryz.prog 123 := Go.Proofs.enters_of Tryz.func123 (by kernel_rfl) rfl
theorem ksort2_en72 : Go.Proofs.Enters Tryz.prog 72 := Go.Proofs.enters_of Tryz.func72 (by kernel_rfl) rfl
theorem ksort2_fo25_0 : fieldOff Tryz.prog 25 0 = some 0 := by kernel_rfl
theorem ksort2_fo25_1 : fieldOff Tryz.prog 25 1 = some 1 := by kernel_rfl
theorem ksort2_fo25_2 : fieldOff Tryz.prog 25 2 = some 2 := by kernel_rfl
theorem ksort2_fo25_3 : fieldOff Tryz.prog 25 3 = some 3 := by kernel_rfl
theorem ksort2_fo25_4 : fieldOff Tryz.prog 25 4 = some 4 := by kernel_rfl
theorem ksort2_mixed : Tryz.prog.follows .mixedOrders = true := by kernel_rfl
theorem ksort2_oc22 : oneCellT Tryz.prog 22 = true := by kernel_rfl
theorem ksort2_oc23 : oneCellT Tryz.prog 23 = true := by kernel_rfl
theorem ksort2_oc3 : oneCellT Tryz.prog 3 = true := by kernel_rfl
theorem ksort2_oc9 : oneCellT Tryz.prog 9 = true := by kernel_rfl
theorem ksort2_si25 : structInfo Tryz.prog 25 = some ([(0, 1), (1, 1), (2, 1), (3, 1), (4, 1)], [Value.int .i64 0, S [], S [], Value.slice none 0 0, Value.slice none 0 0]) := by kernel_rfl
theorem ksort2_sz22 : (Tryz.prog.info? 22).map (·.size) = some 1 := by kernel_rfl
theorem ksort2_sz23 : (Tryz.prog.info? 23).map (·.size) = some 1 := by kernel_rfl
theorem ksort2_sz25 : (Tryz.prog.info? 25).map (·.size) = some 5 := by kernel_rfl
theorem ksort2_sz3 : (Tryz.prog.info? 3).map (·.size) = some 1 := by kernel_rfl
theorem ksort2_sz9 : (Tryz.prog.info? 9).map (·.size) = some 1 := by kernel_rfl
theorem ksort2_zr25 : (Tryz.prog.info? 25).bind (·.zero) = some (Value.agg [Value.int .i64 0, S [], S [], Value.slice none 0 0, Value.slice none 0 0].toArray) := by kernel_rfl
theorem ksort2_zr3 : (Tryz.prog.info? 3).bind (·.zero) = some (Value.int .i64 0) := by kernel_rfl
theorem fill_step {c : Array Int} {n i : Nat} (h : c.size = n ∧ i ≤ n ∧ ∀ j, j < i → c[j]! = (j : Int)) (hi : i < n) : (c.setIfInBounds i (i : Int)).size = n ∧ i + 1 ≤ n ∧ ∀ j, j < i + 1 → (c.setIfInBounds i (i : Int))[j]! = (j : Int) := by
  refine ⟨by simp [h.1], by omega, fun j hj => ?_⟩
  have h1 := h.1
  rw [getElem!_pos (c.setIfInBounds i (i : Int)) j (by simp; omega), Array.getElem_setIfInBounds]
  split
  · next e => rw [e]
  · rw [← h.2.2 j (by omega), getElem!_pos c j (by omega)]
set_option maxHeartbeats 4000000 in
theorem sorted0 : ∀ (N : Nat) (s : Sh), SizeOf.sizeOf s < N → s.size ≤ 400 → s.allB fitsS = true → ∀ (A : Nat → Prop) (cs : List Value) (w : World), ShC A w cs s →
    Ret Tryz.prog 72 #[.agg cs.toArray] w fun v w' => ∃ cs', v = .agg cs'.toArray ∧ ShC (fun k => k < w.heap.size) w' cs' s.sort ∧ Bel w w' := by
  intro N
  induction N with
  | zero => intro s h; omega
  | succ N ih =>
    intro s hN hM hfit A0 cs w hs0
    obtain ⟨A, hs, hU⟩ : ∃ A : Nat → Prop, ShC A w cs s ∧ (∀ k, w.heap.size ≤ k → A k) := ⟨_, hs0.up, fun _ => .inr⟩
    clear hs0
    obtain ⟨vn, vp, rfl, hn, hp, hof, hnm⟩ := hs.inv
    obtain ⟨p, cap, row, rfl, p1, p2, p3, hr⟩ := hp
    obtain ⟨pn, capn, rfl, n1, n2, n3, hL, -⟩ := id hn
    have hple := parts_le s
    have hfs : s.names = [] ∨ (s.names.length = s.parts.length ∧ nodup s.names = true) := fits_names (by rw [Sh.allB_eq] at hfit; simp at hfit; exact hfit.1)
    have hfp : allL fitsS s.parts = true := by rw [Sh.allB_eq] at hfit; simp at hfit; exact hfit.2
    have he1 : ∀ x, (Value.int .i64 x).oneCell' = true := fun _ => rfl
    clear hs
    refine ret_of_W_R Tryz.func72 rfl (Nat.le_of_ble_eq_true rfl) ?_
    have hB := Gr.refl (fun _ => False) w
    refine W.seq ?_
    refine W.region ?_
    refine L.box (cs := _) rfl rfl (fun w1 bx1 hw hz1 => ?_)
    have hB := hB.carry hw; have hr := hr.carry hw; have hn := hn.carry hw
    refine L.alloc (cs := [Value.int .i64 0, S [], S [], Value.slice none 0 0, Value.slice none 0 0]) ksort2_zr25 rfl rfl (fun w2 bx2 hw hz2 => ?_)
    have hB := hB.carry hw; have hr := hr.carry hw; have hn := hn.carry hw; have bx1 := bx1.carry hw
    refine L.nil ?_
    refine thn_n ?_
    refine W.seq ?_
    refine W.region ?_
    refine L.val (x_fa ksort2_fo25_0 rfl) rfl ?_
    refine L.val (x_ld (v := .int _ _) ksort2_oc3 rfl (bx1.cell0 rfl)) rfl ?_
    refine L.val (x_fa ksort2_fo25_1 rfl) rfl ?_
    refine L.val (x_ld (v := S _) ksort2_oc9 rfl (bx1.cell0 rfl)) rfl ?_
    refine L.val (x_fa ksort2_fo25_2 rfl) rfl ?_
    refine L.val (x_ld (v := S _) ksort2_oc9 rfl (bx1.cell0 rfl)) rfl ?_
    refine L.val (x_build (cells := [.int _ _, S _, S _, .slice _ _ _, .slice _ _ _]) ksort2_si25 rfl rfl) rfl ?_
    refine L.alloc (cs := [Value.int .i64 0, S [], S [], Value.slice none 0 0, Value.slice none 0 0]) ksort2_zr25 rfl rfl (fun w3 bx3 hw hz3 => ?_)
    have hB := hB.carry hw; have hr := hr.carry hw; have hn := hn.carry hw; have bx1 := bx1.carry hw; have bx2 := bx2.carry hw
    refine L.setRow ksort2_ag25 rfl rfl bx3 rfl rfl (by simp [Value.oneCell', S]) (fun wl11 bx3 hw hzl11 => ?_)
    have hsz := hB.size
    have hB := hB.set hw (by omega); have hr := hr.carryR hw (fun k e => hU k (by have : k = _ := e; omega)); have hn := hn.carryR hw (fun k e => hU k (by have : k = _ := e; omega)); have bx1 := bx1.carryR hw (by omega); have bx2 := bx2.carryR hw (by omega)
    refine L.nil ?_
    refine thn_n ?_
    refine W.seq ?_
    refine W.region ?_
    refine L.val (x_fa ksort2_fo25_4 rfl) rfl ?_
    refine L.val (x_ld (v := .slice _ _ _) ksort2_oc23 rfl (bx1.cell0 rfl)) rfl ?_
    refine L.val (x_len_slice Tryz.underlying23 rfl) rfl ?_
    refine L.mk1 (z := .int .i64 0) s.parts.length Tryz.underlying106 ksort2_el3 ksort2_zr3 rfl rfl rfl (by omega) rfl (fun w18 bx18 hw hz18 => ?_)
    have hob3 := hB.size
    have hB := hB.carry hw; have hr := hr.carry hw; have hn := hn.carry hw; have bx1 := bx1.carry hw; have bx2 := bx2.carry hw; have bx3 := bx3.carry hw
    obtain ⟨ob, hob⟩ : ∃ ob, ob = wl11.heap.size := ⟨_, rfl⟩
    rw [← hob] at bx18 ⊢
    have hO : Row (Value.int .i64) w18 ob 0 3 [] (Array.replicate s.parts.length 0) [] := ⟨rfl, by simpa using bx18⟩
    obtain ⟨b3, hb3⟩ : ∃ b3, b3 = w2.heap.size := ⟨_, rfl⟩
    rw [← hb3] at bx3 ⊢
    obtain ⟨b2, hb2⟩ : ∃ b2, b2 = w1.heap.size := ⟨_, rfl⟩
    rw [← hb2] at bx2 ⊢
    have z1 : w.heap.size < b2 ∧ b2 < b3 ∧ b3 < ob := by have e : wl11.heap.size = w3.heap.size := hzl11; omega
    obtain ⟨base, hbase⟩ : ∃ base, base = w18.heap.size := ⟨_, rfl⟩
    have z2 : ob < base := by omega
    clear hb2 hb3 hob hob3 hz1 hz2 hz3 hzl11 hz18
    refine L.val (x_as (v := .slice _ _ _) rfl) rfl ?_
    refine L.nil ?_
    refine thn_n ?_
    refine W.seq ?_
    refine W.seq ?_
    refine W.region ?_
    refine L.val (x_mv (v := .slice _ _ _) rfl) rfl ?_
    refine L.val (x_len_slice Tryz.underlying106 rfl) rfl ?_
    refine L.val (x_mv (v := .int _ _) rfl) rfl ?_
    refine L.nil ?_
    refine thn_n ?_
    refine W.block ?_
    refine W.loop (fun m' E w' => ∃ (i : Nat) (c : Array Int), m' = s.parts.length - i ∧ E 1 = .pointer (some ⟨w.heap.size, 0, none⟩) ∧ E 2 = .pointer (some ⟨b2, 0, none⟩) ∧ E 3 = .pointer (some ⟨b3, 0, none⟩) ∧ E 4 = .slice (some ⟨ob, 0, none⟩) s.parts.length s.parts.length ∧ E 20 = .int .i64 (s.parts.length : Nat) ∧ E 21 = .int .i64 (i : Nat) ∧ (Bel w w') ∧ (ShRow A w' p row s.parts) ∧ (StrsAt A w' (.slice pn s.names.length capn) s.names) ∧ (Box w' w.heap.size 25 [.int .i64 s.kind, S s.of, S s.name, .slice pn s.names.length capn, .slice p s.parts.length cap]) ∧ (Box w' b2 25 [.int .i64 0, S [], S [], .slice none 0 0, .slice none 0 0]) ∧ (Box w' b3 25 [.int .i64 s.kind, S s.of, S s.name, .slice none 0 0, .slice none 0 0]) ∧ (Row (Value.int .i64) w' ob 0 3 [] c []) ∧ (base ≤ w'.heap.size) ∧ (c.size = s.parts.length ∧ i ≤ s.parts.length ∧ ∀ j, j < i → c[j]! = (j : Int))) (s.parts.length) ?_ ?_
    ·exact ⟨0, Array.replicate s.parts.length 0, by omega, by first | rfl | exact vi (by omega), by first | rfl | exact vi (by omega), by first | rfl | exact vi (by omega), by first | rfl | exact vi (by omega), by first | rfl | exact vi (by omega), by first | rfl | exact vi (by omega), (by first | assumption | omega | rfl), (by first | assumption | omega | rfl), (by first | assumption | omega | rfl), (by first | assumption | omega | rfl), (by first | assumption | omega | rfl), (by first | assumption | omega | rfl), (by first | assumption | omega | rfl), (by omega), (by exact ⟨by simp, by omega, fun j h => absurd h (by omega)⟩)⟩
    ·rintro _ E wL22 ⟨i, c, em, e1, e2, e3, e4, e20, e21, hB, hr, hn, bx1, bx2, bx3, hO, hsz, hc⟩
     rw [upd_self e1, upd_self e2, upd_self e3, upd_self e4, upd_self e20, upd_self e21]
     refine W.seq ?_
     refine W.region ?_
     refine L.val (x_lss rfl rfl) rfl ?_
     refine L.nil ?_
     refine thn_n ?_
     refine W.seq ?_
     refine W.cond (b := _) rfl (fun g22 => ?_) (fun g22 => ?_)
     ·have h22 := of_decide_eq_true g22
      refine W.skip ?_
      refine thn_n ?_
      refine W.seq ?_
      refine W.block ?_
      refine W.seq ?_
      refine W.region ?_
      refine L.val (x_mv (v := .int _ _) rfl) rfl ?_
      refine L.val (x_as (v := .int _ _) rfl) rfl ?_
      refine L.nil ?_
      refine thn_n ?_
      refine W.region ?_
      refine L.val (x_mv (v := .slice _ _ _) rfl) rfl ?_
      refine L.val (x_mv (v := .int _ _) rfl) rfl ?_
      refine L.val (x_mv (v := .int _ _) rfl) rfl ?_
      refine L.val (x_ia1 (j := i) Tryz.underlying106 ksort2_sz3 rfl rfl (by omega) (by omega)) rfl ?_
      refine L.setAt (enc := (Value.int .i64)) (j := i) ksort2_sz3 rfl rfl (he1 _) hO (by omega) (fun wl27 hO hsl27 hw hzl27 => ?_)
      have hsz := hB.size
      have hB := hB.set hw (by omega); have hr := hr.carryR hw (fun k e => hU k (by have : k = _ := e; omega)); have hn := hn.carryR hw (fun k e => hU k (by have : k = _ := e; omega)); have bx1 := bx1.carryR hw (by omega); have bx2 := bx2.carryR hw (by omega); have bx3 := bx3.carryR hw (by omega)
      refine L.nil ?_
      refine blk_n ?_
      refine thn_n ?_
      refine W.region ?_
      refine L.val (x_add rfl rfl (wr64 (by omega))) rfl ?_
      refine L.val (x_mv (v := .int _ _) rfl) rfl ?_
      refine L.nil ?_
      refine thn_n ⟨rfl, ?_⟩
      refine ⟨_, ?_, i + 1, c.setIfInBounds i (i : Int), rfl, by first | rfl | exact vi (by omega), by first | rfl | exact vi (by omega), by first | rfl | exact vi (by omega), by first | rfl | exact vi (by omega), by first | rfl | exact vi (by omega), by first | rfl | exact vi (by omega), (by first | assumption | omega | rfl), (by first | assumption | omega | rfl), (by first | assumption | omega | rfl), (by first | assumption | omega | rfl), (by first | assumption | omega | rfl), (by first | assumption | omega | rfl), (by first | assumption | omega | rfl), (by have := hzl27; omega), (by exact fill_step hc (by omega))⟩
      omega
     ·have h22 := dlt_f g22
      refine W.exit (thn_x (thn_x (blk_hit ?_)))
      refine thn_n ?_
      refine W.cut (fun D' E' w' => D' = [] ∧ ∃ idx : List Nat, E' 1 = .pointer (some ⟨w.heap.size, 0, none⟩) ∧ E' 2 = .pointer (some ⟨b2, 0, none⟩) ∧ E' 3 = .pointer (some ⟨b3, 0, none⟩) ∧ E' 4 = .slice (some ⟨ob, 0, none⟩) s.parts.length s.parts.length ∧ Bel w w' ∧ ShRow A w' p row s.parts ∧ StrsAt A w' (.slice pn s.names.length capn) s.names ∧ Box w' w.heap.size 25 [.int .i64 s.kind, S s.of, S s.name, .slice pn s.names.length capn, .slice p s.parts.length cap] ∧ Box w' b2 25 [.int .i64 0, S [], S [], .slice none 0 0, .slice none 0 0] ∧ Box w' b3 25 [.int .i64 s.kind, S s.of, S s.name, .slice none 0 0, .slice none 0 0] ∧ Row encN w' ob 0 3 [] idx.toArray [] ∧ base ≤ w'.heap.size ∧ Ordered s.names s.parts.length idx) ?_ ?_
      ·refine W.seq ?_
       refine W.region ?_
       refine L.val (x_fa ksort2_fo25_3 rfl) rfl ?_
       refine L.val (x_ld (v := .slice _ _ _) ksort2_oc22 rfl (bx1.cell0 rfl)) rfl ?_
       refine L.val (x_len_slice Tryz.underlying22 rfl) rfl ?_
       refine L.val (x_gtr rfl rfl) rfl ?_
       refine L.nil ?_
       refine thn_n ?_
       refine W.cond (b := _) rfl (fun g32 => ?_) (fun g32 => ?_)
       ·have h32 := of_decide_eq_true g32
        refine W.region ?_
        have hne : s.names ≠ [] := fun e => by rw [e] at h32; simp at h32
        obtain ⟨hnl, hnd⟩ := hfs.resolve_left hne
        obtain ⟨m, hm⟩ : ∃ m, s.parts.length = m + 1 := ⟨s.parts.length - 1, by omega⟩
        have hF := row_range hO hc.1 (fun j hj => hc.2.2 j (by omega))
        rw [hm] at hF
        have hF := fin_row hF
        have hC : Cmp Tryz.prog (encF m) 123 [.pointer (some ⟨w.heap.size, 0, none⟩)] (cfF s.names m) ob wL22.heap.size wL22 := ⟨Nat.le_refl _, fun w' g x y => clos_ok A w.heap.size x.val y.val _ _ _ _ _ s.names w' (bx1.carryR g (by omega)) (hn.carryR g (fun k e => hU k (by omega))) (by have := x.isLt; omega) (by have := y.isLt; omega)⟩
        refine L.val (x_mv (v := .slice _ _ _) rfl) rfl ?_
        refine L.val (x_mkfn rfl rfl) rfl ?_
        refine L.ret (x_call ksort2_en122 rfl) rfl (sortfunc_ok ksort2_en123 (fun _ => rfl) (swo_F s.names m) ob 0 s.parts.length s.parts.length _ [] [] (List.finRange (m + 1)).toArray _ hC hF (by simp [hm]) (by omega) (by omega)) ?_
        rintro _ w35 ⟨rfl, hg, d', hF', q1, q2⟩
        have hB := hB.set hg (by omega)
        have hr := hr.carryR hg (fun k e => hU k (by have e : k = ob := e; omega))
        have hn := hn.carryR hg (fun k e => hU k (by have e : k = ob := e; omega))
        have bx1 := bx1.carryR hg (by omega)
        have bx2 := bx2.carryR hg (by omega)
        have bx3 := bx3.carryR hg (by omega)
        have hszg := hg.size
        have hO : Row encN w35 ob 0 3 [] (d'.toList.map (·.val)).toArray [] := row_conv hF' (by simp)
        rw [hm] at q1 q2
        have hidx : Ordered s.names s.parts.length (d'.toList.map (·.val)) := by rw [hm]; exact ordered_of hne q1 q2
        refine L.nil ?_
        refine thn_n ?_
        first
          | exact ⟨rfl, _, rfl, rfl, rfl, rfl, hB, hr, hn, bx1, bx2, bx3, hO, by omega, hidx⟩
          | exact ⟨rfl, _, rfl, rfl, rfl, rfl, hB, hr, hn, bx1, bx2, bx3, row_range hO hc.1 (fun j hj => hc.2.2 j (by omega)), by omega, .refl _, fun _ => rfl, fun h => absurd (by have := h32; exact List.eq_nil_of_length_eq_zero (by omega)) h⟩
       ·have h32 := dlt_f g32
        refine W.skip ?_
        refine thn_n ?_
        first
          | exact ⟨rfl, _, rfl, rfl, rfl, rfl, hB, hr, hn, bx1, bx2, bx3, hO, by omega, hidx⟩
          | exact ⟨rfl, _, rfl, rfl, rfl, rfl, hB, hr, hn, bx1, bx2, bx3, row_range hO hc.1 (fun j hj => hc.2.2 j (by omega)), by omega, .refl _, fun _ => rfl, fun h => absurd (by have := h32; exact List.eq_nil_of_length_eq_zero (by omega)) h⟩
      ·rintro D E w36 ⟨rfl, idx, e1, e2, e3, e4, hB, hr, hn, bx1, bx2, bx3, hO, hsz, hidx⟩
       rw [upd_self e1, upd_self e2, upd_self e3, upd_self e4]
       have hlen := hidx.len
       have hG : Ge base w36 := hsz
       refine W.seq ?_
       refine W.seq ?_
       refine W.region ?_
       refine L.val (x_mv (v := .slice _ _ _) rfl) rfl ?_
       refine L.val (x_len_slice Tryz.underlying106 rfl) rfl ?_
       refine L.val (x_mv (v := .int _ _) rfl) rfl ?_
       refine L.nil ?_
       refine thn_n ?_
       refine W.block ?_
       refine W.loop (fun m' E w' => ∃ (k : Nat) (vN vP : Value), m' = s.parts.length - k ∧ E 1 = .pointer (some ⟨w.heap.size, 0, none⟩) ∧ E 2 = .pointer (some ⟨b2, 0, none⟩) ∧ E 3 = .pointer (some ⟨b3, 0, none⟩) ∧ E 36 = .slice (some ⟨ob, 0, none⟩) s.parts.length s.parts.length ∧ E 37 = .int .i64 (s.parts.length : Nat) ∧ E 38 = .int .i64 (k : Nat) ∧ (Bel w w') ∧ (ShRow A w' p row s.parts) ∧ (StrsAt A w' (.slice pn s.names.length capn) s.names) ∧ (Box w' w.heap.size 25 [.int .i64 s.kind, S s.of, S s.name, .slice pn s.names.length capn, .slice p s.parts.length cap]) ∧ (Box w' b2 25 [.int .i64 0, S [], S [], .slice none 0 0, .slice none 0 0]) ∧ (Box w' b3 25 [.int .i64 s.kind, S s.of, S s.name, vN, vP]) ∧ (Row encN w' ob 0 3 [] idx.toArray []) ∧ (Ge base w') ∧ (k ≤ s.parts.length) ∧ (Own w' base 9 1 vN (outN s.names (idx.take k)).length ((outN s.names (idx.take k)).map S)) ∧ (ShsOwn (Av base w' vN vP) w' base 25 vP (outP s.parts (idx.take k)))) (s.parts.length) ?_ ?_
       ·exact ⟨0, .slice none 0 0, .slice none 0 0, by omega, by first | rfl | exact vi (by omega), by first | rfl | exact vi (by omega), by first | rfl | exact vi (by omega), by first | rfl | exact vi (by omega), by first | rfl | exact vi (by omega), by first | rfl | exact vi (by omega), (by first | assumption | omega | rfl), (by first | assumption | omega | rfl), (by first | assumption | omega | rfl), (by first | assumption | omega | rfl), (by first | assumption | omega | rfl), (by first | assumption | omega | rfl), (by first | assumption | omega | rfl), (by first | assumption | omega | rfl), (by first | assumption | omega | rfl), (by unfold outN; split <;> exact own_nil), (by exact ShsOwn.nil)⟩
       ·rintro _ E wL39 ⟨k, vN, vP, em, e1, e2, e3, e36, e37, e38, hB, hr, hn, bx1, bx2, bx3, hO, hG, hk, hN, hP⟩
        rw [upd_self e1, upd_self e2, upd_self e3, upd_self e36, upd_self e37, upd_self e38]
        refine W.seq ?_
        refine W.region ?_
        refine L.val (x_lss rfl rfl) rfl ?_
        refine L.nil ?_
        refine thn_n ?_
        refine W.seq ?_
        refine W.cond (b := _) rfl (fun g39 => ?_) (fun g39 => ?_)
        ·have h39 := of_decide_eq_true g39
         refine W.skip ?_
         refine thn_n ?_
         refine W.seq ?_
         refine W.block ?_
         refine W.seq ?_
         refine W.region ?_
         refine L.val (x_ia1 (j := k) Tryz.underlying106 ksort2_sz3 rfl rfl (by omega) (by first | omega | (simp; omega))) rfl ?_
         refine L.val (x_ld (v := (Value.int .i64) _) ksort2_oc3 rfl (hO.at (i := k) (by first | omega | (simp; omega)))) rfl ?_
         obtain ⟨x, hx⟩ : ∃ x, x = idx.getD k 0 := ⟨_, rfl⟩
         have hxk : idx.toArray[k]! = x := by rw [hx, getElem!_pos idx.toArray k (by simp; omega)]; simp [List.getD_eq_getElem?_getD, show k < idx.length by omega]
         rw [hxk]
         have hxn : x < s.parts.length := by rw [hx]; exact hidx.lt (by omega)
         obtain ⟨bp, op, rfl, -⟩ := hr.elem hxn
         have hgA : Ge wL39.heap.size wL39 := Nat.le_refl _
         have hNl := outN_len (ns := s.names) (idx := idx) (k := k)
         have hPl := outP_len (ps := s.parts) (idx := idx) (k := k)
         refine L.val (x_as (v := .int _ _) rfl) rfl ?_
         refine L.nil ?_
         refine thn_n ?_
         refine W.seq ?_
         refine W.seq ?_
         refine W.region ?_
         refine L.val (x_fa ksort2_fo25_3 rfl) rfl ?_
         refine L.val (x_ld (v := .slice _ _ _) ksort2_oc22 rfl (bx1.cell0 rfl)) rfl ?_
         refine L.val (x_len_slice Tryz.underlying22 rfl) rfl ?_
         refine L.val (x_gtr rfl rfl) rfl ?_
         refine L.nil ?_
         refine thn_n ?_
         refine W.cond (b := _) rfl (fun g45 => ?_) (fun g45 => ?_)
         ·have h45 := of_decide_eq_true g45
          have hne0 : s.names ≠ [] := fun e => by rw [e] at h45; simp at h45
          obtain ⟨bn, on, rfl, -⟩ := hn.elem (i := x) (by have := hfs.resolve_left hne0; omega)
          have hxl : x < s.names.length := by have := hfs.resolve_left hne0; omega
          refine W.drawS ksort2_mixed ?_
          have hB := hB.carry (bel_drew _); have hr := hr.carry (bel_drew _); have hn := hn.carry (bel_drew _); have bx1 := bx1.carry (bel_drew _); have bx2 := bx2.carry (bel_drew _); have bx3 := bx3.carry (bel_drew _); have hO := hO.carry (bel_drew _); have hN := hN.carry (bel_drew _); have hP := hP.carry (bel_drew _); have hG := hG.carry (bel_drew _); have hgA := hgA.carry (bel_drew _)
          refine LA.take (i := 0) rfl (by kernel_rfl) (by kernel_rfl) (by kernel_rfl) (fun w => x_fa ksort2_fo25_3 rfl) rfl ?_
          refine LA.take (i := 2) rfl (by kernel_rfl) (by kernel_rfl) (by kernel_rfl) (fun w => x_fa ksort2_fo25_3 rfl) rfl ?_
          refine LA.take (i := 4) rfl (by kernel_rfl) (by kernel_rfl) (by kernel_rfl) (fun w => x_mv (v := .int _ _) rfl) rfl ?_
          refine LA.step (rs := [1, 3]) (by kernel_rfl) (by simp) ⟨⟨_, rfl, ?_⟩, ⟨_, rfl, ?_⟩, trivial⟩
          ·refine L.val (x_ld (v := vN) ksort2_oc22 rfl (bx3.cell0 rfl)) rfl ?_
           refine L.nil ?_
           refine thn_n ?_
           refine LA.step (rs := [3]) (by kernel_rfl) (by simp) ⟨⟨_, rfl, ?_⟩, trivial⟩
           refine L.val (x_ld (v := .slice _ _ _) ksort2_oc22 rfl (bx1.cell0 rfl)) rfl ?_
           refine L.nil ?_
           refine thn_n ?_
           refine LA.take (i := 5) rfl (by kernel_rfl) (by kernel_rfl) (by kernel_rfl) (fun w => x_ia1 (j := x) Tryz.underlying22 ksort2_sz9 rfl rfl (by omega) (by omega)) rfl ?_
           refine LA.step (rs := [6]) (by kernel_rfl) (by simp) ⟨⟨_, rfl, ?_⟩, trivial⟩
           refine L.val (x_ld (v := S _) ksort2_oc9 rfl (hn.elemAt hxl)) rfl ?_
           refine L.nil ?_
           refine thn_n ?_
           refine LA.step (rs := [7]) (by kernel_rfl) (by simp) ⟨⟨_, rfl, ?_⟩, trivial⟩
           refine L.bs (sz := 1) (cells := [S (s.names.getD x [])]) Tryz.underlying22 ksort2_el9 rfl rfl rfl rfl (fun w53 bx53 hw hz53 => ?_)
           have hB := hB.carry hw; have hr := hr.carry hw; have hn := hn.carry hw; have bx1 := bx1.carry hw; have bx2 := bx2.carry hw; have bx3 := bx3.carry hw; have hO := hO.carry hw; have hN := hN.carry hw; have hP := hP.carry hw; have hG := hG.carry hw; have hgA := hgA.carry hw
           refine L.nil ?_
           refine thn_n ?_
           refine LA.step (rs := [8]) (by kernel_rfl) (by simp) ⟨⟨_, rfl, ?_⟩, trivial⟩
           refine L.append (m := 1) Tryz.underlying22 ksort2_el9 rfl rfl rfl hN rfl bx53.news (by simp [Value.oneCell', S]) (by omega) hG (fun v54 w54 hO54 hg hiff54 hob54 => ?_)
           obtain ⟨g54, c54, rfl⟩ := own_form hO54
           have hlo : ∀ j, some j = vN.ownBlock → base ≤ j := fun j hj => (hN.lt hj).1
           obtain ⟨xsP, hPo⟩ := hP.own
           have hP := hP.carryA (A' := Av base w54 (.slice (some ⟨g54, 0, none⟩) ((outN s.names (idx.take k)).length + 1) c54) vP) hg (fun j hj hj' => own_ne hN hPo rfl hj' hj) (fun j e => .inr (.inl e)) (fun j h => av_mono hgA (av_step hg.size hob54 (.inl rfl) h))
           have hB := hB.step hg (fun i hi e => by have := hlo i e; omega)
           have hr := hr.carryR hg (fun j e => hU j (by have := hlo j e; omega))
           have hn := hn.carryR hg (fun j e => hU j (by have := hlo j e; omega))
           have bx1 := bx1.carryR hg (fun e => by have := hlo _ e; omega)
           have bx2 := bx2.carryR hg (fun e => by have := hlo _ e; omega)
           have bx3 := bx3.carryR hg (fun e => by have := hlo _ e; omega)
           have hO := hO.carryR hg (fun e => by have := hlo _ e; omega)
           have hG := hG.carryR hg
           have hN := hO54
           have hgA : Ge w54.heap.size w54 := Nat.le_refl _
           refine L.nil ?_
           refine thn_n ?_
           refine LA.take (i := 9) rfl (by kernel_rfl) (by kernel_rfl) (by kernel_rfl) (fun w => x_fa ksort2_fo25_3 rfl) rfl ?_
           refine LA.step (rs := [10]) (by kernel_rfl) (by simp) ⟨⟨_, rfl, ?_⟩, trivial⟩
           refine L.set (v := .slice _ _ _) ksort2_sz22 rfl rfl rfl bx3 rfl (fun wl58 bx3 hw hzl58 => ?_)
           have hsz := hB.size
           have hB := hB.set hw (by omega); have hr := hr.carryR hw (fun k e => hU k (by have : k = _ := e; omega)); have hn := hn.carryR hw (fun k e => hU k (by have : k = _ := e; omega)); have bx1 := bx1.carryR hw (by omega); have bx2 := bx2.carryR hw (by omega); have hO := hO.carryR hw (by omega); have hN := Own.carryR hN hw (fun j hj e => by have := (hN.lt hj).1; have e : j = _ := e; omega); have hP := hP.carryA (A' := _) hw (fun j hj e => by have := (hP.lt hj).1; have e : j = _ := e; omega) (fun j e => .inl (by have e : j = _ := e; omega)) (fun _ h => h); have hG := hG.carryR hw; have hgA := hgA.carryR hw
           refine L.nil ?_
           refine thn_n ?_
           refine LA.done (by kernel_rfl) ?_
           refine nrm_n ?_
           refine thn_n ?_
           refine W.drawS ksort2_mixed ?_
           have hB := hB.carry (bel_drew _); have hr := hr.carry (bel_drew _); have hn := hn.carry (bel_drew _); have bx1 := bx1.carry (bel_drew _); have bx2 := bx2.carry (bel_drew _); have bx3 := bx3.carry (bel_drew _); have hO := hO.carry (bel_drew _); have hN := hN.carry (bel_drew _); have hP := hP.carry (bel_drew _); have hG := hG.carry (bel_drew _); have hgA := hgA.carry (bel_drew _)
           refine LA.take (i := 0) rfl (by kernel_rfl) (by kernel_rfl) (by kernel_rfl) (fun w => x_fa ksort2_fo25_4 rfl) rfl ?_
           refine LA.take (i := 2) rfl (by kernel_rfl) (by kernel_rfl) (by kernel_rfl) (fun w => x_fa ksort2_fo25_4 rfl) rfl ?_
           refine LA.take (i := 4) rfl (by kernel_rfl) (by kernel_rfl) (by kernel_rfl) (fun w => x_mv (v := .int _ _) rfl) rfl ?_
           refine LA.step (rs := [1, 3]) (by kernel_rfl) (by simp) ⟨⟨_, rfl, ?_⟩, ⟨_, rfl, ?_⟩, trivial⟩
           ·refine L.val (x_ld (v := vP) ksort2_oc23 rfl (bx3.cell0 rfl)) rfl ?_
            refine L.nil ?_
            refine thn_n ?_
            refine LA.step (rs := [3]) (by kernel_rfl) (by simp) ⟨⟨_, rfl, ?_⟩, trivial⟩
            refine L.val (x_ld (v := .slice _ _ _) ksort2_oc23 rfl (bx1.cell0 rfl)) rfl ?_
            refine L.nil ?_
            refine thn_n ?_
            refine LA.take (i := 5) rfl (by kernel_rfl) (by kernel_rfl) (by kernel_rfl) (fun w => x_ia (j := x) Tryz.underlying23 ksort2_sz25 rfl rfl (by omega) (by omega)) rfl ?_
            refine LA.step (rs := [6]) (by kernel_rfl) (by simp) ⟨⟨_, rfl, ?_⟩, trivial⟩
            refine L.val (x_ldn (vs := row x) ksort2_ag25 rfl (hr.five x hxn) (hr.elemAt hxn)) rfl ?_
            refine L.nil ?_
            refine thn_n ?_
            refine LA.step (rs := [7]) (by kernel_rfl) (by simp) ⟨⟨_, rfl, ?_⟩, trivial⟩
            have hbN := fun j h => (Own.lt hN (j := j) h).2
            have hbP := fun j h => (hP.lt (j := j) h).2
            have hbG := hG
            refine L.ret (x_call ksort2_en72 rfl) rfl (ih _ (by have := Sh.part_lt hxn; omega) (by have := Sh.part_size hxn; omega) (allL_getD hfp hxn) A _ _ (hr.each x hxn)) ?_
            rintro _ w63 ⟨cs63, rfl, ht, hw⟩
            have hB := hB.carry hw; have hr := hr.carry hw; have hn := hn.carry hw; have bx1 := bx1.carry hw; have bx2 := bx2.carry hw; have bx3 := bx3.carry hw; have hO := hO.carry hw; have hN := hN.carry hw; have hP := hP.carry hw; have hG := hG.carry hw; have hgA := hgA.carry hw
            have ht := ht.up
            have hgB : Ge w63.heap.size w63 := Nat.le_refl _
            refine L.nil ?_
            refine thn_n ?_
            refine LA.step (rs := [8]) (by kernel_rfl) (by simp) ⟨⟨_, rfl, ?_⟩, trivial⟩
            refine L.bs (sz := 5) (cells := cs63) Tryz.underlying23 ksort2_el25 rfl (by show (partsOk 5 0 [(0, Value.agg cs63.toArray)] && decide ([((0 : Nat), Value.agg cs63.toArray)].length = 1) && decide (0 < 1) && decide (1 * 5 ≤ 16777216)) = true; simp [partsOk, ht.len, Value.cells]) (by show ([((0 : Nat), Value.agg cs63.toArray)].map fun x => x.2.cells.toList).flatten = cs63; simp [Value.cells]) rfl (fun w64 bx64 hw hz64 => ?_)
            have hB := hB.carry hw; have hr := hr.carry hw; have hn := hn.carry hw; have bx1 := bx1.carry hw; have bx2 := bx2.carry hw; have bx3 := bx3.carry hw; have hO := hO.carry hw; have hN := hN.carry hw; have hP := hP.carry hw; have hG := hG.carry hw; have hgA := hgA.carry hw; have ht := ht.carry hw; have hgB := hgB.carry hw
            refine L.nil ?_
            refine thn_n ?_
            refine LA.step (rs := [9]) (by kernel_rfl) (by simp) ⟨⟨_, rfl, ?_⟩, trivial⟩
            obtain ⟨rows, r1, r2, r3, r4⟩ := hP
            have hgB' : w63.heap.size ≤ w64.heap.size := hgB
            refine L.append (m := 1) Tryz.underlying23 ksort2_el25 rfl rfl rfl r2 ht.len bx64.news (ShC.one ht) (by omega) hG (fun v65 w65 hO65 hg hiff65 hob65 => ?_)
            obtain ⟨g65, c65, rfl⟩ := own_form hO65
            have hlo : ∀ j, some j = vP.ownBlock → base ≤ j := fun j hj => (r2.lt hj).1
            have hP := ShsOwn.snoc (A := Av base w64 _ vP) (A' := Av base w65 _ (.slice (some ⟨g65, 0, none⟩) ((outP s.parts (idx.take k)).length + 1) c65)) r1 r3 (fun i hi => (r4 i hi).mono (fun j _ h => av_mono hgA h)) (ht.mono (fun j _ h => by
              rcases h with h | h | h | h
              · exact .inl (Nat.lt_of_lt_of_le h hbG)
              · exact .inl (hbN j h)
              · exact .inl (hbP j h)
              · exact .inr (Nat.le_trans hgB' h))) hO65 hg (fun j e => .inr (.inr (.inl e))) (fun j h => av_step hg.size (.inl rfl) hob65 h)
            have hN := Own.carryR hN hg (fun j hj hj' => own_ne hN r2 rfl hj hj')
            have hB := hB.step hg (fun i hi e => by have := hlo i e; omega)
            have hr := hr.carryR hg (fun j e => hU j (by have := hlo j e; omega))
            have hn := hn.carryR hg (fun j e => hU j (by have := hlo j e; omega))
            have bx1 := bx1.carryR hg (fun e => by have := hlo _ e; omega)
            have bx2 := bx2.carryR hg (fun e => by have := hlo _ e; omega)
            have bx3 := bx3.carryR hg (fun e => by have := hlo _ e; omega)
            have hO := hO.carryR hg (fun e => by have := hlo _ e; omega)
            have hG := hG.carryR hg
            refine L.nil ?_
            refine thn_n ?_
            refine LA.take (i := 10) rfl (by kernel_rfl) (by kernel_rfl) (by kernel_rfl) (fun w => x_fa ksort2_fo25_4 rfl) rfl ?_
            refine LA.step (rs := [11]) (by kernel_rfl) (by simp) ⟨⟨_, rfl, ?_⟩, trivial⟩
            refine L.set (v := .slice _ _ _) ksort2_sz23 rfl rfl rfl bx3 rfl (fun wl70 bx3 hw hzl70 => ?_)
            have hsz := hB.size
            have hB := hB.set hw (by omega); have hr := hr.carryR hw (fun k e => hU k (by have : k = _ := e; omega)); have hn := hn.carryR hw (fun k e => hU k (by have : k = _ := e; omega)); have bx1 := bx1.carryR hw (by omega); have bx2 := bx2.carryR hw (by omega); have hO := hO.carryR hw (by omega); have hN := Own.carryR hN hw (fun j hj e => by have := (hN.lt hj).1; have e : j = _ := e; omega); have hP := hP.carryA (A' := _) hw (fun j hj e => by have := (hP.lt hj).1; have e : j = _ := e; omega) (fun j e => .inl (by have e : j = _ := e; omega)) (fun _ h => h); have hG := hG.carryR hw
            refine L.nil ?_
            refine thn_n ?_
            refine LA.done (by kernel_rfl) ?_
            refine nrm_n ?_
            refine blk_n ?_
            refine thn_n ?_
            refine W.region ?_
            refine L.val (x_add rfl rfl (wr64 (by omega))) rfl ?_
            refine L.val (x_mv (v := .int _ _) rfl) rfl ?_
            refine L.nil ?_
            refine thn_n ⟨rfl, ?_⟩
            refine ⟨_, ?_, k + 1, _, _, rfl, by first | rfl | exact vi (by omega), by first | rfl | exact vi (by omega), by first | rfl | exact vi (by omega), by first | rfl | exact vi (by omega), by first | rfl | exact vi (by omega), by first | rfl | exact vi (by omega), (by first | assumption | omega | rfl), (by first | assumption | omega | rfl), (by first | assumption | omega | rfl), (by first | assumption | omega | rfl), (by first | assumption | omega | rfl), (by exact bx3), (by first | assumption | omega | rfl), (by first | assumption | omega | rfl), (by first | assumption | omega | rfl), (by first | (rw [outN_nil hne0]; rw [outN_nil hne0] at hN; exact hN) | (rw [outN_succ hne0 (by omega), ← hx]; simpa using hN)), (by rw [outP_succ (by omega), ← hx]; exact ShsOwn.carryA hP (Gr.refl (fun _ => False) _) (fun _ _ f => f) (fun _ f => f.elim) (fun j h => av_mono (Nat.le_of_eq hzl70.symm) h))⟩
            omega
           ·refine L.val (x_ld (v := .slice _ _ _) ksort2_oc23 rfl (bx1.cell0 rfl)) rfl ?_
            refine L.nil ?_
            refine thn_n ?_
            refine LA.take (i := 5) rfl (by kernel_rfl) (by kernel_rfl) (by kernel_rfl) (fun w => x_ia (j := x) Tryz.underlying23 ksort2_sz25 rfl rfl (by omega) (by omega)) rfl ?_
            refine LA.step (rs := [1, 6]) (by kernel_rfl) (by simp) ⟨⟨_, rfl, ?_⟩, ⟨_, rfl, ?_⟩, trivial⟩
            ·refine L.val (x_ld (v := vP) ksort2_oc23 rfl (bx3.cell0 rfl)) rfl ?_
             refine L.nil ?_
             refine thn_n ?_
             refine LA.step (rs := [6]) (by kernel_rfl) (by simp) ⟨⟨_, rfl, ?_⟩, trivial⟩
             refine L.val (x_ldn (vs := row x) ksort2_ag25 rfl (hr.five x hxn) (hr.elemAt hxn)) rfl ?_
             refine L.nil ?_
             refine thn_n ?_
             refine LA.step (rs := [7]) (by kernel_rfl) (by simp) ⟨⟨_, rfl, ?_⟩, trivial⟩
             have hbN := fun j h => (Own.lt hN (j := j) h).2
             have hbP := fun j h => (hP.lt (j := j) h).2
             have hbG := hG
             refine L.ret (x_call ksort2_en72 rfl) rfl (ih _ (by have := Sh.part_lt hxn; omega) (by have := Sh.part_size hxn; omega) (allL_getD hfp hxn) A _ _ (hr.each x hxn)) ?_
             rintro _ w63 ⟨cs63, rfl, ht, hw⟩
             have hB := hB.carry hw; have hr := hr.carry hw; have hn := hn.carry hw; have bx1 := bx1.carry hw; have bx2 := bx2.carry hw; have bx3 := bx3.carry hw; have hO := hO.carry hw; have hN := hN.carry hw; have hP := hP.carry hw; have hG := hG.carry hw; have hgA := hgA.carry hw
             have ht := ht.up
             have hgB : Ge w63.heap.size w63 := Nat.le_refl _
             refine L.nil ?_
             refine thn_n ?_
             refine LA.step (rs := [8]) (by kernel_rfl) (by simp) ⟨⟨_, rfl, ?_⟩, trivial⟩
             refine L.bs (sz := 5) (cells := cs63) Tryz.underlying23 ksort2_el25 rfl (by show (partsOk 5 0 [(0, Value.agg cs63.toArray)] && decide ([((0 : Nat), Value.agg cs63.toArray)].length = 1) && decide (0 < 1) && decide (1 * 5 ≤ 16777216)) = true; simp [partsOk, ht.len, Value.cells]) (by show ([((0 : Nat), Value.agg cs63.toArray)].map fun x => x.2.cells.toList).flatten = cs63; simp [Value.cells]) rfl (fun w64 bx64 hw hz64 => ?_)
             have hB := hB.carry hw; have hr := hr.carry hw; have hn := hn.carry hw; have bx1 := bx1.carry hw; have bx2 := bx2.carry hw; have bx3 := bx3.carry hw; have hO := hO.carry hw; have hN := hN.carry hw; have hP := hP.carry hw; have hG := hG.carry hw; have hgA := hgA.carry hw; have ht := ht.carry hw; have hgB := hgB.carry hw
             refine L.nil ?_
             refine thn_n ?_
             refine LA.step (rs := [9]) (by kernel_rfl) (by simp) ⟨⟨_, rfl, ?_⟩, trivial⟩
             obtain ⟨rows, r1, r2, r3, r4⟩ := hP
             have hgB' : w63.heap.size ≤ w64.heap.size := hgB
             refine L.append (m := 1) Tryz.underlying23 ksort2_el25 rfl rfl rfl r2 ht.len bx64.news (ShC.one ht) (by omega) hG (fun v65 w65 hO65 hg hiff65 hob65 => ?_)
             obtain ⟨g65, c65, rfl⟩ := own_form hO65
             have hlo : ∀ j, some j = vP.ownBlock → base ≤ j := fun j hj => (r2.lt hj).1
             have hP := ShsOwn.snoc (A := Av base w64 _ vP) (A' := Av base w65 _ (.slice (some ⟨g65, 0, none⟩) ((outP s.parts (idx.take k)).length + 1) c65)) r1 r3 (fun i hi => (r4 i hi).mono (fun j _ h => av_mono hgA h)) (ht.mono (fun j _ h => by
               rcases h with h | h | h | h
               · exact .inl (Nat.lt_of_lt_of_le h hbG)
               · exact .inl (hbN j h)
               · exact .inl (hbP j h)
               · exact .inr (Nat.le_trans hgB' h))) hO65 hg (fun j e => .inr (.inr (.inl e))) (fun j h => av_step hg.size (.inl rfl) hob65 h)
             have hN := Own.carryR hN hg (fun j hj hj' => own_ne hN r2 rfl hj hj')
             have hB := hB.step hg (fun i hi e => by have := hlo i e; omega)
             have hr := hr.carryR hg (fun j e => hU j (by have := hlo j e; omega))
             have hn := hn.carryR hg (fun j e => hU j (by have := hlo j e; omega))
             have bx1 := bx1.carryR hg (fun e => by have := hlo _ e; omega)
             have bx2 := bx2.carryR hg (fun e => by have := hlo _ e; omega)
             have bx3 := bx3.carryR hg (fun e => by have := hlo _ e; omega)
             have hO := hO.carryR hg (fun e => by have := hlo _ e; omega)
             have hG := hG.carryR hg
             refine L.nil ?_
             refine thn_n ?_
             refine LA.take (i := 10) rfl (by kernel_rfl) (by kernel_rfl) (by kernel_rfl) (fun w => x_fa ksort2_fo25_4 rfl) rfl ?_
             refine LA.step (rs := [11]) (by kernel_rfl) (by simp) ⟨⟨_, rfl, ?_⟩, trivial⟩
             refine L.set (v := .slice _ _ _) ksort2_sz23 rfl rfl rfl bx3 rfl (fun wl70 bx3 hw hzl70 => ?_)
             have hsz := hB.size
             have hB := hB.set hw (by omega); have hr := hr.carryR hw (fun k e => hU k (by have : k = _ := e; omega)); have hn := hn.carryR hw (fun k e => hU k (by have : k = _ := e; omega)); have bx1 := bx1.carryR hw (by omega); have bx2 := bx2.carryR hw (by omega); have hO := hO.carryR hw (by omega); have hN := Own.carryR hN hw (fun j hj e => by have := (hN.lt hj).1; have e : j = _ := e; omega); have hP := hP.carryA (A' := _) hw (fun j hj e => by have := (hP.lt hj).1; have e : j = _ := e; omega) (fun j e => .inl (by have e : j = _ := e; omega)) (fun _ h => h); have hG := hG.carryR hw
             refine L.nil ?_
             refine thn_n ?_
             refine LA.done (by kernel_rfl) ?_
             refine nrm_n ?_
             refine blk_n ?_
             refine thn_n ?_
             refine W.region ?_
             refine L.val (x_add rfl rfl (wr64 (by omega))) rfl ?_
             refine L.val (x_mv (v := .int _ _) rfl) rfl ?_
             refine L.nil ?_
             refine thn_n ⟨rfl, ?_⟩
             refine ⟨_, ?_, k + 1, _, _, rfl, by first | rfl | exact vi (by omega), by first | rfl | exact vi (by omega), by first | rfl | exact vi (by omega), by first | rfl | exact vi (by omega), by first | rfl | exact vi (by omega), by first | rfl | exact vi (by omega), (by first | assumption | omega | rfl), (by first | assumption | omega | rfl), (by first | assumption | omega | rfl), (by first | assumption | omega | rfl), (by first | assumption | omega | rfl), (by exact bx3), (by first | assumption | omega | rfl), (by first | assumption | omega | rfl), (by first | assumption | omega | rfl), (by first | (rw [outN_nil hne0]; rw [outN_nil hne0] at hN; exact hN) | (rw [outN_succ hne0 (by omega), ← hx]; simpa using hN)), (by rw [outP_succ (by omega), ← hx]; exact ShsOwn.carryA hP (Gr.refl (fun _ => False) _) (fun _ _ f => f) (fun _ f => f.elim) (fun j h => av_mono (Nat.le_of_eq hzl70.symm) h))⟩
             omega
            ·refine L.val (x_ldn (vs := row x) ksort2_ag25 rfl (hr.five x hxn) (hr.elemAt hxn)) rfl ?_
             refine L.nil ?_
             refine thn_n ?_
             refine LA.step (rs := [1, 7]) (by kernel_rfl) (by simp) ⟨⟨_, rfl, ?_⟩, ⟨_, rfl, ?_⟩, trivial⟩
             ·refine L.val (x_ld (v := vP) ksort2_oc23 rfl (bx3.cell0 rfl)) rfl ?_
              refine L.nil ?_
              refine thn_n ?_
              refine LA.step (rs := [7]) (by kernel_rfl) (by simp) ⟨⟨_, rfl, ?_⟩, trivial⟩
              have hbN := fun j h => (Own.lt hN (j := j) h).2
              have hbP := fun j h => (hP.lt (j := j) h).2
              have hbG := hG
              refine L.ret (x_call ksort2_en72 rfl) rfl (ih _ (by have := Sh.part_lt hxn; omega) (by have := Sh.part_size hxn; omega) (allL_getD hfp hxn) A _ _ (hr.each x hxn)) ?_
              rintro _ w63 ⟨cs63, rfl, ht, hw⟩
              have hB := hB.carry hw; have hr := hr.carry hw; have hn := hn.carry hw; have bx1 := bx1.carry hw; have bx2 := bx2.carry hw; have bx3 := bx3.carry hw; have hO := hO.carry hw; have hN := hN.carry hw; have hP := hP.carry hw; have hG := hG.carry hw; have hgA := hgA.carry hw
              have ht := ht.up
              have hgB : Ge w63.heap.size w63 := Nat.le_refl _
              refine L.nil ?_
              refine thn_n ?_
              refine LA.step (rs := [8]) (by kernel_rfl) (by simp) ⟨⟨_, rfl, ?_⟩, trivial⟩
              refine L.bs (sz := 5) (cells := cs63) Tryz.underlying23 ksort2_el25 rfl (by show (partsOk 5 0 [(0, Value.agg cs63.toArray)] && decide ([((0 : Nat), Value.agg cs63.toArray)].length = 1) && decide (0 < 1) && decide (1 * 5 ≤ 16777216)) = true; simp [partsOk, ht.len, Value.cells]) (by show ([((0 : Nat), Value.agg cs63.toArray)].map fun x => x.2.cells.toList).flatten = cs63; simp [Value.cells]) rfl (fun w64 bx64 hw hz64 => ?_)
              have hB := hB.carry hw; have hr := hr.carry hw; have hn := hn.carry hw; have bx1 := bx1.carry hw; have bx2 := bx2.carry hw; have bx3 := bx3.carry hw; have hO := hO.carry hw; have hN := hN.carry hw; have hP := hP.carry hw; have hG := hG.carry hw; have hgA := hgA.carry hw; have ht := ht.carry hw; have hgB := hgB.carry hw
              refine L.nil ?_
              refine thn_n ?_
              refine LA.step (rs := [9]) (by kernel_rfl) (by simp) ⟨⟨_, rfl, ?_⟩, trivial⟩
              obtain ⟨rows, r1, r2, r3, r4⟩ := hP
              have hgB' : w63.heap.size ≤ w64.heap.size := hgB
              refine L.append (m := 1) Tryz.underlying23 ksort2_el25 rfl rfl rfl r2 ht.len bx64.news (ShC.one ht) (by omega) hG (fun v65 w65 hO65 hg hiff65 hob65 => ?_)
              obtain ⟨g65, c65, rfl⟩ := own_form hO65
              have hlo : ∀ j, some j = vP.ownBlock → base ≤ j := fun j hj => (r2.lt hj).1
              have hP := ShsOwn.snoc (A := Av base w64 _ vP) (A' := Av base w65 _ (.slice (some ⟨g65, 0, none⟩) ((outP s.parts (idx.take k)).length + 1) c65)) r1 r3 (fun i hi => (r4 i hi).mono (fun j _ h => av_mono hgA h)) (ht.mono (fun j _ h => by
                rcases h with h | h | h | h
                · exact .inl (Nat.lt_of_lt_of_le h hbG)
                · exact .inl (hbN j h)
                · exact .inl (hbP j h)
                · exact .inr (Nat.le_trans hgB' h))) hO65 hg (fun j e => .inr (.inr (.inl e))) (fun j h => av_step hg.size (.inl rfl) hob65 h)
              have hN := Own.carryR hN hg (fun j hj hj' => own_ne hN r2 rfl hj hj')
              have hB := hB.step hg (fun i hi e => by have := hlo i e; omega)
              have hr := hr.carryR hg (fun j e => hU j (by have := hlo j e; omega))
              have hn := hn.carryR hg (fun j e => hU j (by have := hlo j e; omega))
              have bx1 := bx1.carryR hg (fun e => by have := hlo _ e; omega)
              have bx2 := bx2.carryR hg (fun e => by have := hlo _ e; omega)
              have bx3 := bx3.carryR hg (fun e => by have := hlo _ e; omega)
              have hO := hO.carryR hg (fun e => by have := hlo _ e; omega)
              have hG := hG.carryR hg
              refine L.nil ?_
              refine thn_n ?_
              refine LA.take (i := 10) rfl (by kernel_rfl) (by kernel_rfl) (by kernel_rfl) (fun w => x_fa ksort2_fo25_4 rfl) rfl ?_
              refine LA.step (rs := [11]) (by kernel_rfl) (by simp) ⟨⟨_, rfl, ?_⟩, trivial⟩
              refine L.set (v := .slice _ _ _) ksort2_sz23 rfl rfl rfl bx3 rfl (fun wl70 bx3 hw hzl70 => ?_)
              have hsz := hB.size
              have hB := hB.set hw (by omega); have hr := hr.carryR hw (fun k e => hU k (by have : k = _ := e; omega)); have hn := hn.carryR hw (fun k e => hU k (by have : k = _ := e; omega)); have bx1 := bx1.carryR hw (by omega); have bx2 := bx2.carryR hw (by omega); have hO := hO.carryR hw (by omega); have hN := Own.carryR hN hw (fun j hj e => by have := (hN.lt hj).1; have e : j = _ := e; omega); have hP := hP.carryA (A' := _) hw (fun j hj e => by have := (hP.lt hj).1; have e : j = _ := e; omega) (fun j e => .inl (by have e : j = _ := e; omega)) (fun _ h => h); have hG := hG.carryR hw
              refine L.nil ?_
              refine thn_n ?_
              refine LA.done (by kernel_rfl) ?_
              refine nrm_n ?_
              refine blk_n ?_
              refine thn_n ?_
              refine W.region ?_
              refine L.val (x_add rfl rfl (wr64 (by omega))) rfl ?_
              refine L.val (x_mv (v := .int _ _) rfl) rfl ?_
              refine L.nil ?_
              refine thn_n ⟨rfl, ?_⟩
              refine ⟨_, ?_, k + 1, _, _, rfl, by first | rfl | exact vi (by omega), by first | rfl | exact vi (by omega), by first | rfl | exact vi (by omega), by first | rfl | exact vi (by omega), by first | rfl | exact vi (by omega), by first | rfl | exact vi (by omega), (by first | assumption | omega | rfl), (by first | assumption | omega | rfl), (by first | assumption | omega | rfl), (by first | assumption | omega | rfl), (by first | assumption | omega | rfl), (by exact bx3), (by first | assumption | omega | rfl), (by first | assumption | omega | rfl), (by first | assumption | omega | rfl), (by first | (rw [outN_nil hne0]; rw [outN_nil hne0] at hN; exact hN) | (rw [outN_succ hne0 (by omega), ← hx]; simpa using hN)), (by rw [outP_succ (by omega), ← hx]; exact ShsOwn.carryA hP (Gr.refl (fun _ => False) _) (fun _ _ f => f) (fun _ f => f.elim) (fun j h => av_mono (Nat.le_of_eq hzl70.symm) h))⟩
              omega
             ·have hbN := fun j h => (Own.lt hN (j := j) h).2
              have hbP := fun j h => (hP.lt (j := j) h).2
              have hbG := hG
              refine L.ret (x_call ksort2_en72 rfl) rfl (ih _ (by have := Sh.part_lt hxn; omega) (by have := Sh.part_size hxn; omega) (allL_getD hfp hxn) A _ _ (hr.each x hxn)) ?_
              rintro _ w63 ⟨cs63, rfl, ht, hw⟩
              have hB := hB.carry hw; have hr := hr.carry hw; have hn := hn.carry hw; have bx1 := bx1.carry hw; have bx2 := bx2.carry hw; have bx3 := bx3.carry hw; have hO := hO.carry hw; have hN := hN.carry hw; have hP := hP.carry hw; have hG := hG.carry hw; have hgA := hgA.carry hw
              have ht := ht.up
              have hgB : Ge w63.heap.size w63 := Nat.le_refl _
              refine L.nil ?_
              refine thn_n ?_
              refine LA.step (rs := [1, 8]) (by kernel_rfl) (by simp) ⟨⟨_, rfl, ?_⟩, ⟨_, rfl, ?_⟩, trivial⟩
              ·refine L.val (x_ld (v := vP) ksort2_oc23 rfl (bx3.cell0 rfl)) rfl ?_
               refine L.nil ?_
               refine thn_n ?_
               refine LA.step (rs := [8]) (by kernel_rfl) (by simp) ⟨⟨_, rfl, ?_⟩, trivial⟩
               refine L.bs (sz := 5) (cells := cs63) Tryz.underlying23 ksort2_el25 rfl (by show (partsOk 5 0 [(0, Value.agg cs63.toArray)] && decide ([((0 : Nat), Value.agg cs63.toArray)].length = 1) && decide (0 < 1) && decide (1 * 5 ≤ 16777216)) = true; simp [partsOk, ht.len, Value.cells]) (by show ([((0 : Nat), Value.agg cs63.toArray)].map fun x => x.2.cells.toList).flatten = cs63; simp [Value.cells]) rfl (fun w64 bx64 hw hz64 => ?_)
               have hB := hB.carry hw; have hr := hr.carry hw; have hn := hn.carry hw; have bx1 := bx1.carry hw; have bx2 := bx2.carry hw; have bx3 := bx3.carry hw; have hO := hO.carry hw; have hN := hN.carry hw; have hP := hP.carry hw; have hG := hG.carry hw; have hgA := hgA.carry hw; have ht := ht.carry hw; have hgB := hgB.carry hw
               refine L.nil ?_
               refine thn_n ?_
               refine LA.step (rs := [9]) (by kernel_rfl) (by simp) ⟨⟨_, rfl, ?_⟩, trivial⟩
               obtain ⟨rows, r1, r2, r3, r4⟩ := hP
               have hgB' : w63.heap.size ≤ w64.heap.size := hgB
               refine L.append (m := 1) Tryz.underlying23 ksort2_el25 rfl rfl rfl r2 ht.len bx64.news (ShC.one ht) (by omega) hG (fun v65 w65 hO65 hg hiff65 hob65 => ?_)
               obtain ⟨g65, c65, rfl⟩ := own_form hO65
               have hlo : ∀ j, some j = vP.ownBlock → base ≤ j := fun j hj => (r2.lt hj).1
               have hP := ShsOwn.snoc (A := Av base w64 _ vP) (A' := Av base w65 _ (.slice (some ⟨g65, 0, none⟩) ((outP s.parts (idx.take k)).length + 1) c65)) r1 r3 (fun i hi => (r4 i hi).mono (fun j _ h => av_mono hgA h)) (ht.mono (fun j _ h => by
                 rcases h with h | h | h | h
                 · exact .inl (Nat.lt_of_lt_of_le h hbG)
                 · exact .inl (hbN j h)
                 · exact .inl (hbP j h)
                 · exact .inr (Nat.le_trans hgB' h))) hO65 hg (fun j e => .inr (.inr (.inl e))) (fun j h => av_step hg.size (.inl rfl) hob65 h)
               have hN := Own.carryR hN hg (fun j hj hj' => own_ne hN r2 rfl hj hj')
               have hB := hB.step hg (fun i hi e => by have := hlo i e; omega)
               have hr := hr.carryR hg (fun j e => hU j (by have := hlo j e; omega))
               have hn := hn.carryR hg (fun j e => hU j (by have := hlo j e; omega))
               have bx1 := bx1.carryR hg (fun e => by have := hlo _ e; omega)
               have bx2 := bx2.carryR hg (fun e => by have := hlo _ e; omega)
               have bx3 := bx3.carryR hg (fun e => by have := hlo _ e; omega)
               have hO := hO.carryR hg (fun e => by have := hlo _ e; omega)
               have hG := hG.carryR hg
               refine L.nil ?_
               refine thn_n ?_
               refine LA.take (i := 10) rfl (by kernel_rfl) (by kernel_rfl) (by kernel_rfl) (fun w => x_fa ksort2_fo25_4 rfl) rfl ?_
               refine LA.step (rs := [11]) (by kernel_rfl) (by simp) ⟨⟨_, rfl, ?_⟩, trivial⟩
               refine L.set (v := .slice _ _ _) ksort2_sz23 rfl rfl rfl bx3 rfl (fun wl70 bx3 hw hzl70 => ?_)
               have hsz := hB.size
               have hB := hB.set hw (by omega); have hr := hr.carryR hw (fun k e => hU k (by have : k = _ := e; omega)); have hn := hn.carryR hw (fun k e => hU k (by have : k = _ := e; omega)); have bx1 := bx1.carryR hw (by omega); have bx2 := bx2.carryR hw (by omega); have hO := hO.carryR hw (by omega); have hN := Own.carryR hN hw (fun j hj e => by have := (hN.lt hj).1; have e : j = _ := e; omega); have hP := hP.carryA (A' := _) hw (fun j hj e => by have := (hP.lt hj).1; have e : j = _ := e; omega) (fun j e => .inl (by have e : j = _ := e; omega)) (fun _ h => h); have hG := hG.carryR hw
               refine L.nil ?_
               refine thn_n ?_
               refine LA.done (by kernel_rfl) ?_
               refine nrm_n ?_
               refine blk_n ?_
               refine thn_n ?_
               refine W.region ?_
               refine L.val (x_add rfl rfl (wr64 (by omega))) rfl ?_
               refine L.val (x_mv (v := .int _ _) rfl) rfl ?_
               refine L.nil ?_
               refine thn_n ⟨rfl, ?_⟩
               refine ⟨_, ?_, k + 1, _, _, rfl, by first | rfl | exact vi (by omega), by first | rfl | exact vi (by omega), by first | rfl | exact vi (by omega), by first | rfl | exact vi (by omega), by first | rfl | exact vi (by omega), by first | rfl | exact vi (by omega), (by first | assumption | omega | rfl), (by first | assumption | omega | rfl), (by first | assumption | omega | rfl), (by first | assumption | omega | rfl), (by first | assumption | omega | rfl), (by exact bx3), (by first | assumption | omega | rfl), (by first | assumption | omega | rfl), (by first | assumption | omega | rfl), (by first | (rw [outN_nil hne0]; rw [outN_nil hne0] at hN; exact hN) | (rw [outN_succ hne0 (by omega), ← hx]; simpa using hN)), (by rw [outP_succ (by omega), ← hx]; exact ShsOwn.carryA hP (Gr.refl (fun _ => False) _) (fun _ _ f => f) (fun _ f => f.elim) (fun j h => av_mono (Nat.le_of_eq hzl70.symm) h))⟩
               omega
              ·refine L.bs (sz := 5) (cells := cs63) Tryz.underlying23 ksort2_el25 rfl (by show (partsOk 5 0 [(0, Value.agg cs63.toArray)] && decide ([((0 : Nat), Value.agg cs63.toArray)].length = 1) && decide (0 < 1) && decide (1 * 5 ≤ 16777216)) = true; simp [partsOk, ht.len, Value.cells]) (by show ([((0 : Nat), Value.agg cs63.toArray)].map fun x => x.2.cells.toList).flatten = cs63; simp [Value.cells]) rfl (fun w64 bx64 hw hz64 => ?_)
               have hB := hB.carry hw; have hr := hr.carry hw; have hn := hn.carry hw; have bx1 := bx1.carry hw; have bx2 := bx2.carry hw; have bx3 := bx3.carry hw; have hO := hO.carry hw; have hN := hN.carry hw; have hP := hP.carry hw; have hG := hG.carry hw; have hgA := hgA.carry hw; have ht := ht.carry hw; have hgB := hgB.carry hw
               refine L.nil ?_
               refine thn_n ?_
               refine LA.step (rs := [1]) (by kernel_rfl) (by simp) ⟨⟨_, rfl, ?_⟩, trivial⟩
               refine L.val (x_ld (v := vP) ksort2_oc23 rfl (bx3.cell0 rfl)) rfl ?_
               refine L.nil ?_
               refine thn_n ?_
               refine LA.step (rs := [9]) (by kernel_rfl) (by simp) ⟨⟨_, rfl, ?_⟩, trivial⟩
               obtain ⟨rows, r1, r2, r3, r4⟩ := hP
               have hgB' : w63.heap.size ≤ w64.heap.size := hgB
               refine L.append (m := 1) Tryz.underlying23 ksort2_el25 rfl rfl rfl r2 ht.len bx64.news (ShC.one ht) (by omega) hG (fun v65 w65 hO65 hg hiff65 hob65 => ?_)
               obtain ⟨g65, c65, rfl⟩ := own_form hO65
               have hlo : ∀ j, some j = vP.ownBlock → base ≤ j := fun j hj => (r2.lt hj).1
               have hP := ShsOwn.snoc (A := Av base w64 _ vP) (A' := Av base w65 _ (.slice (some ⟨g65, 0, none⟩) ((outP s.parts (idx.take k)).length + 1) c65)) r1 r3 (fun i hi => (r4 i hi).mono (fun j _ h => av_mono hgA h)) (ht.mono (fun j _ h => by
                 rcases h with h | h | h | h
                 · exact .inl (Nat.lt_of_lt_of_le h hbG)
                 · exact .inl (hbN j h)
                 · exact .inl (hbP j h)
                 · exact .inr (Nat.le_trans hgB' h))) hO65 hg (fun j e => .inr (.inr (.inl e))) (fun j h => av_step hg.size (.inl rfl) hob65 h)
               have hN := Own.carryR hN hg (fun j hj hj' => own_ne hN r2 rfl hj hj')
               have hB := hB.step hg (fun i hi e => by have := hlo i e; omega)
               have hr := hr.carryR hg (fun j e => hU j (by have := hlo j e; omega))
               have hn := hn.carryR hg (fun j e => hU j (by have := hlo j e; omega))
               have bx1 := bx1.carryR hg (fun e => by have := hlo _ e; omega)
               have bx2 := bx2.carryR hg (fun e => by have := hlo _ e; omega)
               have bx3 := bx3.carryR hg (fun e => by have := hlo _ e; omega)
               have hO := hO.carryR hg (fun e => by have := hlo _ e; omega)
               have hG := hG.carryR hg
               refine L.nil ?_
               refine thn_n ?_
               refine LA.take (i := 10) rfl (by kernel_rfl) (by kernel_rfl) (by kernel_rfl) (fun w => x_fa ksort2_fo25_4 rfl) rfl ?_
               refine LA.step (rs := [11]) (by kernel_rfl) (by simp) ⟨⟨_, rfl, ?_⟩, trivial⟩
               refine L.set (v := .slice _ _ _) ksort2_sz23 rfl rfl rfl bx3 rfl (fun wl70 bx3 hw hzl70 => ?_)
               have hsz := hB.size
               have hB := hB.set hw (by omega); have hr := hr.carryR hw (fun k e => hU k (by have : k = _ := e; omega)); have hn := hn.carryR hw (fun k e => hU k (by have : k = _ := e; omega)); have bx1 := bx1.carryR hw (by omega); have bx2 := bx2.carryR hw (by omega); have hO := hO.carryR hw (by omega); have hN := Own.carryR hN hw (fun j hj e => by have := (hN.lt hj).1; have e : j = _ := e; omega); have hP := hP.carryA (A' := _) hw (fun j hj e => by have := (hP.lt hj).1; have e : j = _ := e; omega) (fun j e => .inl (by have e : j = _ := e; omega)) (fun _ h => h); have hG := hG.carryR hw
               refine L.nil ?_
               refine thn_n ?_
               refine LA.done (by kernel_rfl) ?_
               refine nrm_n ?_
               refine blk_n ?_
               refine thn_n ?_
               refine W.region ?_
               refine L.val (x_add rfl rfl (wr64 (by omega))) rfl ?_
               refine L.val (x_mv (v := .int _ _) rfl) rfl ?_
               refine L.nil ?_
               refine thn_n ⟨rfl, ?_⟩
               refine ⟨_, ?_, k + 1, _, _, rfl, by first | rfl | exact vi (by omega), by first | rfl | exact vi (by omega), by first | rfl | exact vi (by omega), by first | rfl | exact vi (by omega), by first | rfl | exact vi (by omega), by first | rfl | exact vi (by omega), (by first | assumption | omega | rfl), (by first | assumption | omega | rfl), (by first | assumption | omega | rfl), (by first | assumption | omega | rfl), (by first | assumption | omega | rfl), (by exact bx3), (by first | assumption | omega | rfl), (by first | assumption | omega | rfl), (by first | assumption | omega | rfl), (by first | (rw [outN_nil hne0]; rw [outN_nil hne0] at hN; exact hN) | (rw [outN_succ hne0 (by omega), ← hx]; simpa using hN)), (by rw [outP_succ (by omega), ← hx]; exact ShsOwn.carryA hP (Gr.refl (fun _ => False) _) (fun _ _ f => f) (fun _ f => f.elim) (fun j h => av_mono (Nat.le_of_eq hzl70.symm) h))⟩
               omega
          ·refine L.val (x_ld (v := .slice _ _ _) ksort2_oc22 rfl (bx1.cell0 rfl)) rfl ?_
           refine L.nil ?_
           refine thn_n ?_
           refine LA.take (i := 5) rfl (by kernel_rfl) (by kernel_rfl) (by kernel_rfl) (fun w => x_ia1 (j := x) Tryz.underlying22 ksort2_sz9 rfl rfl (by omega) (by omega)) rfl ?_
           refine LA.step (rs := [1, 6]) (by kernel_rfl) (by simp) ⟨⟨_, rfl, ?_⟩, ⟨_, rfl, ?_⟩, trivial⟩
           ·refine L.val (x_ld (v := vN) ksort2_oc22 rfl (bx3.cell0 rfl)) rfl ?_
            refine L.nil ?_
            refine thn_n ?_
            refine LA.step (rs := [6]) (by kernel_rfl) (by simp) ⟨⟨_, rfl, ?_⟩, trivial⟩
            refine L.val (x_ld (v := S _) ksort2_oc9 rfl (hn.elemAt hxl)) rfl ?_
            refine L.nil ?_
            refine thn_n ?_
            refine LA.step (rs := [7]) (by kernel_rfl) (by simp) ⟨⟨_, rfl, ?_⟩, trivial⟩
            refine L.bs (sz := 1) (cells := [S (s.names.getD x [])]) Tryz.underlying22 ksort2_el9 rfl rfl rfl rfl (fun w53 bx53 hw hz53 => ?_)
            have hB := hB.carry hw; have hr := hr.carry hw; have hn := hn.carry hw; have bx1 := bx1.carry hw; have bx2 := bx2.carry hw; have bx3 := bx3.carry hw; have hO := hO.carry hw; have hN := hN.carry hw; have hP := hP.carry hw; have hG := hG.carry hw; have hgA := hgA.carry hw
            refine L.nil ?_
            refine thn_n ?_
            refine LA.step (rs := [8]) (by kernel_rfl) (by simp) ⟨⟨_, rfl, ?_⟩, trivial⟩
            refine L.append (m := 1) Tryz.underlying22 ksort2_el9 rfl rfl rfl hN rfl bx53.news (by simp [Value.oneCell', S]) (by omega) hG (fun v54 w54 hO54 hg hiff54 hob54 => ?_)
            obtain ⟨g54, c54, rfl⟩ := own_form hO54
            have hlo : ∀ j, some j = vN.ownBlock → base ≤ j := fun j hj => (hN.lt hj).1
            obtain ⟨xsP, hPo⟩ := hP.own
            have hP := hP.carryA (A' := Av base w54 (.slice (some ⟨g54, 0, none⟩) ((outN s.names (idx.take k)).length + 1) c54) vP) hg (fun j hj hj' => own_ne hN hPo rfl hj' hj) (fun j e => .inr (.inl e)) (fun j h => av_mono hgA (av_step hg.size hob54 (.inl rfl) h))
            have hB := hB.step hg (fun i hi e => by have := hlo i e; omega)
            have hr := hr.carryR hg (fun j e => hU j (by have := hlo j e; omega))
            have hn := hn.carryR hg (fun j e => hU j (by have := hlo j e; omega))
            have bx1 := bx1.carryR hg (fun e => by have := hlo _ e; omega)
            have bx2 := bx2.carryR hg (fun e => by have := hlo _ e; omega)
            have bx3 := bx3.carryR hg (fun e => by have := hlo _ e; omega)
            have hO := hO.carryR hg (fun e => by have := hlo _ e; omega)
            have hG := hG.carryR hg
            have hN := hO54
            have hgA : Ge w54.heap.size w54 := Nat.le_refl _
            refine L.nil ?_
            refine thn_n ?_
            refine LA.take (i := 9) rfl (by kernel_rfl) (by kernel_rfl) (by kernel_rfl) (fun w => x_fa ksort2_fo25_3 rfl) rfl ?_
            refine LA.step (rs := [10]) (by kernel_rfl) (by simp) ⟨⟨_, rfl, ?_⟩, trivial⟩
            refine L.set (v := .slice _ _ _) ksort2_sz22 rfl rfl rfl bx3 rfl (fun wl58 bx3 hw hzl58 => ?_)
            have hsz := hB.size
            have hB := hB.set hw (by omega); have hr := hr.carryR hw (fun k e => hU k (by have : k = _ := e; omega)); have hn := hn.carryR hw (fun k e => hU k (by have : k = _ := e; omega)); have bx1 := bx1.carryR hw (by omega); have bx2 := bx2.carryR hw (by omega); have hO := hO.carryR hw (by omega); have hN := Own.carryR hN hw (fun j hj e => by have := (hN.lt hj).1; have e : j = _ := e; omega); have hP := hP.carryA (A' := _) hw (fun j hj e => by have := (hP.lt hj).1; have e : j = _ := e; omega) (fun j e => .inl (by have e : j = _ := e; omega)) (fun _ h => h); have hG := hG.carryR hw; have hgA := hgA.carryR hw
            refine L.nil ?_
            refine thn_n ?_
            refine LA.done (by kernel_rfl) ?_
            refine nrm_n ?_
            refine thn_n ?_
            refine W.drawS ksort2_mixed ?_
            have hB := hB.carry (bel_drew _); have hr := hr.carry (bel_drew _); have hn := hn.carry (bel_drew _); have bx1 := bx1.carry (bel_drew _); have bx2 := bx2.carry (bel_drew _); have bx3 := bx3.carry (bel_drew _); have hO := hO.carry (bel_drew _); have hN := hN.carry (bel_drew _); have hP := hP.carry (bel_drew _); have hG := hG.carry (bel_drew _); have hgA := hgA.carry (bel_drew _)
            refine LA.take (i := 0) rfl (by kernel_rfl) (by kernel_rfl) (by kernel_rfl) (fun w => x_fa ksort2_fo25_4 rfl) rfl ?_
            refine LA.take (i := 2) rfl (by kernel_rfl) (by kernel_rfl) (by kernel_rfl) (fun w => x_fa ksort2_fo25_4 rfl) rfl ?_
            refine LA.take (i := 4) rfl (by kernel_rfl) (by kernel_rfl) (by kernel_rfl) (fun w => x_mv (v := .int _ _) rfl) rfl ?_
            refine LA.step (rs := [1, 3]) (by kernel_rfl) (by simp) ⟨⟨_, rfl, ?_⟩, ⟨_, rfl, ?_⟩, trivial⟩
            ·refine L.val (x_ld (v := vP) ksort2_oc23 rfl (bx3.cell0 rfl)) rfl ?_
             refine L.nil ?_
             refine thn_n ?_
             refine LA.step (rs := [3]) (by kernel_rfl) (by simp) ⟨⟨_, rfl, ?_⟩, trivial⟩
             refine L.val (x_ld (v := .slice _ _ _) ksort2_oc23 rfl (bx1.cell0 rfl)) rfl ?_
             refine L.nil ?_
             refine thn_n ?_
             refine LA.take (i := 5) rfl (by kernel_rfl) (by kernel_rfl) (by kernel_rfl) (fun w => x_ia (j := x) Tryz.underlying23 ksort2_sz25 rfl rfl (by omega) (by omega)) rfl ?_
             refine LA.step (rs := [6]) (by kernel_rfl) (by simp) ⟨⟨_, rfl, ?_⟩, trivial⟩
             refine L.val (x_ldn (vs := row x) ksort2_ag25 rfl (hr.five x hxn) (hr.elemAt hxn)) rfl ?_
             refine L.nil ?_
             refine thn_n ?_
             refine LA.step (rs := [7]) (by kernel_rfl) (by simp) ⟨⟨_, rfl, ?_⟩, trivial⟩
             have hbN := fun j h => (Own.lt hN (j := j) h).2
             have hbP := fun j h => (hP.lt (j := j) h).2
             have hbG := hG
             refine L.ret (x_call ksort2_en72 rfl) rfl (ih _ (by have := Sh.part_lt hxn; omega) (by have := Sh.part_size hxn; omega) (allL_getD hfp hxn) A _ _ (hr.each x hxn)) ?_
             rintro _ w63 ⟨cs63, rfl, ht, hw⟩
             have hB := hB.carry hw; have hr := hr.carry hw; have hn := hn.carry hw; have bx1 := bx1.carry hw; have bx2 := bx2.carry hw; have bx3 := bx3.carry hw; have hO := hO.carry hw; have hN := hN.carry hw; have hP := hP.carry hw; have hG := hG.carry hw; have hgA := hgA.carry hw
             have ht := ht.up
             have hgB : Ge w63.heap.size w63 := Nat.le_refl _
             refine L.nil ?_
             refine thn_n ?_
             refine LA.step (rs := [8]) (by kernel_rfl) (by simp) ⟨⟨_, rfl, ?_⟩, trivial⟩
             refine L.bs (sz := 5) (cells := cs63) Tryz.underlying23 ksort2_el25 rfl (by show (partsOk 5 0 [(0, Value.agg cs63.toArray)] && decide ([((0 : Nat), Value.agg cs63.toArray)].length = 1) && decide (0 < 1) && decide (1 * 5 ≤ 16777216)) = true; simp [partsOk, ht.len, Value.cells]) (by show ([((0 : Nat), Value.agg cs63.toArray)].map fun x => x.2.cells.toList).flatten = cs63; simp [Value.cells]) rfl (fun w64 bx64 hw hz64 => ?_)
             have hB := hB.carry hw; have hr := hr.carry hw; have hn := hn.carry hw; have bx1 := bx1.carry hw; have bx2 := bx2.carry hw; have bx3 := bx3.carry hw; have hO := hO.carry hw; have hN := hN.carry hw; have hP := hP.carry hw; have hG := hG.carry hw; have hgA := hgA.carry hw; have ht := ht.carry hw; have hgB := hgB.carry hw
             refine L.nil ?_
             refine thn_n ?_
             refine LA.step (rs := [9]) (by kernel_rfl) (by simp) ⟨⟨_, rfl, ?_⟩, trivial⟩
             obtain ⟨rows, r1, r2, r3, r4⟩ := hP
             have hgB' : w63.heap.size ≤ w64.heap.size := hgB
             refine L.append (m := 1) Tryz.underlying23 ksort2_el25 rfl rfl rfl r2 ht.len bx64.news (ShC.one ht) (by omega) hG (fun v65 w65 hO65 hg hiff65 hob65 => ?_)
             obtain ⟨g65, c65, rfl⟩ := own_form hO65
             have hlo : ∀ j, some j = vP.ownBlock → base ≤ j := fun j hj => (r2.lt hj).1
             have hP := ShsOwn.snoc (A := Av base w64 _ vP) (A' := Av base w65 _ (.slice (some ⟨g65, 0, none⟩) ((outP s.parts (idx.take k)).length + 1) c65)) r1 r3 (fun i hi => (r4 i hi).mono (fun j _ h => av_mono hgA h)) (ht.mono (fun j _ h => by
               rcases h with h | h | h | h
               · exact .inl (Nat.lt_of_lt_of_le h hbG)
               · exact .inl (hbN j h)
               · exact .inl (hbP j h)
               · exact .inr (Nat.le_trans hgB' h))) hO65 hg (fun j e => .inr (.inr (.inl e))) (fun j h => av_step hg.size (.inl rfl) hob65 h)
             have hN := Own.carryR hN hg (fun j hj hj' => own_ne hN r2 rfl hj hj')
             have hB := hB.step hg (fun i hi e => by have := hlo i e; omega)
             have hr := hr.carryR hg (fun j e => hU j (by have := hlo j e; omega))
             have hn := hn.carryR hg (fun j e => hU j (by have := hlo j e; omega))
             have bx1 := bx1.carryR hg (fun e => by have := hlo _ e; omega)
             have bx2 := bx2.carryR hg (fun e => by have := hlo _ e; omega)
             have bx3 := bx3.carryR hg (fun e => by have := hlo _ e; omega)
             have hO := hO.carryR hg (fun e => by have := hlo _ e; omega)
             have hG := hG.carryR hg
             refine L.nil ?_
             refine thn_n ?_
             refine LA.take (i := 10) rfl (by kernel_rfl) (by kernel_rfl) (by kernel_rfl) (fun w => x_fa ksort2_fo25_4 rfl) rfl ?_
             refine LA.step (rs := [11]) (by kernel_rfl) (by simp) ⟨⟨_, rfl, ?_⟩, trivial⟩
             refine L.set (v := .slice _ _ _) ksort2_sz23 rfl rfl rfl bx3 rfl (fun wl70 bx3 hw hzl70 => ?_)
             have hsz := hB.size
             have hB := hB.set hw (by omega); have hr := hr.carryR hw (fun k e => hU k (by have : k = _ := e; omega)); have hn := hn.carryR hw (fun k e => hU k (by have : k = _ := e; omega)); have bx1 := bx1.carryR hw (by omega); have bx2 := bx2.carryR hw (by omega); have hO := hO.carryR hw (by omega); have hN := Own.carryR hN hw (fun j hj e => by have := (hN.lt hj).1; have e : j = _ := e; omega); have hP := hP.carryA (A' := _) hw (fun j hj e => by have := (hP.lt hj).1; have e : j = _ := e; omega) (fun j e => .inl (by have e : j = _ := e; omega)) (fun _ h => h); have hG := hG.carryR hw
             refine L.nil ?_
             refine thn_n ?_
             refine LA.done (by kernel_rfl) ?_
             refine nrm_n ?_
             refine blk_n ?_
             refine thn_n ?_
             refine W.region ?_
             refine L.val (x_add rfl rfl (wr64 (by omega))) rfl ?_
             refine L.val (x_mv (v := .int _ _) rfl) rfl ?_
             refine L.nil ?_
             refine thn_n ⟨rfl, ?_⟩
             refine ⟨_, ?_, k + 1, _, _, rfl, by first | rfl | exact vi (by omega), by first | rfl | exact vi (by omega), by first | rfl | exact vi (by omega), by first | rfl | exact vi (by omega), by first | rfl | exact vi (by omega), by first | rfl | exact vi (by omega), (by first | assumption | omega | rfl), (by first | assumption | omega | rfl), (by first | assumption | omega | rfl), (by first | assumption | omega | rfl), (by first | assumption | omega | rfl), (by exact bx3), (by first | assumption | omega | rfl), (by first | assumption | omega | rfl), (by first | assumption | omega | rfl), (by first | (rw [outN_nil hne0]; rw [outN_nil hne0] at hN; exact hN) | (rw [outN_succ hne0 (by omega), ← hx]; simpa using hN)), (by rw [outP_succ (by omega), ← hx]; exact ShsOwn.carryA hP (Gr.refl (fun _ => False) _) (fun _ _ f => f) (fun _ f => f.elim) (fun j h => av_mono (Nat.le_of_eq hzl70.symm) h))⟩
             omega
            ·refine L.val (x_ld (v := .slice _ _ _) ksort2_oc23 rfl (bx1.cell0 rfl)) rfl ?_
             refine L.nil ?_
             refine thn_n ?_
             refine LA.take (i := 5) rfl (by kernel_rfl) (by kernel_rfl) (by kernel_rfl) (fun w => x_ia (j := x) Tryz.underlying23 ksort2_sz25 rfl rfl (by omega) (by omega)) rfl ?_
             refine LA.step (rs := [1, 6]) (by kernel_rfl) (by simp) ⟨⟨_, rfl, ?_⟩, ⟨_, rfl, ?_⟩, trivial⟩
             ·refine L.val (x_ld (v := vP) ksort2_oc23 rfl (bx3.cell0 rfl)) rfl ?_
              refine L.nil ?_
              refine thn_n ?_
              refine LA.step (rs := [6]) (by kernel_rfl) (by simp) ⟨⟨_, rfl, ?_⟩, trivial⟩
              refine L.val (x_ldn (vs := row x) ksort2_ag25 rfl (hr.five x hxn) (hr.elemAt hxn)) rfl ?_
              refine L.nil ?_
              refine thn_n ?_
              refine LA.step (rs := [7]) (by kernel_rfl) (by simp) ⟨⟨_, rfl, ?_⟩, trivial⟩
              have hbN := fun j h => (Own.lt hN (j := j) h).2
              have hbP := fun j h => (hP.lt (j := j) h).2
              have hbG := hG
              refine L.ret (x_call ksort2_en72 rfl) rfl (ih _ (by have := Sh.part_lt hxn; omega) (by have := Sh.part_size hxn; omega) (allL_getD hfp hxn) A _ _ (hr.each x hxn)) ?_
              rintro _ w63 ⟨cs63, rfl, ht, hw⟩
              have hB := hB.carry hw; have hr := hr.carry hw; have hn := hn.carry hw; have bx1 := bx1.carry hw; have bx2 := bx2.carry hw; have bx3 := bx3.carry hw; have hO := hO.carry hw; have hN := hN.carry hw; have hP := hP.carry hw; have hG := hG.carry hw; have hgA := hgA.carry hw
              have ht := ht.up
              have hgB : Ge w63.heap.size w63 := Nat.le_refl _
              refine L.nil ?_
              refine thn_n ?_
              refine LA.step (rs := [8]) (by kernel_rfl) (by simp) ⟨⟨_, rfl, ?_⟩, trivial⟩
              refine L.bs (sz := 5) (cells := cs63) Tryz.underlying23 ksort2_el25 rfl (by show (partsOk 5 0 [(0, Value.agg cs63.toArray)] && decide ([((0 : Nat), Value.agg cs63.toArray)].length = 1) && decide (0 < 1) && decide (1 * 5 ≤ 16777216)) = true; simp [partsOk, ht.len, Value.cells]) (by show ([((0 : Nat), Value.agg cs63.toArray)].map fun x => x.2.cells.toList).flatten = cs63; simp [Value.cells]) rfl (fun w64 bx64 hw hz64 => ?_)
              have hB := hB.carry hw; have hr := hr.carry hw; have hn := hn.carry hw; have bx1 := bx1.carry hw; have bx2 := bx2.carry hw; have bx3 := bx3.carry hw; have hO := hO.carry hw; have hN := hN.carry hw; have hP := hP.carry hw; have hG := hG.carry hw; have hgA := hgA.carry hw; have ht := ht.carry hw; have hgB := hgB.carry hw
              refine L.nil ?_
              refine thn_n ?_
              refine LA.step (rs := [9]) (by kernel_rfl) (by simp) ⟨⟨_, rfl, ?_⟩, trivial⟩
              obtain ⟨rows, r1, r2, r3, r4⟩ := hP
              have hgB' : w63.heap.size ≤ w64.heap.size := hgB
              refine L.append (m := 1) Tryz.underlying23 ksort2_el25 rfl rfl rfl r2 ht.len bx64.news (ShC.one ht) (by omega) hG (fun v65 w65 hO65 hg hiff65 hob65 => ?_)
              obtain ⟨g65, c65, rfl⟩ := own_form hO65
              have hlo : ∀ j, some j = vP.ownBlock → base ≤ j := fun j hj => (r2.lt hj).1
              have hP := ShsOwn.snoc (A := Av base w64 _ vP) (A' := Av base w65 _ (.slice (some ⟨g65, 0, none⟩) ((outP s.parts (idx.take k)).length + 1) c65)) r1 r3 (fun i hi => (r4 i hi).mono (fun j _ h => av_mono hgA h)) (ht.mono (fun j _ h => by
                rcases h with h | h | h | h
                · exact .inl (Nat.lt_of_lt_of_le h hbG)
                · exact .inl (hbN j h)
                · exact .inl (hbP j h)
                · exact .inr (Nat.le_trans hgB' h))) hO65 hg (fun j e => .inr (.inr (.inl e))) (fun j h => av_step hg.size (.inl rfl) hob65 h)
              have hN := Own.carryR hN hg (fun j hj hj' => own_ne hN r2 rfl hj hj')
              have hB := hB.step hg (fun i hi e => by have := hlo i e; omega)
              have hr := hr.carryR hg (fun j e => hU j (by have := hlo j e; omega))
              have hn := hn.carryR hg (fun j e => hU j (by have := hlo j e; omega))
              have bx1 := bx1.carryR hg (fun e => by have := hlo _ e; omega)
              have bx2 := bx2.carryR hg (fun e => by have := hlo _ e; omega)
              have bx3 := bx3.carryR hg (fun e => by have := hlo _ e; omega)
              have hO := hO.carryR hg (fun e => by have := hlo _ e; omega)
              have hG := hG.carryR hg
              refine L.nil ?_
              refine thn_n ?_
              refine LA.take (i := 10) rfl (by kernel_rfl) (by kernel_rfl) (by kernel_rfl) (fun w => x_fa ksort2_fo25_4 rfl) rfl ?_
              refine LA.step (rs := [11]) (by kernel_rfl) (by simp) ⟨⟨_, rfl, ?_⟩, trivial⟩
              refine L.set (v := .slice _ _ _) ksort2_sz23 rfl rfl rfl bx3 rfl (fun wl70 bx3 hw hzl70 => ?_)
              have hsz := hB.size
              have hB := hB.set hw (by omega); have hr := hr.carryR hw (fun k e => hU k (by have : k = _ := e; omega)); have hn := hn.carryR hw (fun k e => hU k (by have : k = _ := e; omega)); have bx1 := bx1.carryR hw (by omega); have bx2 := bx2.carryR hw (by omega); have hO := hO.carryR hw (by omega); have hN := Own.carryR hN hw (fun j hj e => by have := (hN.lt hj).1; have e : j = _ := e; omega); have hP := hP.carryA (A' := _) hw (fun j hj e => by have := (hP.lt hj).1; have e : j = _ := e; omega) (fun j e => .inl (by have e : j = _ := e; omega)) (fun _ h => h); have hG := hG.carryR hw
              refine L.nil ?_
              refine thn_n ?_
              refine LA.done (by kernel_rfl) ?_
              refine nrm_n ?_
              refine blk_n ?_
              refine thn_n ?_
              refine W.region ?_
              refine L.val (x_add rfl rfl (wr64 (by omega))) rfl ?_
              refine L.val (x_mv (v := .int _ _) rfl) rfl ?_
              refine L.nil ?_
              refine thn_n ⟨rfl, ?_⟩
              refine ⟨_, ?_, k + 1, _, _, rfl, by first | rfl | exact vi (by omega), by first | rfl | exact vi (by omega), by first | rfl | exact vi (by omega), by first | rfl | exact vi (by omega), by first | rfl | exact vi (by omega), by first | rfl | exact vi (by omega), (by first | assumption | omega | rfl), (by first | assumption | omega | rfl), (by first | assumption | omega | rfl), (by first | assumption | omega | rfl), (by first | assumption | omega | rfl), (by exact bx3), (by first | assumption | omega | rfl), (by first | assumption | omega | rfl), (by first | assumption | omega | rfl), (by first | (rw [outN_nil hne0]; rw [outN_nil hne0] at hN; exact hN) | (rw [outN_succ hne0 (by omega), ← hx]; simpa using hN)), (by rw [outP_succ (by omega), ← hx]; exact ShsOwn.carryA hP (Gr.refl (fun _ => False) _) (fun _ _ f => f) (fun _ f => f.elim) (fun j h => av_mono (Nat.le_of_eq hzl70.symm) h))⟩
              omega
             ·refine L.val (x_ldn (vs := row x) ksort2_ag25 rfl (hr.five x hxn) (hr.elemAt hxn)) rfl ?_
              refine L.nil ?_
              refine thn_n ?_
              refine LA.step (rs := [1, 7]) (by kernel_rfl) (by simp) ⟨⟨_, rfl, ?_⟩, ⟨_, rfl, ?_⟩, trivial⟩
              ·refine L.val (x_ld (v := vP) ksort2_oc23 rfl (bx3.cell0 rfl)) rfl ?_
               refine L.nil ?_
               refine thn_n ?_
               refine LA.step (rs := [7]) (by kernel_rfl) (by simp) ⟨⟨_, rfl, ?_⟩, trivial⟩
               have hbN := fun j h => (Own.lt hN (j := j) h).2
               have hbP := fun j h => (hP.lt (j := j) h).2
               have hbG := hG
               refine L.ret (x_call ksort2_en72 rfl) rfl (ih _ (by have := Sh.part_lt hxn; omega) (by have := Sh.part_size hxn; omega) (allL_getD hfp hxn) A _ _ (hr.each x hxn)) ?_
               rintro _ w63 ⟨cs63, rfl, ht, hw⟩
               have hB := hB.carry hw; have hr := hr.carry hw; have hn := hn.carry hw; have bx1 := bx1.carry hw; have bx2 := bx2.carry hw; have bx3 := bx3.carry hw; have hO := hO.carry hw; have hN := hN.carry hw; have hP := hP.carry hw; have hG := hG.carry hw; have hgA := hgA.carry hw
               have ht := ht.up
               have hgB : Ge w63.heap.size w63 := Nat.le_refl _
               refine L.nil ?_
               refine thn_n ?_
               refine LA.step (rs := [8]) (by kernel_rfl) (by simp) ⟨⟨_, rfl, ?_⟩, trivial⟩
               refine L.bs (sz := 5) (cells := cs63) Tryz.underlying23 ksort2_el25 rfl (by show (partsOk 5 0 [(0, Value.agg cs63.toArray)] && decide ([((0 : Nat), Value.agg cs63.toArray)].length = 1) && decide (0 < 1) && decide (1 * 5 ≤ 16777216)) = true; simp [partsOk, ht.len, Value.cells]) (by show ([((0 : Nat), Value.agg cs63.toArray)].map fun x => x.2.cells.toList).flatten = cs63; simp [Value.cells]) rfl (fun w64 bx64 hw hz64 => ?_)
               have hB := hB.carry hw; have hr := hr.carry hw; have hn := hn.carry hw; have bx1 := bx1.carry hw; have bx2 := bx2.carry hw; have bx3 := bx3.carry hw; have hO := hO.carry hw; have hN := hN.carry hw; have hP := hP.carry hw; have hG := hG.carry hw; have hgA := hgA.carry hw; have ht := ht.carry hw; have hgB := hgB.carry hw
               refine L.nil ?_
               refine thn_n ?_
               refine LA.step (rs := [9]) (by kernel_rfl) (by simp) ⟨⟨_, rfl, ?_⟩, trivial⟩
               obtain ⟨rows, r1, r2, r3, r4⟩ := hP
               have hgB' : w63.heap.size ≤ w64.heap.size := hgB
               refine L.append (m := 1) Tryz.underlying23 ksort2_el25 rfl rfl rfl r2 ht.len bx64.news (ShC.one ht) (by omega) hG (fun v65 w65 hO65 hg hiff65 hob65 => ?_)
               obtain ⟨g65, c65, rfl⟩ := own_form hO65
               have hlo : ∀ j, some j = vP.ownBlock → base ≤ j := fun j hj => (r2.lt hj).1
               have hP := ShsOwn.snoc (A := Av base w64 _ vP) (A' := Av base w65 _ (.slice (some ⟨g65, 0, none⟩) ((outP s.parts (idx.take k)).length + 1) c65)) r1 r3 (fun i hi => (r4 i hi).mono (fun j _ h => av_mono hgA h)) (ht.mono (fun j _ h => by
                 rcases h with h | h | h | h
                 · exact .inl (Nat.lt_of_lt_of_le h hbG)
                 · exact .inl (hbN j h)
                 · exact .inl (hbP j h)
                 · exact .inr (Nat.le_trans hgB' h))) hO65 hg (fun j e => .inr (.inr (.inl e))) (fun j h => av_step hg.size (.inl rfl) hob65 h)
               have hN := Own.carryR hN hg (fun j hj hj' => own_ne hN r2 rfl hj hj')
               have hB := hB.step hg (fun i hi e => by have := hlo i e; omega)
               have hr := hr.carryR hg (fun j e => hU j (by have := hlo j e; omega))
               have hn := hn.carryR hg (fun j e => hU j (by have := hlo j e; omega))
               have bx1 := bx1.carryR hg (fun e => by have := hlo _ e; omega)
               have bx2 := bx2.carryR hg (fun e => by have := hlo _ e; omega)
               have bx3 := bx3.carryR hg (fun e => by have := hlo _ e; omega)
               have hO := hO.carryR hg (fun e => by have := hlo _ e; omega)
               have hG := hG.carryR hg
               refine L.nil ?_
               refine thn_n ?_
               refine LA.take (i := 10) rfl (by kernel_rfl) (by kernel_rfl) (by kernel_rfl) (fun w => x_fa ksort2_fo25_4 rfl) rfl ?_
               refine LA.step (rs := [11]) (by kernel_rfl) (by simp) ⟨⟨_, rfl, ?_⟩, trivial⟩
               refine L.set (v := .slice _ _ _) ksort2_sz23 rfl rfl rfl bx3 rfl (fun wl70 bx3 hw hzl70 => ?_)
               have hsz := hB.size
               have hB := hB.set hw (by omega); have hr := hr.carryR hw (fun k e => hU k (by have : k = _ := e; omega)); have hn := hn.carryR hw (fun k e => hU k (by have : k = _ := e; omega)); have bx1 := bx1.carryR hw (by omega); have bx2 := bx2.carryR hw (by omega); have hO := hO.carryR hw (by omega); have hN := Own.carryR hN hw (fun j hj e => by have := (hN.lt hj).1; have e : j = _ := e; omega); have hP := hP.carryA (A' := _) hw (fun j hj e => by have := (hP.lt hj).1; have e : j = _ := e; omega) (fun j e => .inl (by have e : j = _ := e; omega)) (fun _ h => h); have hG := hG.carryR hw
               refine L.nil ?_
               refine thn_n ?_
               refine LA.done (by kernel_rfl) ?_
               refine nrm_n ?_
               refine blk_n ?_
               refine thn_n ?_
               refine W.region ?_
               refine L.val (x_add rfl rfl (wr64 (by omega))) rfl ?_
               refine L.val (x_mv (v := .int _ _) rfl) rfl ?_
               refine L.nil ?_
               refine thn_n ⟨rfl, ?_⟩
               refine ⟨_, ?_, k + 1, _, _, rfl, by first | rfl | exact vi (by omega), by first | rfl | exact vi (by omega), by first | rfl | exact vi (by omega), by first | rfl | exact vi (by omega), by first | rfl | exact vi (by omega), by first | rfl | exact vi (by omega), (by first | assumption | omega | rfl), (by first | assumption | omega | rfl), (by first | assumption | omega | rfl), (by first | assumption | omega | rfl), (by first | assumption | omega | rfl), (by exact bx3), (by first | assumption | omega | rfl), (by first | assumption | omega | rfl), (by first | assumption | omega | rfl), (by first | (rw [outN_nil hne0]; rw [outN_nil hne0] at hN; exact hN) | (rw [outN_succ hne0 (by omega), ← hx]; simpa using hN)), (by rw [outP_succ (by omega), ← hx]; exact ShsOwn.carryA hP (Gr.refl (fun _ => False) _) (fun _ _ f => f) (fun _ f => f.elim) (fun j h => av_mono (Nat.le_of_eq hzl70.symm) h))⟩
               omega
              ·have hbN := fun j h => (Own.lt hN (j := j) h).2
               have hbP := fun j h => (hP.lt (j := j) h).2
               have hbG := hG
               refine L.ret (x_call ksort2_en72 rfl) rfl (ih _ (by have := Sh.part_lt hxn; omega) (by have := Sh.part_size hxn; omega) (allL_getD hfp hxn) A _ _ (hr.each x hxn)) ?_
               rintro _ w63 ⟨cs63, rfl, ht, hw⟩
               have hB := hB.carry hw; have hr := hr.carry hw; have hn := hn.carry hw; have bx1 := bx1.carry hw; have bx2 := bx2.carry hw; have bx3 := bx3.carry hw; have hO := hO.carry hw; have hN := hN.carry hw; have hP := hP.carry hw; have hG := hG.carry hw; have hgA := hgA.carry hw
               have ht := ht.up
               have hgB : Ge w63.heap.size w63 := Nat.le_refl _
               refine L.nil ?_
               refine thn_n ?_
               refine LA.step (rs := [1, 8]) (by kernel_rfl) (by simp) ⟨⟨_, rfl, ?_⟩, ⟨_, rfl, ?_⟩, trivial⟩
               ·refine L.val (x_ld (v := vP) ksort2_oc23 rfl (bx3.cell0 rfl)) rfl ?_
                refine L.nil ?_
                refine thn_n ?_
                refine LA.step (rs := [8]) (by kernel_rfl) (by simp) ⟨⟨_, rfl, ?_⟩, trivial⟩
                refine L.bs (sz := 5) (cells := cs63) Tryz.underlying23 ksort2_el25 rfl (by show (partsOk 5 0 [(0, Value.agg cs63.toArray)] && decide ([((0 : Nat), Value.agg cs63.toArray)].length = 1) && decide (0 < 1) && decide (1 * 5 ≤ 16777216)) = true; simp [partsOk, ht.len, Value.cells]) (by show ([((0 : Nat), Value.agg cs63.toArray)].map fun x => x.2.cells.toList).flatten = cs63; simp [Value.cells]) rfl (fun w64 bx64 hw hz64 => ?_)
                have hB := hB.carry hw; have hr := hr.carry hw; have hn := hn.carry hw; have bx1 := bx1.carry hw; have bx2 := bx2.carry hw; have bx3 := bx3.carry hw; have hO := hO.carry hw; have hN := hN.carry hw; have hP := hP.carry hw; have hG := hG.carry hw; have hgA := hgA.carry hw; have ht := ht.carry hw; have hgB := hgB.carry hw
                refine L.nil ?_
                refine thn_n ?_
                refine LA.step (rs := [9]) (by kernel_rfl) (by simp) ⟨⟨_, rfl, ?_⟩, trivial⟩
                obtain ⟨rows, r1, r2, r3, r4⟩ := hP
                have hgB' : w63.heap.size ≤ w64.heap.size := hgB
                refine L.append (m := 1) Tryz.underlying23 ksort2_el25 rfl rfl rfl r2 ht.len bx64.news (ShC.one ht) (by omega) hG (fun v65 w65 hO65 hg hiff65 hob65 => ?_)
                obtain ⟨g65, c65, rfl⟩ := own_form hO65
                have hlo : ∀ j, some j = vP.ownBlock → base ≤ j := fun j hj => (r2.lt hj).1
                have hP := ShsOwn.snoc (A := Av base w64 _ vP) (A' := Av base w65 _ (.slice (some ⟨g65, 0, none⟩) ((outP s.parts (idx.take k)).length + 1) c65)) r1 r3 (fun i hi => (r4 i hi).mono (fun j _ h => av_mono hgA h)) (ht.mono (fun j _ h => by
                  rcases h with h | h | h | h
                  · exact .inl (Nat.lt_of_lt_of_le h hbG)
                  · exact .inl (hbN j h)
                  · exact .inl (hbP j h)
                  · exact .inr (Nat.le_trans hgB' h))) hO65 hg (fun j e => .inr (.inr (.inl e))) (fun j h => av_step hg.size (.inl rfl) hob65 h)
                have hN := Own.carryR hN hg (fun j hj hj' => own_ne hN r2 rfl hj hj')
                have hB := hB.step hg (fun i hi e => by have := hlo i e; omega)
                have hr := hr.carryR hg (fun j e => hU j (by have := hlo j e; omega))
                have hn := hn.carryR hg (fun j e => hU j (by have := hlo j e; omega))
                have bx1 := bx1.carryR hg (fun e => by have := hlo _ e; omega)
                have bx2 := bx2.carryR hg (fun e => by have := hlo _ e; omega)
                have bx3 := bx3.carryR hg (fun e => by have := hlo _ e; omega)
                have hO := hO.carryR hg (fun e => by have := hlo _ e; omega)
                have hG := hG.carryR hg
                refine L.nil ?_
                refine thn_n ?_
                refine LA.take (i := 10) rfl (by kernel_rfl) (by kernel_rfl) (by kernel_rfl) (fun w => x_fa ksort2_fo25_4 rfl) rfl ?_
                refine LA.step (rs := [11]) (by kernel_rfl) (by simp) ⟨⟨_, rfl, ?_⟩, trivial⟩
                refine L.set (v := .slice _ _ _) ksort2_sz23 rfl rfl rfl bx3 rfl (fun wl70 bx3 hw hzl70 => ?_)
                have hsz := hB.size
                have hB := hB.set hw (by omega); have hr := hr.carryR hw (fun k e => hU k (by have : k = _ := e; omega)); have hn := hn.carryR hw (fun k e => hU k (by have : k = _ := e; omega)); have bx1 := bx1.carryR hw (by omega); have bx2 := bx2.carryR hw (by omega); have hO := hO.carryR hw (by omega); have hN := Own.carryR hN hw (fun j hj e => by have := (hN.lt hj).1; have e : j = _ := e; omega); have hP := hP.carryA (A' := _) hw (fun j hj e => by have := (hP.lt hj).1; have e : j = _ := e; omega) (fun j e => .inl (by have e : j = _ := e; omega)) (fun _ h => h); have hG := hG.carryR hw
                refine L.nil ?_
                refine thn_n ?_
                refine LA.done (by kernel_rfl) ?_
                refine nrm_n ?_
                refine blk_n ?_
                refine thn_n ?_
                refine W.region ?_
                refine L.val (x_add rfl rfl (wr64 (by omega))) rfl ?_
                refine L.val (x_mv (v := .int _ _) rfl) rfl ?_
                refine L.nil ?_
                refine thn_n ⟨rfl, ?_⟩
                refine ⟨_, ?_, k + 1, _, _, rfl, by first | rfl | exact vi (by omega), by first | rfl | exact vi (by omega), by first | rfl | exact vi (by omega), by first | rfl | exact vi (by omega), by first | rfl | exact vi (by omega), by first | rfl | exact vi (by omega), (by first | assumption | omega | rfl), (by first | assumption | omega | rfl), (by first | assumption | omega | rfl), (by first | assumption | omega | rfl), (by first | assumption | omega | rfl), (by exact bx3), (by first | assumption | omega | rfl), (by first | assumption | omega | rfl), (by first | assumption | omega | rfl), (by first | (rw [outN_nil hne0]; rw [outN_nil hne0] at hN; exact hN) | (rw [outN_succ hne0 (by omega), ← hx]; simpa using hN)), (by rw [outP_succ (by omega), ← hx]; exact ShsOwn.carryA hP (Gr.refl (fun _ => False) _) (fun _ _ f => f) (fun _ f => f.elim) (fun j h => av_mono (Nat.le_of_eq hzl70.symm) h))⟩
                omega
               ·refine L.bs (sz := 5) (cells := cs63) Tryz.underlying23 ksort2_el25 rfl (by show (partsOk 5 0 [(0, Value.agg cs63.toArray)] && decide ([((0 : Nat), Value.agg cs63.toArray)].length = 1) && decide (0 < 1) && decide (1 * 5 ≤ 16777216)) = true; simp [partsOk, ht.len, Value.cells]) (by show ([((0 : Nat), Value.agg cs63.toArray)].map fun x => x.2.cells.toList).flatten = cs63; simp [Value.cells]) rfl (fun w64 bx64 hw hz64 => ?_)
                have hB := hB.carry hw; have hr := hr.carry hw; have hn := hn.carry hw; have bx1 := bx1.carry hw; have bx2 := bx2.carry hw; have bx3 := bx3.carry hw; have hO := hO.carry hw; have hN := hN.carry hw; have hP := hP.carry hw; have hG := hG.carry hw; have hgA := hgA.carry hw; have ht := ht.carry hw; have hgB := hgB.carry hw
                refine L.nil ?_
                refine thn_n ?_
                refine LA.step (rs := [1]) (by kernel_rfl) (by simp) ⟨⟨_, rfl, ?_⟩, trivial⟩
                refine L.val (x_ld (v := vP) ksort2_oc23 rfl (bx3.cell0 rfl)) rfl ?_
                refine L.nil ?_
                refine thn_n ?_
                refine LA.step (rs := [9]) (by kernel_rfl) (by simp) ⟨⟨_, rfl, ?_⟩, trivial⟩
                obtain ⟨rows, r1, r2, r3, r4⟩ := hP
                have hgB' : w63.heap.size ≤ w64.heap.size := hgB
                refine L.append (m := 1) Tryz.underlying23 ksort2_el25 rfl rfl rfl r2 ht.len bx64.news (ShC.one ht) (by omega) hG (fun v65 w65 hO65 hg hiff65 hob65 => ?_)
                obtain ⟨g65, c65, rfl⟩ := own_form hO65
                have hlo : ∀ j, some j = vP.ownBlock → base ≤ j := fun j hj => (r2.lt hj).1
                have hP := ShsOwn.snoc (A := Av base w64 _ vP) (A' := Av base w65 _ (.slice (some ⟨g65, 0, none⟩) ((outP s.parts (idx.take k)).length + 1) c65)) r1 r3 (fun i hi => (r4 i hi).mono (fun j _ h => av_mono hgA h)) (ht.mono (fun j _ h => by
                  rcases h with h | h | h | h
                  · exact .inl (Nat.lt_of_lt_of_le h hbG)
                  · exact .inl (hbN j h)
                  · exact .inl (hbP j h)
                  · exact .inr (Nat.le_trans hgB' h))) hO65 hg (fun j e => .inr (.inr (.inl e))) (fun j h => av_step hg.size (.inl rfl) hob65 h)
                have hN := Own.carryR hN hg (fun j hj hj' => own_ne hN r2 rfl hj hj')
                have hB := hB.step hg (fun i hi e => by have := hlo i e; omega)
                have hr := hr.carryR hg (fun j e => hU j (by have := hlo j e; omega))
                have hn := hn.carryR hg (fun j e => hU j (by have := hlo j e; omega))
                have bx1 := bx1.carryR hg (fun e => by have := hlo _ e; omega)
                have bx2 := bx2.carryR hg (fun e => by have := hlo _ e; omega)
                have bx3 := bx3.carryR hg (fun e => by have := hlo _ e; omega)
                have hO := hO.carryR hg (fun e => by have := hlo _ e; omega)
                have hG := hG.carryR hg
                refine L.nil ?_
                refine thn_n ?_
                refine LA.take (i := 10) rfl (by kernel_rfl) (by kernel_rfl) (by kernel_rfl) (fun w => x_fa ksort2_fo25_4 rfl) rfl ?_
                refine LA.step (rs := [11]) (by kernel_rfl) (by simp) ⟨⟨_, rfl, ?_⟩, trivial⟩
                refine L.set (v := .slice _ _ _) ksort2_sz23 rfl rfl rfl bx3 rfl (fun wl70 bx3 hw hzl70 => ?_)
                have hsz := hB.size
                have hB := hB.set hw (by omega); have hr := hr.carryR hw (fun k e => hU k (by have : k = _ := e; omega)); have hn := hn.carryR hw (fun k e => hU k (by have : k = _ := e; omega)); have bx1 := bx1.carryR hw (by omega); have bx2 := bx2.carryR hw (by omega); have hO := hO.carryR hw (by omega); have hN := Own.carryR hN hw (fun j hj e => by have := (hN.lt hj).1; have e : j = _ := e; omega); have hP := hP.carryA (A' := _) hw (fun j hj e => by have := (hP.lt hj).1; have e : j = _ := e; omega) (fun j e => .inl (by have e : j = _ := e; omega)) (fun _ h => h); have hG := hG.carryR hw
                refine L.nil ?_
                refine thn_n ?_
                refine LA.done (by kernel_rfl) ?_
                refine nrm_n ?_
                refine blk_n ?_
                refine thn_n ?_
                refine W.region ?_
                refine L.val (x_add rfl rfl (wr64 (by omega))) rfl ?_
                refine L.val (x_mv (v := .int _ _) rfl) rfl ?_
                refine L.nil ?_
                refine thn_n ⟨rfl, ?_⟩
                refine ⟨_, ?_, k + 1, _, _, rfl, by first | rfl | exact vi (by omega), by first | rfl | exact vi (by omega), by first | rfl | exact vi (by omega), by first | rfl | exact vi (by omega), by first | rfl | exact vi (by omega), by first | rfl | exact vi (by omega), (by first | assumption | omega | rfl), (by first | assumption | omega | rfl), (by first | assumption | omega | rfl), (by first | assumption | omega | rfl), (by first | assumption | omega | rfl), (by exact bx3), (by first | assumption | omega | rfl), (by first | assumption | omega | rfl), (by first | assumption | omega | rfl), (by first | (rw [outN_nil hne0]; rw [outN_nil hne0] at hN; exact hN) | (rw [outN_succ hne0 (by omega), ← hx]; simpa using hN)), (by rw [outP_succ (by omega), ← hx]; exact ShsOwn.carryA hP (Gr.refl (fun _ => False) _) (fun _ _ f => f) (fun _ f => f.elim) (fun j h => av_mono (Nat.le_of_eq hzl70.symm) h))⟩
                omega
           ·refine L.val (x_ld (v := S _) ksort2_oc9 rfl (hn.elemAt hxl)) rfl ?_
            refine L.nil ?_
            refine thn_n ?_
            refine LA.step (rs := [1, 7]) (by kernel_rfl) (by simp) ⟨⟨_, rfl, ?_⟩, ⟨_, rfl, ?_⟩, trivial⟩
            ·refine L.val (x_ld (v := vN) ksort2_oc22 rfl (bx3.cell0 rfl)) rfl ?_
             refine L.nil ?_
             refine thn_n ?_
             refine LA.step (rs := [7]) (by kernel_rfl) (by simp) ⟨⟨_, rfl, ?_⟩, trivial⟩
             refine L.bs (sz := 1) (cells := [S (s.names.getD x [])]) Tryz.underlying22 ksort2_el9 rfl rfl rfl rfl (fun w53 bx53 hw hz53 => ?_)
             have hB := hB.carry hw; have hr := hr.carry hw; have hn := hn.carry hw; have bx1 := bx1.carry hw; have bx2 := bx2.carry hw; have bx3 := bx3.carry hw; have hO := hO.carry hw; have hN := hN.carry hw; have hP := hP.carry hw; have hG := hG.carry hw; have hgA := hgA.carry hw
             refine L.nil ?_
             refine thn_n ?_
             refine LA.step (rs := [8]) (by kernel_rfl) (by simp) ⟨⟨_, rfl, ?_⟩, trivial⟩
             refine L.append (m := 1) Tryz.underlying22 ksort2_el9 rfl rfl rfl hN rfl bx53.news (by simp [Value.oneCell', S]) (by omega) hG (fun v54 w54 hO54 hg hiff54 hob54 => ?_)
             obtain ⟨g54, c54, rfl⟩ := own_form hO54
             have hlo : ∀ j, some j = vN.ownBlock → base ≤ j := fun j hj => (hN.lt hj).1
             obtain ⟨xsP, hPo⟩ := hP.own
             have hP := hP.carryA (A' := Av base w54 (.slice (some ⟨g54, 0, none⟩) ((outN s.names (idx.take k)).length + 1) c54) vP) hg (fun j hj hj' => own_ne hN hPo rfl hj' hj) (fun j e => .inr (.inl e)) (fun j h => av_mono hgA (av_step hg.size hob54 (.inl rfl) h))
             have hB := hB.step hg (fun i hi e => by have := hlo i e; omega)
             have hr := hr.carryR hg (fun j e => hU j (by have := hlo j e; omega))
             have hn := hn.carryR hg (fun j e => hU j (by have := hlo j e; omega))
             have bx1 := bx1.carryR hg (fun e => by have := hlo _ e; omega)
             have bx2 := bx2.carryR hg (fun e => by have := hlo _ e; omega)
             have bx3 := bx3.carryR hg (fun e => by have := hlo _ e; omega)
             have hO := hO.carryR hg (fun e => by have := hlo _ e; omega)
             have hG := hG.carryR hg
             have hN := hO54
             have hgA : Ge w54.heap.size w54 := Nat.le_refl _
             refine L.nil ?_
             refine thn_n ?_
             refine LA.take (i := 9) rfl (by kernel_rfl) (by kernel_rfl) (by kernel_rfl) (fun w => x_fa ksort2_fo25_3 rfl) rfl ?_
             refine LA.step (rs := [10]) (by kernel_rfl) (by simp) ⟨⟨_, rfl, ?_⟩, trivial⟩
             refine L.set (v := .slice _ _ _) ksort2_sz22 rfl rfl rfl bx3 rfl (fun wl58 bx3 hw hzl58 => ?_)
             have hsz := hB.size
             have hB := hB.set hw (by omega); have hr := hr.carryR hw (fun k e => hU k (by have : k = _ := e; omega)); have hn := hn.carryR hw (fun k e => hU k (by have : k = _ := e; omega)); have bx1 := bx1.carryR hw (by omega); have bx2 := bx2.carryR hw (by omega); have hO := hO.carryR hw (by omega); have hN := Own.carryR hN hw (fun j hj e => by have := (hN.lt hj).1; have e : j = _ := e; omega); have hP := hP.carryA (A' := _) hw (fun j hj e => by have := (hP.lt hj).1; have e : j = _ := e; omega) (fun j e => .inl (by have e : j = _ := e; omega)) (fun _ h => h); have hG := hG.carryR hw; have hgA := hgA.carryR hw
             refine L.nil ?_
             refine thn_n ?_
             refine LA.done (by kernel_rfl) ?_
             refine nrm_n ?_
             refine thn_n ?_
             refine W.drawS ksort2_mixed ?_
             have hB := hB.carry (bel_drew _); have hr := hr.carry (bel_drew _); have hn := hn.carry (bel_drew _); have bx1 := bx1.carry (bel_drew _); have bx2 := bx2.carry (bel_drew _); have bx3 := bx3.carry (bel_drew _); have hO := hO.carry (bel_drew _); have hN := hN.carry (bel_drew _); have hP := hP.carry (bel_drew _); have hG := hG.carry (bel_drew _); have hgA := hgA.carry (bel_drew _)
             refine LA.take (i := 0) rfl (by kernel_rfl) (by kernel_rfl) (by kernel_rfl) (fun w => x_fa ksort2_fo25_4 rfl) rfl ?_
             refine LA.take (i := 2) rfl (by kernel_rfl) (by kernel_rfl) (by kernel_rfl) (fun w => x_fa ksort2_fo25_4 rfl) rfl ?_
             refine LA.take (i := 4) rfl (by kernel_rfl) (by kernel_rfl) (by kernel_rfl) (fun w => x_mv (v := .int _ _) rfl) rfl ?_
             refine LA.step (rs := [1, 3]) (by kernel_rfl) (by simp) ⟨⟨_, rfl, ?_⟩, ⟨_, rfl, ?_⟩, trivial⟩
             ·refine L.val (x_ld (v := vP) ksort2_oc23 rfl (bx3.cell0 rfl)) rfl ?_
              refine L.nil ?_
              refine thn_n ?_
              refine LA.step (rs := [3]) (by kernel_rfl) (by simp) ⟨⟨_, rfl, ?_⟩, trivial⟩
              refine L.val (x_ld (v := .slice _ _ _) ksort2_oc23 rfl (bx1.cell0 rfl)) rfl ?_
              refine L.nil ?_
              refine thn_n ?_
              refine LA.take (i := 5) rfl (by kernel_rfl) (by kernel_rfl) (by kernel_rfl) (fun w => x_ia (j := x) Tryz.underlying23 ksort2_sz25 rfl rfl (by omega) (by omega)) rfl ?_
              refine LA.step (rs := [6]) (by kernel_rfl) (by simp) ⟨⟨_, rfl, ?_⟩, trivial⟩
              refine L.val (x_ldn (vs := row x) ksort2_ag25 rfl (hr.five x hxn) (hr.elemAt hxn)) rfl ?_
              refine L.nil ?_
              refine thn_n ?_
              refine LA.step (rs := [7]) (by kernel_rfl) (by simp) ⟨⟨_, rfl, ?_⟩, trivial⟩
              have hbN := fun j h => (Own.lt hN (j := j) h).2
              have hbP := fun j h => (hP.lt (j := j) h).2
              have hbG := hG
              refine L.ret (x_call ksort2_en72 rfl) rfl (ih _ (by have := Sh.part_lt hxn; omega) (by have := Sh.part_size hxn; omega) (allL_getD hfp hxn) A _ _ (hr.each x hxn)) ?_
              rintro _ w63 ⟨cs63, rfl, ht, hw⟩
              have hB := hB.carry hw; have hr := hr.carry hw; have hn := hn.carry hw; have bx1 := bx1.carry hw; have bx2 := bx2.carry hw; have bx3 := bx3.carry hw; have hO := hO.carry hw; have hN := hN.carry hw; have hP := hP.carry hw; have hG := hG.carry hw; have hgA := hgA.carry hw
              have ht := ht.up
              have hgB : Ge w63.heap.size w63 := Nat.le_refl _
              refine L.nil ?_
              refine thn_n ?_
              refine LA.step (rs := [8]) (by kernel_rfl) (by simp) ⟨⟨_, rfl, ?_⟩, trivial⟩
              refine L.bs (sz := 5) (cells := cs63) Tryz.underlying23 ksort2_el25 rfl (by show (partsOk 5 0 [(0, Value.agg cs63.toArray)] && decide ([((0 : Nat), Value.agg cs63.toArray)].length = 1) && decide (0 < 1) && decide (1 * 5 ≤ 16777216)) = true; simp [partsOk, ht.len, Value.cells]) (by show ([((0 : Nat), Value.agg cs63.toArray)].map fun x => x.2.cells.toList).flatten = cs63; simp [Value.cells]) rfl (fun w64 bx64 hw hz64 => ?_)
              have hB := hB.carry hw; have hr := hr.carry hw; have hn := hn.carry hw; have bx1 := bx1.carry hw; have bx2 := bx2.carry hw; have bx3 := bx3.carry hw; have hO := hO.carry hw; have hN := hN.carry hw; have hP := hP.carry hw; have hG := hG.carry hw; have hgA := hgA.carry hw; have ht := ht.carry hw; have hgB := hgB.carry hw
              refine L.nil ?_
              refine thn_n ?_
              refine LA.step (rs := [9]) (by kernel_rfl) (by simp) ⟨⟨_, rfl, ?_⟩, trivial⟩
              obtain ⟨rows, r1, r2, r3, r4⟩ := hP
              have hgB' : w63.heap.size ≤ w64.heap.size := hgB
              refine L.append (m := 1) Tryz.underlying23 ksort2_el25 rfl rfl rfl r2 ht.len bx64.news (ShC.one ht) (by omega) hG (fun v65 w65 hO65 hg hiff65 hob65 => ?_)
              obtain ⟨g65, c65, rfl⟩ := own_form hO65
              have hlo : ∀ j, some j = vP.ownBlock → base ≤ j := fun j hj => (r2.lt hj).1
              have hP := ShsOwn.snoc (A := Av base w64 _ vP) (A' := Av base w65 _ (.slice (some ⟨g65, 0, none⟩) ((outP s.parts (idx.take k)).length + 1) c65)) r1 r3 (fun i hi => (r4 i hi).mono (fun j _ h => av_mono hgA h)) (ht.mono (fun j _ h => by
                rcases h with h | h | h | h
                · exact .inl (Nat.lt_of_lt_of_le h hbG)
                · exact .inl (hbN j h)
                · exact .inl (hbP j h)
                · exact .inr (Nat.le_trans hgB' h))) hO65 hg (fun j e => .inr (.inr (.inl e))) (fun j h => av_step hg.size (.inl rfl) hob65 h)
              have hN := Own.carryR hN hg (fun j hj hj' => own_ne hN r2 rfl hj hj')
              have hB := hB.step hg (fun i hi e => by have := hlo i e; omega)
              have hr := hr.carryR hg (fun j e => hU j (by have := hlo j e; omega))
              have hn := hn.carryR hg (fun j e => hU j (by have := hlo j e; omega))
              have bx1 := bx1.carryR hg (fun e => by have := hlo _ e; omega)
              have bx2 := bx2.carryR hg (fun e => by have := hlo _ e; omega)
              have bx3 := bx3.carryR hg (fun e => by have := hlo _ e; omega)
              have hO := hO.carryR hg (fun e => by have := hlo _ e; omega)
              have hG := hG.carryR hg
              refine L.nil ?_
              refine thn_n ?_
              refine LA.take (i := 10) rfl (by kernel_rfl) (by kernel_rfl) (by kernel_rfl) (fun w => x_fa ksort2_fo25_4 rfl) rfl ?_
              refine LA.step (rs := [11]) (by kernel_rfl) (by simp) ⟨⟨_, rfl, ?_⟩, trivial⟩
              refine L.set (v := .slice _ _ _) ksort2_sz23 rfl rfl rfl bx3 rfl (fun wl70 bx3 hw hzl70 => ?_)
              have hsz := hB.size
              have hB := hB.set hw (by omega); have hr := hr.carryR hw (fun k e => hU k (by have : k = _ := e; omega)); have hn := hn.carryR hw (fun k e => hU k (by have : k = _ := e; omega)); have bx1 := bx1.carryR hw (by omega); have bx2 := bx2.carryR hw (by omega); have hO := hO.carryR hw (by omega); have hN := Own.carryR hN hw (fun j hj e => by have := (hN.lt hj).1; have e : j = _ := e; omega); have hP := hP.carryA (A' := _) hw (fun j hj e => by have := (hP.lt hj).1; have e : j = _ := e; omega) (fun j e => .inl (by have e : j = _ := e; omega)) (fun _ h => h); have hG := hG.carryR hw
              refine L.nil ?_
              refine thn_n ?_
              refine LA.done (by kernel_rfl) ?_
              refine nrm_n ?_
              refine blk_n ?_
              refine thn_n ?_
              refine W.region ?_
              refine L.val (x_add rfl rfl (wr64 (by omega))) rfl ?_
              refine L.val (x_mv (v := .int _ _) rfl) rfl ?_
              refine L.nil ?_
              refine thn_n ⟨rfl, ?_⟩
              refine ⟨_, ?_, k + 1, _, _, rfl, by first | rfl | exact vi (by omega), by first | rfl | exact vi (by omega), by first | rfl | exact vi (by omega), by first | rfl | exact vi (by omega), by first | rfl | exact vi (by omega), by first | rfl | exact vi (by omega), (by first | assumption | omega | rfl), (by first | assumption | omega | rfl), (by first | assumption | omega | rfl), (by first | assumption | omega | rfl), (by first | assumption | omega | rfl), (by exact bx3), (by first | assumption | omega | rfl), (by first | assumption | omega | rfl), (by first | assumption | omega | rfl), (by first | (rw [outN_nil hne0]; rw [outN_nil hne0] at hN; exact hN) | (rw [outN_succ hne0 (by omega), ← hx]; simpa using hN)), (by rw [outP_succ (by omega), ← hx]; exact ShsOwn.carryA hP (Gr.refl (fun _ => False) _) (fun _ _ f => f) (fun _ f => f.elim) (fun j h => av_mono (Nat.le_of_eq hzl70.symm) h))⟩
              omega
             ·refine L.val (x_ld (v := .slice _ _ _) ksort2_oc23 rfl (bx1.cell0 rfl)) rfl ?_
              refine L.nil ?_
              refine thn_n ?_
              refine LA.take (i := 5) rfl (by kernel_rfl) (by kernel_rfl) (by kernel_rfl) (fun w => x_ia (j := x) Tryz.underlying23 ksort2_sz25 rfl rfl (by omega) (by omega)) rfl ?_
              refine LA.step (rs := [1, 6]) (by kernel_rfl) (by simp) ⟨⟨_, rfl, ?_⟩, ⟨_, rfl, ?_⟩, trivial⟩
              ·refine L.val (x_ld (v := vP) ksort2_oc23 rfl (bx3.cell0 rfl)) rfl ?_
               refine L.nil ?_
               refine thn_n ?_
               refine LA.step (rs := [6]) (by kernel_rfl) (by simp) ⟨⟨_, rfl, ?_⟩, trivial⟩
               refine L.val (x_ldn (vs := row x) ksort2_ag25 rfl (hr.five x hxn) (hr.elemAt hxn)) rfl ?_
               refine L.nil ?_
               refine thn_n ?_
               refine LA.step (rs := [7]) (by kernel_rfl) (by simp) ⟨⟨_, rfl, ?_⟩, trivial⟩
               have hbN := fun j h => (Own.lt hN (j := j) h).2
               have hbP := fun j h => (hP.lt (j := j) h).2
               have hbG := hG
               refine L.ret (x_call ksort2_en72 rfl) rfl (ih _ (by have := Sh.part_lt hxn; omega) (by have := Sh.part_size hxn; omega) (allL_getD hfp hxn) A _ _ (hr.each x hxn)) ?_
               rintro _ w63 ⟨cs63, rfl, ht, hw⟩
               have hB := hB.carry hw; have hr := hr.carry hw; have hn := hn.carry hw; have bx1 := bx1.carry hw; have bx2 := bx2.carry hw; have bx3 := bx3.carry hw; have hO := hO.carry hw; have hN := hN.carry hw; have hP := hP.carry hw; have hG := hG.carry hw; have hgA := hgA.carry hw
               have ht := ht.up
               have hgB : Ge w63.heap.size w63 := Nat.le_refl _
               refine L.nil ?_
               refine thn_n ?_
               refine LA.step (rs := [8]) (by kernel_rfl) (by simp) ⟨⟨_, rfl, ?_⟩, trivial⟩
               refine L.bs (sz := 5) (cells := cs63) Tryz.underlying23 ksort2_el25 rfl (by show (partsOk 5 0 [(0, Value.agg cs63.toArray)] && decide ([((0 : Nat), Value.agg cs63.toArray)].length = 1) && decide (0 < 1) && decide (1 * 5 ≤ 16777216)) = true; simp [partsOk, ht.len, Value.cells]) (by show ([((0 : Nat), Value.agg cs63.toArray)].map fun x => x.2.cells.toList).flatten = cs63; simp [Value.cells]) rfl (fun w64 bx64 hw hz64 => ?_)
               have hB := hB.carry hw; have hr := hr.carry hw; have hn := hn.carry hw; have bx1 := bx1.carry hw; have bx2 := bx2.carry hw; have bx3 := bx3.carry hw; have hO := hO.carry hw; have hN := hN.carry hw; have hP := hP.carry hw; have hG := hG.carry hw; have hgA := hgA.carry hw; have ht := ht.carry hw; have hgB := hgB.carry hw
               refine L.nil ?_
               refine thn_n ?_
               refine LA.step (rs := [9]) (by kernel_rfl) (by simp) ⟨⟨_, rfl, ?_⟩, trivial⟩
               obtain ⟨rows, r1, r2, r3, r4⟩ := hP
               have hgB' : w63.heap.size ≤ w64.heap.size := hgB
               refine L.append (m := 1) Tryz.underlying23 ksort2_el25 rfl rfl rfl r2 ht.len bx64.news (ShC.one ht) (by omega) hG (fun v65 w65 hO65 hg hiff65 hob65 => ?_)
               obtain ⟨g65, c65, rfl⟩ := own_form hO65
               have hlo : ∀ j, some j = vP.ownBlock → base ≤ j := fun j hj => (r2.lt hj).1
               have hP := ShsOwn.snoc (A := Av base w64 _ vP) (A' := Av base w65 _ (.slice (some ⟨g65, 0, none⟩) ((outP s.parts (idx.take k)).length + 1) c65)) r1 r3 (fun i hi => (r4 i hi).mono (fun j _ h => av_mono hgA h)) (ht.mono (fun j _ h => by
                 rcases h with h | h | h | h
                 · exact .inl (Nat.lt_of_lt_of_le h hbG)
                 · exact .inl (hbN j h)
                 · exact .inl (hbP j h)
                 · exact .inr (Nat.le_trans hgB' h))) hO65 hg (fun j e => .inr (.inr (.inl e))) (fun j h => av_step hg.size (.inl rfl) hob65 h)
               have hN := Own.carryR hN hg (fun j hj hj' => own_ne hN r2 rfl hj hj')
               have hB := hB.step hg (fun i hi e => by have := hlo i e; omega)
               have hr := hr.carryR hg (fun j e => hU j (by have := hlo j e; omega))
               have hn := hn.carryR hg (fun j e => hU j (by have := hlo j e; omega))
               have bx1 := bx1.carryR hg (fun e => by have := hlo _ e; omega)
               have bx2 := bx2.carryR hg (fun e => by have := hlo _ e; omega)
               have bx3 := bx3.carryR hg (fun e => by have := hlo _ e; omega)
               have hO := hO.carryR hg (fun e => by have := hlo _ e; omega)
               have hG := hG.carryR hg
               refine L.nil ?_
               refine thn_n ?_
               refine LA.take (i := 10) rfl (by kernel_rfl) (by kernel_rfl) (by kernel_rfl) (fun w => x_fa ksort2_fo25_4 rfl) rfl ?_
               refine LA.step (rs := [11]) (by kernel_rfl) (by simp) ⟨⟨_, rfl, ?_⟩, trivial⟩
               refine L.set (v := .slice _ _ _) ksort2_sz23 rfl rfl rfl bx3 rfl (fun wl70 bx3 hw hzl70 => ?_)
               have hsz := hB.size
               have hB := hB.set hw (by omega); have hr := hr.carryR hw (fun k e => hU k (by have : k = _ := e; omega)); have hn := hn.carryR hw (fun k e => hU k (by have : k = _ := e; omega)); have bx1 := bx1.carryR hw (by omega); have bx2 := bx2.carryR hw (by omega); have hO := hO.carryR hw (by omega); have hN := Own.carryR hN hw (fun j hj e => by have := (hN.lt hj).1; have e : j = _ := e; omega); have hP := hP.carryA (A' := _) hw (fun j hj e => by have := (hP.lt hj).1; have e : j = _ := e; omega) (fun j e => .inl (by have e : j = _ := e; omega)) (fun _ h => h); have hG := hG.carryR hw
               refine L.nil ?_
               refine thn_n ?_
               refine LA.done (by kernel_rfl) ?_
               refine nrm_n ?_
               refine blk_n ?_
               refine thn_n ?_
               refine W.region ?_
               refine L.val (x_add rfl rfl (wr64 (by omega))) rfl ?_
               refine L.val (x_mv (v := .int _ _) rfl) rfl ?_
               refine L.nil ?_
               refine thn_n ⟨rfl, ?_⟩
               refine ⟨_, ?_, k + 1, _, _, rfl, by first | rfl | exact vi (by omega), by first | rfl | exact vi (by omega), by first | rfl | exact vi (by omega), by first | rfl | exact vi (by omega), by first | rfl | exact vi (by omega), by first | rfl | exact vi (by omega), (by first | assumption | omega | rfl), (by first | assumption | omega | rfl), (by first | assumption | omega | rfl), (by first | assumption | omega | rfl), (by first | assumption | omega | rfl), (by exact bx3), (by first | assumption | omega | rfl), (by first | assumption | omega | rfl), (by first | assumption | omega | rfl), (by first | (rw [outN_nil hne0]; rw [outN_nil hne0] at hN; exact hN) | (rw [outN_succ hne0 (by omega), ← hx]; simpa using hN)), (by rw [outP_succ (by omega), ← hx]; exact ShsOwn.carryA hP (Gr.refl (fun _ => False) _) (fun _ _ f => f) (fun _ f => f.elim) (fun j h => av_mono (Nat.le_of_eq hzl70.symm) h))⟩
               omega
              ·refine L.val (x_ldn (vs := row x) ksort2_ag25 rfl (hr.five x hxn) (hr.elemAt hxn)) rfl ?_
               refine L.nil ?_
               refine thn_n ?_
               refine LA.step (rs := [1, 7]) (by kernel_rfl) (by simp) ⟨⟨_, rfl, ?_⟩, ⟨_, rfl, ?_⟩, trivial⟩
               ·refine L.val (x_ld (v := vP) ksort2_oc23 rfl (bx3.cell0 rfl)) rfl ?_
                refine L.nil ?_
                refine thn_n ?_
                refine LA.step (rs := [7]) (by kernel_rfl) (by simp) ⟨⟨_, rfl, ?_⟩, trivial⟩
                have hbN := fun j h => (Own.lt hN (j := j) h).2
                have hbP := fun j h => (hP.lt (j := j) h).2
                have hbG := hG
                refine L.ret (x_call ksort2_en72 rfl) rfl (ih _ (by have := Sh.part_lt hxn; omega) (by have := Sh.part_size hxn; omega) (allL_getD hfp hxn) A _ _ (hr.each x hxn)) ?_
                rintro _ w63 ⟨cs63, rfl, ht, hw⟩
                have hB := hB.carry hw; have hr := hr.carry hw; have hn := hn.carry hw; have bx1 := bx1.carry hw; have bx2 := bx2.carry hw; have bx3 := bx3.carry hw; have hO := hO.carry hw; have hN := hN.carry hw; have hP := hP.carry hw; have hG := hG.carry hw; have hgA := hgA.carry hw
                have ht := ht.up
                have hgB : Ge w63.heap.size w63 := Nat.le_refl _
                refine L.nil ?_
                refine thn_n ?_
                refine LA.step (rs := [8]) (by kernel_rfl) (by simp) ⟨⟨_, rfl, ?_⟩, trivial⟩
                refine L.bs (sz := 5) (cells := cs63) Tryz.underlying23 ksort2_el25 rfl (by show (partsOk 5 0 [(0, Value.agg cs63.toArray)] && decide ([((0 : Nat), Value.agg cs63.toArray)].length = 1) && decide (0 < 1) && decide (1 * 5 ≤ 16777216)) = true; simp [partsOk, ht.len, Value.cells]) (by show ([((0 : Nat), Value.agg cs63.toArray)].map fun x => x.2.cells.toList).flatten = cs63; simp [Value.cells]) rfl (fun w64 bx64 hw hz64 => ?_)
                have hB := hB.carry hw; have hr := hr.carry hw; have hn := hn.carry hw; have bx1 := bx1.carry hw; have bx2 := bx2.carry hw; have bx3 := bx3.carry hw; have hO := hO.carry hw; have hN := hN.carry hw; have hP := hP.carry hw; have hG := hG.carry hw; have hgA := hgA.carry hw; have ht := ht.carry hw; have hgB := hgB.carry hw
                refine L.nil ?_
                refine thn_n ?_
                refine LA.step (rs := [9]) (by kernel_rfl) (by simp) ⟨⟨_, rfl, ?_⟩, trivial⟩
                obtain ⟨rows, r1, r2, r3, r4⟩ := hP
                have hgB' : w63.heap.size ≤ w64.heap.size := hgB
                refine L.append (m := 1) Tryz.underlying23 ksort2_el25 rfl rfl rfl r2 ht.len bx64.news (ShC.one ht) (by omega) hG (fun v65 w65 hO65 hg hiff65 hob65 => ?_)
                obtain ⟨g65, c65, rfl⟩ := own_form hO65
                have hlo : ∀ j, some j = vP.ownBlock → base ≤ j := fun j hj => (r2.lt hj).1
                have hP := ShsOwn.snoc (A := Av base w64 _ vP) (A' := Av base w65 _ (.slice (some ⟨g65, 0, none⟩) ((outP s.parts (idx.take k)).length + 1) c65)) r1 r3 (fun i hi => (r4 i hi).mono (fun j _ h => av_mono hgA h)) (ht.mono (fun j _ h => by
                  rcases h with h | h | h | h
                  · exact .inl (Nat.lt_of_lt_of_le h hbG)
                  · exact .inl (hbN j h)
                  · exact .inl (hbP j h)
                  · exact .inr (Nat.le_trans hgB' h))) hO65 hg (fun j e => .inr (.inr (.inl e))) (fun j h => av_step hg.size (.inl rfl) hob65 h)
                have hN := Own.carryR hN hg (fun j hj hj' => own_ne hN r2 rfl hj hj')
                have hB := hB.step hg (fun i hi e => by have := hlo i e; omega)
                have hr := hr.carryR hg (fun j e => hU j (by have := hlo j e; omega))
                have hn := hn.carryR hg (fun j e => hU j (by have := hlo j e; omega))
                have bx1 := bx1.carryR hg (fun e => by have := hlo _ e; omega)
                have bx2 := bx2.carryR hg (fun e => by have := hlo _ e; omega)
                have bx3 := bx3.carryR hg (fun e => by have := hlo _ e; omega)
                have hO := hO.carryR hg (fun e => by have := hlo _ e; omega)
                have hG := hG.carryR hg
                refine L.nil ?_
                refine thn_n ?_
                refine LA.take (i := 10) rfl (by kernel_rfl) (by kernel_rfl) (by kernel_rfl) (fun w => x_fa ksort2_fo25_4 rfl) rfl ?_
                refine LA.step (rs := [11]) (by kernel_rfl) (by simp) ⟨⟨_, rfl, ?_⟩, trivial⟩
                refine L.set (v := .slice _ _ _) ksort2_sz23 rfl rfl rfl bx3 rfl (fun wl70 bx3 hw hzl70 => ?_)
                have hsz := hB.size
                have hB := hB.set hw (by omega); have hr := hr.carryR hw (fun k e => hU k (by have : k = _ := e; omega)); have hn := hn.carryR hw (fun k e => hU k (by have : k = _ := e; omega)); have bx1 := bx1.carryR hw (by omega); have bx2 := bx2.carryR hw (by omega); have hO := hO.carryR hw (by omega); have hN := Own.carryR hN hw (fun j hj e => by have := (hN.lt hj).1; have e : j = _ := e; omega); have hP := hP.carryA (A' := _) hw (fun j hj e => by have := (hP.lt hj).1; have e : j = _ := e; omega) (fun j e => .inl (by have e : j = _ := e; omega)) (fun _ h => h); have hG := hG.carryR hw
                refine L.nil ?_
                refine thn_n ?_
                refine LA.done (by kernel_rfl) ?_
                refine nrm_n ?_
                refine blk_n ?_
                refine thn_n ?_
                refine W.region ?_
                refine L.val (x_add rfl rfl (wr64 (by omega))) rfl ?_
                refine L.val (x_mv (v := .int _ _) rfl) rfl ?_
                refine L.nil ?_
                refine thn_n ⟨rfl, ?_⟩
                refine ⟨_, ?_, k + 1, _, _, rfl, by first | rfl | exact vi (by omega), by first | rfl | exact vi (by omega), by first | rfl | exact vi (by omega), by first | rfl | exact vi (by omega), by first | rfl | exact vi (by omega), by first | rfl | exact vi (by omega), (by first | assumption | omega | rfl), (by first | assumption | omega | rfl), (by first | assumption | omega | rfl), (by first | assumption | omega | rfl), (by first | assumption | omega | rfl), (by exact bx3), (by first | assumption | omega | rfl), (by first | assumption | omega | rfl), (by first | assumption | omega | rfl), (by first | (rw [outN_nil hne0]; rw [outN_nil hne0] at hN; exact hN) | (rw [outN_succ hne0 (by omega), ← hx]; simpa using hN)), (by rw [outP_succ (by omega), ← hx]; exact ShsOwn.carryA hP (Gr.refl (fun _ => False) _) (fun _ _ f => f) (fun _ f => f.elim) (fun j h => av_mono (Nat.le_of_eq hzl70.symm) h))⟩
                omega
               ·have hbN := fun j h => (Own.lt hN (j := j) h).2
                have hbP := fun j h => (hP.lt (j := j) h).2
                have hbG := hG
                refine L.ret (x_call ksort2_en72 rfl) rfl (ih _ (by have := Sh.part_lt hxn; omega) (by have := Sh.part_size hxn; omega) (allL_getD hfp hxn) A _ _ (hr.each x hxn)) ?_
                rintro _ w63 ⟨cs63, rfl, ht, hw⟩
                have hB := hB.carry hw; have hr := hr.carry hw; have hn := hn.carry hw; have bx1 := bx1.carry hw; have bx2 := bx2.carry hw; have bx3 := bx3.carry hw; have hO := hO.carry hw; have hN := hN.carry hw; have hP := hP.carry hw; have hG := hG.carry hw; have hgA := hgA.carry hw
                have ht := ht.up
                have hgB : Ge w63.heap.size w63 := Nat.le_refl _
                refine L.nil ?_
                refine thn_n ?_
                refine LA.step (rs := [1, 8]) (by kernel_rfl) (by simp) ⟨⟨_, rfl, ?_⟩, ⟨_, rfl, ?_⟩, trivial⟩
                ·refine L.val (x_ld (v := vP) ksort2_oc23 rfl (bx3.cell0 rfl)) rfl ?_
                 refine L.nil ?_
                 refine thn_n ?_
                 refine LA.step (rs := [8]) (by kernel_rfl) (by simp) ⟨⟨_, rfl, ?_⟩, trivial⟩
                 refine L.bs (sz := 5) (cells := cs63) Tryz.underlying23 ksort2_el25 rfl (by show (partsOk 5 0 [(0, Value.agg cs63.toArray)] && decide ([((0 : Nat), Value.agg cs63.toArray)].length = 1) && decide (0 < 1) && decide (1 * 5 ≤ 16777216)) = true; simp [partsOk, ht.len, Value.cells]) (by show ([((0 : Nat), Value.agg cs63.toArray)].map fun x => x.2.cells.toList).flatten = cs63; simp [Value.cells]) rfl (fun w64 bx64 hw hz64 => ?_)
                 have hB := hB.carry hw; have hr := hr.carry hw; have hn := hn.carry hw; have bx1 := bx1.carry hw; have bx2 := bx2.carry hw; have bx3 := bx3.carry hw; have hO := hO.carry hw; have hN := hN.carry hw; have hP := hP.carry hw; have hG := hG.carry hw; have hgA := hgA.carry hw; have ht := ht.carry hw; have hgB := hgB.carry hw
                 refine L.nil ?_
                 refine thn_n ?_
                 refine LA.step (rs := [9]) (by kernel_rfl) (by simp) ⟨⟨_, rfl, ?_⟩, trivial⟩
                 obtain ⟨rows, r1, r2, r3, r4⟩ := hP
                 have hgB' : w63.heap.size ≤ w64.heap.size := hgB
                 refine L.append (m := 1) Tryz.underlying23 ksort2_el25 rfl rfl rfl r2 ht.len bx64.news (ShC.one ht) (by omega) hG (fun v65 w65 hO65 hg hiff65 hob65 => ?_)
                 obtain ⟨g65, c65, rfl⟩ := own_form hO65
                 have hlo : ∀ j, some j = vP.ownBlock → base ≤ j := fun j hj => (r2.lt hj).1
                 have hP := ShsOwn.snoc (A := Av base w64 _ vP) (A' := Av base w65 _ (.slice (some ⟨g65, 0, none⟩) ((outP s.parts (idx.take k)).length + 1) c65)) r1 r3 (fun i hi => (r4 i hi).mono (fun j _ h => av_mono hgA h)) (ht.mono (fun j _ h => by
                   rcases h with h | h | h | h
                   · exact .inl (Nat.lt_of_lt_of_le h hbG)
                   · exact .inl (hbN j h)
                   · exact .inl (hbP j h)
                   · exact .inr (Nat.le_trans hgB' h))) hO65 hg (fun j e => .inr (.inr (.inl e))) (fun j h => av_step hg.size (.inl rfl) hob65 h)
                 have hN := Own.carryR hN hg (fun j hj hj' => own_ne hN r2 rfl hj hj')
                 have hB := hB.step hg (fun i hi e => by have := hlo i e; omega)
                 have hr := hr.carryR hg (fun j e => hU j (by have := hlo j e; omega))
                 have hn := hn.carryR hg (fun j e => hU j (by have := hlo j e; omega))
                 have bx1 := bx1.carryR hg (fun e => by have := hlo _ e; omega)
                 have bx2 := bx2.carryR hg (fun e => by have := hlo _ e; omega)
                 have bx3 := bx3.carryR hg (fun e => by have := hlo _ e; omega)
                 have hO := hO.carryR hg (fun e => by have := hlo _ e; omega)
                 have hG := hG.carryR hg
                 refine L.nil ?_
                 refine thn_n ?_
                 refine LA.take (i := 10) rfl (by kernel_rfl) (by kernel_rfl) (by kernel_rfl) (fun w => x_fa ksort2_fo25_4 rfl) rfl ?_
                 refine LA.step (rs := [11]) (by kernel_rfl) (by simp) ⟨⟨_, rfl, ?_⟩, trivial⟩
                 refine L.set (v := .slice _ _ _) ksort2_sz23 rfl rfl rfl bx3 rfl (fun wl70 bx3 hw hzl70 => ?_)
                 have hsz := hB.size
                 have hB := hB.set hw (by omega); have hr := hr.carryR hw (fun k e => hU k (by have : k = _ := e; omega)); have hn := hn.carryR hw (fun k e => hU k (by have : k = _ := e; omega)); have bx1 := bx1.carryR hw (by omega); have bx2 := bx2.carryR hw (by omega); have hO := hO.carryR hw (by omega); have hN := Own.carryR hN hw (fun j hj e => by have := (hN.lt hj).1; have e : j = _ := e; omega); have hP := hP.carryA (A' := _) hw (fun j hj e => by have := (hP.lt hj).1; have e : j = _ := e; omega) (fun j e => .inl (by have e : j = _ := e; omega)) (fun _ h => h); have hG := hG.carryR hw
                 refine L.nil ?_
                 refine thn_n ?_
                 refine LA.done (by kernel_rfl) ?_
                 refine nrm_n ?_
                 refine blk_n ?_
                 refine thn_n ?_
                 refine W.region ?_
                 refine L.val (x_add rfl rfl (wr64 (by omega))) rfl ?_
                 refine L.val (x_mv (v := .int _ _) rfl) rfl ?_
                 refine L.nil ?_
                 refine thn_n ⟨rfl, ?_⟩
                 refine ⟨_, ?_, k + 1, _, _, rfl, by first | rfl | exact vi (by omega), by first | rfl | exact vi (by omega), by first | rfl | exact vi (by omega), by first | rfl | exact vi (by omega), by first | rfl | exact vi (by omega), by first | rfl | exact vi (by omega), (by first | assumption | omega | rfl), (by first | assumption | omega | rfl), (by first | assumption | omega | rfl), (by first | assumption | omega | rfl), (by first | assumption | omega | rfl), (by exact bx3), (by first | assumption | omega | rfl), (by first | assumption | omega | rfl), (by first | assumption | omega | rfl), (by first | (rw [outN_nil hne0]; rw [outN_nil hne0] at hN; exact hN) | (rw [outN_succ hne0 (by omega), ← hx]; simpa using hN)), (by rw [outP_succ (by omega), ← hx]; exact ShsOwn.carryA hP (Gr.refl (fun _ => False) _) (fun _ _ f => f) (fun _ f => f.elim) (fun j h => av_mono (Nat.le_of_eq hzl70.symm) h))⟩
                 omega
                ·refine L.bs (sz := 5) (cells := cs63) Tryz.underlying23 ksort2_el25 rfl (by show (partsOk 5 0 [(0, Value.agg cs63.toArray)] && decide ([((0 : Nat), Value.agg cs63.toArray)].length = 1) && decide (0 < 1) && decide (1 * 5 ≤ 16777216)) = true; simp [partsOk, ht.len, Value.cells]) (by show ([((0 : Nat), Value.agg cs63.toArray)].map fun x => x.2.cells.toList).flatten = cs63; simp [Value.cells]) rfl (fun w64 bx64 hw hz64 => ?_)
                 have hB := hB.carry hw; have hr := hr.carry hw; have hn := hn.carry hw; have bx1 := bx1.carry hw; have bx2 := bx2.carry hw; have bx3 := bx3.carry hw; have hO := hO.carry hw; have hN := hN.carry hw; have hP := hP.carry hw; have hG := hG.carry hw; have hgA := hgA.carry hw; have ht := ht.carry hw; have hgB := hgB.carry hw
                 refine L.nil ?_
                 refine thn_n ?_
                 refine LA.step (rs := [1]) (by kernel_rfl) (by simp) ⟨⟨_, rfl, ?_⟩, trivial⟩
                 refine L.val (x_ld (v := vP) ksort2_oc23 rfl (bx3.cell0 rfl)) rfl ?_
                 refine L.nil ?_
                 refine thn_n ?_
                 refine LA.step (rs := [9]) (by kernel_rfl) (by simp) ⟨⟨_, rfl, ?_⟩, trivial⟩
                 obtain ⟨rows, r1, r2, r3, r4⟩ := hP
                 have hgB' : w63.heap.size ≤ w64.heap.size := hgB
                 refine L.append (m := 1) Tryz.underlying23 ksort2_el25 rfl rfl rfl r2 ht.len bx64.news (ShC.one ht) (by omega) hG (fun v65 w65 hO65 hg hiff65 hob65 => ?_)
                 obtain ⟨g65, c65, rfl⟩ := own_form hO65
                 have hlo : ∀ j, some j = vP.ownBlock → base ≤ j := fun j hj => (r2.lt hj).1
                 have hP := ShsOwn.snoc (A := Av base w64 _ vP) (A' := Av base w65 _ (.slice (some ⟨g65, 0, none⟩) ((outP s.parts (idx.take k)).length + 1) c65)) r1 r3 (fun i hi => (r4 i hi).mono (fun j _ h => av_mono hgA h)) (ht.mono (fun j _ h => by
                   rcases h with h | h | h | h
                   · exact .inl (Nat.lt_of_lt_of_le h hbG)
                   · exact .inl (hbN j h)
                   · exact .inl (hbP j h)
                   · exact .inr (Nat.le_trans hgB' h))) hO65 hg (fun j e => .inr (.inr (.inl e))) (fun j h => av_step hg.size (.inl rfl) hob65 h)
                 have hN := Own.carryR hN hg (fun j hj hj' => own_ne hN r2 rfl hj hj')
                 have hB := hB.step hg (fun i hi e => by have := hlo i e; omega)
                 have hr := hr.carryR hg (fun j e => hU j (by have := hlo j e; omega))
                 have hn := hn.carryR hg (fun j e => hU j (by have := hlo j e; omega))
                 have bx1 := bx1.carryR hg (fun e => by have := hlo _ e; omega)
                 have bx2 := bx2.carryR hg (fun e => by have := hlo _ e; omega)
                 have bx3 := bx3.carryR hg (fun e => by have := hlo _ e; omega)
                 have hO := hO.carryR hg (fun e => by have := hlo _ e; omega)
                 have hG := hG.carryR hg
                 refine L.nil ?_
                 refine thn_n ?_
                 refine LA.take (i := 10) rfl (by kernel_rfl) (by kernel_rfl) (by kernel_rfl) (fun w => x_fa ksort2_fo25_4 rfl) rfl ?_
                 refine LA.step (rs := [11]) (by kernel_rfl) (by simp) ⟨⟨_, rfl, ?_⟩, trivial⟩
                 refine L.set (v := .slice _ _ _) ksort2_sz23 rfl rfl rfl bx3 rfl (fun wl70 bx3 hw hzl70 => ?_)
                 have hsz := hB.size
                 have hB := hB.set hw (by omega); have hr := hr.carryR hw (fun k e => hU k (by have : k = _ := e; omega)); have hn := hn.carryR hw (fun k e => hU k (by have : k = _ := e; omega)); have bx1 := bx1.carryR hw (by omega); have bx2 := bx2.carryR hw (by omega); have hO := hO.carryR hw (by omega); have hN := Own.carryR hN hw (fun j hj e => by have := (hN.lt hj).1; have e : j = _ := e; omega); have hP := hP.carryA (A' := _) hw (fun j hj e => by have := (hP.lt hj).1; have e : j = _ := e; omega) (fun j e => .inl (by have e : j = _ := e; omega)) (fun _ h => h); have hG := hG.carryR hw
                 refine L.nil ?_
                 refine thn_n ?_
                 refine LA.done (by kernel_rfl) ?_
                 refine nrm_n ?_
                 refine blk_n ?_
                 refine thn_n ?_
                 refine W.region ?_
                 refine L.val (x_add rfl rfl (wr64 (by omega))) rfl ?_
                 refine L.val (x_mv (v := .int _ _) rfl) rfl ?_
                 refine L.nil ?_
                 refine thn_n ⟨rfl, ?_⟩
                 refine ⟨_, ?_, k + 1, _, _, rfl, by first | rfl | exact vi (by omega), by first | rfl | exact vi (by omega), by first | rfl | exact vi (by omega), by first | rfl | exact vi (by omega), by first | rfl | exact vi (by omega), by first | rfl | exact vi (by omega), (by first | assumption | omega | rfl), (by first | assumption | omega | rfl), (by first | assumption | omega | rfl), (by first | assumption | omega | rfl), (by first | assumption | omega | rfl), (by exact bx3), (by first | assumption | omega | rfl), (by first | assumption | omega | rfl), (by first | assumption | omega | rfl), (by first | (rw [outN_nil hne0]; rw [outN_nil hne0] at hN; exact hN) | (rw [outN_succ hne0 (by omega), ← hx]; simpa using hN)), (by rw [outP_succ (by omega), ← hx]; exact ShsOwn.carryA hP (Gr.refl (fun _ => False) _) (fun _ _ f => f) (fun _ f => f.elim) (fun j h => av_mono (Nat.le_of_eq hzl70.symm) h))⟩
                 omega
            ·refine L.bs (sz := 1) (cells := [S (s.names.getD x [])]) Tryz.underlying22 ksort2_el9 rfl rfl rfl rfl (fun w53 bx53 hw hz53 => ?_)
             have hB := hB.carry hw; have hr := hr.carry hw; have hn := hn.carry hw; have bx1 := bx1.carry hw; have bx2 := bx2.carry hw; have bx3 := bx3.carry hw; have hO := hO.carry hw; have hN := hN.carry hw; have hP := hP.carry hw; have hG := hG.carry hw; have hgA := hgA.carry hw
             refine L.nil ?_
             refine thn_n ?_
             refine LA.step (rs := [1]) (by kernel_rfl) (by simp) ⟨⟨_, rfl, ?_⟩, trivial⟩
             refine L.val (x_ld (v := vN) ksort2_oc22 rfl (bx3.cell0 rfl)) rfl ?_
             refine L.nil ?_
             refine thn_n ?_
             refine LA.step (rs := [8]) (by kernel_rfl) (by simp) ⟨⟨_, rfl, ?_⟩, trivial⟩
             refine L.append (m := 1) Tryz.underlying22 ksort2_el9 rfl rfl rfl hN rfl bx53.news (by simp [Value.oneCell', S]) (by omega) hG (fun v54 w54 hO54 hg hiff54 hob54 => ?_)
             obtain ⟨g54, c54, rfl⟩ := own_form hO54
             have hlo : ∀ j, some j = vN.ownBlock → base ≤ j := fun j hj => (hN.lt hj).1
             obtain ⟨xsP, hPo⟩ := hP.own
             have hP := hP.carryA (A' := Av base w54 (.slice (some ⟨g54, 0, none⟩) ((outN s.names (idx.take k)).length + 1) c54) vP) hg (fun j hj hj' => own_ne hN hPo rfl hj' hj) (fun j e => .inr (.inl e)) (fun j h => av_mono hgA (av_step hg.size hob54 (.inl rfl) h))
             have hB := hB.step hg (fun i hi e => by have := hlo i e; omega)
             have hr := hr.carryR hg (fun j e => hU j (by have := hlo j e; omega))
             have hn := hn.carryR hg (fun j e => hU j (by have := hlo j e; omega))
             have bx1 := bx1.carryR hg (fun e => by have := hlo _ e; omega)
             have bx2 := bx2.carryR hg (fun e => by have := hlo _ e; omega)
             have bx3 := bx3.carryR hg (fun e => by have := hlo _ e; omega)
             have hO := hO.carryR hg (fun e => by have := hlo _ e; omega)
             have hG := hG.carryR hg
             have hN := hO54
             have hgA : Ge w54.heap.size w54 := Nat.le_refl _
             refine L.nil ?_
             refine thn_n ?_
             refine LA.take (i := 9) rfl (by kernel_rfl) (by kernel_rfl) (by kernel_rfl) (fun w => x_fa ksort2_fo25_3 rfl) rfl ?_
             refine LA.step (rs := [10]) (by kernel_rfl) (by simp) ⟨⟨_, rfl, ?_⟩, trivial⟩
             refine L.set (v := .slice _ _ _) ksort2_sz22 rfl rfl rfl bx3 rfl (fun wl58 bx3 hw hzl58 => ?_)
             have hsz := hB.size
             have hB := hB.set hw (by omega); have hr := hr.carryR hw (fun k e => hU k (by have : k = _ := e; omega)); have hn := hn.carryR hw (fun k e => hU k (by have : k = _ := e; omega)); have bx1 := bx1.carryR hw (by omega); have bx2 := bx2.carryR hw (by omega); have hO := hO.carryR hw (by omega); have hN := Own.carryR hN hw (fun j hj e => by have := (hN.lt hj).1; have e : j = _ := e; omega); have hP := hP.carryA (A' := _) hw (fun j hj e => by have := (hP.lt hj).1; have e : j = _ := e; omega) (fun j e => .inl (by have e : j = _ := e; omega)) (fun _ h => h); have hG := hG.carryR hw; have hgA := hgA.carryR hw
             refine L.nil ?_
             refine thn_n ?_
             refine LA.done (by kernel_rfl) ?_
             refine nrm_n ?_
             refine thn_n ?_
             refine W.drawS ksort2_mixed ?_
             have hB := hB.carry (bel_drew _); have hr := hr.carry (bel_drew _); have hn := hn.carry (bel_drew _); have bx1 := bx1.carry (bel_drew _); have bx2 := bx2.carry (bel_drew _); have bx3 := bx3.carry (bel_drew _); have hO := hO.carry (bel_drew _); have hN := hN.carry (bel_drew _); have hP := hP.carry (bel_drew _); have hG := hG.carry (bel_drew _); have hgA := hgA.carry (bel_drew _)
             refine LA.take (i := 0) rfl (by kernel_rfl) (by kernel_rfl) (by kernel_rfl) (fun w => x_fa ksort2_fo25_4 rfl) rfl ?_
             refine LA.take (i := 2) rfl (by kernel_rfl) (by kernel_rfl) (by kernel_rfl) (fun w => x_fa ksort2_fo25_4 rfl) rfl ?_
             refine LA.take (i := 4) rfl (by kernel_rfl) (by kernel_rfl) (by kernel_rfl) (fun w => x_mv (v := .int _ _) rfl) rfl ?_
             refine LA.step (rs := [1, 3]) (by kernel_rfl) (by simp) ⟨⟨_, rfl, ?_⟩, ⟨_, rfl, ?_⟩, trivial⟩
             ·refine L.val (x_ld (v := vP) ksort2_oc23 rfl (bx3.cell0 rfl)) rfl ?_
              refine L.nil ?_
              refine thn_n ?_
              refine LA.step (rs := [3]) (by kernel_rfl) (by simp) ⟨⟨_, rfl, ?_⟩, trivial⟩
              refine L.val (x_ld (v := .slice _ _ _) ksort2_oc23 rfl (bx1.cell0 rfl)) rfl ?_
              refine L.nil ?_
              refine thn_n ?_
              refine LA.take (i := 5) rfl (by kernel_rfl) (by kernel_rfl) (by kernel_rfl) (fun w => x_ia (j := x) Tryz.underlying23 ksort2_sz25 rfl rfl (by omega) (by omega)) rfl ?_
              refine LA.step (rs := [6]) (by kernel_rfl) (by simp) ⟨⟨_, rfl, ?_⟩, trivial⟩
              refine L.val (x_ldn (vs := row x) ksort2_ag25 rfl (hr.five x hxn) (hr.elemAt hxn)) rfl ?_
              refine L.nil ?_
              refine thn_n ?_
              refine LA.step (rs := [7]) (by kernel_rfl) (by simp) ⟨⟨_, rfl, ?_⟩, trivial⟩
              have hbN := fun j h => (Own.lt hN (j := j) h).2
              have hbP := fun j h => (hP.lt (j := j) h).2
              have hbG := hG
              refine L.ret (x_call ksort2_en72 rfl) rfl (ih _ (by have := Sh.part_lt hxn; omega) (by have := Sh.part_size hxn; omega) (allL_getD hfp hxn) A _ _ (hr.each x hxn)) ?_
              rintro _ w63 ⟨cs63, rfl, ht, hw⟩
              have hB := hB.carry hw; have hr := hr.carry hw; have hn := hn.carry hw; have bx1 := bx1.carry hw; have bx2 := bx2.carry hw; have bx3 := bx3.carry hw; have hO := hO.carry hw; have hN := hN.carry hw; have hP := hP.carry hw; have hG := hG.carry hw; have hgA := hgA.carry hw
              have ht := ht.up
              have hgB : Ge w63.heap.size w63 := Nat.le_refl _
              refine L.nil ?_
              refine thn_n ?_
              refine LA.step (rs := [8]) (by kernel_rfl) (by simp) ⟨⟨_, rfl, ?_⟩, trivial⟩
              refine L.bs (sz := 5) (cells := cs63) Tryz.underlying23 ksort2_el25 rfl (by show (partsOk 5 0 [(0, Value.agg cs63.toArray)] && decide ([((0 : Nat), Value.agg cs63.toArray)].length = 1) && decide (0 < 1) && decide (1 * 5 ≤ 16777216)) = true; simp [partsOk, ht.len, Value.cells]) (by show ([((0 : Nat), Value.agg cs63.toArray)].map fun x => x.2.cells.toList).flatten = cs63; simp [Value.cells]) rfl (fun w64 bx64 hw hz64 => ?_)
              have hB := hB.carry hw; have hr := hr.carry hw; have hn := hn.carry hw; have bx1 := bx1.carry hw; have bx2 := bx2.carry hw; have bx3 := bx3.carry hw; have hO := hO.carry hw; have hN := hN.carry hw; have hP := hP.carry hw; have hG := hG.carry hw; have hgA := hgA.carry hw; have ht := ht.carry hw; have hgB := hgB.carry hw
              refine L.nil ?_
              refine thn_n ?_
              refine LA.step (rs := [9]) (by kernel_rfl) (by simp) ⟨⟨_, rfl, ?_⟩, trivial⟩
              obtain ⟨rows, r1, r2, r3, r4⟩ := hP
              have hgB' : w63.heap.size ≤ w64.heap.size := hgB
              refine L.append (m := 1) Tryz.underlying23 ksort2_el25 rfl rfl rfl r2 ht.len bx64.news (ShC.one ht) (by omega) hG (fun v65 w65 hO65 hg hiff65 hob65 => ?_)
              obtain ⟨g65, c65, rfl⟩ := own_form hO65
              have hlo : ∀ j, some j = vP.ownBlock → base ≤ j := fun j hj => (r2.lt hj).1
              have hP := ShsOwn.snoc (A := Av base w64 _ vP) (A' := Av base w65 _ (.slice (some ⟨g65, 0, none⟩) ((outP s.parts (idx.take k)).length + 1) c65)) r1 r3 (fun i hi => (r4 i hi).mono (fun j _ h => av_mono hgA h)) (ht.mono (fun j _ h => by
                rcases h with h | h | h | h
                · exact .inl (Nat.lt_of_lt_of_le h hbG)
                · exact .inl (hbN j h)
                · exact .inl (hbP j h)
                · exact .inr (Nat.le_trans hgB' h))) hO65 hg (fun j e => .inr (.inr (.inl e))) (fun j h => av_step hg.size (.inl rfl) hob65 h)
              have hN := Own.carryR hN hg (fun j hj hj' => own_ne hN r2 rfl hj hj')
              have hB := hB.step hg (fun i hi e => by have := hlo i e; omega)
              have hr := hr.carryR hg (fun j e => hU j (by have := hlo j e; omega))
              have hn := hn.carryR hg (fun j e => hU j (by have := hlo j e; omega))
              have bx1 := bx1.carryR hg (fun e => by have := hlo _ e; omega)
              have bx2 := bx2.carryR hg (fun e => by have := hlo _ e; omega)
              have bx3 := bx3.carryR hg (fun e => by have := hlo _ e; omega)
              have hO := hO.carryR hg (fun e => by have := hlo _ e; omega)
              have hG := hG.carryR hg
              refine L.nil ?_
              refine thn_n ?_
              refine LA.take (i := 10) rfl (by kernel_rfl) (by kernel_rfl) (by kernel_rfl) (fun w => x_fa ksort2_fo25_4 rfl) rfl ?_
              refine LA.step (rs := [11]) (by kernel_rfl) (by simp) ⟨⟨_, rfl, ?_⟩, trivial⟩
              refine L.set (v := .slice _ _ _) ksort2_sz23 rfl rfl rfl bx3 rfl (fun wl70 bx3 hw hzl70 => ?_)
              have hsz := hB.size
              have hB := hB.set hw (by omega); have hr := hr.carryR hw (fun k e => hU k (by have : k = _ := e; omega)); have hn := hn.carryR hw (fun k e => hU k (by have : k = _ := e; omega)); have bx1 := bx1.carryR hw (by omega); have bx2 := bx2.carryR hw (by omega); have hO := hO.carryR hw (by omega); have hN := Own.carryR hN hw (fun j hj e => by have := (hN.lt hj).1; have e : j = _ := e; omega); have hP := hP.carryA (A' := _) hw (fun j hj e => by have := (hP.lt hj).1; have e : j = _ := e; omega) (fun j e => .inl (by have e : j = _ := e; omega)) (fun _ h => h); have hG := hG.carryR hw
              refine L.nil ?_
              refine thn_n ?_
              refine LA.done (by kernel_rfl) ?_
              refine nrm_n ?_
              refine blk_n ?_
              refine thn_n ?_
              refine W.region ?_
              refine L.val (x_add rfl rfl (wr64 (by omega))) rfl ?_
              refine L.val (x_mv (v := .int _ _) rfl) rfl ?_
              refine L.nil ?_
              refine thn_n ⟨rfl, ?_⟩
              refine ⟨_, ?_, k + 1, _, _, rfl, by first | rfl | exact vi (by omega), by first | rfl | exact vi (by omega), by first | rfl | exact vi (by omega), by first | rfl | exact vi (by omega), by first | rfl | exact vi (by omega), by first | rfl | exact vi (by omega), (by first | assumption | omega | rfl), (by first | assumption | omega | rfl), (by first | assumption | omega | rfl), (by first | assumption | omega | rfl), (by first | assumption | omega | rfl), (by exact bx3), (by first | assumption | omega | rfl), (by first | assumption | omega | rfl), (by first | assumption | omega | rfl), (by first | (rw [outN_nil hne0]; rw [outN_nil hne0] at hN; exact hN) | (rw [outN_succ hne0 (by omega), ← hx]; simpa using hN)), (by rw [outP_succ (by omega), ← hx]; exact ShsOwn.carryA hP (Gr.refl (fun _ => False) _) (fun _ _ f => f) (fun _ f => f.elim) (fun j h => av_mono (Nat.le_of_eq hzl70.symm) h))⟩
              omega
             ·refine L.val (x_ld (v := .slice _ _ _) ksort2_oc23 rfl (bx1.cell0 rfl)) rfl ?_
              refine L.nil ?_
              refine thn_n ?_
              refine LA.take (i := 5) rfl (by kernel_rfl) (by kernel_rfl) (by kernel_rfl) (fun w => x_ia (j := x) Tryz.underlying23 ksort2_sz25 rfl rfl (by omega) (by omega)) rfl ?_
              refine LA.step (rs := [1, 6]) (by kernel_rfl) (by simp) ⟨⟨_, rfl, ?_⟩, ⟨_, rfl, ?_⟩, trivial⟩
              ·refine L.val (x_ld (v := vP) ksort2_oc23 rfl (bx3.cell0 rfl)) rfl ?_
               refine L.nil ?_
               refine thn_n ?_
               refine LA.step (rs := [6]) (by kernel_rfl) (by simp) ⟨⟨_, rfl, ?_⟩, trivial⟩
               refine L.val (x_ldn (vs := row x) ksort2_ag25 rfl (hr.five x hxn) (hr.elemAt hxn)) rfl ?_
               refine L.nil ?_
               refine thn_n ?_
               refine LA.step (rs := [7]) (by kernel_rfl) (by simp) ⟨⟨_, rfl, ?_⟩, trivial⟩
               have hbN := fun j h => (Own.lt hN (j := j) h).2
               have hbP := fun j h => (hP.lt (j := j) h).2
               have hbG := hG
               refine L.ret (x_call ksort2_en72 rfl) rfl (ih _ (by have := Sh.part_lt hxn; omega) (by have := Sh.part_size hxn; omega) (allL_getD hfp hxn) A _ _ (hr.each x hxn)) ?_
               rintro _ w63 ⟨cs63, rfl, ht, hw⟩
               have hB := hB.carry hw; have hr := hr.carry hw; have hn := hn.carry hw; have bx1 := bx1.carry hw; have bx2 := bx2.carry hw; have bx3 := bx3.carry hw; have hO := hO.carry hw; have hN := hN.carry hw; have hP := hP.carry hw; have hG := hG.carry hw; have hgA := hgA.carry hw
               have ht := ht.up
               have hgB : Ge w63.heap.size w63 := Nat.le_refl _
               refine L.nil ?_
               refine thn_n ?_
               refine LA.step (rs := [8]) (by kernel_rfl) (by simp) ⟨⟨_, rfl, ?_⟩, trivial⟩
               refine L.bs (sz := 5) (cells := cs63) Tryz.underlying23 ksort2_el25 rfl (by show (partsOk 5 0 [(0, Value.agg cs63.toArray)] && decide ([((0 : Nat), Value.agg cs63.toArray)].length = 1) && decide (0 < 1) && decide (1 * 5 ≤ 16777216)) = true; simp [partsOk, ht.len, Value.cells]) (by show ([((0 : Nat), Value.agg cs63.toArray)].map fun x => x.2.cells.toList).flatten = cs63; simp [Value.cells]) rfl (fun w64 bx64 hw hz64 => ?_)
               have hB := hB.carry hw; have hr := hr.carry hw; have hn := hn.carry hw; have bx1 := bx1.carry hw; have bx2 := bx2.carry hw; have bx3 := bx3.carry hw; have hO := hO.carry hw; have hN := hN.carry hw; have hP := hP.carry hw; have hG := hG.carry hw; have hgA := hgA.carry hw; have ht := ht.carry hw; have hgB := hgB.carry hw
               refine L.nil ?_
               refine thn_n ?_
               refine LA.step (rs := [9]) (by kernel_rfl) (by simp) ⟨⟨_, rfl, ?_⟩, trivial⟩
               obtain ⟨rows, r1, r2, r3, r4⟩ := hP
               have hgB' : w63.heap.size ≤ w64.heap.size := hgB
               refine L.append (m := 1) Tryz.underlying23 ksort2_el25 rfl rfl rfl r2 ht.len bx64.news (ShC.one ht) (by omega) hG (fun v65 w65 hO65 hg hiff65 hob65 => ?_)
               obtain ⟨g65, c65, rfl⟩ := own_form hO65
               have hlo : ∀ j, some j = vP.ownBlock → base ≤ j := fun j hj => (r2.lt hj).1
               have hP := ShsOwn.snoc (A := Av base w64 _ vP) (A' := Av base w65 _ (.slice (some ⟨g65, 0, none⟩) ((outP s.parts (idx.take k)).length + 1) c65)) r1 r3 (fun i hi => (r4 i hi).mono (fun j _ h => av_mono hgA h)) (ht.mono (fun j _ h => by
                 rcases h with h | h | h | h
                 · exact .inl (Nat.lt_of_lt_of_le h hbG)
                 · exact .inl (hbN j h)
                 · exact .inl (hbP j h)
                 · exact .inr (Nat.le_trans hgB' h))) hO65 hg (fun j e => .inr (.inr (.inl e))) (fun j h => av_step hg.size (.inl rfl) hob65 h)
               have hN := Own.carryR hN hg (fun j hj hj' => own_ne hN r2 rfl hj hj')
               have hB := hB.step hg (fun i hi e => by have := hlo i e; omega)
               have hr := hr.carryR hg (fun j e => hU j (by have := hlo j e; omega))
               have hn := hn.carryR hg (fun j e => hU j (by have := hlo j e; omega))
               have bx1 := bx1.carryR hg (fun e => by have := hlo _ e; omega)
               have bx2 := bx2.carryR hg (fun e => by have := hlo _ e; omega)
               have bx3 := bx3.carryR hg (fun e => by have := hlo _ e; omega)
               have hO := hO.carryR hg (fun e => by have := hlo _ e; omega)
               have hG := hG.carryR hg
               refine L.nil ?_
               refine thn_n ?_
               refine LA.take (i := 10) rfl (by kernel_rfl) (by kernel_rfl) (by kernel_rfl) (fun w => x_fa ksort2_fo25_4 rfl) rfl ?_
               refine LA.step (rs := [11]) (by kernel_rfl) (by simp) ⟨⟨_, rfl, ?_⟩, trivial⟩
               refine L.set (v := .slice _ _ _) ksort2_sz23 rfl rfl rfl bx3 rfl (fun wl70 bx3 hw hzl70 => ?_)
               have hsz := hB.size
               have hB := hB.set hw (by omega); have hr := hr.carryR hw (fun k e => hU k (by have : k = _ := e; omega)); have hn := hn.carryR hw (fun k e => hU k (by have : k = _ := e; omega)); have bx1 := bx1.carryR hw (by omega); have bx2 := bx2.carryR hw (by omega); have hO := hO.carryR hw (by omega); have hN := Own.carryR hN hw (fun j hj e => by have := (hN.lt hj).1; have e : j = _ := e; omega); have hP := hP.carryA (A' := _) hw (fun j hj e => by have := (hP.lt hj).1; have e : j = _ := e; omega) (fun j e => .inl (by have e : j = _ := e; omega)) (fun _ h => h); have hG := hG.carryR hw
               refine L.nil ?_
               refine thn_n ?_
               refine LA.done (by kernel_rfl) ?_
               refine nrm_n ?_
               refine blk_n ?_
               refine thn_n ?_
               refine W.region ?_
               refine L.val (x_add rfl rfl (wr64 (by omega))) rfl ?_
               refine L.val (x_mv (v := .int _ _) rfl) rfl ?_
               refine L.nil ?_
               refine thn_n ⟨rfl, ?_⟩
               refine ⟨_, ?_, k + 1, _, _, rfl, by first | rfl | exact vi (by omega), by first | rfl | exact vi (by omega), by first | rfl | exact vi (by omega), by first | rfl | exact vi (by omega), by first | rfl | exact vi (by omega), by first | rfl | exact vi (by omega), (by first | assumption | omega | rfl), (by first | assumption | omega | rfl), (by first | assumption | omega | rfl), (by first | assumption | omega | rfl), (by first | assumption | omega | rfl), (by exact bx3), (by first | assumption | omega | rfl), (by first | assumption | omega | rfl), (by first | assumption | omega | rfl), (by first | (rw [outN_nil hne0]; rw [outN_nil hne0] at hN; exact hN) | (rw [outN_succ hne0 (by omega), ← hx]; simpa using hN)), (by rw [outP_succ (by omega), ← hx]; exact ShsOwn.carryA hP (Gr.refl (fun _ => False) _) (fun _ _ f => f) (fun _ f => f.elim) (fun j h => av_mono (Nat.le_of_eq hzl70.symm) h))⟩
               omega
              ·refine L.val (x_ldn (vs := row x) ksort2_ag25 rfl (hr.five x hxn) (hr.elemAt hxn)) rfl ?_
               refine L.nil ?_
               refine thn_n ?_
               refine LA.step (rs := [1, 7]) (by kernel_rfl) (by simp) ⟨⟨_, rfl, ?_⟩, ⟨_, rfl, ?_⟩, trivial⟩
               ·refine L.val (x_ld (v := vP) ksort2_oc23 rfl (bx3.cell0 rfl)) rfl ?_
                refine L.nil ?_
                refine thn_n ?_
                refine LA.step (rs := [7]) (by kernel_rfl) (by simp) ⟨⟨_, rfl, ?_⟩, trivial⟩
                have hbN := fun j h => (Own.lt hN (j := j) h).2
                have hbP := fun j h => (hP.lt (j := j) h).2
                have hbG := hG
                refine L.ret (x_call ksort2_en72 rfl) rfl (ih _ (by have := Sh.part_lt hxn; omega) (by have := Sh.part_size hxn; omega) (allL_getD hfp hxn) A _ _ (hr.each x hxn)) ?_
                rintro _ w63 ⟨cs63, rfl, ht, hw⟩
                have hB := hB.carry hw; have hr := hr.carry hw; have hn := hn.carry hw; have bx1 := bx1.carry hw; have bx2 := bx2.carry hw; have bx3 := bx3.carry hw; have hO := hO.carry hw; have hN := hN.carry hw; have hP := hP.carry hw; have hG := hG.carry hw; have hgA := hgA.carry hw
                have ht := ht.up
                have hgB : Ge w63.heap.size w63 := Nat.le_refl _
                refine L.nil ?_
                refine thn_n ?_
                refine LA.step (rs := [8]) (by kernel_rfl) (by simp) ⟨⟨_, rfl, ?_⟩, trivial⟩
                refine L.bs (sz := 5) (cells := cs63) Tryz.underlying23 ksort2_el25 rfl (by show (partsOk 5 0 [(0, Value.agg cs63.toArray)] && decide ([((0 : Nat), Value.agg cs63.toArray)].length = 1) && decide (0 < 1) && decide (1 * 5 ≤ 16777216)) = true; simp [partsOk, ht.len, Value.cells]) (by show ([((0 : Nat), Value.agg cs63.toArray)].map fun x => x.2.cells.toList).flatten = cs63; simp [Value.cells]) rfl (fun w64 bx64 hw hz64 => ?_)
                have hB := hB.carry hw; have hr := hr.carry hw; have hn := hn.carry hw; have bx1 := bx1.carry hw; have bx2 := bx2.carry hw; have bx3 := bx3.carry hw; have hO := hO.carry hw; have hN := hN.carry hw; have hP := hP.carry hw; have hG := hG.carry hw; have hgA := hgA.carry hw; have ht := ht.carry hw; have hgB := hgB.carry hw
                refine L.nil ?_
                refine thn_n ?_
                refine LA.step (rs := [9]) (by kernel_rfl) (by simp) ⟨⟨_, rfl, ?_⟩, trivial⟩
                obtain ⟨rows, r1, r2, r3, r4⟩ := hP
                have hgB' : w63.heap.size ≤ w64.heap.size := hgB
                refine L.append (m := 1) Tryz.underlying23 ksort2_el25 rfl rfl rfl r2 ht.len bx64.news (ShC.one ht) (by omega) hG (fun v65 w65 hO65 hg hiff65 hob65 => ?_)
                obtain ⟨g65, c65, rfl⟩ := own_form hO65
                have hlo : ∀ j, some j = vP.ownBlock → base ≤ j := fun j hj => (r2.lt hj).1
                have hP := ShsOwn.snoc (A := Av base w64 _ vP) (A' := Av base w65 _ (.slice (some ⟨g65, 0, none⟩) ((outP s.parts (idx.take k)).length + 1) c65)) r1 r3 (fun i hi => (r4 i hi).mono (fun j _ h => av_mono hgA h)) (ht.mono (fun j _ h => by
                  rcases h with h | h | h | h
                  · exact .inl (Nat.lt_of_lt_of_le h hbG)
                  · exact .inl (hbN j h)
                  · exact .inl (hbP j h)
                  · exact .inr (Nat.le_trans hgB' h))) hO65 hg (fun j e => .inr (.inr (.inl e))) (fun j h => av_step hg.size (.inl rfl) hob65 h)
                have hN := Own.carryR hN hg (fun j hj hj' => own_ne hN r2 rfl hj hj')
                have hB := hB.step hg (fun i hi e => by have := hlo i e; omega)
                have hr := hr.carryR hg (fun j e => hU j (by have := hlo j e; omega))
                have hn := hn.carryR hg (fun j e => hU j (by have := hlo j e; omega))
                have bx1 := bx1.carryR hg (fun e => by have := hlo _ e; omega)
                have bx2 := bx2.carryR hg (fun e => by have := hlo _ e; omega)
                have bx3 := bx3.carryR hg (fun e => by have := hlo _ e; omega)
                have hO := hO.carryR hg (fun e => by have := hlo _ e; omega)
                have hG := hG.carryR hg
                refine L.nil ?_
                refine thn_n ?_
                refine LA.take (i := 10) rfl (by kernel_rfl) (by kernel_rfl) (by kernel_rfl) (fun w => x_fa ksort2_fo25_4 rfl) rfl ?_
                refine LA.step (rs := [11]) (by kernel_rfl) (by simp) ⟨⟨_, rfl, ?_⟩, trivial⟩
                refine L.set (v := .slice _ _ _) ksort2_sz23 rfl rfl rfl bx3 rfl (fun wl70 bx3 hw hzl70 => ?_)
                have hsz := hB.size
                have hB := hB.set hw (by omega); have hr := hr.carryR hw (fun k e => hU k (by have : k = _ := e; omega)); have hn := hn.carryR hw (fun k e => hU k (by have : k = _ := e; omega)); have bx1 := bx1.carryR hw (by omega); have bx2 := bx2.carryR hw (by omega); have hO := hO.carryR hw (by omega); have hN := Own.carryR hN hw (fun j hj e => by have := (hN.lt hj).1; have e : j = _ := e; omega); have hP := hP.carryA (A' := _) hw (fun j hj e => by have := (hP.lt hj).1; have e : j = _ := e; omega) (fun j e => .inl (by have e : j = _ := e; omega)) (fun _ h => h); have hG := hG.carryR hw
                refine L.nil ?_
                refine thn_n ?_
                refine LA.done (by kernel_rfl) ?_
                refine nrm_n ?_
                refine blk_n ?_
                refine thn_n ?_
                refine W.region ?_
                refine L.val (x_add rfl rfl (wr64 (by omega))) rfl ?_
                refine L.val (x_mv (v := .int _ _) rfl) rfl ?_
                refine L.nil ?_
                refine thn_n ⟨rfl, ?_⟩
                refine ⟨_, ?_, k + 1, _, _, rfl, by first | rfl | exact vi (by omega), by first | rfl | exact vi (by omega), by first | rfl | exact vi (by omega), by first | rfl | exact vi (by omega), by first | rfl | exact vi (by omega), by first | rfl | exact vi (by omega), (by first | assumption | omega | rfl), (by first | assumption | omega | rfl), (by first | assumption | omega | rfl), (by first | assumption | omega | rfl), (by first | assumption | omega | rfl), (by exact bx3), (by first | assumption | omega | rfl), (by first | assumption | omega | rfl), (by first | assumption | omega | rfl), (by first | (rw [outN_nil hne0]; rw [outN_nil hne0] at hN; exact hN) | (rw [outN_succ hne0 (by omega), ← hx]; simpa using hN)), (by rw [outP_succ (by omega), ← hx]; exact ShsOwn.carryA hP (Gr.refl (fun _ => False) _) (fun _ _ f => f) (fun _ f => f.elim) (fun j h => av_mono (Nat.le_of_eq hzl70.symm) h))⟩
                omega
               ·have hbN := fun j h => (Own.lt hN (j := j) h).2
                have hbP := fun j h => (hP.lt (j := j) h).2
                have hbG := hG
                refine L.ret (x_call ksort2_en72 rfl) rfl (ih _ (by have := Sh.part_lt hxn; omega) (by have := Sh.part_size hxn; omega) (allL_getD hfp hxn) A _ _ (hr.each x hxn)) ?_
                rintro _ w63 ⟨cs63, rfl, ht, hw⟩
                have hB := hB.carry hw; have hr := hr.carry hw; have hn := hn.carry hw; have bx1 := bx1.carry hw; have bx2 := bx2.carry hw; have bx3 := bx3.carry hw; have hO := hO.carry hw; have hN := hN.carry hw; have hP := hP.carry hw; have hG := hG.carry hw; have hgA := hgA.carry hw
                have ht := ht.up
                have hgB : Ge w63.heap.size w63 := Nat.le_refl _
                refine L.nil ?_
                refine thn_n ?_
                refine LA.step (rs := [1, 8]) (by kernel_rfl) (by simp) ⟨⟨_, rfl, ?_⟩, ⟨_, rfl, ?_⟩, trivial⟩
                ·refine L.val (x_ld (v := vP) ksort2_oc23 rfl (bx3.cell0 rfl)) rfl ?_
                 refine L.nil ?_
                 refine thn_n ?_
                 refine LA.step (rs := [8]) (by kernel_rfl) (by simp) ⟨⟨_, rfl, ?_⟩, trivial⟩
                 refine L.bs (sz := 5) (cells := cs63) Tryz.underlying23 ksort2_el25 rfl (by show (partsOk 5 0 [(0, Value.agg cs63.toArray)] && decide ([((0 : Nat), Value.agg cs63.toArray)].length = 1) && decide (0 < 1) && decide (1 * 5 ≤ 16777216)) = true; simp [partsOk, ht.len, Value.cells]) (by show ([((0 : Nat), Value.agg cs63.toArray)].map fun x => x.2.cells.toList).flatten = cs63; simp [Value.cells]) rfl (fun w64 bx64 hw hz64 => ?_)
                 have hB := hB.carry hw; have hr := hr.carry hw; have hn := hn.carry hw; have bx1 := bx1.carry hw; have bx2 := bx2.carry hw; have bx3 := bx3.carry hw; have hO := hO.carry hw; have hN := hN.carry hw; have hP := hP.carry hw; have hG := hG.carry hw; have hgA := hgA.carry hw; have ht := ht.carry hw; have hgB := hgB.carry hw
                 refine L.nil ?_
                 refine thn_n ?_
                 refine LA.step (rs := [9]) (by kernel_rfl) (by simp) ⟨⟨_, rfl, ?_⟩, trivial⟩
                 obtain ⟨rows, r1, r2, r3, r4⟩ := hP
                 have hgB' : w63.heap.size ≤ w64.heap.size := hgB
                 refine L.append (m := 1) Tryz.underlying23 ksort2_el25 rfl rfl rfl r2 ht.len bx64.news (ShC.one ht) (by omega) hG (fun v65 w65 hO65 hg hiff65 hob65 => ?_)
                 obtain ⟨g65, c65, rfl⟩ := own_form hO65
                 have hlo : ∀ j, some j = vP.ownBlock → base ≤ j := fun j hj => (r2.lt hj).1
                 have hP := ShsOwn.snoc (A := Av base w64 _ vP) (A' := Av base w65 _ (.slice (some ⟨g65, 0, none⟩) ((outP s.parts (idx.take k)).length + 1) c65)) r1 r3 (fun i hi => (r4 i hi).mono (fun j _ h => av_mono hgA h)) (ht.mono (fun j _ h => by
                   rcases h with h | h | h | h
                   · exact .inl (Nat.lt_of_lt_of_le h hbG)
                   · exact .inl (hbN j h)
                   · exact .inl (hbP j h)
                   · exact .inr (Nat.le_trans hgB' h))) hO65 hg (fun j e => .inr (.inr (.inl e))) (fun j h => av_step hg.size (.inl rfl) hob65 h)
                 have hN := Own.carryR hN hg (fun j hj hj' => own_ne hN r2 rfl hj hj')
                 have hB := hB.step hg (fun i hi e => by have := hlo i e; omega)
                 have hr := hr.carryR hg (fun j e => hU j (by have := hlo j e; omega))
                 have hn := hn.carryR hg (fun j e => hU j (by have := hlo j e; omega))
                 have bx1 := bx1.carryR hg (fun e => by have := hlo _ e; omega)
                 have bx2 := bx2.carryR hg (fun e => by have := hlo _ e; omega)
                 have bx3 := bx3.carryR hg (fun e => by have := hlo _ e; omega)
                 have hO := hO.carryR hg (fun e => by have := hlo _ e; omega)
                 have hG := hG.carryR hg
                 refine L.nil ?_
                 refine thn_n ?_
                 refine LA.take (i := 10) rfl (by kernel_rfl) (by kernel_rfl) (by kernel_rfl) (fun w => x_fa ksort2_fo25_4 rfl) rfl ?_
                 refine LA.step (rs := [11]) (by kernel_rfl) (by simp) ⟨⟨_, rfl, ?_⟩, trivial⟩
                 refine L.set (v := .slice _ _ _) ksort2_sz23 rfl rfl rfl bx3 rfl (fun wl70 bx3 hw hzl70 => ?_)
                 have hsz := hB.size
                 have hB := hB.set hw (by omega); have hr := hr.carryR hw (fun k e => hU k (by have : k = _ := e; omega)); have hn := hn.carryR hw (fun k e => hU k (by have : k = _ := e; omega)); have bx1 := bx1.carryR hw (by omega); have bx2 := bx2.carryR hw (by omega); have hO := hO.carryR hw (by omega); have hN := Own.carryR hN hw (fun j hj e => by have := (hN.lt hj).1; have e : j = _ := e; omega); have hP := hP.carryA (A' := _) hw (fun j hj e => by have := (hP.lt hj).1; have e : j = _ := e; omega) (fun j e => .inl (by have e : j = _ := e; omega)) (fun _ h => h); have hG := hG.carryR hw
                 refine L.nil ?_
                 refine thn_n ?_
                 refine LA.done (by kernel_rfl) ?_
                 refine nrm_n ?_
                 refine blk_n ?_
                 refine thn_n ?_
                 refine W.region ?_
                 refine L.val (x_add rfl rfl (wr64 (by omega))) rfl ?_
                 refine L.val (x_mv (v := .int _ _) rfl) rfl ?_
                 refine L.nil ?_
                 refine thn_n ⟨rfl, ?_⟩
                 refine ⟨_, ?_, k + 1, _, _, rfl, by first | rfl | exact vi (by omega), by first | rfl | exact vi (by omega), by first | rfl | exact vi (by omega), by first | rfl | exact vi (by omega), by first | rfl | exact vi (by omega), by first | rfl | exact vi (by omega), (by first | assumption | omega | rfl), (by first | assumption | omega | rfl), (by first | assumption | omega | rfl), (by first | assumption | omega | rfl), (by first | assumption | omega | rfl), (by exact bx3), (by first | assumption | omega | rfl), (by first | assumption | omega | rfl), (by first | assumption | omega | rfl), (by first | (rw [outN_nil hne0]; rw [outN_nil hne0] at hN; exact hN) | (rw [outN_succ hne0 (by omega), ← hx]; simpa using hN)), (by rw [outP_succ (by omega), ← hx]; exact ShsOwn.carryA hP (Gr.refl (fun _ => False) _) (fun _ _ f => f) (fun _ f => f.elim) (fun j h => av_mono (Nat.le_of_eq hzl70.symm) h))⟩
                 omega
                ·refine L.bs (sz := 5) (cells := cs63) Tryz.underlying23 ksort2_el25 rfl (by show (partsOk 5 0 [(0, Value.agg cs63.toArray)] && decide ([((0 : Nat), Value.agg cs63.toArray)].length = 1) && decide (0 < 1) && decide (1 * 5 ≤ 16777216)) = true; simp [partsOk, ht.len, Value.cells]) (by show ([((0 : Nat), Value.agg cs63.toArray)].map fun x => x.2.cells.toList).flatten = cs63; simp [Value.cells]) rfl (fun w64 bx64 hw hz64 => ?_)
                 have hB := hB.carry hw; have hr := hr.carry hw; have hn := hn.carry hw; have bx1 := bx1.carry hw; have bx2 := bx2.carry hw; have bx3 := bx3.carry hw; have hO := hO.carry hw; have hN := hN.carry hw; have hP := hP.carry hw; have hG := hG.carry hw; have hgA := hgA.carry hw; have ht := ht.carry hw; have hgB := hgB.carry hw
                 refine L.nil ?_
                 refine thn_n ?_
                 refine LA.step (rs := [1]) (by kernel_rfl) (by simp) ⟨⟨_, rfl, ?_⟩, trivial⟩
                 refine L.val (x_ld (v := vP) ksort2_oc23 rfl (bx3.cell0 rfl)) rfl ?_
                 refine L.nil ?_
                 refine thn_n ?_
                 refine LA.step (rs := [9]) (by kernel_rfl) (by simp) ⟨⟨_, rfl, ?_⟩, trivial⟩
                 obtain ⟨rows, r1, r2, r3, r4⟩ := hP
                 have hgB' : w63.heap.size ≤ w64.heap.size := hgB
                 refine L.append (m := 1) Tryz.underlying23 ksort2_el25 rfl rfl rfl r2 ht.len bx64.news (ShC.one ht) (by omega) hG (fun v65 w65 hO65 hg hiff65 hob65 => ?_)
                 obtain ⟨g65, c65, rfl⟩ := own_form hO65
                 have hlo : ∀ j, some j = vP.ownBlock → base ≤ j := fun j hj => (r2.lt hj).1
                 have hP := ShsOwn.snoc (A := Av base w64 _ vP) (A' := Av base w65 _ (.slice (some ⟨g65, 0, none⟩) ((outP s.parts (idx.take k)).length + 1) c65)) r1 r3 (fun i hi => (r4 i hi).mono (fun j _ h => av_mono hgA h)) (ht.mono (fun j _ h => by
                   rcases h with h | h | h | h
                   · exact .inl (Nat.lt_of_lt_of_le h hbG)
                   · exact .inl (hbN j h)
                   · exact .inl (hbP j h)
                   · exact .inr (Nat.le_trans hgB' h))) hO65 hg (fun j e => .inr (.inr (.inl e))) (fun j h => av_step hg.size (.inl rfl) hob65 h)
                 have hN := Own.carryR hN hg (fun j hj hj' => own_ne hN r2 rfl hj hj')
                 have hB := hB.step hg (fun i hi e => by have := hlo i e; omega)
                 have hr := hr.carryR hg (fun j e => hU j (by have := hlo j e; omega))
                 have hn := hn.carryR hg (fun j e => hU j (by have := hlo j e; omega))
                 have bx1 := bx1.carryR hg (fun e => by have := hlo _ e; omega)
                 have bx2 := bx2.carryR hg (fun e => by have := hlo _ e; omega)
                 have bx3 := bx3.carryR hg (fun e => by have := hlo _ e; omega)
                 have hO := hO.carryR hg (fun e => by have := hlo _ e; omega)
                 have hG := hG.carryR hg
                 refine L.nil ?_
                 refine thn_n ?_
                 refine LA.take (i := 10) rfl (by kernel_rfl) (by kernel_rfl) (by kernel_rfl) (fun w => x_fa ksort2_fo25_4 rfl) rfl ?_
                 refine LA.step (rs := [11]) (by kernel_rfl) (by simp) ⟨⟨_, rfl, ?_⟩, trivial⟩
                 refine L.set (v := .slice _ _ _) ksort2_sz23 rfl rfl rfl bx3 rfl (fun wl70 bx3 hw hzl70 => ?_)
                 have hsz := hB.size
                 have hB := hB.set hw (by omega); have hr := hr.carryR hw (fun k e => hU k (by have : k = _ := e; omega)); have hn := hn.carryR hw (fun k e => hU k (by have : k = _ := e; omega)); have bx1 := bx1.carryR hw (by omega); have bx2 := bx2.carryR hw (by omega); have hO := hO.carryR hw (by omega); have hN := Own.carryR hN hw (fun j hj e => by have := (hN.lt hj).1; have e : j = _ := e; omega); have hP := hP.carryA (A' := _) hw (fun j hj e => by have := (hP.lt hj).1; have e : j = _ := e; omega) (fun j e => .inl (by have e : j = _ := e; omega)) (fun _ h => h); have hG := hG.carryR hw
                 refine L.nil ?_
                 refine thn_n ?_
                 refine LA.done (by kernel_rfl) ?_
                 refine nrm_n ?_
                 refine blk_n ?_
                 refine thn_n ?_
                 refine W.region ?_
                 refine L.val (x_add rfl rfl (wr64 (by omega))) rfl ?_
                 refine L.val (x_mv (v := .int _ _) rfl) rfl ?_
                 refine L.nil ?_
                 refine thn_n ⟨rfl, ?_⟩
                 refine ⟨_, ?_, k + 1, _, _, rfl, by first | rfl | exact vi (by omega), by first | rfl | exact vi (by omega), by first | rfl | exact vi (by omega), by first | rfl | exact vi (by omega), by first | rfl | exact vi (by omega), by first | rfl | exact vi (by omega), (by first | assumption | omega | rfl), (by first | assumption | omega | rfl), (by first | assumption | omega | rfl), (by first | assumption | omega | rfl), (by first | assumption | omega | rfl), (by exact bx3), (by first | assumption | omega | rfl), (by first | assumption | omega | rfl), (by first | assumption | omega | rfl), (by first | (rw [outN_nil hne0]; rw [outN_nil hne0] at hN; exact hN) | (rw [outN_succ hne0 (by omega), ← hx]; simpa using hN)), (by rw [outP_succ (by omega), ← hx]; exact ShsOwn.carryA hP (Gr.refl (fun _ => False) _) (fun _ _ f => f) (fun _ f => f.elim) (fun j h => av_mono (Nat.le_of_eq hzl70.symm) h))⟩
                 omega
         ·have h45 := dlt_f g45
          have hne0 : s.names = [] := List.eq_nil_of_length_eq_zero (by omega)
          refine W.skip ?_
          refine thn_n ?_
          refine W.drawS ksort2_mixed ?_
          have hB := hB.carry (bel_drew _); have hr := hr.carry (bel_drew _); have hn := hn.carry (bel_drew _); have bx1 := bx1.carry (bel_drew _); have bx2 := bx2.carry (bel_drew _); have bx3 := bx3.carry (bel_drew _); have hO := hO.carry (bel_drew _); have hN := hN.carry (bel_drew _); have hP := hP.carry (bel_drew _); have hG := hG.carry (bel_drew _); have hgA := hgA.carry (bel_drew _)
          refine LA.take (i := 0) rfl (by kernel_rfl) (by kernel_rfl) (by kernel_rfl) (fun w => x_fa ksort2_fo25_4 rfl) rfl ?_
          refine LA.take (i := 2) rfl (by kernel_rfl) (by kernel_rfl) (by kernel_rfl) (fun w => x_fa ksort2_fo25_4 rfl) rfl ?_
          refine LA.take (i := 4) rfl (by kernel_rfl) (by kernel_rfl) (by kernel_rfl) (fun w => x_mv (v := .int _ _) rfl) rfl ?_
          refine LA.step (rs := [1, 3]) (by kernel_rfl) (by simp) ⟨⟨_, rfl, ?_⟩, ⟨_, rfl, ?_⟩, trivial⟩
          ·refine L.val (x_ld (v := vP) ksort2_oc23 rfl (bx3.cell0 rfl)) rfl ?_
           refine L.nil ?_
           refine thn_n ?_
           refine LA.step (rs := [3]) (by kernel_rfl) (by simp) ⟨⟨_, rfl, ?_⟩, trivial⟩
           refine L.val (x_ld (v := .slice _ _ _) ksort2_oc23 rfl (bx1.cell0 rfl)) rfl ?_
           refine L.nil ?_
           refine thn_n ?_
           refine LA.take (i := 5) rfl (by kernel_rfl) (by kernel_rfl) (by kernel_rfl) (fun w => x_ia (j := x) Tryz.underlying23 ksort2_sz25 rfl rfl (by omega) (by omega)) rfl ?_
           refine LA.step (rs := [6]) (by kernel_rfl) (by simp) ⟨⟨_, rfl, ?_⟩, trivial⟩
           refine L.val (x_ldn (vs := row x) ksort2_ag25 rfl (hr.five x hxn) (hr.elemAt hxn)) rfl ?_
           refine L.nil ?_
           refine thn_n ?_
           refine LA.step (rs := [7]) (by kernel_rfl) (by simp) ⟨⟨_, rfl, ?_⟩, trivial⟩
           have hbN := fun j h => (Own.lt hN (j := j) h).2
           have hbP := fun j h => (hP.lt (j := j) h).2
           have hbG := hG
           refine L.ret (x_call ksort2_en72 rfl) rfl (ih _ (by have := Sh.part_lt hxn; omega) (by have := Sh.part_size hxn; omega) (allL_getD hfp hxn) A _ _ (hr.each x hxn)) ?_
           rintro _ w63 ⟨cs63, rfl, ht, hw⟩
           have hB := hB.carry hw; have hr := hr.carry hw; have hn := hn.carry hw; have bx1 := bx1.carry hw; have bx2 := bx2.carry hw; have bx3 := bx3.carry hw; have hO := hO.carry hw; have hN := hN.carry hw; have hP := hP.carry hw; have hG := hG.carry hw; have hgA := hgA.carry hw
           have ht := ht.up
           have hgB : Ge w63.heap.size w63 := Nat.le_refl _
           refine L.nil ?_
           refine thn_n ?_
           refine LA.step (rs := [8]) (by kernel_rfl) (by simp) ⟨⟨_, rfl, ?_⟩, trivial⟩
           refine L.bs (sz := 5) (cells := cs63) Tryz.underlying23 ksort2_el25 rfl (by show (partsOk 5 0 [(0, Value.agg cs63.toArray)] && decide ([((0 : Nat), Value.agg cs63.toArray)].length = 1) && decide (0 < 1) && decide (1 * 5 ≤ 16777216)) = true; simp [partsOk, ht.len, Value.cells]) (by show ([((0 : Nat), Value.agg cs63.toArray)].map fun x => x.2.cells.toList).flatten = cs63; simp [Value.cells]) rfl (fun w64 bx64 hw hz64 => ?_)
           have hB := hB.carry hw; have hr := hr.carry hw; have hn := hn.carry hw; have bx1 := bx1.carry hw; have bx2 := bx2.carry hw; have bx3 := bx3.carry hw; have hO := hO.carry hw; have hN := hN.carry hw; have hP := hP.carry hw; have hG := hG.carry hw; have hgA := hgA.carry hw; have ht := ht.carry hw; have hgB := hgB.carry hw
           refine L.nil ?_
           refine thn_n ?_
           refine LA.step (rs := [9]) (by kernel_rfl) (by simp) ⟨⟨_, rfl, ?_⟩, trivial⟩
           obtain ⟨rows, r1, r2, r3, r4⟩ := hP
           have hgB' : w63.heap.size ≤ w64.heap.size := hgB
           refine L.append (m := 1) Tryz.underlying23 ksort2_el25 rfl rfl rfl r2 ht.len bx64.news (ShC.one ht) (by omega) hG (fun v65 w65 hO65 hg hiff65 hob65 => ?_)
           obtain ⟨g65, c65, rfl⟩ := own_form hO65
           have hlo : ∀ j, some j = vP.ownBlock → base ≤ j := fun j hj => (r2.lt hj).1
           have hP := ShsOwn.snoc (A := Av base w64 _ vP) (A' := Av base w65 _ (.slice (some ⟨g65, 0, none⟩) ((outP s.parts (idx.take k)).length + 1) c65)) r1 r3 (fun i hi => (r4 i hi).mono (fun j _ h => av_mono hgA h)) (ht.mono (fun j _ h => by
             rcases h with h | h | h | h
             · exact .inl (Nat.lt_of_lt_of_le h hbG)
             · exact .inl (hbN j h)
             · exact .inl (hbP j h)
             · exact .inr (Nat.le_trans hgB' h))) hO65 hg (fun j e => .inr (.inr (.inl e))) (fun j h => av_step hg.size (.inl rfl) hob65 h)
           have hN := Own.carryR hN hg (fun j hj hj' => own_ne hN r2 rfl hj hj')
           have hB := hB.step hg (fun i hi e => by have := hlo i e; omega)
           have hr := hr.carryR hg (fun j e => hU j (by have := hlo j e; omega))
           have hn := hn.carryR hg (fun j e => hU j (by have := hlo j e; omega))
           have bx1 := bx1.carryR hg (fun e => by have := hlo _ e; omega)
           have bx2 := bx2.carryR hg (fun e => by have := hlo _ e; omega)
           have bx3 := bx3.carryR hg (fun e => by have := hlo _ e; omega)
           have hO := hO.carryR hg (fun e => by have := hlo _ e; omega)
           have hG := hG.carryR hg
           refine L.nil ?_
           refine thn_n ?_
           refine LA.take (i := 10) rfl (by kernel_rfl) (by kernel_rfl) (by kernel_rfl) (fun w => x_fa ksort2_fo25_4 rfl) rfl ?_
           refine LA.step (rs := [11]) (by kernel_rfl) (by simp) ⟨⟨_, rfl, ?_⟩, trivial⟩
           refine L.set (v := .slice _ _ _) ksort2_sz23 rfl rfl rfl bx3 rfl (fun wl70 bx3 hw hzl70 => ?_)
           have hsz := hB.size
           have hB := hB.set hw (by omega); have hr := hr.carryR hw (fun k e => hU k (by have : k = _ := e; omega)); have hn := hn.carryR hw (fun k e => hU k (by have : k = _ := e; omega)); have bx1 := bx1.carryR hw (by omega); have bx2 := bx2.carryR hw (by omega); have hO := hO.carryR hw (by omega); have hN := Own.carryR hN hw (fun j hj e => by have := (hN.lt hj).1; have e : j = _ := e; omega); have hP := hP.carryA (A' := _) hw (fun j hj e => by have := (hP.lt hj).1; have e : j = _ := e; omega) (fun j e => .inl (by have e : j = _ := e; omega)) (fun _ h => h); have hG := hG.carryR hw
           refine L.nil ?_
           refine thn_n ?_
           refine LA.done (by kernel_rfl) ?_
           refine nrm_n ?_
           refine blk_n ?_
           refine thn_n ?_
           refine W.region ?_
           refine L.val (x_add rfl rfl (wr64 (by omega))) rfl ?_
           refine L.val (x_mv (v := .int _ _) rfl) rfl ?_
           refine L.nil ?_
           refine thn_n ⟨rfl, ?_⟩
           refine ⟨_, ?_, k + 1, _, _, rfl, by first | rfl | exact vi (by omega), by first | rfl | exact vi (by omega), by first | rfl | exact vi (by omega), by first | rfl | exact vi (by omega), by first | rfl | exact vi (by omega), by first | rfl | exact vi (by omega), (by first | assumption | omega | rfl), (by first | assumption | omega | rfl), (by first | assumption | omega | rfl), (by first | assumption | omega | rfl), (by first | assumption | omega | rfl), (by exact bx3), (by first | assumption | omega | rfl), (by first | assumption | omega | rfl), (by first | assumption | omega | rfl), (by first | (rw [outN_nil hne0]; rw [outN_nil hne0] at hN; exact hN) | (rw [outN_succ hne0 (by omega), ← hx]; simpa using hN)), (by rw [outP_succ (by omega), ← hx]; exact ShsOwn.carryA hP (Gr.refl (fun _ => False) _) (fun _ _ f => f) (fun _ f => f.elim) (fun j h => av_mono (Nat.le_of_eq hzl70.symm) h))⟩
           omega
          ·refine L.val (x_ld (v := .slice _ _ _) ksort2_oc23 rfl (bx1.cell0 rfl)) rfl ?_
           refine L.nil ?_
           refine thn_n ?_
           refine LA.take (i := 5) rfl (by kernel_rfl) (by kernel_rfl) (by kernel_rfl) (fun w => x_ia (j := x) Tryz.underlying23 ksort2_sz25 rfl rfl (by omega) (by omega)) rfl ?_
           refine LA.step (rs := [1, 6]) (by kernel_rfl) (by simp) ⟨⟨_, rfl, ?_⟩, ⟨_, rfl, ?_⟩, trivial⟩
           ·refine L.val (x_ld (v := vP) ksort2_oc23 rfl (bx3.cell0 rfl)) rfl ?_
            refine L.nil ?_
            refine thn_n ?_
            refine LA.step (rs := [6]) (by kernel_rfl) (by simp) ⟨⟨_, rfl, ?_⟩, trivial⟩
            refine L.val (x_ldn (vs := row x) ksort2_ag25 rfl (hr.five x hxn) (hr.elemAt hxn)) rfl ?_
            refine L.nil ?_
            refine thn_n ?_
            refine LA.step (rs := [7]) (by kernel_rfl) (by simp) ⟨⟨_, rfl, ?_⟩, trivial⟩
            have hbN := fun j h => (Own.lt hN (j := j) h).2
            have hbP := fun j h => (hP.lt (j := j) h).2
            have hbG := hG
            refine L.ret (x_call ksort2_en72 rfl) rfl (ih _ (by have := Sh.part_lt hxn; omega) (by have := Sh.part_size hxn; omega) (allL_getD hfp hxn) A _ _ (hr.each x hxn)) ?_
            rintro _ w63 ⟨cs63, rfl, ht, hw⟩
            have hB := hB.carry hw; have hr := hr.carry hw; have hn := hn.carry hw; have bx1 := bx1.carry hw; have bx2 := bx2.carry hw; have bx3 := bx3.carry hw; have hO := hO.carry hw; have hN := hN.carry hw; have hP := hP.carry hw; have hG := hG.carry hw; have hgA := hgA.carry hw
            have ht := ht.up
            have hgB : Ge w63.heap.size w63 := Nat.le_refl _
            refine L.nil ?_
            refine thn_n ?_
            refine LA.step (rs := [8]) (by kernel_rfl) (by simp) ⟨⟨_, rfl, ?_⟩, trivial⟩
            refine L.bs (sz := 5) (cells := cs63) Tryz.underlying23 ksort2_el25 rfl (by show (partsOk 5 0 [(0, Value.agg cs63.toArray)] && decide ([((0 : Nat), Value.agg cs63.toArray)].length = 1) && decide (0 < 1) && decide (1 * 5 ≤ 16777216)) = true; simp [partsOk, ht.len, Value.cells]) (by show ([((0 : Nat), Value.agg cs63.toArray)].map fun x => x.2.cells.toList).flatten = cs63; simp [Value.cells]) rfl (fun w64 bx64 hw hz64 => ?_)
            have hB := hB.carry hw; have hr := hr.carry hw; have hn := hn.carry hw; have bx1 := bx1.carry hw; have bx2 := bx2.carry hw; have bx3 := bx3.carry hw; have hO := hO.carry hw; have hN := hN.carry hw; have hP := hP.carry hw; have hG := hG.carry hw; have hgA := hgA.carry hw; have ht := ht.carry hw; have hgB := hgB.carry hw
            refine L.nil ?_
            refine thn_n ?_
            refine LA.step (rs := [9]) (by kernel_rfl) (by simp) ⟨⟨_, rfl, ?_⟩, trivial⟩
            obtain ⟨rows, r1, r2, r3, r4⟩ := hP
            have hgB' : w63.heap.size ≤ w64.heap.size := hgB
            refine L.append (m := 1) Tryz.underlying23 ksort2_el25 rfl rfl rfl r2 ht.len bx64.news (ShC.one ht) (by omega) hG (fun v65 w65 hO65 hg hiff65 hob65 => ?_)
            obtain ⟨g65, c65, rfl⟩ := own_form hO65
            have hlo : ∀ j, some j = vP.ownBlock → base ≤ j := fun j hj => (r2.lt hj).1
            have hP := ShsOwn.snoc (A := Av base w64 _ vP) (A' := Av base w65 _ (.slice (some ⟨g65, 0, none⟩) ((outP s.parts (idx.take k)).length + 1) c65)) r1 r3 (fun i hi => (r4 i hi).mono (fun j _ h => av_mono hgA h)) (ht.mono (fun j _ h => by
              rcases h with h | h | h | h
              · exact .inl (Nat.lt_of_lt_of_le h hbG)
              · exact .inl (hbN j h)
              · exact .inl (hbP j h)
              · exact .inr (Nat.le_trans hgB' h))) hO65 hg (fun j e => .inr (.inr (.inl e))) (fun j h => av_step hg.size (.inl rfl) hob65 h)
            have hN := Own.carryR hN hg (fun j hj hj' => own_ne hN r2 rfl hj hj')
            have hB := hB.step hg (fun i hi e => by have := hlo i e; omega)
            have hr := hr.carryR hg (fun j e => hU j (by have := hlo j e; omega))
            have hn := hn.carryR hg (fun j e => hU j (by have := hlo j e; omega))
            have bx1 := bx1.carryR hg (fun e => by have := hlo _ e; omega)
            have bx2 := bx2.carryR hg (fun e => by have := hlo _ e; omega)
            have bx3 := bx3.carryR hg (fun e => by have := hlo _ e; omega)
            have hO := hO.carryR hg (fun e => by have := hlo _ e; omega)
            have hG := hG.carryR hg
            refine L.nil ?_
            refine thn_n ?_
            refine LA.take (i := 10) rfl (by kernel_rfl) (by kernel_rfl) (by kernel_rfl) (fun w => x_fa ksort2_fo25_4 rfl) rfl ?_
            refine LA.step (rs := [11]) (by kernel_rfl) (by simp) ⟨⟨_, rfl, ?_⟩, trivial⟩
            refine L.set (v := .slice _ _ _) ksort2_sz23 rfl rfl rfl bx3 rfl (fun wl70 bx3 hw hzl70 => ?_)
            have hsz := hB.size
            have hB := hB.set hw (by omega); have hr := hr.carryR hw (fun k e => hU k (by have : k = _ := e; omega)); have hn := hn.carryR hw (fun k e => hU k (by have : k = _ := e; omega)); have bx1 := bx1.carryR hw (by omega); have bx2 := bx2.carryR hw (by omega); have hO := hO.carryR hw (by omega); have hN := Own.carryR hN hw (fun j hj e => by have := (hN.lt hj).1; have e : j = _ := e; omega); have hP := hP.carryA (A' := _) hw (fun j hj e => by have := (hP.lt hj).1; have e : j = _ := e; omega) (fun j e => .inl (by have e : j = _ := e; omega)) (fun _ h => h); have hG := hG.carryR hw
            refine L.nil ?_
            refine thn_n ?_
            refine LA.done (by kernel_rfl) ?_
            refine nrm_n ?_
            refine blk_n ?_
            refine thn_n ?_
            refine W.region ?_
            refine L.val (x_add rfl rfl (wr64 (by omega))) rfl ?_
            refine L.val (x_mv (v := .int _ _) rfl) rfl ?_
            refine L.nil ?_
            refine thn_n ⟨rfl, ?_⟩
            refine ⟨_, ?_, k + 1, _, _, rfl, by first | rfl | exact vi (by omega), by first | rfl | exact vi (by omega), by first | rfl | exact vi (by omega), by first | rfl | exact vi (by omega), by first | rfl | exact vi (by omega), by first | rfl | exact vi (by omega), (by first | assumption | omega | rfl), (by first | assumption | omega | rfl), (by first | assumption | omega | rfl), (by first | assumption | omega | rfl), (by first | assumption | omega | rfl), (by exact bx3), (by first | assumption | omega | rfl), (by first | assumption | omega | rfl), (by first | assumption | omega | rfl), (by first | (rw [outN_nil hne0]; rw [outN_nil hne0] at hN; exact hN) | (rw [outN_succ hne0 (by omega), ← hx]; simpa using hN)), (by rw [outP_succ (by omega), ← hx]; exact ShsOwn.carryA hP (Gr.refl (fun _ => False) _) (fun _ _ f => f) (fun _ f => f.elim) (fun j h => av_mono (Nat.le_of_eq hzl70.symm) h))⟩
            omega
           ·refine L.val (x_ldn (vs := row x) ksort2_ag25 rfl (hr.five x hxn) (hr.elemAt hxn)) rfl ?_
            refine L.nil ?_
            refine thn_n ?_
            refine LA.step (rs := [1, 7]) (by kernel_rfl) (by simp) ⟨⟨_, rfl, ?_⟩, ⟨_, rfl, ?_⟩, trivial⟩
            ·refine L.val (x_ld (v := vP) ksort2_oc23 rfl (bx3.cell0 rfl)) rfl ?_
             refine L.nil ?_
             refine thn_n ?_
             refine LA.step (rs := [7]) (by kernel_rfl) (by simp) ⟨⟨_, rfl, ?_⟩, trivial⟩
             have hbN := fun j h => (Own.lt hN (j := j) h).2
             have hbP := fun j h => (hP.lt (j := j) h).2
             have hbG := hG
             refine L.ret (x_call ksort2_en72 rfl) rfl (ih _ (by have := Sh.part_lt hxn; omega) (by have := Sh.part_size hxn; omega) (allL_getD hfp hxn) A _ _ (hr.each x hxn)) ?_
             rintro _ w63 ⟨cs63, rfl, ht, hw⟩
             have hB := hB.carry hw; have hr := hr.carry hw; have hn := hn.carry hw; have bx1 := bx1.carry hw; have bx2 := bx2.carry hw; have bx3 := bx3.carry hw; have hO := hO.carry hw; have hN := hN.carry hw; have hP := hP.carry hw; have hG := hG.carry hw; have hgA := hgA.carry hw
             have ht := ht.up
             have hgB : Ge w63.heap.size w63 := Nat.le_refl _
             refine L.nil ?_
             refine thn_n ?_
             refine LA.step (rs := [8]) (by kernel_rfl) (by simp) ⟨⟨_, rfl, ?_⟩, trivial⟩
             refine L.bs (sz := 5) (cells := cs63) Tryz.underlying23 ksort2_el25 rfl (by show (partsOk 5 0 [(0, Value.agg cs63.toArray)] && decide ([((0 : Nat), Value.agg cs63.toArray)].length = 1) && decide (0 < 1) && decide (1 * 5 ≤ 16777216)) = true; simp [partsOk, ht.len, Value.cells]) (by show ([((0 : Nat), Value.agg cs63.toArray)].map fun x => x.2.cells.toList).flatten = cs63; simp [Value.cells]) rfl (fun w64 bx64 hw hz64 => ?_)
             have hB := hB.carry hw; have hr := hr.carry hw; have hn := hn.carry hw; have bx1 := bx1.carry hw; have bx2 := bx2.carry hw; have bx3 := bx3.carry hw; have hO := hO.carry hw; have hN := hN.carry hw; have hP := hP.carry hw; have hG := hG.carry hw; have hgA := hgA.carry hw; have ht := ht.carry hw; have hgB := hgB.carry hw
             refine L.nil ?_
             refine thn_n ?_
             refine LA.step (rs := [9]) (by kernel_rfl) (by simp) ⟨⟨_, rfl, ?_⟩, trivial⟩
             obtain ⟨rows, r1, r2, r3, r4⟩ := hP
             have hgB' : w63.heap.size ≤ w64.heap.size := hgB
             refine L.append (m := 1) Tryz.underlying23 ksort2_el25 rfl rfl rfl r2 ht.len bx64.news (ShC.one ht) (by omega) hG (fun v65 w65 hO65 hg hiff65 hob65 => ?_)
             obtain ⟨g65, c65, rfl⟩ := own_form hO65
             have hlo : ∀ j, some j = vP.ownBlock → base ≤ j := fun j hj => (r2.lt hj).1
             have hP := ShsOwn.snoc (A := Av base w64 _ vP) (A' := Av base w65 _ (.slice (some ⟨g65, 0, none⟩) ((outP s.parts (idx.take k)).length + 1) c65)) r1 r3 (fun i hi => (r4 i hi).mono (fun j _ h => av_mono hgA h)) (ht.mono (fun j _ h => by
               rcases h with h | h | h | h
               · exact .inl (Nat.lt_of_lt_of_le h hbG)
               · exact .inl (hbN j h)
               · exact .inl (hbP j h)
               · exact .inr (Nat.le_trans hgB' h))) hO65 hg (fun j e => .inr (.inr (.inl e))) (fun j h => av_step hg.size (.inl rfl) hob65 h)
             have hN := Own.carryR hN hg (fun j hj hj' => own_ne hN r2 rfl hj hj')
             have hB := hB.step hg (fun i hi e => by have := hlo i e; omega)
             have hr := hr.carryR hg (fun j e => hU j (by have := hlo j e; omega))
             have hn := hn.carryR hg (fun j e => hU j (by have := hlo j e; omega))
             have bx1 := bx1.carryR hg (fun e => by have := hlo _ e; omega)
             have bx2 := bx2.carryR hg (fun e => by have := hlo _ e; omega)
             have bx3 := bx3.carryR hg (fun e => by have := hlo _ e; omega)
             have hO := hO.carryR hg (fun e => by have := hlo _ e; omega)
             have hG := hG.carryR hg
             refine L.nil ?_
             refine thn_n ?_
             refine LA.take (i := 10) rfl (by kernel_rfl) (by kernel_rfl) (by kernel_rfl) (fun w => x_fa ksort2_fo25_4 rfl) rfl ?_
             refine LA.step (rs := [11]) (by kernel_rfl) (by simp) ⟨⟨_, rfl, ?_⟩, trivial⟩
             refine L.set (v := .slice _ _ _) ksort2_sz23 rfl rfl rfl bx3 rfl (fun wl70 bx3 hw hzl70 => ?_)
             have hsz := hB.size
             have hB := hB.set hw (by omega); have hr := hr.carryR hw (fun k e => hU k (by have : k = _ := e; omega)); have hn := hn.carryR hw (fun k e => hU k (by have : k = _ := e; omega)); have bx1 := bx1.carryR hw (by omega); have bx2 := bx2.carryR hw (by omega); have hO := hO.carryR hw (by omega); have hN := Own.carryR hN hw (fun j hj e => by have := (hN.lt hj).1; have e : j = _ := e; omega); have hP := hP.carryA (A' := _) hw (fun j hj e => by have := (hP.lt hj).1; have e : j = _ := e; omega) (fun j e => .inl (by have e : j = _ := e; omega)) (fun _ h => h); have hG := hG.carryR hw
             refine L.nil ?_
             refine thn_n ?_
             refine LA.done (by kernel_rfl) ?_
             refine nrm_n ?_
             refine blk_n ?_
             refine thn_n ?_
             refine W.region ?_
             refine L.val (x_add rfl rfl (wr64 (by omega))) rfl ?_
             refine L.val (x_mv (v := .int _ _) rfl) rfl ?_
             refine L.nil ?_
             refine thn_n ⟨rfl, ?_⟩
             refine ⟨_, ?_, k + 1, _, _, rfl, by first | rfl | exact vi (by omega), by first | rfl | exact vi (by omega), by first | rfl | exact vi (by omega), by first | rfl | exact vi (by omega), by first | rfl | exact vi (by omega), by first | rfl | exact vi (by omega), (by first | assumption | omega | rfl), (by first | assumption | omega | rfl), (by first | assumption | omega | rfl), (by first | assumption | omega | rfl), (by first | assumption | omega | rfl), (by exact bx3), (by first | assumption | omega | rfl), (by first | assumption | omega | rfl), (by first | assumption | omega | rfl), (by first | (rw [outN_nil hne0]; rw [outN_nil hne0] at hN; exact hN) | (rw [outN_succ hne0 (by omega), ← hx]; simpa using hN)), (by rw [outP_succ (by omega), ← hx]; exact ShsOwn.carryA hP (Gr.refl (fun _ => False) _) (fun _ _ f => f) (fun _ f => f.elim) (fun j h => av_mono (Nat.le_of_eq hzl70.symm) h))⟩
             omega
            ·have hbN := fun j h => (Own.lt hN (j := j) h).2
             have hbP := fun j h => (hP.lt (j := j) h).2
             have hbG := hG
             refine L.ret (x_call ksort2_en72 rfl) rfl (ih _ (by have := Sh.part_lt hxn; omega) (by have := Sh.part_size hxn; omega) (allL_getD hfp hxn) A _ _ (hr.each x hxn)) ?_
             rintro _ w63 ⟨cs63, rfl, ht, hw⟩
             have hB := hB.carry hw; have hr := hr.carry hw; have hn := hn.carry hw; have bx1 := bx1.carry hw; have bx2 := bx2.carry hw; have bx3 := bx3.carry hw; have hO := hO.carry hw; have hN := hN.carry hw; have hP := hP.carry hw; have hG := hG.carry hw; have hgA := hgA.carry hw
             have ht := ht.up
             have hgB : Ge w63.heap.size w63 := Nat.le_refl _
             refine L.nil ?_
             refine thn_n ?_
             refine LA.step (rs := [1, 8]) (by kernel_rfl) (by simp) ⟨⟨_, rfl, ?_⟩, ⟨_, rfl, ?_⟩, trivial⟩
             ·refine L.val (x_ld (v := vP) ksort2_oc23 rfl (bx3.cell0 rfl)) rfl ?_
              refine L.nil ?_
              refine thn_n ?_
              refine LA.step (rs := [8]) (by kernel_rfl) (by simp) ⟨⟨_, rfl, ?_⟩, trivial⟩
              refine L.bs (sz := 5) (cells := cs63) Tryz.underlying23 ksort2_el25 rfl (by show (partsOk 5 0 [(0, Value.agg cs63.toArray)] && decide ([((0 : Nat), Value.agg cs63.toArray)].length = 1) && decide (0 < 1) && decide (1 * 5 ≤ 16777216)) = true; simp [partsOk, ht.len, Value.cells]) (by show ([((0 : Nat), Value.agg cs63.toArray)].map fun x => x.2.cells.toList).flatten = cs63; simp [Value.cells]) rfl (fun w64 bx64 hw hz64 => ?_)
              have hB := hB.carry hw; have hr := hr.carry hw; have hn := hn.carry hw; have bx1 := bx1.carry hw; have bx2 := bx2.carry hw; have bx3 := bx3.carry hw; have hO := hO.carry hw; have hN := hN.carry hw; have hP := hP.carry hw; have hG := hG.carry hw; have hgA := hgA.carry hw; have ht := ht.carry hw; have hgB := hgB.carry hw
              refine L.nil ?_
              refine thn_n ?_
              refine LA.step (rs := [9]) (by kernel_rfl) (by simp) ⟨⟨_, rfl, ?_⟩, trivial⟩
              obtain ⟨rows, r1, r2, r3, r4⟩ := hP
              have hgB' : w63.heap.size ≤ w64.heap.size := hgB
              refine L.append (m := 1) Tryz.underlying23 ksort2_el25 rfl rfl rfl r2 ht.len bx64.news (ShC.one ht) (by omega) hG (fun v65 w65 hO65 hg hiff65 hob65 => ?_)
              obtain ⟨g65, c65, rfl⟩ := own_form hO65
              have hlo : ∀ j, some j = vP.ownBlock → base ≤ j := fun j hj => (r2.lt hj).1
              have hP := ShsOwn.snoc (A := Av base w64 _ vP) (A' := Av base w65 _ (.slice (some ⟨g65, 0, none⟩) ((outP s.parts (idx.take k)).length + 1) c65)) r1 r3 (fun i hi => (r4 i hi).mono (fun j _ h => av_mono hgA h)) (ht.mono (fun j _ h => by
                rcases h with h | h | h | h
                · exact .inl (Nat.lt_of_lt_of_le h hbG)
                · exact .inl (hbN j h)
                · exact .inl (hbP j h)
                · exact .inr (Nat.le_trans hgB' h))) hO65 hg (fun j e => .inr (.inr (.inl e))) (fun j h => av_step hg.size (.inl rfl) hob65 h)
              have hN := Own.carryR hN hg (fun j hj hj' => own_ne hN r2 rfl hj hj')
              have hB := hB.step hg (fun i hi e => by have := hlo i e; omega)
              have hr := hr.carryR hg (fun j e => hU j (by have := hlo j e; omega))
              have hn := hn.carryR hg (fun j e => hU j (by have := hlo j e; omega))
              have bx1 := bx1.carryR hg (fun e => by have := hlo _ e; omega)
              have bx2 := bx2.carryR hg (fun e => by have := hlo _ e; omega)
              have bx3 := bx3.carryR hg (fun e => by have := hlo _ e; omega)
              have hO := hO.carryR hg (fun e => by have := hlo _ e; omega)
              have hG := hG.carryR hg
              refine L.nil ?_
              refine thn_n ?_
              refine LA.take (i := 10) rfl (by kernel_rfl) (by kernel_rfl) (by kernel_rfl) (fun w => x_fa ksort2_fo25_4 rfl) rfl ?_
              refine LA.step (rs := [11]) (by kernel_rfl) (by simp) ⟨⟨_, rfl, ?_⟩, trivial⟩
              refine L.set (v := .slice _ _ _) ksort2_sz23 rfl rfl rfl bx3 rfl (fun wl70 bx3 hw hzl70 => ?_)
              have hsz := hB.size
              have hB := hB.set hw (by omega); have hr := hr.carryR hw (fun k e => hU k (by have : k = _ := e; omega)); have hn := hn.carryR hw (fun k e => hU k (by have : k = _ := e; omega)); have bx1 := bx1.carryR hw (by omega); have bx2 := bx2.carryR hw (by omega); have hO := hO.carryR hw (by omega); have hN := Own.carryR hN hw (fun j hj e => by have := (hN.lt hj).1; have e : j = _ := e; omega); have hP := hP.carryA (A' := _) hw (fun j hj e => by have := (hP.lt hj).1; have e : j = _ := e; omega) (fun j e => .inl (by have e : j = _ := e; omega)) (fun _ h => h); have hG := hG.carryR hw
              refine L.nil ?_
              refine thn_n ?_
              refine LA.done (by kernel_rfl) ?_
              refine nrm_n ?_
              refine blk_n ?_
              refine thn_n ?_
              refine W.region ?_
              refine L.val (x_add rfl rfl (wr64 (by omega))) rfl ?_
              refine L.val (x_mv (v := .int _ _) rfl) rfl ?_
              refine L.nil ?_
              refine thn_n ⟨rfl, ?_⟩
              refine ⟨_, ?_, k + 1, _, _, rfl, by first | rfl | exact vi (by omega), by first | rfl | exact vi (by omega), by first | rfl | exact vi (by omega), by first | rfl | exact vi (by omega), by first | rfl | exact vi (by omega), by first | rfl | exact vi (by omega), (by first | assumption | omega | rfl), (by first | assumption | omega | rfl), (by first | assumption | omega | rfl), (by first | assumption | omega | rfl), (by first | assumption | omega | rfl), (by exact bx3), (by first | assumption | omega | rfl), (by first | assumption | omega | rfl), (by first | assumption | omega | rfl), (by first | (rw [outN_nil hne0]; rw [outN_nil hne0] at hN; exact hN) | (rw [outN_succ hne0 (by omega), ← hx]; simpa using hN)), (by rw [outP_succ (by omega), ← hx]; exact ShsOwn.carryA hP (Gr.refl (fun _ => False) _) (fun _ _ f => f) (fun _ f => f.elim) (fun j h => av_mono (Nat.le_of_eq hzl70.symm) h))⟩
              omega
             ·refine L.bs (sz := 5) (cells := cs63) Tryz.underlying23 ksort2_el25 rfl (by show (partsOk 5 0 [(0, Value.agg cs63.toArray)] && decide ([((0 : Nat), Value.agg cs63.toArray)].length = 1) && decide (0 < 1) && decide (1 * 5 ≤ 16777216)) = true; simp [partsOk, ht.len, Value.cells]) (by show ([((0 : Nat), Value.agg cs63.toArray)].map fun x => x.2.cells.toList).flatten = cs63; simp [Value.cells]) rfl (fun w64 bx64 hw hz64 => ?_)
              have hB := hB.carry hw; have hr := hr.carry hw; have hn := hn.carry hw; have bx1 := bx1.carry hw; have bx2 := bx2.carry hw; have bx3 := bx3.carry hw; have hO := hO.carry hw; have hN := hN.carry hw; have hP := hP.carry hw; have hG := hG.carry hw; have hgA := hgA.carry hw; have ht := ht.carry hw; have hgB := hgB.carry hw
              refine L.nil ?_
              refine thn_n ?_
              refine LA.step (rs := [1]) (by kernel_rfl) (by simp) ⟨⟨_, rfl, ?_⟩, trivial⟩
              refine L.val (x_ld (v := vP) ksort2_oc23 rfl (bx3.cell0 rfl)) rfl ?_
              refine L.nil ?_
              refine thn_n ?_
              refine LA.step (rs := [9]) (by kernel_rfl) (by simp) ⟨⟨_, rfl, ?_⟩, trivial⟩
              obtain ⟨rows, r1, r2, r3, r4⟩ := hP
              have hgB' : w63.heap.size ≤ w64.heap.size := hgB
              refine L.append (m := 1) Tryz.underlying23 ksort2_el25 rfl rfl rfl r2 ht.len bx64.news (ShC.one ht) (by omega) hG (fun v65 w65 hO65 hg hiff65 hob65 => ?_)
              obtain ⟨g65, c65, rfl⟩ := own_form hO65
              have hlo : ∀ j, some j = vP.ownBlock → base ≤ j := fun j hj => (r2.lt hj).1
              have hP := ShsOwn.snoc (A := Av base w64 _ vP) (A' := Av base w65 _ (.slice (some ⟨g65, 0, none⟩) ((outP s.parts (idx.take k)).length + 1) c65)) r1 r3 (fun i hi => (r4 i hi).mono (fun j _ h => av_mono hgA h)) (ht.mono (fun j _ h => by
                rcases h with h | h | h | h
                · exact .inl (Nat.lt_of_lt_of_le h hbG)
                · exact .inl (hbN j h)
                · exact .inl (hbP j h)
                · exact .inr (Nat.le_trans hgB' h))) hO65 hg (fun j e => .inr (.inr (.inl e))) (fun j h => av_step hg.size (.inl rfl) hob65 h)
              have hN := Own.carryR hN hg (fun j hj hj' => own_ne hN r2 rfl hj hj')
              have hB := hB.step hg (fun i hi e => by have := hlo i e; omega)
              have hr := hr.carryR hg (fun j e => hU j (by have := hlo j e; omega))
              have hn := hn.carryR hg (fun j e => hU j (by have := hlo j e; omega))
              have bx1 := bx1.carryR hg (fun e => by have := hlo _ e; omega)
              have bx2 := bx2.carryR hg (fun e => by have := hlo _ e; omega)
              have bx3 := bx3.carryR hg (fun e => by have := hlo _ e; omega)
              have hO := hO.carryR hg (fun e => by have := hlo _ e; omega)
              have hG := hG.carryR hg
              refine L.nil ?_
              refine thn_n ?_
              refine LA.take (i := 10) rfl (by kernel_rfl) (by kernel_rfl) (by kernel_rfl) (fun w => x_fa ksort2_fo25_4 rfl) rfl ?_
              refine LA.step (rs := [11]) (by kernel_rfl) (by simp) ⟨⟨_, rfl, ?_⟩, trivial⟩
              refine L.set (v := .slice _ _ _) ksort2_sz23 rfl rfl rfl bx3 rfl (fun wl70 bx3 hw hzl70 => ?_)
              have hsz := hB.size
              have hB := hB.set hw (by omega); have hr := hr.carryR hw (fun k e => hU k (by have : k = _ := e; omega)); have hn := hn.carryR hw (fun k e => hU k (by have : k = _ := e; omega)); have bx1 := bx1.carryR hw (by omega); have bx2 := bx2.carryR hw (by omega); have hO := hO.carryR hw (by omega); have hN := Own.carryR hN hw (fun j hj e => by have := (hN.lt hj).1; have e : j = _ := e; omega); have hP := hP.carryA (A' := _) hw (fun j hj e => by have := (hP.lt hj).1; have e : j = _ := e; omega) (fun j e => .inl (by have e : j = _ := e; omega)) (fun _ h => h); have hG := hG.carryR hw
              refine L.nil ?_
              refine thn_n ?_
              refine LA.done (by kernel_rfl) ?_
              refine nrm_n ?_
              refine blk_n ?_
              refine thn_n ?_
              refine W.region ?_
              refine L.val (x_add rfl rfl (wr64 (by omega))) rfl ?_
              refine L.val (x_mv (v := .int _ _) rfl) rfl ?_
              refine L.nil ?_
              refine thn_n ⟨rfl, ?_⟩
              refine ⟨_, ?_, k + 1, _, _, rfl, by first | rfl | exact vi (by omega), by first | rfl | exact vi (by omega), by first | rfl | exact vi (by omega), by first | rfl | exact vi (by omega), by first | rfl | exact vi (by omega), by first | rfl | exact vi (by omega), (by first | assumption | omega | rfl), (by first | assumption | omega | rfl), (by first | assumption | omega | rfl), (by first | assumption | omega | rfl), (by first | assumption | omega | rfl), (by exact bx3), (by first | assumption | omega | rfl), (by first | assumption | omega | rfl), (by first | assumption | omega | rfl), (by first | (rw [outN_nil hne0]; rw [outN_nil hne0] at hN; exact hN) | (rw [outN_succ hne0 (by omega), ← hx]; simpa using hN)), (by rw [outP_succ (by omega), ← hx]; exact ShsOwn.carryA hP (Gr.refl (fun _ => False) _) (fun _ _ f => f) (fun _ f => f.elim) (fun j h => av_mono (Nat.le_of_eq hzl70.symm) h))⟩
              omega
        ·have h39 := dlt_f g39
         refine W.exit (thn_x (thn_x (blk_hit ?_)))
         refine thn_n ?_
         refine W.seq ?_
         refine W.region ?_
         obtain ⟨xsP, hPo⟩ := hP.own
         refine L.val (x_ldn (vs := _) ksort2_ag25 rfl rfl (bx3.row rfl)) rfl ?_
         refine L.setRow ksort2_ag25 rfl rfl bx2 rfl rfl (by intro v hv; simp only [List.mem_cons, List.not_mem_nil, or_false] at hv; rcases hv with rfl | rfl | rfl | rfl | rfl <;> first | rfl | exact own_one hN | exact own_one hPo) (fun wl74 bx2 hw hzl74 => ?_)
         have hsz := hB.size
         have hB := hB.set hw (by omega); have bx3 := bx3.carryR hw (by omega); have hN := Own.carryR hN hw (fun j hj e => by have := (hN.lt hj).1; have e : j = _ := e; omega); have hP := hP.carryA (A' := _) hw (fun j hj e => by have := (hP.lt hj).1; have e : j = _ := e; omega) (fun j e => .inl (by have e : j = _ := e; omega)) (fun _ h => h); have hG := hG.carryR hw
         refine L.nil ?_
         refine thn_n ?_
         refine W.ret (finR_mk (.inr rfl) ?_)
         have hff : fitsS s = true := by rw [Sh.allB_eq] at hfit; simp at hfit; exact hfit.1
         have hkn : idx.take k = idx := List.take_of_length_le (by omega)
         have hNl := outN_len (ns := s.names) (idx := idx) (k := k)
         have hPl := outP_len (ps := s.parts) (idx := idx) (k := k)
         rw [hkn] at hN hP hNl hPl
         refine ⟨_, resS rfl ksort2_ag25 rfl bx2 rfl, _, rfl, ?_, hB⟩
         rw [← sort_of_ordered hff hidx]
         exact ShC.intro (strs_done hN (by omega) (outN_short hL) (fun j h => by omega)) (hP.done (by omega) (fun j h => .inl (by omega)) (fun j h => by omega)) hof hnm
end Go.Gx
