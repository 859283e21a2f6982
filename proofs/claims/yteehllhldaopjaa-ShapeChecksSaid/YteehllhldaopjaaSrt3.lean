/- The library's sort of strings: the partitions, the partial insertion. Conditions: none. -/
import Derived.Test.YteehllhldaopjaaSrt2
namespace Go.Gx
open Go.Proofs Go.Sort
theorem ksrt3_en183 : Go.Proofs.Enters Try.prog 183 := Go.Proofs.enters_of Try.func183 (by kernel_rfl) rfl
theorem ksrt3_mixed : Try.prog.follows .mixedOrders = true := by kernel_rfl
theorem ksrt3_oc9 : oneCellT Try.prog 9 = true := by kernel_rfl
theorem ksrt3_sz9 : (Try.prog.info? 9).map (·.size) = some 1 := by kernel_rfl

section
variable {α : Type} [Inhabited α] {lt : α → α → Bool} {p : α → Bool} {d : Array α} {a i j : Nat}
theorem up_go (h : (decide ((i : Int) ≤ (j : Int)) && p d[i]!) = true) : scanUp p d j (i + 1) = scanUp p d j i := by
  have h1 := and1 h
  have h2 := and2 h
  conv => rhs; rw [scanUp]
  rw [if_pos (by rw [h2]; simp; omega)]
theorem up_stop (h : (decide ((i : Int) ≤ (j : Int)) && p d[i]!) = false) : scanUp p d j i = i := by
  have h1 := and0 h
  rw [scanUp, if_neg]
  intro h2
  simp only [Bool.and_eq_true, decide_eq_true_eq] at h2
  exact h1 ⟨by omega, h2.2⟩
theorem down_go (hi : 1 ≤ i) (h : (decide ((i : Int) ≤ (j : Int)) && p d[j]!) = true) : scanDown p d i (j - 1) = scanDown p d i j := by
  have h1 := and1 h
  have h2 := and2 h
  cases j with
  | zero => omega
  | succ j => conv => rhs; rw [scanDown]
              rw [if_pos (by rw [h2]; simp; omega)]; rfl
theorem down_stop (h : (decide ((i : Int) ≤ (j : Int)) && p d[j]!) = false) : scanDown p d i j = j := by
  have h1 := and0 h
  cases j with
  | zero => rfl
  | succ j =>
    rw [scanDown, if_neg]
    intro h2
    simp only [Bool.and_eq_true, decide_eq_true_eq] at h2
    exact h1 ⟨by omega, h2.2⟩
theorem part_eq {i2 j2 : Nat} (h1 : scanUp (fun x => lt x d[a]!) d j i = i2) (h2 : scanDown (fun x => !lt x d[a]!) d i2 j = j2) :
    partLoop lt a i j d = if i2 > j2 then (j2, d) else if (j2 - 1) + 1 - (i2 + 1) < j + 1 - i then partLoop lt a (i2 + 1) (j2 - 1) (swp d i2 j2) else (j2, d) := by
  rw [partLoop]
  simp only [h1, h2]
  rfl
theorem part_stop {i2 j2 : Nat} (h1 : scanUp (fun x => lt x d[a]!) d j i = i2) (h2 : scanDown (fun x => !lt x d[a]!) d i2 j = j2) (h : j2 < i2) : partLoop lt a i j d = (j2, d) := by
  rw [part_eq h1 h2, if_pos h]
theorem part_go {i2 j2 : Nat} (h1 : scanUp (fun x => lt x d[a]!) d j i = i2) (h2 : scanDown (fun x => !lt x d[a]!) d i2 j = j2) (h : i2 ≤ j2) (h3 : i ≤ i2) (h4 : j2 ≤ j) (h5 : 1 ≤ j2) : partLoop lt a (i2 + 1) (j2 - 1) (swp d i2 j2) = partLoop lt a i j d := by
  rw [part_eq h1 h2, if_neg (by omega), if_pos (by omega)]
theorem parteq_eq {i2 j2 : Nat} (h1 : scanUp (fun x => !lt d[a]! x) d j i = i2) (h2 : scanDown (fun x => lt d[a]! x) d i2 j = j2) :
    partEqLoop lt a i j d = if i2 > j2 then (i2, d) else if (j2 - 1) + 1 - (i2 + 1) < j + 1 - i then partEqLoop lt a (i2 + 1) (j2 - 1) (swp d i2 j2) else (i2, d) := by
  rw [partEqLoop]
  simp only [h1, h2]
  rfl
theorem parteq_stop {i2 j2 : Nat} (h1 : scanUp (fun x => !lt d[a]! x) d j i = i2) (h2 : scanDown (fun x => lt d[a]! x) d i2 j = j2) (h : j2 < i2) : partEqLoop lt a i j d = (i2, d) := by
  rw [parteq_eq h1 h2, if_pos h]
theorem parteq_go {i2 j2 : Nat} (h1 : scanUp (fun x => !lt d[a]! x) d j i = i2) (h2 : scanDown (fun x => lt d[a]! x) d i2 j = j2) (h : i2 ≤ j2) (h3 : i ≤ i2) (h4 : j2 ≤ j) (h5 : 1 ≤ j2) : partEqLoop lt a (i2 + 1) (j2 - 1) (swp d i2 j2) = partEqLoop lt a i j d := by
  rw [parteq_eq h1 h2, if_neg (by omega), if_pos (by omega)]
end

theorem partition_ok (b o a e q cap n : Nat) (T : TypeId) (hd tl : List Value) (d : Array Str) (w : World) (hR : Row S w b o T hd d tl) (hn : d.size = n) (hc : n ≤ 2000000000000000000) (haq : a ≤ q) (hqe : q < e) (he : e ≤ n) :
    Ret Try.prog 185 #[.slice (some ⟨b, o, none⟩) n cap, .int .i64 a, .int .i64 e, .int .i64 q] w fun v w' => v = .tuple #[.int .i64 (partition ltStr d a e q).1, .bool (partition ltStr d a e q).2.1] ∧ Gr (· = b) w w' ∧ Row S w' b o T hd (partition ltStr d a e q).2.2 tl := by
  refine ret_of_W Try.func185 rfl (Nat.le_of_ble_eq_true rfl) (res2 rfl) ?_
  have hB := Gr.refl (· = b) w
  obtain ⟨c, hcd⟩ : ∃ c, c = swp d a q := ⟨_, rfl⟩
  have hn2 : c.size = n := by rw [hcd, size_swp]; exact hn
  refine W.seq ?_
  refine W.region ?_
  refine L.val (x_as (v := .int _ _) rfl) rfl ?_
  refine L.val (x_as (v := .bool _) rfl) rfl ?_
  refine L.nil ?_
  refine thn_n ?_
  refine W.seq ?_
  refine W.drawS ksrt3_mixed ?_
  have hB := hB.carry (bel_drew _); have hR := hR.carry (bel_drew _)
  refine LA.take (i := 0) rfl (by kernel_rfl) (by kernel_rfl) (by kernel_rfl) (fun w => x_mv (v := .slice _ _ _) rfl) rfl ?_
  refine LA.take (i := 1) rfl (by kernel_rfl) (by kernel_rfl) (by kernel_rfl) (fun w => x_mv (v := .int _ _) rfl) rfl ?_
  refine LA.take (i := 2) rfl (by kernel_rfl) (by kernel_rfl) (by kernel_rfl) (fun w => x_mv (v := .slice _ _ _) rfl) rfl ?_
  refine LA.take (i := 3) rfl (by kernel_rfl) (by kernel_rfl) (by kernel_rfl) (fun w => x_mv (v := .int _ _) rfl) rfl ?_
  refine LA.take (i := 4) rfl (by kernel_rfl) (by kernel_rfl) (by kernel_rfl) (fun w => x_mv (v := .slice _ _ _) rfl) rfl ?_
  refine LA.take (i := 5) rfl (by kernel_rfl) (by kernel_rfl) (by kernel_rfl) (fun w => x_mv (v := .int _ _) rfl) rfl ?_
  refine LA.take (i := 6) rfl (by kernel_rfl) (by kernel_rfl) (by kernel_rfl) (fun w => x_ia1 (j := q) Try.underlying22 ksrt3_sz9 rfl rfl (by omega) (by omega)) rfl ?_
  refine LA.take (i := 8) rfl (by kernel_rfl) (by kernel_rfl) (by kernel_rfl) (fun w => x_mv (v := .slice _ _ _) rfl) rfl ?_
  refine LA.take (i := 9) rfl (by kernel_rfl) (by kernel_rfl) (by kernel_rfl) (fun w => x_mv (v := .int _ _) rfl) rfl ?_
  refine LA.take (i := 10) rfl (by kernel_rfl) (by kernel_rfl) (by kernel_rfl) (fun w => x_ia1 (j := a) Try.underlying22 ksrt3_sz9 rfl rfl (by omega) (by omega)) rfl ?_
  refine LA.pair (i := 7) (j := 11) rfl rfl (by kernel_rfl) (by kernel_rfl) (by kernel_rfl) rfl rfl (x_ld (v := S _) ksrt3_oc9 rfl (hR.at (i := q) (by omega))) (x_ld (v := S _) ksrt3_oc9 rfl (hR.at (i := a) (by omega))) (x_ld (v := S _) ksrt3_oc9 rfl (hR.at (i := a) (by omega))) (x_ld (v := S _) ksrt3_oc9 rfl (hR.at (i := q) (by omega))) rfl rfl ?_
  refine LA.take (i := 12) rfl (by kernel_rfl) (by kernel_rfl) (by kernel_rfl) (fun w => x_ia1 (j := a) Try.underlying22 ksrt3_sz9 rfl rfl (by omega) (by omega)) rfl ?_
  refine LA.step (rs := [13]) (by kernel_rfl) (by simp) ⟨⟨_, rfl, ?_⟩, trivial⟩
  refine L.setAt (enc := S) (j := a) ksrt3_sz9 rfl rfl rfl hR (by omega) (fun wl16 hR hsl16 hw hzl16 => ?_)
  have hB := hB.trans hw
  refine L.nil ?_
  refine thn_n ?_
  refine LA.take (i := 14) rfl (by kernel_rfl) (by kernel_rfl) (by kernel_rfl) (fun w => x_ia1 (j := q) Try.underlying22 ksrt3_sz9 rfl rfl (by omega) (by omega)) rfl ?_
  refine LA.step (rs := [15]) (by kernel_rfl) (by simp) ⟨⟨_, rfl, ?_⟩, trivial⟩
  refine L.setAt (enc := S) (j := q) ksrt3_sz9 rfl rfl rfl hR (by omega) (fun wl18 hR hsl18 hw hzl18 => ?_)
  have hB := hB.trans hw
  have hR : Row S wl18 b o T hd c tl := by rw [hcd]; exact hR
  refine L.nil ?_
  refine thn_n ?_
  refine LA.done (by kernel_rfl) ?_
  refine nrm_n ?_
  refine thn_n ?_
  refine W.seq ?_
  refine W.region ?_
  refine L.val (x_mv (v := .int _ _) rfl) rfl ?_
  refine L.val (x_add rfl rfl (wr64 (by omega))) rfl ?_
  refine L.val (x_mv (v := .int _ _) rfl) rfl ?_
  refine L.val (x_sub rfl rfl (wr64 (by omega))) rfl ?_
  refine L.val (x_as (v := .int _ _) rfl) rfl ?_
  refine L.val (x_as (v := .int _ _) rfl) rfl ?_
  refine L.nil ?_
  refine thn_n ?_
  refine W.seq ?_
  refine W.block ?_
  refine W.loop (fun m' E w' => ∃ (i : Nat), m' = e - i ∧ E 0 = .slice (some ⟨b, o, none⟩) n cap ∧ E 1 = .int .i64 (a : Nat) ∧ E 10 = .int .i64 (i : Nat) ∧ E 11 = .int .i64 ((e - 1 : Nat) : Nat) ∧ (Gr (· = b) w w') ∧ (Row S w' b o T hd c tl) ∧ (a < i ∧ i ≤ e) ∧ (scanUp (fun x => ltStr x c[a]!) c (e - 1) i = scanUp (fun x => ltStr x c[a]!) c (e - 1) (a + 1))) (e - (a + 1)) ?_ ?_
  ·exact ⟨a + 1, by omega, by first | rfl | exact vi (by omega) | exact vs (by first | assumption | (rw [hst]; done) | (rw [hst]; simp only [List.append_assoc])), by first | rfl | exact vi (by omega) | exact vs (by first | assumption | (rw [hst]; done) | (rw [hst]; simp only [List.append_assoc])), by first | rfl | exact vi (by omega) | exact vs (by first | assumption | (rw [hst]; done) | (rw [hst]; simp only [List.append_assoc])), by first | rfl | exact vi (by omega) | exact vs (by first | assumption | (rw [hst]; done) | (rw [hst]; simp only [List.append_assoc])), (by first | assumption | omega | rfl), (by first | assumption | omega | rfl), (by first | assumption | omega | rfl), (by first | assumption | omega | rfl)⟩
  ·rintro _ E wL30 ⟨i, em, e0, e1, e10, e11, hB, hR, hi, hq1⟩
   rw [upd_self e0, upd_self e1, upd_self e10, upd_self e11]
   refine W.seq ?_
   refine W.seq ?_
   refine W.drawB ksrt3_mixed (by kernel_rfl) ?_
   refine LQ.val (fun w hw => x_mv (v := .int _ _) rfl) rfl ?_
   refine LQ.val (fun w hw => x_mv (v := .int _ _) rfl) rfl ?_
   refine LQ.val (fun w hw => x_leq rfl rfl) rfl ?_
   refine LQ.val (fun w hw => x_mv (v := .bool _) rfl) rfl ?_
   refine' LQ.group 9 34 42 42 33 true rfl ?_ ?_ ?_
   rotate_left 1
   ·intro g33
    have h33 := of_decide_eq_true g33
    refine LQ.gyes' (dj := 33) (b := _) rfl rfl g33 ?_
    refine LQ.val (fun w hw => x_mv (v := .slice _ _ _) rfl) rfl ?_
    refine LQ.gyes' (dj := 33) (b := _) rfl rfl g33 ?_
    refine LQ.val (fun w hw => x_mv (v := .int _ _) rfl) rfl ?_
    refine LQ.gyes' (dj := 33) (b := _) rfl rfl g33 ?_
    refine LQ.val (fun w hw => x_ia1 (j := i) Try.underlying22 ksrt3_sz9 rfl rfl (by omega) (by omega)) rfl ?_
    refine LQ.gyes' (dj := 33) (b := _) rfl rfl g33 ?_
    refine LQ.val (fun w hw => x_ld (v := S _) ksrt3_oc9 rfl (hw.keep (hR.at (i := i) (by omega)))) rfl ?_
    refine LQ.gyes' (dj := 33) (b := _) rfl rfl g33 ?_
    refine LQ.val (fun w hw => x_mv (v := .slice _ _ _) rfl) rfl ?_
    refine LQ.gyes' (dj := 33) (b := _) rfl rfl g33 ?_
    refine LQ.val (fun w hw => x_mv (v := .int _ _) rfl) rfl ?_
    refine LQ.gyes' (dj := 33) (b := _) rfl rfl g33 ?_
    refine LQ.val (fun w hw => x_ia1 (j := a) Try.underlying22 ksrt3_sz9 rfl rfl (by omega) (by omega)) rfl ?_
    refine LQ.gyes' (dj := 33) (b := _) rfl rfl g33 ?_
    refine LQ.val (fun w hw => x_ld (v := S _) ksrt3_oc9 rfl (hw.keep (hR.at (i := a) (by omega)))) rfl ?_
    refine LQ.gyes' (dj := 33) (b := _) rfl rfl g33 ?_
    refine LQ.ret (fun w => x_call ksrt3_en183 rfl) (fun w hw => Ret.mono (less_ok _ _ _) (fun _ _ h => ⟨h.1, Gr.trans hw h.2⟩)) rfl ?_
    refine LQ.nil ?_
    refine ⟨?_, rfl⟩
    repeat (first | exact jeq.refl _ _ _ | refine jeq.upd rfl ?_ | refine jeq.jk rfl rfl ?_)
   ·intro g33
    refine LQ.gno (dj := 33) (b := _) rfl rfl g33 rfl ?_
    refine LQ.gno (dj := 33) (b := _) rfl rfl g33 rfl ?_
    refine LQ.gno (dj := 33) (b := _) rfl rfl g33 rfl ?_
    refine LQ.gno (dj := 33) (b := _) rfl rfl g33 rfl ?_
    refine LQ.gno (dj := 33) (b := _) rfl rfl g33 rfl ?_
    refine LQ.gno (dj := 33) (b := _) rfl rfl g33 rfl ?_
    refine LQ.gno (dj := 33) (b := _) rfl rfl g33 rfl ?_
    refine LQ.gno (dj := 33) (b := _) rfl rfl g33 rfl ?_
    refine LQ.gno (dj := 33) (b := _) rfl rfl g33 rfl ?_
    refine LQ.nil ?_
    repeat (first | exact jeq.refl _ _ _ | refine jeq.upd rfl ?_ | refine jeq.jk rfl rfl ?_)
   intro J33 j33
   refine LQ.val (fun w hw => x_and rfl j33) rfl ?_
   refine LQ.nil ?_
   intro w30 hw
   have hB := hB.carry hw; have hR := hR.carry hw
   refine thn_n ?_
   refine W.cond (b := _) rfl (fun g43 => ?_) (fun g43 => ?_)
   ·have h43 := g43
    have hie := and1 h43
    refine W.skip ?_
    refine thn_n ?_
    refine W.block ?_
    refine W.region ?_
    refine L.val (x_mv (v := .int _ _) rfl) rfl ?_
    refine L.val (x_add rfl rfl (wr64 (by omega))) rfl ?_
    refine L.val (x_as (v := .int _ _) rfl) rfl ?_
    refine L.nil ?_
    refine blk_n ?_
    refine thn_n ⟨rfl, ?_⟩
    refine ⟨_, ?_, i + 1, rfl, by first | rfl | exact vi (by omega) | exact vs (by first | assumption | (rw [hst]; done) | (rw [hst]; simp only [List.append_assoc])), by first | rfl | exact vi (by omega) | exact vs (by first | assumption | (rw [hst]; done) | (rw [hst]; simp only [List.append_assoc])), by first | rfl | exact vi (by omega) | exact vs (by first | assumption | (rw [hst]; done) | (rw [hst]; simp only [List.append_assoc])), by first | rfl | exact vi (by omega) | exact vs (by first | assumption | (rw [hst]; done) | (rw [hst]; simp only [List.append_assoc])), (by first | assumption | omega | rfl), (by first | assumption | omega | rfl), (by omega), (by rw [← hq1]; exact up_go (p := fun x => ltStr x c[a]!) h43)⟩
    omega
   ·have h43 := g43
    have hq1 := (up_stop (p := fun x => ltStr x c[a]!) h43).symm.trans hq1
    refine W.exit (thn_x (thn_x (blk_hit ?_)))
    refine thn_n ?_
    refine W.seq ?_
    refine W.block ?_
    refine W.loop (fun m' E w' => ∃ (j : Nat), m' = j ∧ E 0 = .slice (some ⟨b, o, none⟩) n cap ∧ E 1 = .int .i64 (a : Nat) ∧ E 10 = .int .i64 (i : Nat) ∧ E 11 = .int .i64 (j : Nat) ∧ (Gr (· = b) w w') ∧ (Row S w' b o T hd c tl) ∧ (i ≤ j + 1 ∧ j < e) ∧ (scanDown (fun x => !ltStr x c[a]!) c i j = scanDown (fun x => !ltStr x c[a]!) c i (e - 1))) (e - 1) ?_ ?_
    ·exact ⟨e - 1, by omega, by first | rfl | exact vi (by omega) | exact vs (by first | assumption | (rw [hst]; done) | (rw [hst]; simp only [List.append_assoc])), by first | rfl | exact vi (by omega) | exact vs (by first | assumption | (rw [hst]; done) | (rw [hst]; simp only [List.append_assoc])), by first | rfl | exact vi (by omega) | exact vs (by first | assumption | (rw [hst]; done) | (rw [hst]; simp only [List.append_assoc])), by first | rfl | exact vi (by omega) | exact vs (by first | assumption | (rw [hst]; done) | (rw [hst]; simp only [List.append_assoc])), (by first | assumption | omega | rfl), (by first | assumption | omega | rfl), (by first | assumption | omega | rfl), (by first | assumption | omega | rfl)⟩
    ·rintro _ E wL46 ⟨j, em, e0, e1, e10, e11, hB, hR, hj, hq2⟩
     rw [upd_self e0, upd_self e1, upd_self e10, upd_self e11]
     refine W.seq ?_
     refine W.seq ?_
     refine W.drawB ksrt3_mixed (by kernel_rfl) ?_
     refine LQ.val (fun w hw => x_mv (v := .int _ _) rfl) rfl ?_
     refine LQ.val (fun w hw => x_mv (v := .int _ _) rfl) rfl ?_
     refine LQ.val (fun w hw => x_leq rfl rfl) rfl ?_
     refine LQ.val (fun w hw => x_mv (v := .bool _) rfl) rfl ?_
     refine' LQ.group 10 50 59 59 49 true rfl ?_ ?_ ?_
     rotate_left 1
     ·intro g49
      have h49 := of_decide_eq_true g49
      refine LQ.gyes' (dj := 49) (b := _) rfl rfl g49 ?_
      refine LQ.val (fun w hw => x_mv (v := .slice _ _ _) rfl) rfl ?_
      refine LQ.gyes' (dj := 49) (b := _) rfl rfl g49 ?_
      refine LQ.val (fun w hw => x_mv (v := .int _ _) rfl) rfl ?_
      refine LQ.gyes' (dj := 49) (b := _) rfl rfl g49 ?_
      refine LQ.val (fun w hw => x_ia1 (j := j) Try.underlying22 ksrt3_sz9 rfl rfl (by omega) (by omega)) rfl ?_
      refine LQ.gyes' (dj := 49) (b := _) rfl rfl g49 ?_
      refine LQ.val (fun w hw => x_ld (v := S _) ksrt3_oc9 rfl (hw.keep (hR.at (i := j) (by omega)))) rfl ?_
      refine LQ.gyes' (dj := 49) (b := _) rfl rfl g49 ?_
      refine LQ.val (fun w hw => x_mv (v := .slice _ _ _) rfl) rfl ?_
      refine LQ.gyes' (dj := 49) (b := _) rfl rfl g49 ?_
      refine LQ.val (fun w hw => x_mv (v := .int _ _) rfl) rfl ?_
      refine LQ.gyes' (dj := 49) (b := _) rfl rfl g49 ?_
      refine LQ.val (fun w hw => x_ia1 (j := a) Try.underlying22 ksrt3_sz9 rfl rfl (by omega) (by omega)) rfl ?_
      refine LQ.gyes' (dj := 49) (b := _) rfl rfl g49 ?_
      refine LQ.val (fun w hw => x_ld (v := S _) ksrt3_oc9 rfl (hw.keep (hR.at (i := a) (by omega)))) rfl ?_
      refine LQ.gyes' (dj := 49) (b := _) rfl rfl g49 ?_
      refine LQ.ret (fun w => x_call ksrt3_en183 rfl) (fun w hw => Ret.mono (less_ok _ _ _) (fun _ _ h => ⟨h.1, Gr.trans hw h.2⟩)) rfl ?_
      refine LQ.gyes' (dj := 49) (b := _) rfl rfl g49 ?_
      refine LQ.val (fun w hw => x_not rfl) rfl ?_
      refine LQ.nil ?_
      refine ⟨?_, rfl⟩
      repeat (first | exact jeq.refl _ _ _ | refine jeq.upd rfl ?_ | refine jeq.jk rfl rfl ?_)
     ·intro g49
      refine LQ.gno (dj := 49) (b := _) rfl rfl g49 rfl ?_
      refine LQ.gno (dj := 49) (b := _) rfl rfl g49 rfl ?_
      refine LQ.gno (dj := 49) (b := _) rfl rfl g49 rfl ?_
      refine LQ.gno (dj := 49) (b := _) rfl rfl g49 rfl ?_
      refine LQ.gno (dj := 49) (b := _) rfl rfl g49 rfl ?_
      refine LQ.gno (dj := 49) (b := _) rfl rfl g49 rfl ?_
      refine LQ.gno (dj := 49) (b := _) rfl rfl g49 rfl ?_
      refine LQ.gno (dj := 49) (b := _) rfl rfl g49 rfl ?_
      refine LQ.gno (dj := 49) (b := _) rfl rfl g49 rfl ?_
      refine LQ.gno (dj := 49) (b := _) rfl rfl g49 rfl ?_
      refine LQ.nil ?_
      repeat (first | exact jeq.refl _ _ _ | refine jeq.upd rfl ?_ | refine jeq.jk rfl rfl ?_)
     intro J49 j49
     refine LQ.val (fun w hw => x_and rfl j49) rfl ?_
     refine LQ.nil ?_
     intro w46 hw
     have hB := hB.carry hw; have hR := hR.carry hw
     refine thn_n ?_
     refine W.cond (b := _) rfl (fun g60 => ?_) (fun g60 => ?_)
     ·have h60 := g60
      have hie := and1 h60
      refine W.skip ?_
      refine thn_n ?_
      refine W.block ?_
      refine W.region ?_
      refine L.val (x_mv (v := .int _ _) rfl) rfl ?_
      refine L.val (x_sub rfl rfl (wr64 (by omega))) rfl ?_
      refine L.val (x_as (v := .int _ _) rfl) rfl ?_
      refine L.nil ?_
      refine blk_n ?_
      refine thn_n ⟨rfl, ?_⟩
      refine ⟨_, ?_, j - 1, rfl, by first | rfl | exact vi (by omega) | exact vs (by first | assumption | (rw [hst]; done) | (rw [hst]; simp only [List.append_assoc])), by first | rfl | exact vi (by omega) | exact vs (by first | assumption | (rw [hst]; done) | (rw [hst]; simp only [List.append_assoc])), by first | rfl | exact vi (by omega) | exact vs (by first | assumption | (rw [hst]; done) | (rw [hst]; simp only [List.append_assoc])), by first | rfl | exact vi (by omega) | exact vs (by first | assumption | (rw [hst]; done) | (rw [hst]; simp only [List.append_assoc])), (by first | assumption | omega | rfl), (by first | assumption | omega | rfl), (by omega), (by rw [← hq2]; exact down_go (p := fun x => !ltStr x c[a]!) (by omega) h60)⟩
      omega
     ·have h60 := g60
      have hq2 := (down_stop (p := fun x => !ltStr x c[a]!) h60).symm.trans hq2
      refine W.exit (thn_x (thn_x (blk_hit ?_)))
      refine thn_n ?_
      refine W.seq ?_
      refine W.seq ?_
      refine W.region ?_
      refine L.val (x_mv (v := .int _ _) rfl) rfl ?_
      refine L.val (x_mv (v := .int _ _) rfl) rfl ?_
      refine L.val (x_gtr rfl rfl) rfl ?_
      refine L.nil ?_
      refine thn_n ?_
      refine W.cond (b := _) rfl (fun g65 => ?_) (fun g65 => ?_)
      ·have h65 := of_decide_eq_true g65
       refine W.seq ?_
       refine W.drawS ksrt3_mixed ?_
       have hB := hB.carry (bel_drew _); have hR := hR.carry (bel_drew _)
       refine LA.take (i := 0) rfl (by kernel_rfl) (by kernel_rfl) (by kernel_rfl) (fun w => x_mv (v := .slice _ _ _) rfl) rfl ?_
       refine LA.take (i := 1) rfl (by kernel_rfl) (by kernel_rfl) (by kernel_rfl) (fun w => x_mv (v := .int _ _) rfl) rfl ?_
       refine LA.take (i := 2) rfl (by kernel_rfl) (by kernel_rfl) (by kernel_rfl) (fun w => x_mv (v := .slice _ _ _) rfl) rfl ?_
       refine LA.take (i := 3) rfl (by kernel_rfl) (by kernel_rfl) (by kernel_rfl) (fun w => x_mv (v := .int _ _) rfl) rfl ?_
       refine LA.take (i := 4) rfl (by kernel_rfl) (by kernel_rfl) (by kernel_rfl) (fun w => x_mv (v := .slice _ _ _) rfl) rfl ?_
       refine LA.take (i := 5) rfl (by kernel_rfl) (by kernel_rfl) (by kernel_rfl) (fun w => x_mv (v := .int _ _) rfl) rfl ?_
       refine LA.take (i := 6) rfl (by kernel_rfl) (by kernel_rfl) (by kernel_rfl) (fun w => x_ia1 (j := a) Try.underlying22 ksrt3_sz9 rfl rfl (by omega) (by omega)) rfl ?_
       refine LA.take (i := 8) rfl (by kernel_rfl) (by kernel_rfl) (by kernel_rfl) (fun w => x_mv (v := .slice _ _ _) rfl) rfl ?_
       refine LA.take (i := 9) rfl (by kernel_rfl) (by kernel_rfl) (by kernel_rfl) (fun w => x_mv (v := .int _ _) rfl) rfl ?_
       refine LA.take (i := 10) rfl (by kernel_rfl) (by kernel_rfl) (by kernel_rfl) (fun w => x_ia1 (j := j) Try.underlying22 ksrt3_sz9 rfl rfl (by omega) (by omega)) rfl ?_
       refine LA.pair (i := 7) (j := 11) rfl rfl (by kernel_rfl) (by kernel_rfl) (by kernel_rfl) rfl rfl (x_ld (v := S _) ksrt3_oc9 rfl (hR.at (i := a) (by omega))) (x_ld (v := S _) ksrt3_oc9 rfl (hR.at (i := j) (by omega))) (x_ld (v := S _) ksrt3_oc9 rfl (hR.at (i := j) (by omega))) (x_ld (v := S _) ksrt3_oc9 rfl (hR.at (i := a) (by omega))) rfl rfl ?_
       refine LA.take (i := 12) rfl (by kernel_rfl) (by kernel_rfl) (by kernel_rfl) (fun w => x_ia1 (j := j) Try.underlying22 ksrt3_sz9 rfl rfl (by omega) (by omega)) rfl ?_
       refine LA.step (rs := [13]) (by kernel_rfl) (by simp) ⟨⟨_, rfl, ?_⟩, trivial⟩
       refine L.setAt (enc := S) (j := j) ksrt3_sz9 rfl rfl rfl hR (by omega) (fun wl76 hR hsl76 hw hzl76 => ?_)
       have hB := hB.trans hw
       refine L.nil ?_
       refine thn_n ?_
       refine LA.take (i := 14) rfl (by kernel_rfl) (by kernel_rfl) (by kernel_rfl) (fun w => x_ia1 (j := a) Try.underlying22 ksrt3_sz9 rfl rfl (by omega) (by omega)) rfl ?_
       refine LA.step (rs := [15]) (by kernel_rfl) (by simp) ⟨⟨_, rfl, ?_⟩, trivial⟩
       refine L.setAt (enc := S) (j := a) ksrt3_sz9 rfl rfl rfl hR (by omega) (fun wl78 hR hsl78 hw hzl78 => ?_)
       have hB := hB.trans hw
       refine L.nil ?_
       refine thn_n ?_
       refine LA.done (by kernel_rfl) ?_
       refine nrm_n ?_
       refine thn_n ?_
       refine W.seq ?_
       refine W.region ?_
       refine L.val (x_mv (v := .int _ _) rfl) rfl ?_
       refine L.val (x_as (v := .int _ _) rfl) rfl ?_
       refine L.val (x_as (v := .bool _) rfl) rfl ?_
       refine L.nil ?_
       refine thn_n ?_
       refine W.ret (thn_r (fin_mk (.inr rfl) ?_))
       have hpart : partition ltStr d a e q = (j, true, swp c j a) := by
         unfold partition
         simp only [← hcd, ← hq1, ← hq2]
         rw [if_pos (by omega)]
       rw [hpart]; exact ⟨rfl, hB, hR⟩
      ·have h65 := dlt_f g65
       refine W.skip ?_
       refine thn_n ?_
       refine W.seq ?_
       refine W.drawS ksrt3_mixed ?_
       have hB := hB.carry (bel_drew _); have hR := hR.carry (bel_drew _)
       refine LA.take (i := 0) rfl (by kernel_rfl) (by kernel_rfl) (by kernel_rfl) (fun w => x_mv (v := .slice _ _ _) rfl) rfl ?_
       refine LA.take (i := 1) rfl (by kernel_rfl) (by kernel_rfl) (by kernel_rfl) (fun w => x_mv (v := .int _ _) rfl) rfl ?_
       refine LA.take (i := 2) rfl (by kernel_rfl) (by kernel_rfl) (by kernel_rfl) (fun w => x_mv (v := .slice _ _ _) rfl) rfl ?_
       refine LA.take (i := 3) rfl (by kernel_rfl) (by kernel_rfl) (by kernel_rfl) (fun w => x_mv (v := .int _ _) rfl) rfl ?_
       refine LA.take (i := 4) rfl (by kernel_rfl) (by kernel_rfl) (by kernel_rfl) (fun w => x_mv (v := .slice _ _ _) rfl) rfl ?_
       refine LA.take (i := 5) rfl (by kernel_rfl) (by kernel_rfl) (by kernel_rfl) (fun w => x_mv (v := .int _ _) rfl) rfl ?_
       refine LA.take (i := 6) rfl (by kernel_rfl) (by kernel_rfl) (by kernel_rfl) (fun w => x_ia1 (j := j) Try.underlying22 ksrt3_sz9 rfl rfl (by omega) (by omega)) rfl ?_
       refine LA.take (i := 8) rfl (by kernel_rfl) (by kernel_rfl) (by kernel_rfl) (fun w => x_mv (v := .slice _ _ _) rfl) rfl ?_
       refine LA.take (i := 9) rfl (by kernel_rfl) (by kernel_rfl) (by kernel_rfl) (fun w => x_mv (v := .int _ _) rfl) rfl ?_
       refine LA.take (i := 10) rfl (by kernel_rfl) (by kernel_rfl) (by kernel_rfl) (fun w => x_ia1 (j := i) Try.underlying22 ksrt3_sz9 rfl rfl (by omega) (by omega)) rfl ?_
       refine LA.pair (i := 7) (j := 11) rfl rfl (by kernel_rfl) (by kernel_rfl) (by kernel_rfl) rfl rfl (x_ld (v := S _) ksrt3_oc9 rfl (hR.at (i := j) (by omega))) (x_ld (v := S _) ksrt3_oc9 rfl (hR.at (i := i) (by omega))) (x_ld (v := S _) ksrt3_oc9 rfl (hR.at (i := i) (by omega))) (x_ld (v := S _) ksrt3_oc9 rfl (hR.at (i := j) (by omega))) rfl rfl ?_
       refine LA.take (i := 12) rfl (by kernel_rfl) (by kernel_rfl) (by kernel_rfl) (fun w => x_ia1 (j := i) Try.underlying22 ksrt3_sz9 rfl rfl (by omega) (by omega)) rfl ?_
       refine LA.step (rs := [13]) (by kernel_rfl) (by simp) ⟨⟨_, rfl, ?_⟩, trivial⟩
       refine L.setAt (enc := S) (j := i) ksrt3_sz9 rfl rfl rfl hR (by omega) (fun wl95 hR hsl95 hw hzl95 => ?_)
       have hB := hB.trans hw
       refine L.nil ?_
       refine thn_n ?_
       refine LA.take (i := 14) rfl (by kernel_rfl) (by kernel_rfl) (by kernel_rfl) (fun w => x_ia1 (j := j) Try.underlying22 ksrt3_sz9 rfl rfl (by omega) (by omega)) rfl ?_
       refine LA.step (rs := [15]) (by kernel_rfl) (by simp) ⟨⟨_, rfl, ?_⟩, trivial⟩
       refine L.setAt (enc := S) (j := j) ksrt3_sz9 rfl rfl rfl hR (by omega) (fun wl97 hR hsl97 hw hzl97 => ?_)
       have hB := hB.trans hw
       refine L.nil ?_
       refine thn_n ?_
       refine LA.done (by kernel_rfl) ?_
       refine nrm_n ?_
       refine thn_n ?_
       refine W.seq ?_
       refine W.region ?_
       refine L.val (x_mv (v := .int _ _) rfl) rfl ?_
       refine L.val (x_add rfl rfl (wr64 (by omega))) rfl ?_
       refine L.val (x_as (v := .int _ _) rfl) rfl ?_
       refine L.nil ?_
       refine thn_n ?_
       refine W.seq ?_
       refine W.region ?_
       refine L.val (x_mv (v := .int _ _) rfl) rfl ?_
       refine L.val (x_sub rfl rfl (wr64 (by omega))) rfl ?_
       refine L.val (x_as (v := .int _ _) rfl) rfl ?_
       refine L.nil ?_
       refine thn_n ?_
       refine W.seq ?_
       refine W.block ?_
       refine W.loop (fun m' E w' => ∃ (i2 j2 : Nat) (g : Array Str), m' = j2 + 1 - i2 ∧ E 0 = .slice (some ⟨b, o, none⟩) n cap ∧ E 1 = .int .i64 (a : Nat) ∧ E 10 = .int .i64 (i2 : Nat) ∧ E 11 = .int .i64 (j2 : Nat) ∧ (Gr (· = b) w w') ∧ (Row S w' b o T hd g tl) ∧ (g.size = n) ∧ (a < i2 ∧ i2 ≤ j2 + 2 ∧ j2 < e) ∧ (partLoop ltStr a i2 j2 g = partLoop ltStr a (i + 1) (j - 1) (swp c i j))) (j - 1 + 1 - (i + 1)) ?_ ?_
       ·exact ⟨i + 1, j - 1, swp c i j, by omega, by first | rfl | exact vi (by omega) | exact vs (by first | assumption | (rw [hst]; done) | (rw [hst]; simp only [List.append_assoc])), by first | rfl | exact vi (by omega) | exact vs (by first | assumption | (rw [hst]; done) | (rw [hst]; simp only [List.append_assoc])), by first | rfl | exact vi (by omega) | exact vs (by first | assumption | (rw [hst]; done) | (rw [hst]; simp only [List.append_assoc])), by first | rfl | exact vi (by omega) | exact vs (by first | assumption | (rw [hst]; done) | (rw [hst]; simp only [List.append_assoc])), (by first | assumption | omega | rfl), (by first | assumption | omega | rfl), (by rw [size_swp]; exact hn2), (by omega), (by first | assumption | omega | rfl)⟩
       ·rintro _ E wL99 ⟨i2, j2, g, em, e0, e1, e10, e11, hB, hR, hn3, hij, hq3⟩
        rw [upd_self e0, upd_self e1, upd_self e10, upd_self e11]
        refine W.block ?_
        refine W.seq ?_
        refine W.block ?_
        refine W.loop (fun m' E w' => ∃ (i3 : Nat), m' = e - i3 ∧ E 0 = .slice (some ⟨b, o, none⟩) n cap ∧ E 1 = .int .i64 (a : Nat) ∧ E 10 = .int .i64 (i3 : Nat) ∧ E 11 = .int .i64 (j2 : Nat) ∧ (Gr (· = b) w w') ∧ (Row S w' b o T hd g tl) ∧ (i2 ≤ i3 ∧ i3 ≤ j2 + 2) ∧ (scanUp (fun x => ltStr x g[a]!) g j2 i3 = scanUp (fun x => ltStr x g[a]!) g j2 i2)) (e - i2) ?_ ?_
        ·exact ⟨i2, by omega, by first | rfl | exact vi (by omega) | exact vs (by first | assumption | (rw [hst]; done) | (rw [hst]; simp only [List.append_assoc])), by first | rfl | exact vi (by omega) | exact vs (by first | assumption | (rw [hst]; done) | (rw [hst]; simp only [List.append_assoc])), by first | rfl | exact vi (by omega) | exact vs (by first | assumption | (rw [hst]; done) | (rw [hst]; simp only [List.append_assoc])), by first | rfl | exact vi (by omega) | exact vs (by first | assumption | (rw [hst]; done) | (rw [hst]; simp only [List.append_assoc])), (by first | assumption | omega | rfl), (by first | assumption | omega | rfl), (by omega), (by first | assumption | omega | rfl)⟩
        ·rintro _ E wL99b ⟨i3, em, e0, e1, e10, e11, hB, hR, hi3, hq4⟩
         rw [upd_self e0, upd_self e1, upd_self e10, upd_self e11]
         refine W.seq ?_
         refine W.seq ?_
         refine W.drawB ksrt3_mixed (by kernel_rfl) ?_
         refine LQ.val (fun w hw => x_mv (v := .int _ _) rfl) rfl ?_
         refine LQ.val (fun w hw => x_mv (v := .int _ _) rfl) rfl ?_
         refine LQ.val (fun w hw => x_leq rfl rfl) rfl ?_
         refine LQ.val (fun w hw => x_mv (v := .bool _) rfl) rfl ?_
         refine' LQ.group 9 103 111 111 102 true rfl ?_ ?_ ?_
         rotate_left 1
         ·intro g102
          have h102 := of_decide_eq_true g102
          refine LQ.gyes' (dj := 102) (b := _) rfl rfl g102 ?_
          refine LQ.val (fun w hw => x_mv (v := .slice _ _ _) rfl) rfl ?_
          refine LQ.gyes' (dj := 102) (b := _) rfl rfl g102 ?_
          refine LQ.val (fun w hw => x_mv (v := .int _ _) rfl) rfl ?_
          refine LQ.gyes' (dj := 102) (b := _) rfl rfl g102 ?_
          refine LQ.val (fun w hw => x_ia1 (j := i3) Try.underlying22 ksrt3_sz9 rfl rfl (by omega) (by omega)) rfl ?_
          refine LQ.gyes' (dj := 102) (b := _) rfl rfl g102 ?_
          refine LQ.val (fun w hw => x_ld (v := S _) ksrt3_oc9 rfl (hw.keep (hR.at (i := i3) (by omega)))) rfl ?_
          refine LQ.gyes' (dj := 102) (b := _) rfl rfl g102 ?_
          refine LQ.val (fun w hw => x_mv (v := .slice _ _ _) rfl) rfl ?_
          refine LQ.gyes' (dj := 102) (b := _) rfl rfl g102 ?_
          refine LQ.val (fun w hw => x_mv (v := .int _ _) rfl) rfl ?_
          refine LQ.gyes' (dj := 102) (b := _) rfl rfl g102 ?_
          refine LQ.val (fun w hw => x_ia1 (j := a) Try.underlying22 ksrt3_sz9 rfl rfl (by omega) (by omega)) rfl ?_
          refine LQ.gyes' (dj := 102) (b := _) rfl rfl g102 ?_
          refine LQ.val (fun w hw => x_ld (v := S _) ksrt3_oc9 rfl (hw.keep (hR.at (i := a) (by omega)))) rfl ?_
          refine LQ.gyes' (dj := 102) (b := _) rfl rfl g102 ?_
          refine LQ.ret (fun w => x_call ksrt3_en183 rfl) (fun w hw => Ret.mono (less_ok _ _ _) (fun _ _ h => ⟨h.1, Gr.trans hw h.2⟩)) rfl ?_
          refine LQ.nil ?_
          refine ⟨?_, rfl⟩
          repeat (first | exact jeq.refl _ _ _ | refine jeq.upd rfl ?_ | refine jeq.jk rfl rfl ?_)
         ·intro g102
          refine LQ.gno (dj := 102) (b := _) rfl rfl g102 rfl ?_
          refine LQ.gno (dj := 102) (b := _) rfl rfl g102 rfl ?_
          refine LQ.gno (dj := 102) (b := _) rfl rfl g102 rfl ?_
          refine LQ.gno (dj := 102) (b := _) rfl rfl g102 rfl ?_
          refine LQ.gno (dj := 102) (b := _) rfl rfl g102 rfl ?_
          refine LQ.gno (dj := 102) (b := _) rfl rfl g102 rfl ?_
          refine LQ.gno (dj := 102) (b := _) rfl rfl g102 rfl ?_
          refine LQ.gno (dj := 102) (b := _) rfl rfl g102 rfl ?_
          refine LQ.gno (dj := 102) (b := _) rfl rfl g102 rfl ?_
          refine LQ.nil ?_
          repeat (first | exact jeq.refl _ _ _ | refine jeq.upd rfl ?_ | refine jeq.jk rfl rfl ?_)
         intro J102 j102
         refine LQ.val (fun w hw => x_and rfl j102) rfl ?_
         refine LQ.nil ?_
         intro w99 hw
         have hB := hB.carry hw; have hR := hR.carry hw
         refine thn_n ?_
         refine W.cond (b := _) rfl (fun g112 => ?_) (fun g112 => ?_)
         ·have h112 := g112
          have hie := and1 h112
          refine W.skip ?_
          refine thn_n ?_
          refine W.block ?_
          refine W.region ?_
          refine L.val (x_mv (v := .int _ _) rfl) rfl ?_
          refine L.val (x_add rfl rfl (wr64 (by omega))) rfl ?_
          refine L.val (x_as (v := .int _ _) rfl) rfl ?_
          refine L.nil ?_
          refine blk_n ?_
          refine thn_n ⟨rfl, ?_⟩
          refine ⟨_, ?_, i3 + 1, rfl, by first | rfl | exact vi (by omega) | exact vs (by first | assumption | (rw [hst]; done) | (rw [hst]; simp only [List.append_assoc])), by first | rfl | exact vi (by omega) | exact vs (by first | assumption | (rw [hst]; done) | (rw [hst]; simp only [List.append_assoc])), by first | rfl | exact vi (by omega) | exact vs (by first | assumption | (rw [hst]; done) | (rw [hst]; simp only [List.append_assoc])), by first | rfl | exact vi (by omega) | exact vs (by first | assumption | (rw [hst]; done) | (rw [hst]; simp only [List.append_assoc])), (by first | assumption | omega | rfl), (by first | assumption | omega | rfl), (by omega), (by rw [← hq4]; exact up_go (p := fun x => ltStr x g[a]!) h112)⟩
          omega
         ·have h112 := g112
          have hq4 := (up_stop (p := fun x => ltStr x g[a]!) h112).symm.trans hq4
          refine W.exit (thn_x (thn_x (blk_hit ?_)))
          refine thn_n ?_
          refine W.seq ?_
          refine W.block ?_
          refine W.loop (fun m' E w' => ∃ (j3 : Nat), m' = j3 ∧ E 0 = .slice (some ⟨b, o, none⟩) n cap ∧ E 1 = .int .i64 (a : Nat) ∧ E 10 = .int .i64 (i3 : Nat) ∧ E 11 = .int .i64 (j3 : Nat) ∧ (Gr (· = b) w w') ∧ (Row S w' b o T hd g tl) ∧ (i3 ≤ j3 + 2 ∧ j3 ≤ j2) ∧ (scanDown (fun x => !ltStr x g[a]!) g i3 j3 = scanDown (fun x => !ltStr x g[a]!) g i3 j2)) (j2) ?_ ?_
          ·exact ⟨j2, by omega, by first | rfl | exact vi (by omega) | exact vs (by first | assumption | (rw [hst]; done) | (rw [hst]; simp only [List.append_assoc])), by first | rfl | exact vi (by omega) | exact vs (by first | assumption | (rw [hst]; done) | (rw [hst]; simp only [List.append_assoc])), by first | rfl | exact vi (by omega) | exact vs (by first | assumption | (rw [hst]; done) | (rw [hst]; simp only [List.append_assoc])), by first | rfl | exact vi (by omega) | exact vs (by first | assumption | (rw [hst]; done) | (rw [hst]; simp only [List.append_assoc])), (by first | assumption | omega | rfl), (by first | assumption | omega | rfl), (by omega), (by first | assumption | omega | rfl)⟩
          ·rintro _ E wL115 ⟨j3, em, e0, e1, e10, e11, hB, hR, hj3, hq5⟩
           rw [upd_self e0, upd_self e1, upd_self e10, upd_self e11]
           refine W.seq ?_
           refine W.seq ?_
           refine W.drawB ksrt3_mixed (by kernel_rfl) ?_
           refine LQ.val (fun w hw => x_mv (v := .int _ _) rfl) rfl ?_
           refine LQ.val (fun w hw => x_mv (v := .int _ _) rfl) rfl ?_
           refine LQ.val (fun w hw => x_leq rfl rfl) rfl ?_
           refine LQ.val (fun w hw => x_mv (v := .bool _) rfl) rfl ?_
           refine' LQ.group 10 119 128 128 118 true rfl ?_ ?_ ?_
           rotate_left 1
           ·intro g118
            have h118 := of_decide_eq_true g118
            refine LQ.gyes' (dj := 118) (b := _) rfl rfl g118 ?_
            refine LQ.val (fun w hw => x_mv (v := .slice _ _ _) rfl) rfl ?_
            refine LQ.gyes' (dj := 118) (b := _) rfl rfl g118 ?_
            refine LQ.val (fun w hw => x_mv (v := .int _ _) rfl) rfl ?_
            refine LQ.gyes' (dj := 118) (b := _) rfl rfl g118 ?_
            refine LQ.val (fun w hw => x_ia1 (j := j3) Try.underlying22 ksrt3_sz9 rfl rfl (by omega) (by omega)) rfl ?_
            refine LQ.gyes' (dj := 118) (b := _) rfl rfl g118 ?_
            refine LQ.val (fun w hw => x_ld (v := S _) ksrt3_oc9 rfl (hw.keep (hR.at (i := j3) (by omega)))) rfl ?_
            refine LQ.gyes' (dj := 118) (b := _) rfl rfl g118 ?_
            refine LQ.val (fun w hw => x_mv (v := .slice _ _ _) rfl) rfl ?_
            refine LQ.gyes' (dj := 118) (b := _) rfl rfl g118 ?_
            refine LQ.val (fun w hw => x_mv (v := .int _ _) rfl) rfl ?_
            refine LQ.gyes' (dj := 118) (b := _) rfl rfl g118 ?_
            refine LQ.val (fun w hw => x_ia1 (j := a) Try.underlying22 ksrt3_sz9 rfl rfl (by omega) (by omega)) rfl ?_
            refine LQ.gyes' (dj := 118) (b := _) rfl rfl g118 ?_
            refine LQ.val (fun w hw => x_ld (v := S _) ksrt3_oc9 rfl (hw.keep (hR.at (i := a) (by omega)))) rfl ?_
            refine LQ.gyes' (dj := 118) (b := _) rfl rfl g118 ?_
            refine LQ.ret (fun w => x_call ksrt3_en183 rfl) (fun w hw => Ret.mono (less_ok _ _ _) (fun _ _ h => ⟨h.1, Gr.trans hw h.2⟩)) rfl ?_
            refine LQ.gyes' (dj := 118) (b := _) rfl rfl g118 ?_
            refine LQ.val (fun w hw => x_not rfl) rfl ?_
            refine LQ.nil ?_
            refine ⟨?_, rfl⟩
            repeat (first | exact jeq.refl _ _ _ | refine jeq.upd rfl ?_ | refine jeq.jk rfl rfl ?_)
           ·intro g118
            refine LQ.gno (dj := 118) (b := _) rfl rfl g118 rfl ?_
            refine LQ.gno (dj := 118) (b := _) rfl rfl g118 rfl ?_
            refine LQ.gno (dj := 118) (b := _) rfl rfl g118 rfl ?_
            refine LQ.gno (dj := 118) (b := _) rfl rfl g118 rfl ?_
            refine LQ.gno (dj := 118) (b := _) rfl rfl g118 rfl ?_
            refine LQ.gno (dj := 118) (b := _) rfl rfl g118 rfl ?_
            refine LQ.gno (dj := 118) (b := _) rfl rfl g118 rfl ?_
            refine LQ.gno (dj := 118) (b := _) rfl rfl g118 rfl ?_
            refine LQ.gno (dj := 118) (b := _) rfl rfl g118 rfl ?_
            refine LQ.gno (dj := 118) (b := _) rfl rfl g118 rfl ?_
            refine LQ.nil ?_
            repeat (first | exact jeq.refl _ _ _ | refine jeq.upd rfl ?_ | refine jeq.jk rfl rfl ?_)
           intro J118 j118
           refine LQ.val (fun w hw => x_and rfl j118) rfl ?_
           refine LQ.nil ?_
           intro w115 hw
           have hB := hB.carry hw; have hR := hR.carry hw
           refine thn_n ?_
           refine W.cond (b := _) rfl (fun g129 => ?_) (fun g129 => ?_)
           ·have h129 := g129
            have hie := and1 h129
            refine W.skip ?_
            refine thn_n ?_
            refine W.block ?_
            refine W.region ?_
            refine L.val (x_mv (v := .int _ _) rfl) rfl ?_
            refine L.val (x_sub rfl rfl (wr64 (by omega))) rfl ?_
            refine L.val (x_as (v := .int _ _) rfl) rfl ?_
            refine L.nil ?_
            refine blk_n ?_
            refine thn_n ⟨rfl, ?_⟩
            refine ⟨_, ?_, j3 - 1, rfl, by first | rfl | exact vi (by omega) | exact vs (by first | assumption | (rw [hst]; done) | (rw [hst]; simp only [List.append_assoc])), by first | rfl | exact vi (by omega) | exact vs (by first | assumption | (rw [hst]; done) | (rw [hst]; simp only [List.append_assoc])), by first | rfl | exact vi (by omega) | exact vs (by first | assumption | (rw [hst]; done) | (rw [hst]; simp only [List.append_assoc])), by first | rfl | exact vi (by omega) | exact vs (by first | assumption | (rw [hst]; done) | (rw [hst]; simp only [List.append_assoc])), (by first | assumption | omega | rfl), (by first | assumption | omega | rfl), (by omega), (by rw [← hq5]; exact down_go (p := fun x => !ltStr x g[a]!) (by omega) h129)⟩
            omega
           ·have h129 := g129
            have hq5 := (down_stop (p := fun x => !ltStr x g[a]!) h129).symm.trans hq5
            refine W.exit (thn_x (thn_x (blk_hit ?_)))
            refine thn_n ?_
            refine W.seq ?_
            refine W.seq ?_
            refine W.region ?_
            refine L.val (x_mv (v := .int _ _) rfl) rfl ?_
            refine L.val (x_mv (v := .int _ _) rfl) rfl ?_
            refine L.val (x_gtr rfl rfl) rfl ?_
            refine L.nil ?_
            refine thn_n ?_
            refine W.cond (b := _) rfl (fun g134 => ?_) (fun g134 => ?_)
            ·have h134 := of_decide_eq_true g134
             have hq3 := (part_stop hq4.symm hq5.symm (by omega)).symm.trans hq3
             refine W.exit (thn_x (blk_miss rfl (thn_x (blk_hit ?_))))
             refine thn_n ?_
             refine W.seq ?_
             refine W.drawS ksrt3_mixed ?_
             have hB := hB.carry (bel_drew _); have hR := hR.carry (bel_drew _)
             refine LA.take (i := 0) rfl (by kernel_rfl) (by kernel_rfl) (by kernel_rfl) (fun w => x_mv (v := .slice _ _ _) rfl) rfl ?_
             refine LA.take (i := 1) rfl (by kernel_rfl) (by kernel_rfl) (by kernel_rfl) (fun w => x_mv (v := .int _ _) rfl) rfl ?_
             refine LA.take (i := 2) rfl (by kernel_rfl) (by kernel_rfl) (by kernel_rfl) (fun w => x_mv (v := .slice _ _ _) rfl) rfl ?_
             refine LA.take (i := 3) rfl (by kernel_rfl) (by kernel_rfl) (by kernel_rfl) (fun w => x_mv (v := .int _ _) rfl) rfl ?_
             refine LA.take (i := 4) rfl (by kernel_rfl) (by kernel_rfl) (by kernel_rfl) (fun w => x_mv (v := .slice _ _ _) rfl) rfl ?_
             refine LA.take (i := 5) rfl (by kernel_rfl) (by kernel_rfl) (by kernel_rfl) (fun w => x_mv (v := .int _ _) rfl) rfl ?_
             refine LA.take (i := 6) rfl (by kernel_rfl) (by kernel_rfl) (by kernel_rfl) (fun w => x_ia1 (j := a) Try.underlying22 ksrt3_sz9 rfl rfl (by omega) (by omega)) rfl ?_
             refine LA.take (i := 8) rfl (by kernel_rfl) (by kernel_rfl) (by kernel_rfl) (fun w => x_mv (v := .slice _ _ _) rfl) rfl ?_
             refine LA.take (i := 9) rfl (by kernel_rfl) (by kernel_rfl) (by kernel_rfl) (fun w => x_mv (v := .int _ _) rfl) rfl ?_
             refine LA.take (i := 10) rfl (by kernel_rfl) (by kernel_rfl) (by kernel_rfl) (fun w => x_ia1 (j := j3) Try.underlying22 ksrt3_sz9 rfl rfl (by omega) (by omega)) rfl ?_
             refine LA.pair (i := 7) (j := 11) rfl rfl (by kernel_rfl) (by kernel_rfl) (by kernel_rfl) rfl rfl (x_ld (v := S _) ksrt3_oc9 rfl (hR.at (i := a) (by omega))) (x_ld (v := S _) ksrt3_oc9 rfl (hR.at (i := j3) (by omega))) (x_ld (v := S _) ksrt3_oc9 rfl (hR.at (i := j3) (by omega))) (x_ld (v := S _) ksrt3_oc9 rfl (hR.at (i := a) (by omega))) rfl rfl ?_
             refine LA.take (i := 12) rfl (by kernel_rfl) (by kernel_rfl) (by kernel_rfl) (fun w => x_ia1 (j := j3) Try.underlying22 ksrt3_sz9 rfl rfl (by omega) (by omega)) rfl ?_
             refine LA.step (rs := [13]) (by kernel_rfl) (by simp) ⟨⟨_, rfl, ?_⟩, trivial⟩
             refine L.setAt (enc := S) (j := j3) ksrt3_sz9 rfl rfl rfl hR (by omega) (fun wl177 hR hsl177 hw hzl177 => ?_)
             have hB := hB.trans hw
             refine L.nil ?_
             refine thn_n ?_
             refine LA.take (i := 14) rfl (by kernel_rfl) (by kernel_rfl) (by kernel_rfl) (fun w => x_ia1 (j := a) Try.underlying22 ksrt3_sz9 rfl rfl (by omega) (by omega)) rfl ?_
             refine LA.step (rs := [15]) (by kernel_rfl) (by simp) ⟨⟨_, rfl, ?_⟩, trivial⟩
             refine L.setAt (enc := S) (j := a) ksrt3_sz9 rfl rfl rfl hR (by omega) (fun wl179 hR hsl179 hw hzl179 => ?_)
             have hB := hB.trans hw
             refine L.nil ?_
             refine thn_n ?_
             refine LA.done (by kernel_rfl) ?_
             refine nrm_n ?_
             refine thn_n ?_
             refine W.seq ?_
             refine W.region ?_
             refine L.val (x_mv (v := .int _ _) rfl) rfl ?_
             refine L.val (x_as (v := .int _ _) rfl) rfl ?_
             refine L.val (x_as (v := .bool _) rfl) rfl ?_
             refine L.nil ?_
             refine thn_n ?_
             refine W.ret (fin_mk (.inr rfl) ?_)
             have hpart : partition ltStr d a e q = (j3, false, swp g j3 a) := by
               unfold partition
               simp only [← hcd, ← hq1, ← hq2]
               rw [if_neg (by omega), ← hq3]
             rw [hpart]; exact ⟨rfl, hB, hR⟩
            ·have h134 := dlt_f g134
             refine W.skip ?_
             refine thn_n ?_
             refine W.seq ?_
             refine W.drawS ksrt3_mixed ?_
             have hB := hB.carry (bel_drew _); have hR := hR.carry (bel_drew _)
             refine LA.take (i := 0) rfl (by kernel_rfl) (by kernel_rfl) (by kernel_rfl) (fun w => x_mv (v := .slice _ _ _) rfl) rfl ?_
             refine LA.take (i := 1) rfl (by kernel_rfl) (by kernel_rfl) (by kernel_rfl) (fun w => x_mv (v := .int _ _) rfl) rfl ?_
             refine LA.take (i := 2) rfl (by kernel_rfl) (by kernel_rfl) (by kernel_rfl) (fun w => x_mv (v := .slice _ _ _) rfl) rfl ?_
             refine LA.take (i := 3) rfl (by kernel_rfl) (by kernel_rfl) (by kernel_rfl) (fun w => x_mv (v := .int _ _) rfl) rfl ?_
             refine LA.take (i := 4) rfl (by kernel_rfl) (by kernel_rfl) (by kernel_rfl) (fun w => x_mv (v := .slice _ _ _) rfl) rfl ?_
             refine LA.take (i := 5) rfl (by kernel_rfl) (by kernel_rfl) (by kernel_rfl) (fun w => x_mv (v := .int _ _) rfl) rfl ?_
             refine LA.take (i := 6) rfl (by kernel_rfl) (by kernel_rfl) (by kernel_rfl) (fun w => x_ia1 (j := j3) Try.underlying22 ksrt3_sz9 rfl rfl (by omega) (by omega)) rfl ?_
             refine LA.take (i := 8) rfl (by kernel_rfl) (by kernel_rfl) (by kernel_rfl) (fun w => x_mv (v := .slice _ _ _) rfl) rfl ?_
             refine LA.take (i := 9) rfl (by kernel_rfl) (by kernel_rfl) (by kernel_rfl) (fun w => x_mv (v := .int _ _) rfl) rfl ?_
             refine LA.take (i := 10) rfl (by kernel_rfl) (by kernel_rfl) (by kernel_rfl) (fun w => x_ia1 (j := i3) Try.underlying22 ksrt3_sz9 rfl rfl (by omega) (by omega)) rfl ?_
             refine LA.pair (i := 7) (j := 11) rfl rfl (by kernel_rfl) (by kernel_rfl) (by kernel_rfl) rfl rfl (x_ld (v := S _) ksrt3_oc9 rfl (hR.at (i := j3) (by omega))) (x_ld (v := S _) ksrt3_oc9 rfl (hR.at (i := i3) (by omega))) (x_ld (v := S _) ksrt3_oc9 rfl (hR.at (i := i3) (by omega))) (x_ld (v := S _) ksrt3_oc9 rfl (hR.at (i := j3) (by omega))) rfl rfl ?_
             refine LA.take (i := 12) rfl (by kernel_rfl) (by kernel_rfl) (by kernel_rfl) (fun w => x_ia1 (j := i3) Try.underlying22 ksrt3_sz9 rfl rfl (by omega) (by omega)) rfl ?_
             refine LA.step (rs := [13]) (by kernel_rfl) (by simp) ⟨⟨_, rfl, ?_⟩, trivial⟩
             refine L.setAt (enc := S) (j := i3) ksrt3_sz9 rfl rfl rfl hR (by omega) (fun wl155 hR hsl155 hw hzl155 => ?_)
             have hB := hB.trans hw
             refine L.nil ?_
             refine thn_n ?_
             refine LA.take (i := 14) rfl (by kernel_rfl) (by kernel_rfl) (by kernel_rfl) (fun w => x_ia1 (j := j3) Try.underlying22 ksrt3_sz9 rfl rfl (by omega) (by omega)) rfl ?_
             refine LA.step (rs := [15]) (by kernel_rfl) (by simp) ⟨⟨_, rfl, ?_⟩, trivial⟩
             refine L.setAt (enc := S) (j := j3) ksrt3_sz9 rfl rfl rfl hR (by omega) (fun wl157 hR hsl157 hw hzl157 => ?_)
             have hB := hB.trans hw
             refine L.nil ?_
             refine thn_n ?_
             refine LA.done (by kernel_rfl) ?_
             refine nrm_n ?_
             refine thn_n ?_
             refine W.seq ?_
             refine W.region ?_
             refine L.val (x_mv (v := .int _ _) rfl) rfl ?_
             refine L.val (x_add rfl rfl (wr64 (by omega))) rfl ?_
             refine L.val (x_as (v := .int _ _) rfl) rfl ?_
             refine L.nil ?_
             refine thn_n ?_
             refine W.region ?_
             refine L.val (x_mv (v := .int _ _) rfl) rfl ?_
             refine L.val (x_sub rfl rfl (wr64 (by omega))) rfl ?_
             refine L.val (x_as (v := .int _ _) rfl) rfl ?_
             refine L.nil ?_
             refine blk_n ?_
             refine thn_n ⟨rfl, ?_⟩
             refine ⟨_, ?_, i3 + 1, j3 - 1, swp g i3 j3, rfl, by first | rfl | exact vi (by omega) | exact vs (by first | assumption | (rw [hst]; done) | (rw [hst]; simp only [List.append_assoc])), by first | rfl | exact vi (by omega) | exact vs (by first | assumption | (rw [hst]; done) | (rw [hst]; simp only [List.append_assoc])), by first | rfl | exact vi (by omega) | exact vs (by first | assumption | (rw [hst]; done) | (rw [hst]; simp only [List.append_assoc])), by first | rfl | exact vi (by omega) | exact vs (by first | assumption | (rw [hst]; done) | (rw [hst]; simp only [List.append_assoc])), (by first | assumption | omega | rfl), (by first | assumption | omega | rfl), (by rw [size_swp]; exact hn3), (by omega), (by rw [← hq3]; exact part_go hq4.symm hq5.symm (by omega) (by omega) (by omega) (by omega))⟩
             omega

theorem parteq_ok (b o a e q cap n : Nat) (T : TypeId) (hd tl : List Value) (d : Array Str) (w : World) (hR : Row S w b o T hd d tl) (hn : d.size = n) (hc : n ≤ 2000000000000000000) (haq : a ≤ q) (hqe : q < e) (he : e ≤ n) :
    Ret Try.prog 184 #[.slice (some ⟨b, o, none⟩) n cap, .int .i64 a, .int .i64 e, .int .i64 q] w fun v w' => v = .int .i64 (partitionEqual ltStr d a e q).1 ∧ Gr (· = b) w w' ∧ Row S w' b o T hd (partitionEqual ltStr d a e q).2 tl := by
  refine ret_of_W Try.func184 rfl (Nat.le_of_ble_eq_true rfl) (res1 rfl) ?_
  have hB := Gr.refl (· = b) w
  obtain ⟨c, hcd⟩ : ∃ c, c = swp d a q := ⟨_, rfl⟩
  have hn2 : c.size = n := by rw [hcd, size_swp]; exact hn
  refine W.seq ?_
  refine W.region ?_
  refine L.val (x_as (v := .int _ _) rfl) rfl ?_
  refine L.nil ?_
  refine thn_n ?_
  refine W.seq ?_
  refine W.drawS ksrt3_mixed ?_
  have hB := hB.carry (bel_drew _); have hR := hR.carry (bel_drew _)
  refine LA.take (i := 0) rfl (by kernel_rfl) (by kernel_rfl) (by kernel_rfl) (fun w => x_mv (v := .slice _ _ _) rfl) rfl ?_
  refine LA.take (i := 1) rfl (by kernel_rfl) (by kernel_rfl) (by kernel_rfl) (fun w => x_mv (v := .int _ _) rfl) rfl ?_
  refine LA.take (i := 2) rfl (by kernel_rfl) (by kernel_rfl) (by kernel_rfl) (fun w => x_mv (v := .slice _ _ _) rfl) rfl ?_
  refine LA.take (i := 3) rfl (by kernel_rfl) (by kernel_rfl) (by kernel_rfl) (fun w => x_mv (v := .int _ _) rfl) rfl ?_
  refine LA.take (i := 4) rfl (by kernel_rfl) (by kernel_rfl) (by kernel_rfl) (fun w => x_mv (v := .slice _ _ _) rfl) rfl ?_
  refine LA.take (i := 5) rfl (by kernel_rfl) (by kernel_rfl) (by kernel_rfl) (fun w => x_mv (v := .int _ _) rfl) rfl ?_
  refine LA.take (i := 6) rfl (by kernel_rfl) (by kernel_rfl) (by kernel_rfl) (fun w => x_ia1 (j := q) Try.underlying22 ksrt3_sz9 rfl rfl (by omega) (by omega)) rfl ?_
  refine LA.take (i := 8) rfl (by kernel_rfl) (by kernel_rfl) (by kernel_rfl) (fun w => x_mv (v := .slice _ _ _) rfl) rfl ?_
  refine LA.take (i := 9) rfl (by kernel_rfl) (by kernel_rfl) (by kernel_rfl) (fun w => x_mv (v := .int _ _) rfl) rfl ?_
  refine LA.take (i := 10) rfl (by kernel_rfl) (by kernel_rfl) (by kernel_rfl) (fun w => x_ia1 (j := a) Try.underlying22 ksrt3_sz9 rfl rfl (by omega) (by omega)) rfl ?_
  refine LA.pair (i := 7) (j := 11) rfl rfl (by kernel_rfl) (by kernel_rfl) (by kernel_rfl) rfl rfl (x_ld (v := S _) ksrt3_oc9 rfl (hR.at (i := q) (by omega))) (x_ld (v := S _) ksrt3_oc9 rfl (hR.at (i := a) (by omega))) (x_ld (v := S _) ksrt3_oc9 rfl (hR.at (i := a) (by omega))) (x_ld (v := S _) ksrt3_oc9 rfl (hR.at (i := q) (by omega))) rfl rfl ?_
  refine LA.take (i := 12) rfl (by kernel_rfl) (by kernel_rfl) (by kernel_rfl) (fun w => x_ia1 (j := a) Try.underlying22 ksrt3_sz9 rfl rfl (by omega) (by omega)) rfl ?_
  refine LA.step (rs := [13]) (by kernel_rfl) (by simp) ⟨⟨_, rfl, ?_⟩, trivial⟩
  refine L.setAt (enc := S) (j := a) ksrt3_sz9 rfl rfl rfl hR (by omega) (fun wl15 hR hsl15 hw hzl15 => ?_)
  have hB := hB.trans hw
  refine L.nil ?_
  refine thn_n ?_
  refine LA.take (i := 14) rfl (by kernel_rfl) (by kernel_rfl) (by kernel_rfl) (fun w => x_ia1 (j := q) Try.underlying22 ksrt3_sz9 rfl rfl (by omega) (by omega)) rfl ?_
  refine LA.step (rs := [15]) (by kernel_rfl) (by simp) ⟨⟨_, rfl, ?_⟩, trivial⟩
  refine L.setAt (enc := S) (j := q) ksrt3_sz9 rfl rfl rfl hR (by omega) (fun wl17 hR hsl17 hw hzl17 => ?_)
  have hB := hB.trans hw
  have hR : Row S wl17 b o T hd c tl := by rw [hcd]; exact hR
  refine L.nil ?_
  refine thn_n ?_
  refine LA.done (by kernel_rfl) ?_
  refine nrm_n ?_
  refine thn_n ?_
  refine W.seq ?_
  refine W.region ?_
  refine L.val (x_mv (v := .int _ _) rfl) rfl ?_
  refine L.val (x_add rfl rfl (wr64 (by omega))) rfl ?_
  refine L.val (x_mv (v := .int _ _) rfl) rfl ?_
  refine L.val (x_sub rfl rfl (wr64 (by omega))) rfl ?_
  refine L.val (x_as (v := .int _ _) rfl) rfl ?_
  refine L.val (x_as (v := .int _ _) rfl) rfl ?_
  refine L.nil ?_
  refine thn_n ?_
  refine W.seq ?_
  refine W.block ?_
  refine W.loop (fun m' E w' => ∃ (i2 j2 : Nat) (g : Array Str), m' = j2 + 1 - i2 ∧ E 0 = .slice (some ⟨b, o, none⟩) n cap ∧ E 1 = .int .i64 (a : Nat) ∧ E 9 = .int .i64 (i2 : Nat) ∧ E 10 = .int .i64 (j2 : Nat) ∧ (Gr (· = b) w w') ∧ (Row S w' b o T hd g tl) ∧ (g.size = n) ∧ (a < i2 ∧ i2 ≤ j2 + 2 ∧ j2 < e) ∧ (partEqLoop ltStr a i2 j2 g = partEqLoop ltStr a (a + 1) (e - 1) c)) (e - 1 + 1 - (a + 1)) ?_ ?_
  ·exact ⟨a + 1, e - 1, c, by omega, by first | rfl | exact vi (by omega) | exact vs (by first | assumption | (rw [hst]; done) | (rw [hst]; simp only [List.append_assoc])), by first | rfl | exact vi (by omega) | exact vs (by first | assumption | (rw [hst]; done) | (rw [hst]; simp only [List.append_assoc])), by first | rfl | exact vi (by omega) | exact vs (by first | assumption | (rw [hst]; done) | (rw [hst]; simp only [List.append_assoc])), by first | rfl | exact vi (by omega) | exact vs (by first | assumption | (rw [hst]; done) | (rw [hst]; simp only [List.append_assoc])), (by first | assumption | omega | rfl), (by first | assumption | omega | rfl), (by first | assumption | omega | rfl), (by omega), (by first | assumption | omega | rfl)⟩
  ·rintro _ E wL29 ⟨i2, j2, g, em, e0, e1, e9, e10, hB, hR, hn3, hij, hq3⟩
   rw [upd_self e0, upd_self e1, upd_self e9, upd_self e10]
   refine W.block ?_
   refine W.seq ?_
   refine W.block ?_
   refine W.loop (fun m' E w' => ∃ (i3 : Nat), m' = e - i3 ∧ E 0 = .slice (some ⟨b, o, none⟩) n cap ∧ E 1 = .int .i64 (a : Nat) ∧ E 9 = .int .i64 (i3 : Nat) ∧ E 10 = .int .i64 (j2 : Nat) ∧ (Gr (· = b) w w') ∧ (Row S w' b o T hd g tl) ∧ (i2 ≤ i3 ∧ i3 ≤ j2 + 2) ∧ (scanUp (fun x => !ltStr g[a]! x) g j2 i3 = scanUp (fun x => !ltStr g[a]! x) g j2 i2)) (e - i2) ?_ ?_
   ·exact ⟨i2, by omega, by first | rfl | exact vi (by omega) | exact vs (by first | assumption | (rw [hst]; done) | (rw [hst]; simp only [List.append_assoc])), by first | rfl | exact vi (by omega) | exact vs (by first | assumption | (rw [hst]; done) | (rw [hst]; simp only [List.append_assoc])), by first | rfl | exact vi (by omega) | exact vs (by first | assumption | (rw [hst]; done) | (rw [hst]; simp only [List.append_assoc])), by first | rfl | exact vi (by omega) | exact vs (by first | assumption | (rw [hst]; done) | (rw [hst]; simp only [List.append_assoc])), (by first | assumption | omega | rfl), (by first | assumption | omega | rfl), (by omega), (by first | assumption | omega | rfl)⟩
   ·rintro _ E wL29b ⟨i3, em, e0, e1, e9, e10, hB, hR, hi3, hq4⟩
    rw [upd_self e0, upd_self e1, upd_self e9, upd_self e10]
    refine W.seq ?_
    refine W.seq ?_
    refine W.drawB ksrt3_mixed (by kernel_rfl) ?_
    refine LQ.val (fun w hw => x_mv (v := .int _ _) rfl) rfl ?_
    refine LQ.val (fun w hw => x_mv (v := .int _ _) rfl) rfl ?_
    refine LQ.val (fun w hw => x_leq rfl rfl) rfl ?_
    refine LQ.val (fun w hw => x_mv (v := .bool _) rfl) rfl ?_
    refine' LQ.group 10 33 42 42 32 true rfl ?_ ?_ ?_
    rotate_left 1
    ·intro g32
     have h32 := of_decide_eq_true g32
     refine LQ.gyes' (dj := 32) (b := _) rfl rfl g32 ?_
     refine LQ.val (fun w hw => x_mv (v := .slice _ _ _) rfl) rfl ?_
     refine LQ.gyes' (dj := 32) (b := _) rfl rfl g32 ?_
     refine LQ.val (fun w hw => x_mv (v := .int _ _) rfl) rfl ?_
     refine LQ.gyes' (dj := 32) (b := _) rfl rfl g32 ?_
     refine LQ.val (fun w hw => x_ia1 (j := a) Try.underlying22 ksrt3_sz9 rfl rfl (by omega) (by omega)) rfl ?_
     refine LQ.gyes' (dj := 32) (b := _) rfl rfl g32 ?_
     refine LQ.val (fun w hw => x_ld (v := S _) ksrt3_oc9 rfl (hw.keep (hR.at (i := a) (by omega)))) rfl ?_
     refine LQ.gyes' (dj := 32) (b := _) rfl rfl g32 ?_
     refine LQ.val (fun w hw => x_mv (v := .slice _ _ _) rfl) rfl ?_
     refine LQ.gyes' (dj := 32) (b := _) rfl rfl g32 ?_
     refine LQ.val (fun w hw => x_mv (v := .int _ _) rfl) rfl ?_
     refine LQ.gyes' (dj := 32) (b := _) rfl rfl g32 ?_
     refine LQ.val (fun w hw => x_ia1 (j := i3) Try.underlying22 ksrt3_sz9 rfl rfl (by omega) (by omega)) rfl ?_
     refine LQ.gyes' (dj := 32) (b := _) rfl rfl g32 ?_
     refine LQ.val (fun w hw => x_ld (v := S _) ksrt3_oc9 rfl (hw.keep (hR.at (i := i3) (by omega)))) rfl ?_
     refine LQ.gyes' (dj := 32) (b := _) rfl rfl g32 ?_
     refine LQ.ret (fun w => x_call ksrt3_en183 rfl) (fun w hw => Ret.mono (less_ok _ _ _) (fun _ _ h => ⟨h.1, Gr.trans hw h.2⟩)) rfl ?_
     refine LQ.gyes' (dj := 32) (b := _) rfl rfl g32 ?_
     refine LQ.val (fun w hw => x_not rfl) rfl ?_
     refine LQ.nil ?_
     refine ⟨?_, rfl⟩
     repeat (first | exact jeq.refl _ _ _ | refine jeq.upd rfl ?_ | refine jeq.jk rfl rfl ?_)
    ·intro g32
     refine LQ.gno (dj := 32) (b := _) rfl rfl g32 rfl ?_
     refine LQ.gno (dj := 32) (b := _) rfl rfl g32 rfl ?_
     refine LQ.gno (dj := 32) (b := _) rfl rfl g32 rfl ?_
     refine LQ.gno (dj := 32) (b := _) rfl rfl g32 rfl ?_
     refine LQ.gno (dj := 32) (b := _) rfl rfl g32 rfl ?_
     refine LQ.gno (dj := 32) (b := _) rfl rfl g32 rfl ?_
     refine LQ.gno (dj := 32) (b := _) rfl rfl g32 rfl ?_
     refine LQ.gno (dj := 32) (b := _) rfl rfl g32 rfl ?_
     refine LQ.gno (dj := 32) (b := _) rfl rfl g32 rfl ?_
     refine LQ.gno (dj := 32) (b := _) rfl rfl g32 rfl ?_
     refine LQ.nil ?_
     repeat (first | exact jeq.refl _ _ _ | refine jeq.upd rfl ?_ | refine jeq.jk rfl rfl ?_)
    intro J32 j32
    refine LQ.val (fun w hw => x_and rfl j32) rfl ?_
    refine LQ.nil ?_
    intro w29 hw
    have hB := hB.carry hw; have hR := hR.carry hw
    refine thn_n ?_
    refine W.cond (b := _) rfl (fun g43 => ?_) (fun g43 => ?_)
    ·have h43 := g43
     have hie := and1 h43
     refine W.skip ?_
     refine thn_n ?_
     refine W.block ?_
     refine W.region ?_
     refine L.val (x_mv (v := .int _ _) rfl) rfl ?_
     refine L.val (x_add rfl rfl (wr64 (by omega))) rfl ?_
     refine L.val (x_as (v := .int _ _) rfl) rfl ?_
     refine L.nil ?_
     refine blk_n ?_
     refine thn_n ⟨rfl, ?_⟩
     refine ⟨_, ?_, i3 + 1, rfl, by first | rfl | exact vi (by omega) | exact vs (by first | assumption | (rw [hst]; done) | (rw [hst]; simp only [List.append_assoc])), by first | rfl | exact vi (by omega) | exact vs (by first | assumption | (rw [hst]; done) | (rw [hst]; simp only [List.append_assoc])), by first | rfl | exact vi (by omega) | exact vs (by first | assumption | (rw [hst]; done) | (rw [hst]; simp only [List.append_assoc])), by first | rfl | exact vi (by omega) | exact vs (by first | assumption | (rw [hst]; done) | (rw [hst]; simp only [List.append_assoc])), (by first | assumption | omega | rfl), (by first | assumption | omega | rfl), (by omega), (by rw [← hq4]; exact up_go (p := fun x => !ltStr g[a]! x) h43)⟩
     omega
    ·have h43 := g43
     have hq4 := (up_stop (p := fun x => !ltStr g[a]! x) h43).symm.trans hq4
     refine W.exit (thn_x (thn_x (blk_hit ?_)))
     refine thn_n ?_
     refine W.seq ?_
     refine W.block ?_
     refine W.loop (fun m' E w' => ∃ (j3 : Nat), m' = j3 ∧ E 0 = .slice (some ⟨b, o, none⟩) n cap ∧ E 1 = .int .i64 (a : Nat) ∧ E 9 = .int .i64 (i3 : Nat) ∧ E 10 = .int .i64 (j3 : Nat) ∧ (Gr (· = b) w w') ∧ (Row S w' b o T hd g tl) ∧ (i3 ≤ j3 + 2 ∧ j3 ≤ j2) ∧ (scanDown (fun x => ltStr g[a]! x) g i3 j3 = scanDown (fun x => ltStr g[a]! x) g i3 j2)) (j2) ?_ ?_
     ·exact ⟨j2, by omega, by first | rfl | exact vi (by omega) | exact vs (by first | assumption | (rw [hst]; done) | (rw [hst]; simp only [List.append_assoc])), by first | rfl | exact vi (by omega) | exact vs (by first | assumption | (rw [hst]; done) | (rw [hst]; simp only [List.append_assoc])), by first | rfl | exact vi (by omega) | exact vs (by first | assumption | (rw [hst]; done) | (rw [hst]; simp only [List.append_assoc])), by first | rfl | exact vi (by omega) | exact vs (by first | assumption | (rw [hst]; done) | (rw [hst]; simp only [List.append_assoc])), (by first | assumption | omega | rfl), (by first | assumption | omega | rfl), (by omega), (by first | assumption | omega | rfl)⟩
     ·rintro _ E wL46 ⟨j3, em, e0, e1, e9, e10, hB, hR, hj3, hq5⟩
      rw [upd_self e0, upd_self e1, upd_self e9, upd_self e10]
      refine W.seq ?_
      refine W.seq ?_
      refine W.drawB ksrt3_mixed (by kernel_rfl) ?_
      refine LQ.val (fun w hw => x_mv (v := .int _ _) rfl) rfl ?_
      refine LQ.val (fun w hw => x_mv (v := .int _ _) rfl) rfl ?_
      refine LQ.val (fun w hw => x_leq rfl rfl) rfl ?_
      refine LQ.val (fun w hw => x_mv (v := .bool _) rfl) rfl ?_
      refine' LQ.group 9 50 58 58 49 true rfl ?_ ?_ ?_
      rotate_left 1
      ·intro g49
       have h49 := of_decide_eq_true g49
       refine LQ.gyes' (dj := 49) (b := _) rfl rfl g49 ?_
       refine LQ.val (fun w hw => x_mv (v := .slice _ _ _) rfl) rfl ?_
       refine LQ.gyes' (dj := 49) (b := _) rfl rfl g49 ?_
       refine LQ.val (fun w hw => x_mv (v := .int _ _) rfl) rfl ?_
       refine LQ.gyes' (dj := 49) (b := _) rfl rfl g49 ?_
       refine LQ.val (fun w hw => x_ia1 (j := a) Try.underlying22 ksrt3_sz9 rfl rfl (by omega) (by omega)) rfl ?_
       refine LQ.gyes' (dj := 49) (b := _) rfl rfl g49 ?_
       refine LQ.val (fun w hw => x_ld (v := S _) ksrt3_oc9 rfl (hw.keep (hR.at (i := a) (by omega)))) rfl ?_
       refine LQ.gyes' (dj := 49) (b := _) rfl rfl g49 ?_
       refine LQ.val (fun w hw => x_mv (v := .slice _ _ _) rfl) rfl ?_
       refine LQ.gyes' (dj := 49) (b := _) rfl rfl g49 ?_
       refine LQ.val (fun w hw => x_mv (v := .int _ _) rfl) rfl ?_
       refine LQ.gyes' (dj := 49) (b := _) rfl rfl g49 ?_
       refine LQ.val (fun w hw => x_ia1 (j := j3) Try.underlying22 ksrt3_sz9 rfl rfl (by omega) (by omega)) rfl ?_
       refine LQ.gyes' (dj := 49) (b := _) rfl rfl g49 ?_
       refine LQ.val (fun w hw => x_ld (v := S _) ksrt3_oc9 rfl (hw.keep (hR.at (i := j3) (by omega)))) rfl ?_
       refine LQ.gyes' (dj := 49) (b := _) rfl rfl g49 ?_
       refine LQ.ret (fun w => x_call ksrt3_en183 rfl) (fun w hw => Ret.mono (less_ok _ _ _) (fun _ _ h => ⟨h.1, Gr.trans hw h.2⟩)) rfl ?_
       refine LQ.nil ?_
       refine ⟨?_, rfl⟩
       repeat (first | exact jeq.refl _ _ _ | refine jeq.upd rfl ?_ | refine jeq.jk rfl rfl ?_)
      ·intro g49
       refine LQ.gno (dj := 49) (b := _) rfl rfl g49 rfl ?_
       refine LQ.gno (dj := 49) (b := _) rfl rfl g49 rfl ?_
       refine LQ.gno (dj := 49) (b := _) rfl rfl g49 rfl ?_
       refine LQ.gno (dj := 49) (b := _) rfl rfl g49 rfl ?_
       refine LQ.gno (dj := 49) (b := _) rfl rfl g49 rfl ?_
       refine LQ.gno (dj := 49) (b := _) rfl rfl g49 rfl ?_
       refine LQ.gno (dj := 49) (b := _) rfl rfl g49 rfl ?_
       refine LQ.gno (dj := 49) (b := _) rfl rfl g49 rfl ?_
       refine LQ.gno (dj := 49) (b := _) rfl rfl g49 rfl ?_
       refine LQ.nil ?_
       repeat (first | exact jeq.refl _ _ _ | refine jeq.upd rfl ?_ | refine jeq.jk rfl rfl ?_)
      intro J49 j49
      refine LQ.val (fun w hw => x_and rfl j49) rfl ?_
      refine LQ.nil ?_
      intro w46 hw
      have hB := hB.carry hw; have hR := hR.carry hw
      refine thn_n ?_
      refine W.cond (b := _) rfl (fun g59 => ?_) (fun g59 => ?_)
      ·have h59 := g59
       have hie := and1 h59
       refine W.skip ?_
       refine thn_n ?_
       refine W.block ?_
       refine W.region ?_
       refine L.val (x_mv (v := .int _ _) rfl) rfl ?_
       refine L.val (x_sub rfl rfl (wr64 (by omega))) rfl ?_
       refine L.val (x_as (v := .int _ _) rfl) rfl ?_
       refine L.nil ?_
       refine blk_n ?_
       refine thn_n ⟨rfl, ?_⟩
       refine ⟨_, ?_, j3 - 1, rfl, by first | rfl | exact vi (by omega) | exact vs (by first | assumption | (rw [hst]; done) | (rw [hst]; simp only [List.append_assoc])), by first | rfl | exact vi (by omega) | exact vs (by first | assumption | (rw [hst]; done) | (rw [hst]; simp only [List.append_assoc])), by first | rfl | exact vi (by omega) | exact vs (by first | assumption | (rw [hst]; done) | (rw [hst]; simp only [List.append_assoc])), by first | rfl | exact vi (by omega) | exact vs (by first | assumption | (rw [hst]; done) | (rw [hst]; simp only [List.append_assoc])), (by first | assumption | omega | rfl), (by first | assumption | omega | rfl), (by omega), (by rw [← hq5]; exact down_go (p := fun x => ltStr g[a]! x) (by omega) h59)⟩
       omega
      ·have h59 := g59
       have hq5 := (down_stop (p := fun x => ltStr g[a]! x) h59).symm.trans hq5
       refine W.exit (thn_x (thn_x (blk_hit ?_)))
       refine thn_n ?_
       refine W.seq ?_
       refine W.seq ?_
       refine W.region ?_
       refine L.val (x_mv (v := .int _ _) rfl) rfl ?_
       refine L.val (x_mv (v := .int _ _) rfl) rfl ?_
       refine L.val (x_gtr rfl rfl) rfl ?_
       refine L.nil ?_
       refine thn_n ?_
       refine W.cond (b := _) rfl (fun g64 => ?_) (fun g64 => ?_)
       ·have h64 := of_decide_eq_true g64
        have hq3 := (parteq_stop hq4.symm hq5.symm (by omega)).symm.trans hq3
        refine W.exit (thn_x (blk_miss rfl (thn_x (blk_hit ?_))))
        refine thn_n ?_
        refine W.seq ?_
        refine W.region ?_
        refine L.val (x_mv (v := .int _ _) rfl) rfl ?_
        refine L.val (x_as (v := .int _ _) rfl) rfl ?_
        refine L.nil ?_
        refine thn_n ?_
        refine W.ret (fin_mk (.inr rfl) ?_)
        have hpart : partitionEqual ltStr d a e q = (i3, g) := by
          unfold partitionEqual
          rw [← hcd, ← hq3]
        rw [hpart]; exact ⟨rfl, hB, hR⟩
       ·have h64 := dlt_f g64
        refine W.skip ?_
        refine thn_n ?_
        refine W.seq ?_
        refine W.drawS ksrt3_mixed ?_
        have hB := hB.carry (bel_drew _); have hR := hR.carry (bel_drew _)
        refine LA.take (i := 0) rfl (by kernel_rfl) (by kernel_rfl) (by kernel_rfl) (fun w => x_mv (v := .slice _ _ _) rfl) rfl ?_
        refine LA.take (i := 1) rfl (by kernel_rfl) (by kernel_rfl) (by kernel_rfl) (fun w => x_mv (v := .int _ _) rfl) rfl ?_
        refine LA.take (i := 2) rfl (by kernel_rfl) (by kernel_rfl) (by kernel_rfl) (fun w => x_mv (v := .slice _ _ _) rfl) rfl ?_
        refine LA.take (i := 3) rfl (by kernel_rfl) (by kernel_rfl) (by kernel_rfl) (fun w => x_mv (v := .int _ _) rfl) rfl ?_
        refine LA.take (i := 4) rfl (by kernel_rfl) (by kernel_rfl) (by kernel_rfl) (fun w => x_mv (v := .slice _ _ _) rfl) rfl ?_
        refine LA.take (i := 5) rfl (by kernel_rfl) (by kernel_rfl) (by kernel_rfl) (fun w => x_mv (v := .int _ _) rfl) rfl ?_
        refine LA.take (i := 6) rfl (by kernel_rfl) (by kernel_rfl) (by kernel_rfl) (fun w => x_ia1 (j := j3) Try.underlying22 ksrt3_sz9 rfl rfl (by omega) (by omega)) rfl ?_
        refine LA.take (i := 8) rfl (by kernel_rfl) (by kernel_rfl) (by kernel_rfl) (fun w => x_mv (v := .slice _ _ _) rfl) rfl ?_
        refine LA.take (i := 9) rfl (by kernel_rfl) (by kernel_rfl) (by kernel_rfl) (fun w => x_mv (v := .int _ _) rfl) rfl ?_
        refine LA.take (i := 10) rfl (by kernel_rfl) (by kernel_rfl) (by kernel_rfl) (fun w => x_ia1 (j := i3) Try.underlying22 ksrt3_sz9 rfl rfl (by omega) (by omega)) rfl ?_
        refine LA.pair (i := 7) (j := 11) rfl rfl (by kernel_rfl) (by kernel_rfl) (by kernel_rfl) rfl rfl (x_ld (v := S _) ksrt3_oc9 rfl (hR.at (i := j3) (by omega))) (x_ld (v := S _) ksrt3_oc9 rfl (hR.at (i := i3) (by omega))) (x_ld (v := S _) ksrt3_oc9 rfl (hR.at (i := i3) (by omega))) (x_ld (v := S _) ksrt3_oc9 rfl (hR.at (i := j3) (by omega))) rfl rfl ?_
        refine LA.take (i := 12) rfl (by kernel_rfl) (by kernel_rfl) (by kernel_rfl) (fun w => x_ia1 (j := i3) Try.underlying22 ksrt3_sz9 rfl rfl (by omega) (by omega)) rfl ?_
        refine LA.step (rs := [13]) (by kernel_rfl) (by simp) ⟨⟨_, rfl, ?_⟩, trivial⟩
        refine L.setAt (enc := S) (j := i3) ksrt3_sz9 rfl rfl rfl hR (by omega) (fun wl75 hR hsl75 hw hzl75 => ?_)
        have hB := hB.trans hw
        refine L.nil ?_
        refine thn_n ?_
        refine LA.take (i := 14) rfl (by kernel_rfl) (by kernel_rfl) (by kernel_rfl) (fun w => x_ia1 (j := j3) Try.underlying22 ksrt3_sz9 rfl rfl (by omega) (by omega)) rfl ?_
        refine LA.step (rs := [15]) (by kernel_rfl) (by simp) ⟨⟨_, rfl, ?_⟩, trivial⟩
        refine L.setAt (enc := S) (j := j3) ksrt3_sz9 rfl rfl rfl hR (by omega) (fun wl77 hR hsl77 hw hzl77 => ?_)
        have hB := hB.trans hw
        refine L.nil ?_
        refine thn_n ?_
        refine LA.done (by kernel_rfl) ?_
        refine nrm_n ?_
        refine thn_n ?_
        refine W.seq ?_
        refine W.region ?_
        refine L.val (x_mv (v := .int _ _) rfl) rfl ?_
        refine L.val (x_add rfl rfl (wr64 (by omega))) rfl ?_
        refine L.val (x_as (v := .int _ _) rfl) rfl ?_
        refine L.nil ?_
        refine thn_n ?_
        refine W.region ?_
        refine L.val (x_mv (v := .int _ _) rfl) rfl ?_
        refine L.val (x_sub rfl rfl (wr64 (by omega))) rfl ?_
        refine L.val (x_as (v := .int _ _) rfl) rfl ?_
        refine L.nil ?_
        refine blk_n ?_
        refine thn_n ⟨rfl, ?_⟩
        refine ⟨_, ?_, i3 + 1, j3 - 1, swp g i3 j3, rfl, by first | rfl | exact vi (by omega) | exact vs (by first | assumption | (rw [hst]; done) | (rw [hst]; simp only [List.append_assoc])), by first | rfl | exact vi (by omega) | exact vs (by first | assumption | (rw [hst]; done) | (rw [hst]; simp only [List.append_assoc])), by first | rfl | exact vi (by omega) | exact vs (by first | assumption | (rw [hst]; done) | (rw [hst]; simp only [List.append_assoc])), by first | rfl | exact vi (by omega) | exact vs (by first | assumption | (rw [hst]; done) | (rw [hst]; simp only [List.append_assoc])), (by first | assumption | omega | rfl), (by first | assumption | omega | rfl), (by rw [size_swp]; exact hn3), (by omega), (by rw [← hq3]; exact parteq_go hq4.symm hq5.symm (by omega) (by omega) (by omega) (by omega))⟩
        omega

section
variable {α : Type} [Inhabited α] {lt : α → α → Bool} {d : Array α} {a b i j s : Nat}
theorem scan_go (h : (decide ((i : Int) < (b : Int)) && !lt d[i]! d[i - 1]!) = true) : scanSorted lt d b (i + 1) = scanSorted lt d b i := by
  have h1 := and1 h
  have h2 := and2 h
  conv => rhs; rw [scanSorted]
  rw [if_pos (by rw [h2]; simp; omega)]
theorem scan_stop (h : (decide ((i : Int) < (b : Int)) && !lt d[i]! d[i - 1]!) = false) : scanSorted lt d b i = i := by
  have h1 := and0 h
  rw [scanSorted, if_neg]
  intro h2
  simp only [Bool.and_eq_true, decide_eq_true_eq] at h2
  exact h1 ⟨by omega, h2.2⟩
theorem sd_go (hj : 0 < j) (h : lt d[j]! d[j - 1]! = true) : shiftDown lt (j - 1) (swp d j (j - 1)) = shiftDown lt j d := by
  cases j with
  | zero => omega
  | succ j =>
    rw [Nat.add_sub_cancel] at h ⊢
    conv => rhs; rw [shiftDown]
    rw [if_neg (by rw [h]; simp)]
theorem sd_stop (h : j = 0 ∨ lt d[j]! d[j - 1]! = false) : shiftDown lt j d = d := by
  cases j with
  | zero => rfl
  | succ j =>
    rcases h with h | h
    · cases h
    · rw [Nat.add_sub_cancel] at h
      rw [shiftDown, if_pos (by rw [h]; rfl)]
theorem su_go (hj : j < b) (h : lt d[j]! d[j - 1]! = true) : shiftUp lt b (j + 1) (swp d j (j - 1)) = shiftUp lt b j d := by
  conv => rhs; rw [shiftUp]
  rw [if_pos hj, if_neg (by rw [h]; simp)]
theorem su_stop (h : b ≤ j ∨ lt d[j]! d[j - 1]! = false) : shiftUp lt b j d = d := by
  rw [shiftUp]
  split
  · rcases h with h | h
    · omega
    · rw [if_pos (by rw [h]; rfl)]
  · rfl
/-- The array behind one step. -/
def stepDown (lt : α → α → Bool) (a i : Nat) (d : Array α) : Array α := if i - a ≥ 2 then shiftDown lt (i - 1) (swp d i (i - 1)) else swp d i (i - 1)
def stepUp (lt : α → α → Bool) (b i : Nat) (d : Array α) : Array α := if b - i ≥ 2 then shiftUp lt b (i + 1) d else d
theorem pins_zero {i : Nat} : partialIns lt a b 0 i d = (d, false) := rfl
theorem pins_true {i i2 : Nat} (hs : scanSorted lt d b i = i2) (h : i2 = b) : partialIns lt a b (s + 1) i d = (d, true) := by
  rw [partialIns]; simp only [hs]; rw [if_pos h]
theorem pins_false {i i2 : Nat} (hs : scanSorted lt d b i = i2) (h : i2 ≠ b) (h2 : b - a < 50) : partialIns lt a b (s + 1) i d = (d, false) := by
  rw [partialIns]; simp only [hs]; rw [if_neg h, if_pos h2]
theorem pins_go {i i2 : Nat} (hs : scanSorted lt d b i = i2) (h : i2 ≠ b) (h2 : ¬ b - a < 50) : partialIns lt a b s i2 (stepUp lt b i2 (stepDown lt a i2 d)) = partialIns lt a b (s + 1) i d := by
  conv => rhs; rw [partialIns]
  simp only [hs]; rw [if_neg h, if_neg h2]; rfl
theorem pins_pred {i i2 : Nat} (hs : scanSorted lt d b i = i2) (h : i2 ≠ b) (h2 : ¬ b - a < 50) (h0 : 0 < s) : partialIns lt a b (s - 1) i2 (stepUp lt b i2 (stepDown lt a i2 d)) = partialIns lt a b s i d := by
  cases s with
  | zero => omega
  | succ s => exact pins_go hs h h2
end
theorem size_sd {α : Type} [Inhabited α] {lt : α → α → Bool} : ∀ (j : Nat) (d : Array α), (shiftDown lt j d).size = d.size := by
  intro j
  induction j with
  | zero => intro d; rfl
  | succ j ih => intro d; rw [shiftDown]; split <;> simp [ih, size_swp]
theorem size_su {α : Type} [Inhabited α] {lt : α → α → Bool} {b : Nat} : ∀ (N j : Nat) (d : Array α), b - j < N → (shiftUp lt b j d).size = d.size := by
  intro N
  induction N with
  | zero => intro j d h; omega
  | succ N ih =>
    intro j d h
    rw [shiftUp]
    split
    · split
      · rfl
      · rw [ih _ _ (by omega), size_swp]
    · rfl

theorem partial_ok (b o a e cap n : Nat) (T : TypeId) (hd tl : List Value) (d : Array Str) (w : World) (hR : Row S w b o T hd d tl) (hn : d.size = n) (hc : n ≤ 2000000000000000000) (hae : a < e) (he : e ≤ n) :
    Ret Try.prog 182 #[.slice (some ⟨b, o, none⟩) n cap, .int .i64 a, .int .i64 e] w fun v w' => v = .bool (partialInsertionSort ltStr d a e).2 ∧ Gr (· = b) w w' ∧ Row S w' b o T hd (partialInsertionSort ltStr d a e).1 tl := by
  refine ret_of_W Try.func182 rfl (Nat.le_of_ble_eq_true rfl) (res1 rfl) ?_
  have hB := Gr.refl (· = b) w
  refine W.seq ?_
  refine W.region ?_
  refine L.val (x_as (v := .bool _) rfl) rfl ?_
  refine L.nil ?_
  refine thn_n ?_
  refine W.seq ?_
  refine W.region ?_
  refine L.val (x_mv (v := .int _ _) rfl) rfl ?_
  refine L.val (x_add rfl rfl (wr64 (by omega))) rfl ?_
  refine L.val (x_as (v := .int _ _) rfl) rfl ?_
  refine L.nil ?_
  refine thn_n ?_
  refine W.seq ?_
  refine W.seq ?_
  refine W.region ?_
  refine L.val (x_as (v := .int _ _) rfl) rfl ?_
  refine L.nil ?_
  refine thn_n ?_
  refine W.block ?_
  refine W.loop (fun m' E w' => ∃ (s i : Nat) (c : Array Str), m' = s ∧ E 0 = .slice (some ⟨b, o, none⟩) n cap ∧ E 1 = .int .i64 (a : Nat) ∧ E 2 = .int .i64 (e : Nat) ∧ E 7 = .int .i64 (i : Nat) ∧ E 8 = .int .i64 (5 - (s : Nat)) ∧ (Gr (· = b) w w') ∧ (Row S w' b o T hd c tl) ∧ (c.size = n) ∧ (a < i ∧ i ≤ e ∧ s ≤ 5) ∧ (partialIns ltStr a e s i c = partialInsertionSort ltStr d a e)) (5) ?_ ?_
  ·exact ⟨5, a + 1, d, by omega, by first | rfl | exact vi (by omega) | exact vs (by first | assumption | (rw [hst]; done) | (rw [hst]; simp only [List.append_assoc])), by first | rfl | exact vi (by omega) | exact vs (by first | assumption | (rw [hst]; done) | (rw [hst]; simp only [List.append_assoc])), by first | rfl | exact vi (by omega) | exact vs (by first | assumption | (rw [hst]; done) | (rw [hst]; simp only [List.append_assoc])), by first | rfl | exact vi (by omega) | exact vs (by first | assumption | (rw [hst]; done) | (rw [hst]; simp only [List.append_assoc])), by first | rfl | exact vi (by omega) | exact vs (by first | assumption | (rw [hst]; done) | (rw [hst]; simp only [List.append_assoc])), (by first | assumption | omega | rfl), (by first | assumption | omega | rfl), (by first | assumption | omega | rfl), (by omega), (by first | assumption | omega | rfl)⟩
  ·rintro _ E wL13 ⟨s, i, c, em, e0, e1, e2, e7, e8, hB, hR, hn3, hi, hq⟩
   rw [upd_self e0, upd_self e1, upd_self e2, upd_self e7, upd_self e8]
   refine W.seq ?_
   refine W.seq ?_
   refine W.region ?_
   refine L.val (x_mv (v := .int _ _) rfl) rfl ?_
   refine L.val (x_lss rfl rfl) rfl ?_
   refine L.nil ?_
   refine thn_n ?_
   refine W.cond (b := _) rfl (fun g14 => ?_) (fun g14 => ?_)
   ·have h14 := of_decide_eq_true g14
    refine W.skip ?_
    refine thn_n ?_
    refine W.seq ?_
    refine W.block ?_
    refine W.seq ?_
    refine W.block ?_
    refine W.loop (fun m' E w' => ∃ (i2 : Nat), m' = e - i2 ∧ E 0 = .slice (some ⟨b, o, none⟩) n cap ∧ E 1 = .int .i64 (a : Nat) ∧ E 2 = .int .i64 (e : Nat) ∧ E 7 = .int .i64 (i2 : Nat) ∧ E 8 = .int .i64 (5 - (s : Nat)) ∧ (Gr (· = b) w w') ∧ (Row S w' b o T hd c tl) ∧ (i ≤ i2 ∧ i2 ≤ e) ∧ (scanSorted ltStr c e i2 = scanSorted ltStr c e i)) (e - i) ?_ ?_
    ·exact ⟨i, by omega, by first | rfl | exact vi (by omega) | exact vs (by first | assumption | (rw [hst]; done) | (rw [hst]; simp only [List.append_assoc])), by first | rfl | exact vi (by omega) | exact vs (by first | assumption | (rw [hst]; done) | (rw [hst]; simp only [List.append_assoc])), by first | rfl | exact vi (by omega) | exact vs (by first | assumption | (rw [hst]; done) | (rw [hst]; simp only [List.append_assoc])), by first | rfl | exact vi (by omega) | exact vs (by first | assumption | (rw [hst]; done) | (rw [hst]; simp only [List.append_assoc])), by first | rfl | exact vi (by omega) | exact vs (by first | assumption | (rw [hst]; done) | (rw [hst]; simp only [List.append_assoc])), (by first | assumption | omega | rfl), (by first | assumption | omega | rfl), (by omega), (by first | assumption | omega | rfl)⟩
    ·rintro _ E wL17 ⟨i2, em, e0, e1, e2, e7, e8, hB, hR, hi2, hqs⟩
     rw [upd_self e0, upd_self e1, upd_self e2, upd_self e7, upd_self e8]
     refine W.seq ?_
     refine W.seq ?_
     refine W.drawB ksrt3_mixed (by kernel_rfl) ?_
     refine LQ.val (fun w hw => x_mv (v := .int _ _) rfl) rfl ?_
     refine LQ.val (fun w hw => x_mv (v := .int _ _) rfl) rfl ?_
     refine LQ.val (fun w hw => x_lss rfl rfl) rfl ?_
     refine LQ.val (fun w hw => x_mv (v := .bool _) rfl) rfl ?_
     refine' LQ.group 11 21 31 31 20 true rfl ?_ ?_ ?_
     rotate_left 1
     ·intro g20
      have h20 := of_decide_eq_true g20
      refine LQ.gyes' (dj := 20) (b := _) rfl rfl g20 ?_
      refine LQ.val (fun w hw => x_mv (v := .slice _ _ _) rfl) rfl ?_
      refine LQ.gyes' (dj := 20) (b := _) rfl rfl g20 ?_
      refine LQ.val (fun w hw => x_mv (v := .int _ _) rfl) rfl ?_
      refine LQ.gyes' (dj := 20) (b := _) rfl rfl g20 ?_
      refine LQ.val (fun w hw => x_ia1 (j := i2) Try.underlying22 ksrt3_sz9 rfl rfl (by omega) (by omega)) rfl ?_
      refine LQ.gyes' (dj := 20) (b := _) rfl rfl g20 ?_
      refine LQ.val (fun w hw => x_ld (v := S _) ksrt3_oc9 rfl (hw.keep (hR.at (i := i2) (by omega)))) rfl ?_
      refine LQ.gyes' (dj := 20) (b := _) rfl rfl g20 ?_
      refine LQ.val (fun w hw => x_mv (v := .slice _ _ _) rfl) rfl ?_
      refine LQ.gyes' (dj := 20) (b := _) rfl rfl g20 ?_
      refine LQ.val (fun w hw => x_mv (v := .int _ _) rfl) rfl ?_
      refine LQ.gyes' (dj := 20) (b := _) rfl rfl g20 ?_
      refine LQ.val (fun w hw => x_sub rfl rfl (wr64 (by omega))) rfl ?_
      refine LQ.gyes' (dj := 20) (b := _) rfl rfl g20 ?_
      refine LQ.val (fun w hw => x_ia1 (j := i2 - 1) Try.underlying22 ksrt3_sz9 rfl rfl (by omega) (by omega)) rfl ?_
      refine LQ.gyes' (dj := 20) (b := _) rfl rfl g20 ?_
      refine LQ.val (fun w hw => x_ld (v := S _) ksrt3_oc9 rfl (hw.keep (hR.at (i := i2 - 1) (by omega)))) rfl ?_
      refine LQ.gyes' (dj := 20) (b := _) rfl rfl g20 ?_
      refine LQ.ret (fun w => x_call ksrt3_en183 rfl) (fun w hw => Ret.mono (less_ok _ _ _) (fun _ _ h => ⟨h.1, Gr.trans hw h.2⟩)) rfl ?_
      refine LQ.gyes' (dj := 20) (b := _) rfl rfl g20 ?_
      refine LQ.val (fun w hw => x_not rfl) rfl ?_
      refine LQ.nil ?_
      refine ⟨?_, rfl⟩
      repeat (first | exact jeq.refl _ _ _ | refine jeq.upd rfl ?_ | refine jeq.jk rfl rfl ?_)
     ·intro g20
      refine LQ.gno (dj := 20) (b := _) rfl rfl g20 rfl ?_
      refine LQ.gno (dj := 20) (b := _) rfl rfl g20 rfl ?_
      refine LQ.gno (dj := 20) (b := _) rfl rfl g20 rfl ?_
      refine LQ.gno (dj := 20) (b := _) rfl rfl g20 rfl ?_
      refine LQ.gno (dj := 20) (b := _) rfl rfl g20 rfl ?_
      refine LQ.gno (dj := 20) (b := _) rfl rfl g20 rfl ?_
      refine LQ.gno (dj := 20) (b := _) rfl rfl g20 rfl ?_
      refine LQ.gno (dj := 20) (b := _) rfl rfl g20 rfl ?_
      refine LQ.gno (dj := 20) (b := _) rfl rfl g20 rfl ?_
      refine LQ.gno (dj := 20) (b := _) rfl rfl g20 rfl ?_
      refine LQ.gno (dj := 20) (b := _) rfl rfl g20 rfl ?_
      refine LQ.nil ?_
      repeat (first | exact jeq.refl _ _ _ | refine jeq.upd rfl ?_ | refine jeq.jk rfl rfl ?_)
     intro J20 j20
     refine LQ.val (fun w hw => x_and rfl j20) rfl ?_
     refine LQ.nil ?_
     intro w17 hw
     have hB := hB.carry hw; have hR := hR.carry hw
     refine thn_n ?_
     refine W.cond (b := _) rfl (fun g32 => ?_) (fun g32 => ?_)
     ·have h32 := g32
      have hie := and1 h32
      refine W.skip ?_
      refine thn_n ?_
      refine W.block ?_
      refine W.region ?_
      refine L.val (x_mv (v := .int _ _) rfl) rfl ?_
      refine L.val (x_add rfl rfl (wr64 (by omega))) rfl ?_
      refine L.val (x_as (v := .int _ _) rfl) rfl ?_
      refine L.nil ?_
      refine blk_n ?_
      refine thn_n ⟨rfl, ?_⟩
      refine ⟨_, ?_, i2 + 1, rfl, by first | rfl | exact vi (by omega) | exact vs (by first | assumption | (rw [hst]; done) | (rw [hst]; simp only [List.append_assoc])), by first | rfl | exact vi (by omega) | exact vs (by first | assumption | (rw [hst]; done) | (rw [hst]; simp only [List.append_assoc])), by first | rfl | exact vi (by omega) | exact vs (by first | assumption | (rw [hst]; done) | (rw [hst]; simp only [List.append_assoc])), by first | rfl | exact vi (by omega) | exact vs (by first | assumption | (rw [hst]; done) | (rw [hst]; simp only [List.append_assoc])), by first | rfl | exact vi (by omega) | exact vs (by first | assumption | (rw [hst]; done) | (rw [hst]; simp only [List.append_assoc])), (by first | assumption | omega | rfl), (by first | assumption | omega | rfl), (by omega), (by rw [← hqs]; exact scan_go h32)⟩
      omega
     ·have h32 := g32
      have hqs := (scan_stop h32).symm.trans hqs
      refine W.exit (thn_x (thn_x (blk_hit ?_)))
      refine thn_n ?_
      refine W.seq ?_
      refine W.seq ?_
      refine W.region ?_
      refine L.val (x_mv (v := .int _ _) rfl) rfl ?_
      refine L.val (x_mv (v := .int _ _) rfl) rfl ?_
      refine L.val (x_eql rfl rfl) rfl ?_
      refine L.nil ?_
      refine thn_n ?_
      refine W.cond (b := _) rfl (fun g37 => ?_) (fun g37 => ?_)
      ·have h37 := of_decide_eq_true g37
       refine W.seq ?_
       refine W.region ?_
       refine L.val (x_as (v := .bool _) rfl) rfl ?_
       refine L.nil ?_
       refine thn_n ?_
       refine W.ret (thn_r (blk_r (thn_r (thn_r (blk_r (thn_r (fin_mk (.inr rfl) ?_)))))))
       have hpart : partialInsertionSort ltStr d a e = (c, true) := by
         rw [← hq, show s = s - 1 + 1 by omega]; exact pins_true hqs.symm (by omega)
       rw [hpart]; exact ⟨rfl, hB, hR⟩
      ·have h37 := of_decide_eq_false g37
       refine W.skip ?_
       refine thn_n ?_
       refine W.seq ?_
       refine W.seq ?_
       refine W.region ?_
       refine L.val (x_mv (v := .int _ _) rfl) rfl ?_
       refine L.val (x_mv (v := .int _ _) rfl) rfl ?_
       refine L.val (x_sub rfl rfl (wr64 (by omega))) rfl ?_
       refine L.val (x_lss rfl rfl) rfl ?_
       refine L.nil ?_
       refine thn_n ?_
       refine W.cond (b := _) rfl (fun g41 => ?_) (fun g41 => ?_)
       ·have h41 := of_decide_eq_true g41
        refine W.seq ?_
        refine W.region ?_
        refine L.val (x_as (v := .bool _) rfl) rfl ?_
        refine L.nil ?_
        refine thn_n ?_
        refine W.ret (thn_r (blk_r (thn_r (thn_r (blk_r (thn_r (fin_mk (.inr rfl) ?_)))))))
        have hpart : partialInsertionSort ltStr d a e = (c, false) := by
          rw [← hq, show s = s - 1 + 1 by omega]; exact pins_false hqs.symm (by omega) (by omega)
        rw [hpart]; exact ⟨rfl, hB, hR⟩
       ·have h41 := dlt_f g41
        refine W.skip ?_
        refine thn_n ?_
        refine W.seq ?_
        refine W.drawS ksrt3_mixed ?_
        have hB := hB.carry (bel_drew _); have hR := hR.carry (bel_drew _)
        refine LA.take (i := 0) rfl (by kernel_rfl) (by kernel_rfl) (by kernel_rfl) (fun w => x_mv (v := .slice _ _ _) rfl) rfl ?_
        refine LA.take (i := 1) rfl (by kernel_rfl) (by kernel_rfl) (by kernel_rfl) (fun w => x_mv (v := .int _ _) rfl) rfl ?_
        refine LA.take (i := 2) rfl (by kernel_rfl) (by kernel_rfl) (by kernel_rfl) (fun w => x_mv (v := .slice _ _ _) rfl) rfl ?_
        refine LA.take (i := 3) rfl (by kernel_rfl) (by kernel_rfl) (by kernel_rfl) (fun w => x_mv (v := .int _ _) rfl) rfl ?_
        refine LA.take (i := 4) rfl (by kernel_rfl) (by kernel_rfl) (by kernel_rfl) (fun w => x_sub rfl rfl (wr64 (by omega))) rfl ?_
        refine LA.take (i := 5) rfl (by kernel_rfl) (by kernel_rfl) (by kernel_rfl) (fun w => x_mv (v := .slice _ _ _) rfl) rfl ?_
        refine LA.take (i := 6) rfl (by kernel_rfl) (by kernel_rfl) (by kernel_rfl) (fun w => x_mv (v := .int _ _) rfl) rfl ?_
        refine LA.take (i := 7) rfl (by kernel_rfl) (by kernel_rfl) (by kernel_rfl) (fun w => x_sub rfl rfl (wr64 (by omega))) rfl ?_
        refine LA.take (i := 8) rfl (by kernel_rfl) (by kernel_rfl) (by kernel_rfl) (fun w => x_ia1 (j := i2 - 1) Try.underlying22 ksrt3_sz9 rfl rfl (by omega) (by omega)) rfl ?_
        refine LA.take (i := 10) rfl (by kernel_rfl) (by kernel_rfl) (by kernel_rfl) (fun w => x_mv (v := .slice _ _ _) rfl) rfl ?_
        refine LA.take (i := 11) rfl (by kernel_rfl) (by kernel_rfl) (by kernel_rfl) (fun w => x_mv (v := .int _ _) rfl) rfl ?_
        refine LA.take (i := 12) rfl (by kernel_rfl) (by kernel_rfl) (by kernel_rfl) (fun w => x_ia1 (j := i2) Try.underlying22 ksrt3_sz9 rfl rfl (by omega) (by omega)) rfl ?_
        refine LA.pair (i := 9) (j := 13) rfl rfl (by kernel_rfl) (by kernel_rfl) (by kernel_rfl) rfl rfl (x_ld (v := S _) ksrt3_oc9 rfl (hR.at (i := i2 - 1) (by omega))) (x_ld (v := S _) ksrt3_oc9 rfl (hR.at (i := i2) (by omega))) (x_ld (v := S _) ksrt3_oc9 rfl (hR.at (i := i2) (by omega))) (x_ld (v := S _) ksrt3_oc9 rfl (hR.at (i := i2 - 1) (by omega))) rfl rfl ?_
        refine LA.take (i := 14) rfl (by kernel_rfl) (by kernel_rfl) (by kernel_rfl) (fun w => x_ia1 (j := i2) Try.underlying22 ksrt3_sz9 rfl rfl (by omega) (by omega)) rfl ?_
        refine LA.step (rs := [15]) (by kernel_rfl) (by simp) ⟨⟨_, rfl, ?_⟩, trivial⟩
        refine L.setAt (enc := S) (j := i2) ksrt3_sz9 rfl rfl rfl hR (by omega) (fun wl51 hR hsl51 hw hzl51 => ?_)
        have hB := hB.trans hw
        refine L.nil ?_
        refine thn_n ?_
        refine LA.take (i := 16) rfl (by kernel_rfl) (by kernel_rfl) (by kernel_rfl) (fun w => x_ia1 (j := i2 - 1) Try.underlying22 ksrt3_sz9 rfl rfl (by omega) (by omega)) rfl ?_
        refine LA.step (rs := [17]) (by kernel_rfl) (by simp) ⟨⟨_, rfl, ?_⟩, trivial⟩
        refine L.setAt (enc := S) (j := i2 - 1) ksrt3_sz9 rfl rfl rfl hR (by omega) (fun wl53 hR hsl53 hw hzl53 => ?_)
        have hB := hB.trans hw
        refine L.nil ?_
        refine thn_n ?_
        refine LA.done (by kernel_rfl) ?_
        refine nrm_n ?_
        refine thn_n ?_
        refine W.cut (fun D' E' w' => D' = [] ∧ ∃ g : Array Str, E' 0 = .slice (some ⟨b, o, none⟩) n cap ∧ E' 1 = .int .i64 (a : Nat) ∧ E' 2 = .int .i64 (e : Nat) ∧ E' 7 = .int .i64 (i2 : Nat) ∧ E' 8 = .int .i64 (5 - (s : Nat)) ∧ Gr (· = b) w w' ∧ Row S w' b o T hd g tl ∧ g.size = n ∧ g = stepDown ltStr a i2 c) ?_ ?_
        ·refine W.seq ?_
         refine W.region ?_
         refine L.val (x_mv (v := .int _ _) rfl) rfl ?_
         refine L.val (x_mv (v := .int _ _) rfl) rfl ?_
         refine L.val (x_sub rfl rfl (wr64 (by omega))) rfl ?_
         refine L.val (x_geq rfl rfl) rfl ?_
         refine L.nil ?_
         refine thn_n ?_
         refine W.cond (b := _) rfl (fun g61 => ?_) (fun g61 => ?_)
         ·have h61 := of_decide_eq_true g61
          refine W.seq ?_
          refine W.region ?_
          refine L.val (x_mv (v := .int _ _) rfl) rfl ?_
          refine L.val (x_sub rfl rfl (wr64 (by omega))) rfl ?_
          refine L.val (x_as (v := .int _ _) rfl) rfl ?_
          refine L.nil ?_
          refine thn_n ?_
          refine W.block ?_
          refine W.loop (fun m' E w' => ∃ (j : Nat) (f : Array Str), m' = j ∧ E 0 = .slice (some ⟨b, o, none⟩) n cap ∧ E 1 = .int .i64 (a : Nat) ∧ E 2 = .int .i64 (e : Nat) ∧ E 7 = .int .i64 (i2 : Nat) ∧ E 8 = .int .i64 (5 - (s : Nat)) ∧ E 9 = .int .i64 (j : Nat) ∧ (Gr (· = b) w w') ∧ (Row S w' b o T hd f tl) ∧ (f.size = n) ∧ (j < i2) ∧ (shiftDown ltStr j f = shiftDown ltStr (i2 - 1) (swp c i2 (i2 - 1)))) (i2 - 1) ?_ ?_
          ·exact ⟨i2 - 1, swp c i2 (i2 - 1), by omega, by first | rfl | exact vi (by omega) | exact vs (by first | assumption | (rw [hst]; done) | (rw [hst]; simp only [List.append_assoc])), by first | rfl | exact vi (by omega) | exact vs (by first | assumption | (rw [hst]; done) | (rw [hst]; simp only [List.append_assoc])), by first | rfl | exact vi (by omega) | exact vs (by first | assumption | (rw [hst]; done) | (rw [hst]; simp only [List.append_assoc])), by first | rfl | exact vi (by omega) | exact vs (by first | assumption | (rw [hst]; done) | (rw [hst]; simp only [List.append_assoc])), by first | rfl | exact vi (by omega) | exact vs (by first | assumption | (rw [hst]; done) | (rw [hst]; simp only [List.append_assoc])), by first | rfl | exact vi (by omega) | exact vs (by first | assumption | (rw [hst]; done) | (rw [hst]; simp only [List.append_assoc])), (by first | assumption | omega | rfl), (by first | assumption | omega | rfl), (by rw [size_swp]; exact hn3), (by first | assumption | omega | rfl), (by first | assumption | omega | rfl)⟩
          ·rintro _ E wL64 ⟨j, f, em, e0, e1, e2, e7, e8, e9, hB, hR, hn4, hj, hq4⟩
           rw [upd_self e0, upd_self e1, upd_self e2, upd_self e7, upd_self e8, upd_self e9]
           refine W.seq ?_
           refine W.seq ?_
           refine W.region ?_
           refine L.val (x_mv (v := .int _ _) rfl) rfl ?_
           refine L.val (x_geq rfl rfl) rfl ?_
           refine L.nil ?_
           refine thn_n ?_
           refine W.cond (b := _) rfl (fun g65 => ?_) (fun g65 => ?_)
           ·have h65 := of_decide_eq_true g65
            refine W.skip ?_
            refine thn_n ?_
            refine W.seq ?_
            refine W.block ?_
            refine W.seq ?_
            refine W.seq ?_
            refine W.drawB ksrt3_mixed (by kernel_rfl) ?_
            refine LQ.val (fun w hw => x_mv (v := .slice _ _ _) rfl) rfl ?_
            refine LQ.val (fun w hw => x_mv (v := .int _ _) rfl) rfl ?_
            refine LQ.val (fun w hw => x_ia1 (j := j) Try.underlying22 ksrt3_sz9 rfl rfl (by omega) (by omega)) rfl ?_
            refine LQ.val (fun w hw => x_ld (v := S _) ksrt3_oc9 rfl (hw.keep (hR.at (i := j) (by omega)))) rfl ?_
            refine LQ.val (fun w hw => x_mv (v := .slice _ _ _) rfl) rfl ?_
            refine LQ.val (fun w hw => x_mv (v := .int _ _) rfl) rfl ?_
            refine LQ.val (fun w hw => x_sub rfl rfl (wr64 (by omega))) rfl ?_
            refine LQ.val (fun w hw => x_ia1 (j := j - 1) Try.underlying22 ksrt3_sz9 rfl rfl (by omega) (by omega)) rfl ?_
            refine LQ.val (fun w hw => x_ld (v := S _) ksrt3_oc9 rfl (hw.keep (hR.at (i := j - 1) (by omega)))) rfl ?_
            refine LQ.ret (fun w => x_call ksrt3_en183 rfl) (fun w hw => Ret.mono (less_ok _ _ _) (fun _ _ h => ⟨h.1, Gr.trans hw h.2⟩)) rfl ?_
            refine LQ.val (fun w hw => x_not rfl) rfl ?_
            refine LQ.nil ?_
            intro w68 hw
            have hB := hB.carry hw; have hR := hR.carry hw
            refine thn_n ?_
            refine W.cond (b := _) rfl (fun g78 => ?_) (fun g78 => ?_)
            ·have h78 := (not_t g78)
             refine W.exit (thn_x (blk_miss rfl (thn_x (thn_x (blk_hit ?_)))))
             refine thn_n ?_
             first
               | exact ⟨rfl, f, rfl, rfl, rfl, rfl, rfl, hB, hR, hn4, by rw [stepDown, if_pos (by omega), ← hq4, sd_stop (lt := ltStr) (.inl (by omega))]⟩
               | exact ⟨rfl, f, rfl, rfl, rfl, rfl, rfl, hB, hR, hn4, by rw [stepDown, if_pos (by omega), ← hq4, sd_stop (lt := ltStr) (.inr h78)]⟩
               | exact ⟨rfl, swp c i2 (i2 - 1), rfl, rfl, rfl, rfl, rfl, hB, hR, by rw [size_swp]; exact hn3, by rw [stepDown, if_neg (by omega)]⟩
            ·have h78 := (not_f g78)
             refine W.skip ?_
             refine thn_n ?_
             refine W.drawS ksrt3_mixed ?_
             have hB := hB.carry (bel_drew _); have hR := hR.carry (bel_drew _)
             refine LA.take (i := 0) rfl (by kernel_rfl) (by kernel_rfl) (by kernel_rfl) (fun w => x_mv (v := .slice _ _ _) rfl) rfl ?_
             refine LA.take (i := 1) rfl (by kernel_rfl) (by kernel_rfl) (by kernel_rfl) (fun w => x_mv (v := .int _ _) rfl) rfl ?_
             refine LA.take (i := 2) rfl (by kernel_rfl) (by kernel_rfl) (by kernel_rfl) (fun w => x_mv (v := .slice _ _ _) rfl) rfl ?_
             refine LA.take (i := 3) rfl (by kernel_rfl) (by kernel_rfl) (by kernel_rfl) (fun w => x_mv (v := .int _ _) rfl) rfl ?_
             refine LA.take (i := 4) rfl (by kernel_rfl) (by kernel_rfl) (by kernel_rfl) (fun w => x_sub rfl rfl (wr64 (by omega))) rfl ?_
             refine LA.take (i := 5) rfl (by kernel_rfl) (by kernel_rfl) (by kernel_rfl) (fun w => x_mv (v := .slice _ _ _) rfl) rfl ?_
             refine LA.take (i := 6) rfl (by kernel_rfl) (by kernel_rfl) (by kernel_rfl) (fun w => x_mv (v := .int _ _) rfl) rfl ?_
             refine LA.take (i := 7) rfl (by kernel_rfl) (by kernel_rfl) (by kernel_rfl) (fun w => x_sub rfl rfl (wr64 (by omega))) rfl ?_
             refine LA.take (i := 8) rfl (by kernel_rfl) (by kernel_rfl) (by kernel_rfl) (fun w => x_ia1 (j := j - 1) Try.underlying22 ksrt3_sz9 rfl rfl (by omega) (by omega)) rfl ?_
             refine LA.take (i := 10) rfl (by kernel_rfl) (by kernel_rfl) (by kernel_rfl) (fun w => x_mv (v := .slice _ _ _) rfl) rfl ?_
             refine LA.take (i := 11) rfl (by kernel_rfl) (by kernel_rfl) (by kernel_rfl) (fun w => x_mv (v := .int _ _) rfl) rfl ?_
             refine LA.take (i := 12) rfl (by kernel_rfl) (by kernel_rfl) (by kernel_rfl) (fun w => x_ia1 (j := j) Try.underlying22 ksrt3_sz9 rfl rfl (by omega) (by omega)) rfl ?_
             refine LA.pair (i := 9) (j := 13) rfl rfl (by kernel_rfl) (by kernel_rfl) (by kernel_rfl) rfl rfl (x_ld (v := S _) ksrt3_oc9 rfl (hR.at (i := j - 1) (by omega))) (x_ld (v := S _) ksrt3_oc9 rfl (hR.at (i := j) (by omega))) (x_ld (v := S _) ksrt3_oc9 rfl (hR.at (i := j) (by omega))) (x_ld (v := S _) ksrt3_oc9 rfl (hR.at (i := j - 1) (by omega))) rfl rfl ?_
             refine LA.take (i := 14) rfl (by kernel_rfl) (by kernel_rfl) (by kernel_rfl) (fun w => x_ia1 (j := j) Try.underlying22 ksrt3_sz9 rfl rfl (by omega) (by omega)) rfl ?_
             refine LA.step (rs := [15]) (by kernel_rfl) (by simp) ⟨⟨_, rfl, ?_⟩, trivial⟩
             refine L.setAt (enc := S) (j := j) ksrt3_sz9 rfl rfl rfl hR (by omega) (fun wl89 hR hsl89 hw hzl89 => ?_)
             have hB := hB.trans hw
             refine L.nil ?_
             refine thn_n ?_
             refine LA.take (i := 16) rfl (by kernel_rfl) (by kernel_rfl) (by kernel_rfl) (fun w => x_ia1 (j := j - 1) Try.underlying22 ksrt3_sz9 rfl rfl (by omega) (by omega)) rfl ?_
             refine LA.step (rs := [17]) (by kernel_rfl) (by simp) ⟨⟨_, rfl, ?_⟩, trivial⟩
             refine L.setAt (enc := S) (j := j - 1) ksrt3_sz9 rfl rfl rfl hR (by omega) (fun wl91 hR hsl91 hw hzl91 => ?_)
             have hB := hB.trans hw
             refine L.nil ?_
             refine thn_n ?_
             refine LA.done (by kernel_rfl) ?_
             refine nrm_n ?_
             refine blk_n ?_
             refine thn_n ?_
             refine W.region ?_
             refine L.val (x_mv (v := .int _ _) rfl) rfl ?_
             refine L.val (x_sub rfl rfl (wr64 (by omega))) rfl ?_
             refine L.val (x_as (v := .int _ _) rfl) rfl ?_
             refine L.nil ?_
             refine thn_n ⟨rfl, ?_⟩
             refine ⟨_, ?_, j - 1, swp f j (j - 1), rfl, by first | rfl | exact vi (by omega) | exact vs (by first | assumption | (rw [hst]; done) | (rw [hst]; simp only [List.append_assoc])), by first | rfl | exact vi (by omega) | exact vs (by first | assumption | (rw [hst]; done) | (rw [hst]; simp only [List.append_assoc])), by first | rfl | exact vi (by omega) | exact vs (by first | assumption | (rw [hst]; done) | (rw [hst]; simp only [List.append_assoc])), by first | rfl | exact vi (by omega) | exact vs (by first | assumption | (rw [hst]; done) | (rw [hst]; simp only [List.append_assoc])), by first | rfl | exact vi (by omega) | exact vs (by first | assumption | (rw [hst]; done) | (rw [hst]; simp only [List.append_assoc])), by first | rfl | exact vi (by omega) | exact vs (by first | assumption | (rw [hst]; done) | (rw [hst]; simp only [List.append_assoc])), (by first | assumption | omega | rfl), (by first | assumption | omega | rfl), (by rw [size_swp]; exact hn4), (by first | assumption | omega | rfl), (by rw [← hq4]; exact sd_go (by omega) h78)⟩
             omega
           ·have h65 := dle_f g65
            refine W.exit (thn_x (thn_x (blk_hit ?_)))
            refine thn_n ?_
            first
              | exact ⟨rfl, f, rfl, rfl, rfl, rfl, rfl, hB, hR, hn4, by rw [stepDown, if_pos (by omega), ← hq4, sd_stop (lt := ltStr) (.inl (by omega))]⟩
              | exact ⟨rfl, f, rfl, rfl, rfl, rfl, rfl, hB, hR, hn4, by rw [stepDown, if_pos (by omega), ← hq4, sd_stop (lt := ltStr) (.inr h78)]⟩
              | exact ⟨rfl, swp c i2 (i2 - 1), rfl, rfl, rfl, rfl, rfl, hB, hR, by rw [size_swp]; exact hn3, by rw [stepDown, if_neg (by omega)]⟩
         ·have h61 := dle_f g61
          refine W.skip ?_
          refine thn_n ?_
          first
            | exact ⟨rfl, f, rfl, rfl, rfl, rfl, rfl, hB, hR, hn4, by rw [stepDown, if_pos (by omega), ← hq4, sd_stop (lt := ltStr) (.inl (by omega))]⟩
            | exact ⟨rfl, f, rfl, rfl, rfl, rfl, rfl, hB, hR, hn4, by rw [stepDown, if_pos (by omega), ← hq4, sd_stop (lt := ltStr) (.inr h78)]⟩
            | exact ⟨rfl, swp c i2 (i2 - 1), rfl, rfl, rfl, rfl, rfl, hB, hR, by rw [size_swp]; exact hn3, by rw [stepDown, if_neg (by omega)]⟩
        ·rintro D E w95 ⟨rfl, g, e0, e1, e2, e7, e8, hB, hR, hn5, hge⟩
         rw [upd_self e0, upd_self e1, upd_self e2, upd_self e7, upd_self e8]
         refine W.seq ?_
         refine W.region ?_
         refine L.val (x_mv (v := .int _ _) rfl) rfl ?_
         refine L.val (x_mv (v := .int _ _) rfl) rfl ?_
         refine L.val (x_sub rfl rfl (wr64 (by omega))) rfl ?_
         refine L.val (x_geq rfl rfl) rfl ?_
         refine L.nil ?_
         refine thn_n ?_
         refine W.cond (b := _) rfl (fun g98 => ?_) (fun g98 => ?_)
         ·have h98 := of_decide_eq_true g98
          refine W.seq ?_
          refine W.region ?_
          refine L.val (x_mv (v := .int _ _) rfl) rfl ?_
          refine L.val (x_add rfl rfl (wr64 (by omega))) rfl ?_
          refine L.val (x_as (v := .int _ _) rfl) rfl ?_
          refine L.nil ?_
          refine thn_n ?_
          refine W.block ?_
          refine W.loop (fun m' E w' => ∃ (j : Nat) (f : Array Str), m' = e - j ∧ E 0 = .slice (some ⟨b, o, none⟩) n cap ∧ E 1 = .int .i64 (a : Nat) ∧ E 2 = .int .i64 (e : Nat) ∧ E 7 = .int .i64 (i2 : Nat) ∧ E 8 = .int .i64 (5 - (s : Nat)) ∧ E 10 = .int .i64 (j : Nat) ∧ (Gr (· = b) w w') ∧ (Row S w' b o T hd f tl) ∧ (f.size = n) ∧ (i2 < j) ∧ (shiftUp ltStr e j f = shiftUp ltStr e (i2 + 1) g)) (e - (i2 + 1)) ?_ ?_
          ·exact ⟨i2 + 1, g, by omega, by first | rfl | exact vi (by omega) | exact vs (by first | assumption | (rw [hst]; done) | (rw [hst]; simp only [List.append_assoc])), by first | rfl | exact vi (by omega) | exact vs (by first | assumption | (rw [hst]; done) | (rw [hst]; simp only [List.append_assoc])), by first | rfl | exact vi (by omega) | exact vs (by first | assumption | (rw [hst]; done) | (rw [hst]; simp only [List.append_assoc])), by first | rfl | exact vi (by omega) | exact vs (by first | assumption | (rw [hst]; done) | (rw [hst]; simp only [List.append_assoc])), by first | rfl | exact vi (by omega) | exact vs (by first | assumption | (rw [hst]; done) | (rw [hst]; simp only [List.append_assoc])), by first | rfl | exact vi (by omega) | exact vs (by first | assumption | (rw [hst]; done) | (rw [hst]; simp only [List.append_assoc])), (by first | assumption | omega | rfl), (by first | assumption | omega | rfl), (by first | assumption | omega | rfl), (by first | assumption | omega | rfl), (by first | assumption | omega | rfl)⟩
          ·rintro _ E wL101 ⟨j, f, em, e0, e1, e2, e7, e8, e10, hB, hR, hn4, hj, hq5⟩
           rw [upd_self e0, upd_self e1, upd_self e2, upd_self e7, upd_self e8, upd_self e10]
           refine W.seq ?_
           refine W.seq ?_
           refine W.region ?_
           refine L.val (x_mv (v := .int _ _) rfl) rfl ?_
           refine L.val (x_mv (v := .int _ _) rfl) rfl ?_
           refine L.val (x_lss rfl rfl) rfl ?_
           refine L.nil ?_
           refine thn_n ?_
           refine W.cond (b := _) rfl (fun g103 => ?_) (fun g103 => ?_)
           ·have h103 := of_decide_eq_true g103
            refine W.skip ?_
            refine thn_n ?_
            refine W.seq ?_
            refine W.block ?_
            refine W.seq ?_
            refine W.seq ?_
            refine W.drawB ksrt3_mixed (by kernel_rfl) ?_
            refine LQ.val (fun w hw => x_mv (v := .slice _ _ _) rfl) rfl ?_
            refine LQ.val (fun w hw => x_mv (v := .int _ _) rfl) rfl ?_
            refine LQ.val (fun w hw => x_ia1 (j := j) Try.underlying22 ksrt3_sz9 rfl rfl (by omega) (by omega)) rfl ?_
            refine LQ.val (fun w hw => x_ld (v := S _) ksrt3_oc9 rfl (hw.keep (hR.at (i := j) (by omega)))) rfl ?_
            refine LQ.val (fun w hw => x_mv (v := .slice _ _ _) rfl) rfl ?_
            refine LQ.val (fun w hw => x_mv (v := .int _ _) rfl) rfl ?_
            refine LQ.val (fun w hw => x_sub rfl rfl (wr64 (by omega))) rfl ?_
            refine LQ.val (fun w hw => x_ia1 (j := j - 1) Try.underlying22 ksrt3_sz9 rfl rfl (by omega) (by omega)) rfl ?_
            refine LQ.val (fun w hw => x_ld (v := S _) ksrt3_oc9 rfl (hw.keep (hR.at (i := j - 1) (by omega)))) rfl ?_
            refine LQ.ret (fun w => x_call ksrt3_en183 rfl) (fun w hw => Ret.mono (less_ok _ _ _) (fun _ _ h => ⟨h.1, Gr.trans hw h.2⟩)) rfl ?_
            refine LQ.val (fun w hw => x_not rfl) rfl ?_
            refine LQ.nil ?_
            intro w106 hw
            have hB := hB.carry hw; have hR := hR.carry hw
            refine thn_n ?_
            refine W.cond (b := _) rfl (fun g116 => ?_) (fun g116 => ?_)
            ·have h116 := (not_t g116)
             refine W.exit (thn_x (blk_miss rfl (thn_x (thn_x (blk_hit ?_)))))
             refine blk_n ?_
             refine thn_n ?_
             refine W.region ?_
             refine L.val (x_mv (v := .int _ _) rfl) rfl ?_
             refine L.val (x_add rfl rfl (wr64 (by omega))) rfl ?_
             refine L.val (x_as (v := .int _ _) rfl) rfl ?_
             refine L.nil ?_
             refine thn_n ⟨rfl, ?_⟩
             refine ⟨_, ?_, s - 1, i2, stepUp ltStr e i2 g, rfl, by first | rfl | exact vi (by omega) | exact vs (by first | assumption | (rw [hst]; done) | (rw [hst]; simp only [List.append_assoc])), by first | rfl | exact vi (by omega) | exact vs (by first | assumption | (rw [hst]; done) | (rw [hst]; simp only [List.append_assoc])), by first | rfl | exact vi (by omega) | exact vs (by first | assumption | (rw [hst]; done) | (rw [hst]; simp only [List.append_assoc])), by first | rfl | exact vi (by omega) | exact vs (by first | assumption | (rw [hst]; done) | (rw [hst]; simp only [List.append_assoc])), by first | rfl | exact vi (by omega) | exact vs (by first | assumption | (rw [hst]; done) | (rw [hst]; simp only [List.append_assoc])), (by exact hB), (by first | (rw [show stepUp ltStr e i2 g = f from (if_pos (by omega)).trans (hq5.symm.trans (su_stop (lt := ltStr) (.inl (by omega)))) ]; exact hR) | (rw [show stepUp ltStr e i2 g = f from (if_pos (by omega)).trans (hq5.symm.trans (su_stop (lt := ltStr) (.inr h116))) ]; exact hR) | (rw [show stepUp ltStr e i2 g = g from if_neg (by omega)]; exact hR)), (by unfold stepUp; split; rw [size_su _ _ _ (Nat.lt_succ_self _)]; exact hn5; exact hn5), (by omega), (by rw [← hq, hge]; exact pins_pred hqs.symm (by omega) (by omega) (by omega))⟩
             omega
            ·have h116 := (not_f g116)
             refine W.skip ?_
             refine thn_n ?_
             refine W.drawS ksrt3_mixed ?_
             have hB := hB.carry (bel_drew _); have hR := hR.carry (bel_drew _)
             refine LA.take (i := 0) rfl (by kernel_rfl) (by kernel_rfl) (by kernel_rfl) (fun w => x_mv (v := .slice _ _ _) rfl) rfl ?_
             refine LA.take (i := 1) rfl (by kernel_rfl) (by kernel_rfl) (by kernel_rfl) (fun w => x_mv (v := .int _ _) rfl) rfl ?_
             refine LA.take (i := 2) rfl (by kernel_rfl) (by kernel_rfl) (by kernel_rfl) (fun w => x_mv (v := .slice _ _ _) rfl) rfl ?_
             refine LA.take (i := 3) rfl (by kernel_rfl) (by kernel_rfl) (by kernel_rfl) (fun w => x_mv (v := .int _ _) rfl) rfl ?_
             refine LA.take (i := 4) rfl (by kernel_rfl) (by kernel_rfl) (by kernel_rfl) (fun w => x_sub rfl rfl (wr64 (by omega))) rfl ?_
             refine LA.take (i := 5) rfl (by kernel_rfl) (by kernel_rfl) (by kernel_rfl) (fun w => x_mv (v := .slice _ _ _) rfl) rfl ?_
             refine LA.take (i := 6) rfl (by kernel_rfl) (by kernel_rfl) (by kernel_rfl) (fun w => x_mv (v := .int _ _) rfl) rfl ?_
             refine LA.take (i := 7) rfl (by kernel_rfl) (by kernel_rfl) (by kernel_rfl) (fun w => x_sub rfl rfl (wr64 (by omega))) rfl ?_
             refine LA.take (i := 8) rfl (by kernel_rfl) (by kernel_rfl) (by kernel_rfl) (fun w => x_ia1 (j := j - 1) Try.underlying22 ksrt3_sz9 rfl rfl (by omega) (by omega)) rfl ?_
             refine LA.take (i := 10) rfl (by kernel_rfl) (by kernel_rfl) (by kernel_rfl) (fun w => x_mv (v := .slice _ _ _) rfl) rfl ?_
             refine LA.take (i := 11) rfl (by kernel_rfl) (by kernel_rfl) (by kernel_rfl) (fun w => x_mv (v := .int _ _) rfl) rfl ?_
             refine LA.take (i := 12) rfl (by kernel_rfl) (by kernel_rfl) (by kernel_rfl) (fun w => x_ia1 (j := j) Try.underlying22 ksrt3_sz9 rfl rfl (by omega) (by omega)) rfl ?_
             refine LA.pair (i := 9) (j := 13) rfl rfl (by kernel_rfl) (by kernel_rfl) (by kernel_rfl) rfl rfl (x_ld (v := S _) ksrt3_oc9 rfl (hR.at (i := j - 1) (by omega))) (x_ld (v := S _) ksrt3_oc9 rfl (hR.at (i := j) (by omega))) (x_ld (v := S _) ksrt3_oc9 rfl (hR.at (i := j) (by omega))) (x_ld (v := S _) ksrt3_oc9 rfl (hR.at (i := j - 1) (by omega))) rfl rfl ?_
             refine LA.take (i := 14) rfl (by kernel_rfl) (by kernel_rfl) (by kernel_rfl) (fun w => x_ia1 (j := j) Try.underlying22 ksrt3_sz9 rfl rfl (by omega) (by omega)) rfl ?_
             refine LA.step (rs := [15]) (by kernel_rfl) (by simp) ⟨⟨_, rfl, ?_⟩, trivial⟩
             refine L.setAt (enc := S) (j := j) ksrt3_sz9 rfl rfl rfl hR (by omega) (fun wl131 hR hsl131 hw hzl131 => ?_)
             have hB := hB.trans hw
             refine L.nil ?_
             refine thn_n ?_
             refine LA.take (i := 16) rfl (by kernel_rfl) (by kernel_rfl) (by kernel_rfl) (fun w => x_ia1 (j := j - 1) Try.underlying22 ksrt3_sz9 rfl rfl (by omega) (by omega)) rfl ?_
             refine LA.step (rs := [17]) (by kernel_rfl) (by simp) ⟨⟨_, rfl, ?_⟩, trivial⟩
             refine L.setAt (enc := S) (j := j - 1) ksrt3_sz9 rfl rfl rfl hR (by omega) (fun wl133 hR hsl133 hw hzl133 => ?_)
             have hB := hB.trans hw
             refine L.nil ?_
             refine thn_n ?_
             refine LA.done (by kernel_rfl) ?_
             refine nrm_n ?_
             refine blk_n ?_
             refine thn_n ?_
             refine W.region ?_
             refine L.val (x_mv (v := .int _ _) rfl) rfl ?_
             refine L.val (x_add rfl rfl (wr64 (by omega))) rfl ?_
             refine L.val (x_as (v := .int _ _) rfl) rfl ?_
             refine L.nil ?_
             refine thn_n ⟨rfl, ?_⟩
             refine ⟨_, ?_, j + 1, swp f j (j - 1), rfl, by first | rfl | exact vi (by omega) | exact vs (by first | assumption | (rw [hst]; done) | (rw [hst]; simp only [List.append_assoc])), by first | rfl | exact vi (by omega) | exact vs (by first | assumption | (rw [hst]; done) | (rw [hst]; simp only [List.append_assoc])), by first | rfl | exact vi (by omega) | exact vs (by first | assumption | (rw [hst]; done) | (rw [hst]; simp only [List.append_assoc])), by first | rfl | exact vi (by omega) | exact vs (by first | assumption | (rw [hst]; done) | (rw [hst]; simp only [List.append_assoc])), by first | rfl | exact vi (by omega) | exact vs (by first | assumption | (rw [hst]; done) | (rw [hst]; simp only [List.append_assoc])), by first | rfl | exact vi (by omega) | exact vs (by first | assumption | (rw [hst]; done) | (rw [hst]; simp only [List.append_assoc])), (by first | assumption | omega | rfl), (by first | assumption | omega | rfl), (by rw [size_swp]; exact hn4), (by first | assumption | omega | rfl), (by rw [← hq5]; exact su_go (by omega) h116)⟩
             omega
           ·have h103 := dlt_f g103
            refine W.exit (thn_x (thn_x (blk_hit ?_)))
            refine blk_n ?_
            refine thn_n ?_
            refine W.region ?_
            refine L.val (x_mv (v := .int _ _) rfl) rfl ?_
            refine L.val (x_add rfl rfl (wr64 (by omega))) rfl ?_
            refine L.val (x_as (v := .int _ _) rfl) rfl ?_
            refine L.nil ?_
            refine thn_n ⟨rfl, ?_⟩
            refine ⟨_, ?_, s - 1, i2, stepUp ltStr e i2 g, rfl, by first | rfl | exact vi (by omega) | exact vs (by first | assumption | (rw [hst]; done) | (rw [hst]; simp only [List.append_assoc])), by first | rfl | exact vi (by omega) | exact vs (by first | assumption | (rw [hst]; done) | (rw [hst]; simp only [List.append_assoc])), by first | rfl | exact vi (by omega) | exact vs (by first | assumption | (rw [hst]; done) | (rw [hst]; simp only [List.append_assoc])), by first | rfl | exact vi (by omega) | exact vs (by first | assumption | (rw [hst]; done) | (rw [hst]; simp only [List.append_assoc])), by first | rfl | exact vi (by omega) | exact vs (by first | assumption | (rw [hst]; done) | (rw [hst]; simp only [List.append_assoc])), (by exact hB), (by first | (rw [show stepUp ltStr e i2 g = f from (if_pos (by omega)).trans (hq5.symm.trans (su_stop (lt := ltStr) (.inl (by omega)))) ]; exact hR) | (rw [show stepUp ltStr e i2 g = f from (if_pos (by omega)).trans (hq5.symm.trans (su_stop (lt := ltStr) (.inr h116))) ]; exact hR) | (rw [show stepUp ltStr e i2 g = g from if_neg (by omega)]; exact hR)), (by unfold stepUp; split; rw [size_su _ _ _ (Nat.lt_succ_self _)]; exact hn5; exact hn5), (by omega), (by rw [← hq, hge]; exact pins_pred hqs.symm (by omega) (by omega) (by omega))⟩
            omega
         ·have h98 := dle_f g98
          refine W.skip ?_
          refine blk_n ?_
          refine thn_n ?_
          refine W.region ?_
          refine L.val (x_mv (v := .int _ _) rfl) rfl ?_
          refine L.val (x_add rfl rfl (wr64 (by omega))) rfl ?_
          refine L.val (x_as (v := .int _ _) rfl) rfl ?_
          refine L.nil ?_
          refine thn_n ⟨rfl, ?_⟩
          refine ⟨_, ?_, s - 1, i2, stepUp ltStr e i2 g, rfl, by first | rfl | exact vi (by omega) | exact vs (by first | assumption | (rw [hst]; done) | (rw [hst]; simp only [List.append_assoc])), by first | rfl | exact vi (by omega) | exact vs (by first | assumption | (rw [hst]; done) | (rw [hst]; simp only [List.append_assoc])), by first | rfl | exact vi (by omega) | exact vs (by first | assumption | (rw [hst]; done) | (rw [hst]; simp only [List.append_assoc])), by first | rfl | exact vi (by omega) | exact vs (by first | assumption | (rw [hst]; done) | (rw [hst]; simp only [List.append_assoc])), by first | rfl | exact vi (by omega) | exact vs (by first | assumption | (rw [hst]; done) | (rw [hst]; simp only [List.append_assoc])), (by exact hB), (by first | (rw [show stepUp ltStr e i2 g = f from (if_pos (by omega)).trans (hq5.symm.trans (su_stop (lt := ltStr) (.inl (by omega)))) ]; exact hR) | (rw [show stepUp ltStr e i2 g = f from (if_pos (by omega)).trans (hq5.symm.trans (su_stop (lt := ltStr) (.inr h116))) ]; exact hR) | (rw [show stepUp ltStr e i2 g = g from if_neg (by omega)]; exact hR)), (by unfold stepUp; split; rw [size_su _ _ _ (Nat.lt_succ_self _)]; exact hn5; exact hn5), (by omega), (by rw [← hq, hge]; exact pins_pred hqs.symm (by omega) (by omega) (by omega))⟩
          omega
   ·have h14 := dlt_f g14
    refine W.exit (thn_x (thn_x (blk_hit ?_)))
    refine thn_n ?_
    refine W.seq ?_
    refine W.region ?_
    refine L.val (x_as (v := .bool _) rfl) rfl ?_
    refine L.nil ?_
    refine thn_n ?_
    refine W.ret (fin_mk (.inr rfl) ?_)
    have hpart : partialInsertionSort ltStr d a e = (c, false) := by
      rw [← hq, show s = 0 by omega]; rfl
    rw [hpart]; exact ⟨rfl, hB, hR⟩
end Go.Gx

