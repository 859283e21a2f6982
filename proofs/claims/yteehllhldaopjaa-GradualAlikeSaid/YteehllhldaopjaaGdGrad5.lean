/- Between two types that are near: the program's walk. Conditions: none. -/
import Derived.Test.YteehllhldaopjaaGdWit
import Derived.Test.YteehllhldaopjaaGdTake
import Derived.Test.YteehllhldaopjaaGdDrawD
namespace Go.Gx
open Go.Proofs
theorem kgrad5_ag25 : aggT Try.prog 25 5 = true := by kernel_rfl
theorem kgrad5_el25 : elT Try.prog 25 5 = true := by kernel_rfl
theorem kgrad5_el9 : elT Try.prog 9 1 = true := by kernel_rfl
theorem kgrad5_en109 : Go.Proofs.Enters Try.prog 109 := Go.Proofs.enters_of Try.func109 (by kernel_rfl) rfl
theorem kgrad5_en113 : Go.Proofs.Enters Try.prog 113 := Go.Proofs.enters_of Try.func113 (by kernel_rfl) rfl
theorem kgrad5_en137 : Go.Proofs.Enters Try.prog 137 := Go.Proofs.enters_of Try.func137 (by kernel_rfl) rfl
theorem kgrad5_fo25_0 : fieldOff Try.prog 25 0 = some 0 := by kernel_rfl
theorem kgrad5_fo25_3 : fieldOff Try.prog 25 3 = some 3 := by kernel_rfl
theorem kgrad5_fo25_4 : fieldOff Try.prog 25 4 = some 4 := by kernel_rfl
theorem kgrad5_mixed : Try.prog.follows .mixedOrders = true := by kernel_rfl
theorem kgrad5_oc22 : oneCellT Try.prog 22 = true := by kernel_rfl
theorem kgrad5_oc23 : oneCellT Try.prog 23 = true := by kernel_rfl
theorem kgrad5_oc3 : oneCellT Try.prog 3 = true := by kernel_rfl
theorem kgrad5_oc9 : oneCellT Try.prog 9 = true := by kernel_rfl
theorem kgrad5_si25 : structInfo Try.prog 25 = some ([(0, 1), (1, 1), (2, 1), (3, 1), (4, 1)], [Value.int .i64 0, S [], S [], Value.slice none 0 0, Value.slice none 0 0]) := by kernel_rfl
theorem kgrad5_sz22 : (Try.prog.info? 22).map (·.size) = some 1 := by kernel_rfl
theorem kgrad5_sz23 : (Try.prog.info? 23).map (·.size) = some 1 := by kernel_rfl
theorem kgrad5_sz25 : (Try.prog.info? 25).map (·.size) = some 5 := by kernel_rfl
theorem kgrad5_sz9 : (Try.prog.info? 9).map (·.size) = some 1 := by kernel_rfl
theorem kgrad5_zr25 : (Try.prog.info? 25).bind (·.zero) = some (Value.agg [Value.int .i64 0, S [], S [], Value.slice none 0 0, Value.slice none 0 0].toArray) := by kernel_rfl
theorem allB_part {s : Sh} (h : s.allB fitsS = true) : allL fitsS s.parts = true := by rw [Sh.allB_eq] at h; simp at h; exact h.2
abbrev leaf4 : List Value := [.int .i64 4, S [], S [], .slice none 0 0, .slice none 0 0]
theorem unknown_ok (w : World) : Ret Try.prog 137 #[] w fun v w' => v = .agg leaf4.toArray ∧ Bel w w' := by
  refine ret_of_W_R Try.func137 rfl (Nat.le_of_ble_eq_true rfl) ?_
  have hB := Gr.refl (fun _ => False) w
  refine W.seq ?_
  refine W.region ?_
  refine L.alloc (cs := [Value.int .i64 0, S [], S [], Value.slice none 0 0, Value.slice none 0 0]) kgrad5_zr25 rfl rfl (fun w0 bx0 hw hz0 => ?_)
  have hB := hB.carry hw
  refine L.nil ?_
  refine thn_n ?_
  refine W.seq ?_
  refine W.region ?_
  refine L.val (x_build (cells := [.int _ _, S _, S _, .slice _ _ _, .slice _ _ _]) kgrad5_si25 rfl rfl) rfl ?_
  refine L.setRow kgrad5_ag25 rfl rfl bx0 rfl rfl (by simp [Value.oneCell', S]) (fun wl3 bx0 hw hzl3 => ?_)
  have hsz := hB.size
  have hB := hB.set hw (by omega)
  refine L.nil ?_
  refine thn_n ?_
  refine W.ret (finR_mk (.inr rfl) ?_)
  exact ⟨_, resS rfl kgrad5_ag25 rfl bx0 rfl, rfl, hB⟩
set_option maxHeartbeats 4000000 in
theorem witness_ok : ∀ (N : Nat) (up : Bool) (a b : Sh), SizeOf.sizeOf a + SizeOf.sizeOf b < N → a.size ≤ 400 → b.size ≤ 400 → a.allB fitsS = true → b.allB fitsS = true → fitsN true N a b = true →
    ∀ (A0 B0 : Nat → Prop) (xs ys : List Value) (w : World), ShC A0 w xs a → ShC B0 w ys b →
    Ret Try.prog 113 #[.agg xs.toArray, .agg ys.toArray, .bool up] w fun v w' => ∃ cs', v = .agg cs'.toArray ∧ ShC (fun k => k < w.heap.size ∧ A0 k ∧ B0 k) w' cs' (witN N up a b) ∧ Bel w w' := by
  intro N
  induction N with
  | zero => intro up a b h; omega
  | succ N ih =>
    intro up a b hN hMa hMb hfa hfb hnear A0 B0 xs ys w ha0 hb0
    obtain ⟨M, hM, hM0⟩ : ∃ M : Nat → Prop, (∀ k, w.heap.size ≤ k → M k) ∧ (∀ k, M k ↔ (A0 k ∨ w.heap.size ≤ k) ∧ (B0 k ∨ w.heap.size ≤ k)) := ⟨fun k => (A0 k ∨ w.heap.size ≤ k) ∧ (B0 k ∨ w.heap.size ≤ k), fun k h => ⟨.inr h, .inr h⟩, fun k => Iff.rfl⟩
    have ha : ShC M w xs a := ha0.up.mono fun k _ h => ((hM0 k).1 h).1
    have hb : ShC M w ys b := hb0.up.mono fun k _ h => ((hM0 k).1 h).2
    clear ha0 hb0
    have hRes : ∀ k, k < w.heap.size ∧ A0 k ∧ B0 k → M k := fun k h => (hM0 k).2 ⟨.inl h.2.1, .inl h.2.2⟩
    have hla := ha.len
    have hlb := hb.len
    have hpla := parts_le a
    have hplb := parts_le b
    have hnear : fitsB true (fitsN true N) a b = true := hnear
    have hI := fun (up : Bool) (i j : Nat) (hi : i < a.parts.length) (hj : j < b.parts.length) (hn : fitsN true N (a.parts.getD i default) (b.parts.getD j default) = true) => ih up (a.parts.getD i default) (b.parts.getD j default) (by have := Sh.part_lt hi; have := Sh.part_lt hj; omega) (by have := Sh.part_size hi; omega) (by have := Sh.part_size hj; omega) (allL_getD (allB_part hfa) hi) (allL_getD (allB_part hfb) hj) hn
    have hI' := fun (up : Bool) (i j : Nat) (hi : i < a.parts.length) (hj : j < b.parts.length) (hn : fitsN true N (b.parts.getD j default) (a.parts.getD i default) = true) => ih up (b.parts.getD j default) (a.parts.getD i default) (by have := Sh.part_lt hi; have := Sh.part_lt hj; omega) (by have := Sh.part_size hj; omega) (by have := Sh.part_size hi; omega) (allL_getD (allB_part hfb) hj) (allL_getD (allB_part hfa) hi) hn
    refine ret_of_W_R Try.func113 rfl (Nat.le_of_ble_eq_true rfl) ?_
    have hB := Gr.refl (fun _ => False) w
    refine W.seq ?_
    refine W.region ?_
    refine L.box (cs := xs) rfl rfl (fun w3 bx3 hw hz3 => ?_)
    have hB := hB.carry hw; have ha := ha.carry hw; have hb := hb.carry hw
    refine L.box (cs := ys) rfl rfl (fun w4 bx4 hw hz4 => ?_)
    have hB := hB.carry hw; have ha := ha.carry hw; have hb := hb.carry hw; have bx3 := bx3.carry hw
    refine L.alloc (cs := [Value.int .i64 0, S [], S [], Value.slice none 0 0, Value.slice none 0 0]) kgrad5_zr25 rfl rfl (fun w6 bx6 hw hz6 => ?_)
    have hB := hB.carry hw; have ha := ha.carry hw; have hb := hb.carry hw; have bx3 := bx3.carry hw; have bx4 := bx4.carry hw
    obtain ⟨b6, hb6⟩ : ∃ b6, b6 = w4.heap.size := ⟨_, rfl⟩
    rw [← hb6] at bx6 ⊢
    obtain ⟨b4, hb4⟩ : ∃ b4, b4 = w3.heap.size := ⟨_, rfl⟩
    rw [← hb4] at bx4 ⊢
    have z1 : w.heap.size < b4 ∧ b4 < b6 := by omega
    have hx6 := bx6.lt
    clear hb4 hb6 hz3 hz4 hz6
    refine L.nil ?_
    refine thn_n ?_
    refine W.cut (fun D' E' w' => D' = [] ∧ ∃ b7 b8 : Nat, E' 2 = .bool up ∧ E' 3 = .pointer (some ⟨w.heap.size, 0, none⟩) ∧ E' 4 = .pointer (some ⟨b4, 0, none⟩) ∧ E' 6 = .pointer (some ⟨b6, 0, none⟩) ∧ E' 7 = .pointer (some ⟨b7, 0, none⟩) ∧ E' 8 = .pointer (some ⟨b8, 0, none⟩) ∧ b7 ≠ b8 ∧ b6 < b7 ∧ b6 < b8 ∧ Bel w w' ∧ ShC M w' xs a ∧ ShC M w' ys b ∧ Box w' w.heap.size 25 xs ∧ Box w' b4 25 ys ∧ Box w' b6 25 [.int .i64 0, S [], S [], .slice none 0 0, .slice none 0 0] ∧ Box w' b7 25 xs ∧ Box w' b8 25 ys) ?_ ?_
    ·refine W.drawF 6 kgrad5_mixed (fun wF18 hB0 => ?_)
     refine LAC.takeN (i := 0) rfl (by kernel_rfl) (by kernel_rfl) (by kernel_rfl) (by kernel_rfl) (fun w hw => x_ldn (vs := xs) kgrad5_ag25 rfl hla (hw.keepRow hla (bx3.row hla))) rfl ?_
     refine LAC.takeN (i := 1) rfl (by kernel_rfl) (by kernel_rfl) (by kernel_rfl) (by kernel_rfl) (fun w hw => x_ldn (vs := ys) kgrad5_ag25 rfl hlb (hw.keepRow hlb (bx4.row hlb))) rfl ?_
     refine LAC.step (rs := [2, 3]) (fun _ => hB0) (by kernel_rfl) (by simp) ⟨⟨_, rfl, ?_⟩, ⟨_, rfl, ?_⟩, trivial⟩
     ·have hs7 := hB0.size
      refine L.alloc (cs := [Value.int .i64 0, S [], S [], Value.slice none 0 0, Value.slice none 0 0]) kgrad5_zr25 rfl rfl (fun w7 bx7 hw hz7 => ?_)
      have hB0 := hB0.carry hw
      refine L.nil ?_
      refine thn_n ?_
      refine LAC.step (rs := [3]) (fun _ => hB0) (by kernel_rfl) (by simp) ⟨⟨_, rfl, ?_⟩, trivial⟩
      have hs8 := hB0.size
      refine L.alloc (cs := [Value.int .i64 0, S [], S [], Value.slice none 0 0, Value.slice none 0 0]) kgrad5_zr25 rfl rfl (fun w8 bx8 hw hz8 => ?_)
      have hB0 := hB0.carry hw; have bx7 := bx7.carry hw
      refine L.nil ?_
      refine thn_n ?_
      refine LAC.step (rs := [4]) (fun _ => hB0) (by kernel_rfl) (by simp) ⟨⟨_, rfl, ?_⟩, trivial⟩
      refine L.setRow kgrad5_ag25 rfl rfl bx7 rfl hla ha.one (fun wl8 bx7 hw hzl8 => ?_)
      have hB0 := hB0.set hw (by omega); have bx8 := bx8.carryR hw (by omega)
      refine L.nil ?_
      refine thn_n ?_
      refine LAC.step (rs := [5]) (fun _ => hB0) (by kernel_rfl) (by simp) ⟨⟨_, rfl, ?_⟩, trivial⟩
      refine L.setRow kgrad5_ag25 rfl rfl bx8 rfl hlb hb.one (fun wl9 bx8 hw hzl9 => ?_)
      have hB0 := hB0.set hw (by omega); have bx7 := bx7.carryR hw (by omega)
      refine L.nil ?_
      refine thn_n ?_
      refine LAC.doneF (by kernel_rfl) hB0 ?_
      have hB := hB.carry hB0; have ha := ha.carry hB0; have hb := hb.carry hB0; have bx3 := bx3.carry hB0; have bx4 := bx4.carry hB0; have bx6 := bx6.carry hB0
      refine thn_n ?_
      exact ⟨rfl, _, _, rfl, rfl, rfl, rfl, rfl, rfl, by omega, by omega, by omega, hB, ha, hb, bx3, bx4, bx6, bx7, bx8⟩
     ·have hs8 := hB0.size
      refine L.alloc (cs := [Value.int .i64 0, S [], S [], Value.slice none 0 0, Value.slice none 0 0]) kgrad5_zr25 rfl rfl (fun w8 bx8 hw hz8 => ?_)
      have hB0 := hB0.carry hw
      refine L.nil ?_
      refine thn_n ?_
      refine LAC.step (rs := [2]) (fun _ => hB0) (by kernel_rfl) (by simp) ⟨⟨_, rfl, ?_⟩, trivial⟩
      have hs7 := hB0.size
      refine L.alloc (cs := [Value.int .i64 0, S [], S [], Value.slice none 0 0, Value.slice none 0 0]) kgrad5_zr25 rfl rfl (fun w7 bx7 hw hz7 => ?_)
      have hB0 := hB0.carry hw; have bx8 := bx8.carry hw
      refine L.nil ?_
      refine thn_n ?_
      refine LAC.step (rs := [4]) (fun _ => hB0) (by kernel_rfl) (by simp) ⟨⟨_, rfl, ?_⟩, trivial⟩
      refine L.setRow kgrad5_ag25 rfl rfl bx7 rfl hla ha.one (fun wl8 bx7 hw hzl8 => ?_)
      have hB0 := hB0.set hw (by omega); have bx8 := bx8.carryR hw (by omega)
      refine L.nil ?_
      refine thn_n ?_
      refine LAC.step (rs := [5]) (fun _ => hB0) (by kernel_rfl) (by simp) ⟨⟨_, rfl, ?_⟩, trivial⟩
      refine L.setRow kgrad5_ag25 rfl rfl bx8 rfl hlb hb.one (fun wl9 bx8 hw hzl9 => ?_)
      have hB0 := hB0.set hw (by omega); have bx7 := bx7.carryR hw (by omega)
      refine L.nil ?_
      refine thn_n ?_
      refine LAC.doneF (by kernel_rfl) hB0 ?_
      have hB := hB.carry hB0; have ha := ha.carry hB0; have hb := hb.carry hB0; have bx3 := bx3.carry hB0; have bx4 := bx4.carry hB0; have bx6 := bx6.carry hB0
      refine thn_n ?_
      exact ⟨rfl, _, _, rfl, rfl, rfl, rfl, rfl, rfl, by omega, by omega, by omega, hB, ha, hb, bx3, bx4, bx6, bx7, bx8⟩
    ·rintro D E w20 ⟨rfl, b7, b8, e2, e3, e4, e6, e7, e8, z2, z3, z4, hB, ha, hb, bx3, bx4, bx6, bx7, bx8⟩
     rw [upd_self e2, upd_self e3, upd_self e4, upd_self e6, upd_self e7, upd_self e8]
     refine W.cut (fun D' E' w' => D' = [] ∧ ∃ kc oc : List Value, E' 2 = .bool up ∧ E' 3 = .pointer (some ⟨w.heap.size, 0, none⟩) ∧ E' 4 = .pointer (some ⟨b4, 0, none⟩) ∧ E' 6 = .pointer (some ⟨b6, 0, none⟩) ∧ E' 7 = .pointer (some ⟨b7, 0, none⟩) ∧ E' 8 = .pointer (some ⟨b8, 0, none⟩) ∧ Bel w w' ∧ ShC M w' xs a ∧ ShC M w' ys b ∧ ShC M w' kc (keepS up a b) ∧ ShC M w' oc (otherS up a b) ∧ Box w' w.heap.size 25 xs ∧ Box w' b4 25 ys ∧ Box w' b6 25 [.int .i64 0, S [], S [], .slice none 0 0, .slice none 0 0] ∧ Box w' b7 25 kc ∧ Box w' b8 25 oc) ?_ ?_
     ·refine W.seq ?_
      refine W.region ?_
      refine L.val (x_mv (v := .bool _) rfl) rfl ?_
      refine L.val (x_not rfl) rfl ?_
      refine L.nil ?_
      refine thn_n ?_
      refine W.cond (b := _) rfl (fun g21 => ?_) (fun g21 => ?_)
      ·have h21 := (not_t g21)
       refine W.drawD (fun k => k = b7 ∨ k = b8) (fun _ => False) 2 kgrad5_mixed (fun wD22 hw => ?_)
       have hB := hB.carry hw; have ha := ha.carry hw; have hb := hb.carry hw; have bx3 := bx3.carry hw; have bx4 := bx4.carry hw; have bx6 := bx6.carry hw; have bx7 := bx7.carry hw; have bx8 := bx8.carry hw
       have hB0 := Gr.refl (fun _ => False) wD22; have hR0 := Gr.refl (fun k => k = b7 ∨ k = b8) wD22
       refine LAD.take0 (i := 0) rfl (by kernel_rfl) (by kernel_rfl) (by kernel_rfl) (by kernel_rfl) (fun w hw => x_ldn (vs := ys) kgrad5_ag25 rfl hlb (hw.keepRowR (by rintro (e | e) <;> (have e : (_ : Nat) = _ := e; (try dsimp only at e); omega)) hlb (bx4.row hlb))) rfl ?_
       refine LAD.take0 (i := 1) rfl (by kernel_rfl) (by kernel_rfl) (by kernel_rfl) (by kernel_rfl) (fun w hw => x_ldn (vs := xs) kgrad5_ag25 rfl hla (hw.keepRowR (by rintro (e | e) <;> (have e : (_ : Nat) = _ := e; (try dsimp only at e); omega)) hla (bx3.row hla))) rfl ?_
       refine LAD.step (rs := [2]) hR0 (fun _ => hB0) (by kernel_rfl) (by simp) ⟨⟨_, rfl, ?_⟩, trivial⟩
       refine L.setRow kgrad5_ag25 rfl rfl bx7 hla hlb hb.one (fun wl14 bx7 hw hzl14 => ?_)
       have hR0 := hR0.into hw (by first | exact .inl rfl | exact .inr rfl); have bx8 := bx8.carryR hw (by omega)
       refine L.nil ?_
       refine thn_n ?_
       refine LAD.step' (rs := [3]) hR0 (by kernel_rfl) (by kernel_rfl) (by simp) ⟨⟨_, rfl, ?_⟩, trivial⟩
       refine L.setRow kgrad5_ag25 rfl rfl bx8 hlb hla ha.one (fun wl15 bx8 hw hzl15 => ?_)
       have hR0 := hR0.into hw (by first | exact .inl rfl | exact .inr rfl); have bx7 := bx7.carryR hw (by omega)
       refine L.nil ?_
       refine thn_n ?_
       refine LAD.done (by kernel_rfl) (by kernel_rfl) hR0 ?_
       have hB := hB.step hR0 (fun i hi e => by rcases e with e | e <;> omega)
       have ha := ha.carryR hR0 (fun k e => hM k (by rcases e with e | e <;> omega))
       have hb := hb.carryR hR0 (fun k e => hM k (by rcases e with e | e <;> omega))
       have bx3 := bx3.carryR hR0 (fun e => by rcases e with e | e <;> omega)
       have bx4 := bx4.carryR hR0 (fun e => by rcases e with e | e <;> omega)
       have bx6 := bx6.carryR hR0 (fun e => by rcases e with e | e <;> omega)
       refine thn_n ?_
       first
         | exact ⟨rfl, ys, xs, rfl, rfl, rfl, rfl, rfl, rfl, hB, ha, hb, (by rw [h21]; exact hb), (by rw [h21]; exact ha), bx3, bx4, bx6, bx7, bx8⟩
         | exact ⟨rfl, xs, ys, rfl, rfl, rfl, rfl, rfl, rfl, hB, ha, hb, (by rw [h21]; exact ha), (by rw [h21]; exact hb), bx3, bx4, bx6, bx7, bx8⟩
      ·have h21 := (not_f g21)
       refine W.skip ?_
       refine thn_n ?_
       first
         | exact ⟨rfl, ys, xs, rfl, rfl, rfl, rfl, rfl, rfl, hB, ha, hb, (by rw [h21]; exact hb), (by rw [h21]; exact ha), bx3, bx4, bx6, bx7, bx8⟩
         | exact ⟨rfl, xs, ys, rfl, rfl, rfl, rfl, rfl, rfl, hB, ha, hb, (by rw [h21]; exact ha), (by rw [h21]; exact hb), bx3, bx4, bx6, bx7, bx8⟩
     ·rintro D E w25 ⟨rfl, kc, oc, e2, e3, e4, e6, e7, e8, hB, ha, hb, hk, ho, bx3, bx4, bx6, bx7, bx8⟩
      rw [upd_self e2, upd_self e3, upd_self e4, upd_self e6, upd_self e7, upd_self e8]
      have hsz25 := hB.size
      have hl7 := bx7.lt
      have hl8 := bx8.lt
      obtain ⟨K, hKd⟩ : ∃ K, K = keepS up a b := ⟨_, rfl⟩
      obtain ⟨O, hOd⟩ : ∃ O, O = otherS up a b := ⟨_, rfl⟩
      rw [← hKd] at hk; rw [← hOd] at ho
      have hfK : K.allB fitsS = true ∧ K.size ≤ 400 := by rw [hKd]; unfold keepS; split; exact ⟨hfa, hMa⟩; exact ⟨hfb, hMb⟩
      have hfO : O.allB fitsS = true ∧ O.size ≤ 400 := by rw [hOd]; unfold otherS; split; exact ⟨hfb, hMb⟩; exact ⟨hfa, hMa⟩
      have hfsK : K.names = [] ∨ K.names.length = K.parts.length := (fits_names (allB_fit hfK.1)).imp id (·.1)
      have hfsO : O.names = [] ∨ O.names.length = O.parts.length := (fits_names (allB_fit hfO.1)).imp id (·.1)
      have hplK := parts_le K
      have hplO := parts_le O
      obtain ⟨vna, vpa, rfl, hna, hpa, -⟩ := id ha.inv
      obtain ⟨p, cap, rowa, rfl, p1, p2, p3, hra⟩ := hpa
      obtain ⟨pn, capn, rfl, n1, n2, n3, hLa, -⟩ := id hna
      obtain ⟨vnb, vpb, rfl, hnb, hpb, -⟩ := id hb.inv
      obtain ⟨q, capq, rowb, rfl, q1, q2, q3, hrb⟩ := hpb
      obtain ⟨qn, capqn, rfl, m1, m2, m3, hLb, -⟩ := id hnb
      obtain ⟨vnk, vpk, rfl, hnk, hpk, hofK, hnmK⟩ := id hk.inv
      obtain ⟨kp, ckp, rowk, rfl, k1, k2, k3, hrk⟩ := hpk
      obtain ⟨kn, ckn, rfl, -, -, -, -, -⟩ := id hnk
      obtain ⟨vno, vpo, rfl, hno, hpo, hofO, hnmO⟩ := id ho.inv
      obtain ⟨op, cop, rowo, rfl, o1, o2, o3, hro⟩ := hpo
      obtain ⟨on, con, rfl, on1, on2, on3, hLo, -⟩ := id hno
      refine W.seq ?_
      refine W.block ?_
      refine W.seq ?_
      refine W.region ?_
      refine L.val (x_fa kgrad5_fo25_0 rfl) rfl ?_
      refine L.val (x_ld (v := .int _ _) kgrad5_oc3 rfl (bx8.cell0 rfl)) rfl ?_
      refine L.val (x_eql rfl rfl) rfl ?_
      refine L.val (x_as (v := .bool _) rfl) rfl ?_
      refine L.nil ?_
      refine thn_n ?_
      refine W.cond (b := _) rfl (fun g27 => ?_) (fun g27 => ?_)
      ·have h27 := of_decide_eq_true g27
       refine W.seq ?_
       refine W.region ?_
       refine L.val (x_ldn (vs := _) kgrad5_ag25 rfl rfl (bx7.row rfl)) rfl ?_
       refine L.setRow kgrad5_ag25 rfl rfl bx6 rfl rfl hk.one (fun wl21 bx6 hw hzl21 => ?_)
       have hsz := hB.size
       have hB := hB.set hw (by omega); have hk := hk.carryR hw (fun j e => hM j (by have e : j = _ := e; omega)); have ho := ho.carryR hw (fun j e => hM j (by have e : j = _ := e; omega)); have bx3 := bx3.carryR hw (by omega); have bx4 := bx4.carryR hw (by omega); have bx7 := bx7.carryR hw (by omega); have bx8 := bx8.carryR hw (by omega); have hno := hno.carryR hw (fun j e => hM j (by have e : j = _ := e; omega)); have hro := hro.carryR hw (fun j e => hM j (by have e : j = _ := e; omega)); have hrk := hrk.carryR hw (fun j e => hM j (by have e : j = _ := e; omega)); have hra := hra.carryR hw (fun j e => hM j (by have e : j = _ := e; omega)); have hrb := hrb.carryR hw (fun j e => hM j (by have e : j = _ := e; omega))
       refine L.nil ?_
       refine thn_n ?_
       refine W.ret (blk_r (thn_r (finR_mk (.inr rfl) ?_)))
       refine ⟨_, resS rfl kgrad5_ag25 rfl bx6 rfl, _, rfl, ?_, hB⟩
       have e : witN (N + 1) up a b = K := by show witF (witN N) up a b = K; unfold witF; rw [← hOd, ← hKd, if_pos h27]
       rw [e]; exact hk.mono (fun k _ h => hRes k h)
      ·have h27 := of_decide_eq_false g27
       refine W.seq ?_
       refine W.region ?_
       refine L.val (x_fa kgrad5_fo25_0 rfl) rfl ?_
       refine L.val (x_ld (v := .int _ _) kgrad5_oc3 rfl (bx7.cell0 rfl)) rfl ?_
       refine L.val (x_eql rfl rfl) rfl ?_
       refine L.val (x_as (v := .bool _) rfl) rfl ?_
       refine L.nil ?_
       refine thn_n ?_
       refine W.cond (b := _) rfl (fun g32 => ?_) (fun g32 => ?_)
       ·have h32 := of_decide_eq_true g32
        refine W.seq ?_
        refine W.region ?_
        refine L.ret (x_call kgrad5_en137 rfl) rfl (unknown_ok _) ?_
        rintro _ w33 ⟨rfl, hw⟩
        have hB := hB.carry hw; have hk := hk.carry hw; have ho := ho.carry hw; have bx3 := bx3.carry hw; have bx4 := bx4.carry hw; have bx6 := bx6.carry hw; have bx7 := bx7.carry hw; have bx8 := bx8.carry hw; have hno := hno.carry hw; have hro := hro.carry hw; have hrk := hrk.carry hw; have hra := hra.carry hw; have hrb := hrb.carry hw
        refine L.setRow kgrad5_ag25 rfl rfl bx6 rfl rfl (by simp [Value.oneCell', S]) (fun wl27 bx6 hw hzl27 => ?_)
        have hsz := hB.size
        have hB := hB.set hw (by omega); have hk := hk.carryR hw (fun j e => hM j (by have e : j = _ := e; omega)); have ho := ho.carryR hw (fun j e => hM j (by have e : j = _ := e; omega)); have bx3 := bx3.carryR hw (by omega); have bx4 := bx4.carryR hw (by omega); have bx7 := bx7.carryR hw (by omega); have bx8 := bx8.carryR hw (by omega); have hno := hno.carryR hw (fun j e => hM j (by have e : j = _ := e; omega)); have hro := hro.carryR hw (fun j e => hM j (by have e : j = _ := e; omega)); have hrk := hrk.carryR hw (fun j e => hM j (by have e : j = _ := e; omega)); have hra := hra.carryR hw (fun j e => hM j (by have e : j = _ := e; omega)); have hrb := hrb.carryR hw (fun j e => hM j (by have e : j = _ := e; omega))
        refine L.nil ?_
        refine thn_n ?_
        refine W.ret (blk_r (thn_r (finR_mk (.inr rfl) ?_)))
        refine ⟨_, resS rfl kgrad5_ag25 rfl bx6 rfl, _, rfl, ?_, hB⟩
        have e : witN (N + 1) up a b = .mk 4 [] [] [] [] := by show witF (witN N) up a b = _; unfold witF; rw [← hOd, ← hKd, if_neg h27, if_pos h32]
        rw [e]; exact ShC.intro (StrsAt.nil _ _ _ _ (by simp)) (ShsAt.nil _ _ _ _ (by simp)) (by simp) (by simp)
       ·have h32 := of_decide_eq_false g32
        refine W.seq ?_
        refine W.region ?_
        refine L.val (x_fa kgrad5_fo25_3 rfl) rfl ?_
        refine L.val (x_ld (v := .slice _ _ _) kgrad5_oc22 rfl (bx3.cell0 rfl)) rfl ?_
        refine L.val (x_len_slice Try.underlying22 rfl) rfl ?_
        refine L.val (x_fa kgrad5_fo25_3 rfl) rfl ?_
        refine L.val (x_ld (v := .slice _ _ _) kgrad5_oc22 rfl (bx4.cell0 rfl)) rfl ?_
        refine L.val (x_len_slice Try.underlying22 rfl) rfl ?_
        refine L.val (x_add rfl rfl (wr64 (by omega))) rfl ?_
        refine L.val (x_gtr rfl rfl) rfl ?_
        refine L.val (x_as (v := .bool _) rfl) rfl ?_
        refine L.nil ?_
        refine thn_n ?_
        refine W.cond (b := _) rfl (fun g42 => ?_) (fun g42 => ?_)
        ·have h42 := of_decide_eq_true g42
         refine W.seq ?_
         refine W.region ?_
         have hnn : 0 < a.names.length + b.names.length := by omega
         have h4 : a.kind ≠ 4 ∧ b.kind ≠ 4 := by
           rw [hKd] at h32; rw [hOd] at h27
           unfold keepS at h32; unfold otherS at h27
           cases up <;> simp at h27 h32 <;> exact ⟨by assumption, by assumption⟩
         refine L.val (x_fa kgrad5_fo25_0 rfl) rfl ?_
         refine L.val (x_ld (v := .int _ _) kgrad5_oc3 rfl (bx3.cell0 rfl)) rfl ?_
         refine L.val (x_build (cells := [.int _ _, S _, S _, .slice _ _ _, .slice _ _ _]) kgrad5_si25 rfl rfl) rfl ?_
         refine L.alloc (cs := [Value.int .i64 0, S [], S [], Value.slice none 0 0, Value.slice none 0 0]) kgrad5_zr25 rfl rfl (fun w9 bx9 hw hz9 => ?_)
         have hB := hB.carry hw; have hk := hk.carry hw; have ho := ho.carry hw; have bx3 := bx3.carry hw; have bx4 := bx4.carry hw; have bx6 := bx6.carry hw; have bx7 := bx7.carry hw; have bx8 := bx8.carry hw; have hno := hno.carry hw; have hro := hro.carry hw; have hrk := hrk.carry hw
         refine L.setRow kgrad5_ag25 rfl rfl bx9 rfl rfl (by simp [Value.oneCell', S]) (fun wl41 bx9 hw hzl41 => ?_)
         have hsz := hB.size
         have hB := hB.set hw (by omega); have hk := hk.carryR hw (fun j e => hM j (by have e : j = _ := e; omega)); have ho := ho.carryR hw (fun j e => hM j (by have e : j = _ := e; omega)); have bx3 := bx3.carryR hw (by omega); have bx4 := bx4.carryR hw (by omega); have bx6 := bx6.carryR hw (by omega); have bx7 := bx7.carryR hw (by omega); have bx8 := bx8.carryR hw (by omega); have hno := hno.carryR hw (fun j e => hM j (by have e : j = _ := e; omega)); have hro := hro.carryR hw (fun j e => hM j (by have e : j = _ := e; omega)); have hrk := hrk.carryR hw (fun j e => hM j (by have e : j = _ := e; omega))
         obtain ⟨b9, hb9⟩ : ∃ b9, b9 = w25.heap.size := ⟨_, rfl⟩
         rw [← hb9] at bx9 ⊢
         obtain ⟨base, hbase⟩ : ∃ base, base = wl41.heap.size := ⟨_, rfl⟩
         have z5 : b7 < b9 ∧ b8 < b9 ∧ b9 < base := by have e : wl41.heap.size = w9.heap.size := hzl41; omega
         have hG : Ge base wl41 := by rw [hbase]; exact Nat.le_refl _
         clear hbase hb9
         refine L.nil ?_
         refine thn_n ?_
         refine W.seq ?_
         refine W.seq ?_
         refine W.region ?_
         refine L.val (x_fa kgrad5_fo25_3 rfl) rfl ?_
         refine L.val (x_ld (v := .slice _ _ _) kgrad5_oc22 rfl (bx8.cell0 rfl)) rfl ?_
         refine L.val (x_len_slice Try.underlying22 rfl) rfl ?_
         refine L.val (x_mv (v := .int _ _) rfl) rfl ?_
         refine L.nil ?_
         refine thn_n ?_
         refine W.block ?_
         refine W.loop (fun m' E w' => ∃ (i : Nat) (vN vP : Value), m' = O.names.length - i ∧ E 2 = .bool up ∧ E 3 = .pointer (some ⟨w.heap.size, 0, none⟩) ∧ E 4 = .pointer (some ⟨b4, 0, none⟩) ∧ E 6 = .pointer (some ⟨b6, 0, none⟩) ∧ E 7 = .pointer (some ⟨b7, 0, none⟩) ∧ E 8 = .pointer (some ⟨b8, 0, none⟩) ∧ E 9 = .pointer (some ⟨b9, 0, none⟩) ∧ E 47 = .slice on O.names.length con ∧ E 48 = .int .i64 (O.names.length : Nat) ∧ E 49 = .int .i64 (i : Nat) ∧ (Bel w w') ∧ (ShC M w' [.int .i64 K.kind, S K.of, S K.name, .slice kn K.names.length ckn, .slice kp K.parts.length ckp] K) ∧ (StrsAt M w' (.slice on O.names.length con) O.names) ∧ (ShRow M w' op rowo O.parts) ∧ (ShRow M w' kp rowk K.parts) ∧ (Box w' b6 25 [.int .i64 0, S [], S [], .slice none 0 0, .slice none 0 0]) ∧ (Box w' b7 25 [.int .i64 K.kind, S K.of, S K.name, .slice kn K.names.length ckn, .slice kp K.parts.length ckp]) ∧ (Box w' b8 25 [.int .i64 O.kind, S O.of, S O.name, .slice on O.names.length con, .slice op O.parts.length cop]) ∧ (Box w' b9 25 [.int .i64 a.kind, S [], S [], vN, vP]) ∧ (Ge base w') ∧ (i ≤ O.names.length) ∧ (Own w' base 9 1 vN i ((O.names.take i).map S)) ∧ (ShsOwn (AvC M w.heap.size base w' vN vP) w' base 25 vP ((List.range i).map (witP (witN N) up K O)))) (O.names.length) ?_ ?_
         ·exact ⟨0, .slice none 0 0, .slice none 0 0, by omega, by first | rfl | exact vi (by omega), by first | rfl | exact vi (by omega), by first | rfl | exact vi (by omega), by first | rfl | exact vi (by omega), by first | rfl | exact vi (by omega), by first | rfl | exact vi (by omega), by first | rfl | exact vi (by omega), by first | rfl | exact vi (by omega), by first | rfl | exact vi (by omega), by first | rfl | exact vi (by omega), (by first | assumption | omega | rfl), (by first | assumption | omega | rfl), (by first | assumption | omega | rfl), (by first | assumption | omega | rfl), (by first | assumption | omega | rfl), (by first | assumption | omega | rfl), (by first | assumption | omega | rfl), (by first | assumption | omega | rfl), (by first | assumption | omega | rfl), (by first | assumption | omega | rfl), (by first | assumption | omega | rfl), (by exact own_nil), (by exact ShsOwn.nil)⟩
         ·rintro _ E wL50 ⟨i, vN, vP, em, e2, e3, e4, e6, e7, e8, e9, e47, e48, e49, hB, hk, hno, hro, hrk, bx6, bx7, bx8, bx9, hG, hi, hN, hP⟩
          rw [upd_self e2, upd_self e3, upd_self e4, upd_self e6, upd_self e7, upd_self e8, upd_self e9, upd_self e47, upd_self e48, upd_self e49]
          refine W.seq ?_
          refine W.region ?_
          refine L.val (x_lss rfl rfl) rfl ?_
          refine L.nil ?_
          refine thn_n ?_
          refine W.seq ?_
          refine W.cond (b := _) rfl (fun g50 => ?_) (fun g50 => ?_)
          ·have h50 := of_decide_eq_true g50
           have hlt : i < O.names.length := by omega
           have hip : i < O.parts.length := by rcases hfsO with e | e; rw [e] at hlt; simp at hlt; omega
           obtain ⟨nb, no, rfl, hcn⟩ := hno.elem hlt
           obtain ⟨ob, oo, rfl, -⟩ := hro.elem hip
           obtain ⟨aN, cN, rfl, hcN⟩ := own_shape hN
           obtain ⟨xsP, hPo⟩ := hP.own
           obtain ⟨aP, cP, rfl, hcP⟩ := own_shape hPo
           clear hPo xsP
           obtain ⟨nq, hnq⟩ : ∃ nq, nq = wL50.heap.size := ⟨_, rfl⟩
           have hGq : Ge nq wL50 := by rw [hnq]; exact Nat.le_refl _
           have hqb : base ≤ nq := by rw [hnq]; exact hG
           have hqN : ∀ j, some j = (Value.slice aN i cN).ownBlock → j < nq := fun j h => by rw [hnq]; exact (Own.lt hN h).2
           have hqP : ∀ j, some j = (Value.slice aP ((List.range i).map (witP (witN N) up K O)).length cP).ownBlock → j < nq := fun j h => by rw [hnq]; exact (hP.lt h).2
           have hloN : ∀ j, some j = (Value.slice aN i cN).ownBlock → base ≤ j := fun j h => (Own.lt hN h).1
           have hloP : ∀ j, some j = (Value.slice aP ((List.range i).map (witP (witN N) up K O)).length cP).ownBlock → base ≤ j := fun j h => (hP.lt h).1
           have hPl : ((List.range i).map (witP (witN N) up K O)).length = i := by simp
           have hmof : ∀ (W : World), w.heap.size ≤ W.heap.size → ∀ k, AvC M w.heap.size base W (.slice aN i cN) (.slice aP ((List.range i).map (witP (witN N) up K O)).length cP) k → M k := fun W hW k h => by
             rcases h with h | h | h | h | h
             · exact h.2
             · exact hM k h.1
             · exact hM k (by have := hloN k h; omega)
             · exact hM k (by have := hloP k h; omega)
             · exact hM k (by omega)
           refine W.skip ?_
           refine thn_n ?_
           refine W.cut (fun D' E' w' => D' = [] ∧ ∃ vN vP : Value, E' 2 = .bool up ∧ E' 3 = .pointer (some ⟨w.heap.size, 0, none⟩) ∧ E' 4 = .pointer (some ⟨b4, 0, none⟩) ∧ E' 6 = .pointer (some ⟨b6, 0, none⟩) ∧ E' 7 = .pointer (some ⟨b7, 0, none⟩) ∧ E' 8 = .pointer (some ⟨b8, 0, none⟩) ∧ E' 9 = .pointer (some ⟨b9, 0, none⟩) ∧ E' 47 = .slice (some ⟨nb, no, none⟩) O.names.length con ∧ E' 48 = .int .i64 (O.names.length : Nat) ∧ E' 49 = .int .i64 (i : Nat) ∧ i + 1 ≤ O.names.length ∧ Bel w w' ∧ ShC M w' [.int .i64 K.kind, S K.of, S K.name, .slice kn K.names.length ckn, .slice kp K.parts.length ckp] K ∧ StrsAt M w' (.slice (some ⟨nb, no, none⟩) O.names.length con) O.names ∧ ShRow M w' (some ⟨ob, oo, none⟩) rowo O.parts ∧ ShRow M w' kp rowk K.parts ∧ Box w' b6 25 [.int .i64 0, S [], S [], .slice none 0 0, .slice none 0 0] ∧ Box w' b7 25 [.int .i64 K.kind, S K.of, S K.name, .slice kn K.names.length ckn, .slice kp K.parts.length ckp] ∧ Box w' b8 25 [.int .i64 O.kind, S O.of, S O.name, .slice (some ⟨nb, no, none⟩) O.names.length con, .slice (some ⟨ob, oo, none⟩) O.parts.length cop] ∧ Box w' b9 25 [.int .i64 a.kind, S [], S [], vN, vP] ∧ Ge base w' ∧ Own w' base 9 1 vN (i + 1) ((O.names.take (i + 1)).map S) ∧ ShsOwn (AvC M w.heap.size base w' vN vP) w' base 25 vP ((List.range (i + 1)).map (witP (witN N) up K O))) ?_ ?_
           ·refine W.block ?_
            refine W.seq ?_
            refine W.region ?_
            refine L.val (x_mv (v := .int _ _) rfl) rfl ?_
            refine L.val (x_ia1 (j := i) Try.underlying22 kgrad5_sz9 rfl rfl (by omega) (by omega)) rfl ?_
            refine L.val (x_ld (v := S _) kgrad5_oc9 rfl hcn) rfl ?_
            refine L.val (x_as (v := .int _ _) rfl) rfl ?_
            refine L.val (x_as (v := S _) rfl) rfl ?_
            refine L.nil ?_
            refine thn_n ?_
            refine W.seq ?_
            refine W.region ?_
            refine L.val (x_fa kgrad5_fo25_4 rfl) rfl ?_
            refine L.val (x_ld (v := .slice _ _ _) kgrad5_oc23 rfl (bx8.cell0 rfl)) rfl ?_
            refine L.val (x_mv (v := .int _ _) rfl) rfl ?_
            refine L.val (x_ia (j := i) Try.underlying23 kgrad5_sz25 rfl rfl (by omega) (by omega)) rfl ?_
            refine L.val (x_ldn (vs := rowo i) kgrad5_ag25 rfl (hro.five i hip) (hro.elemAt hip)) rfl ?_
            refine L.alloc (cs := [Value.int .i64 0, S [], S [], Value.slice none 0 0, Value.slice none 0 0]) kgrad5_zr25 rfl rfl (fun w12 bx12 hw hz12 => ?_)
            have hB := hB.carry hw; have hk := hk.carry hw; have hno := hno.carry hw; have hro := hro.carry hw; have hrk := hrk.carry hw; have bx6 := bx6.carry hw; have bx7 := bx7.carry hw; have bx8 := bx8.carry hw; have bx9 := bx9.carry hw; have hG := hG.carry hw; have hGq := hGq.carry hw; have hN := hN.carry hw; have hP := hP.carry hw
            rw [← hnq] at bx12 ⊢
            refine L.setRow kgrad5_ag25 rfl rfl bx12 rfl (hro.five i hip) (hro.each i hip).one (fun wl58 bx12 hw hzl58 => ?_)
            have hsz := hB.size
            have hB := hB.set hw (by omega); have hk := hk.carryR hw (fun j e => hM j (by have e : j = _ := e; omega)); have hno := hno.carryR hw (fun j e => hM j (by have e : j = _ := e; omega)); have hro := hro.carryR hw (fun j e => hM j (by have e : j = _ := e; omega)); have hrk := hrk.carryR hw (fun j e => hM j (by have e : j = _ := e; omega)); have bx6 := bx6.carryR hw (by omega); have bx7 := bx7.carryR hw (by omega); have bx8 := bx8.carryR hw (by omega); have bx9 := bx9.carryR hw (by omega); have hG := hG.carryR hw; have hGq := hGq.carryR hw; have hN := Own.carryR hN hw (fun j hj e => by have e : j = _ := e; have h1 := (Own.lt hN hj).1; first | omega | (have h2 := hqN j hj; omega)); have hP := hP.carryA (A' := _) hw (fun j hj e => by have e : j = _ := e; have h1 := (hP.lt hj).1; first | omega | (have h2 := hqP j hj; omega)) (fun j e => by have e : j = _ := e; first | exact .inr (.inl (by omega)) | exact .inr (.inr (.inr (.inr (by omega))))) (fun _ h => h)
            refine L.nil ?_
            refine thn_n ?_
            refine W.cut (fun D' E' w' => D' = [] ∧ ∃ pc : List Value, E' 2 = .bool up ∧ E' 3 = .pointer (some ⟨w.heap.size, 0, none⟩) ∧ E' 4 = .pointer (some ⟨b4, 0, none⟩) ∧ E' 6 = .pointer (some ⟨b6, 0, none⟩) ∧ E' 7 = .pointer (some ⟨b7, 0, none⟩) ∧ E' 8 = .pointer (some ⟨b8, 0, none⟩) ∧ E' 9 = .pointer (some ⟨b9, 0, none⟩) ∧ E' 11 = S (O.names.getD i []) ∧ E' 12 = .pointer (some ⟨nq, 0, none⟩) ∧ E' 47 = .slice (some ⟨nb, no, none⟩) O.names.length con ∧ E' 48 = .int .i64 (O.names.length : Nat) ∧ E' 49 = .int .i64 (i : Nat) ∧ Bel w w' ∧ ShC M w' [.int .i64 K.kind, S K.of, S K.name, .slice kn K.names.length ckn, .slice kp K.parts.length ckp] K ∧ StrsAt M w' (.slice (some ⟨nb, no, none⟩) O.names.length con) O.names ∧ ShRow M w' (some ⟨ob, oo, none⟩) rowo O.parts ∧ ShRow M w' kp rowk K.parts ∧ Box w' b6 25 [.int .i64 0, S [], S [], .slice none 0 0, .slice none 0 0] ∧ Box w' b7 25 [.int .i64 K.kind, S K.of, S K.name, .slice kn K.names.length ckn, .slice kp K.parts.length ckp] ∧ Box w' b8 25 [.int .i64 O.kind, S O.of, S O.name, .slice (some ⟨nb, no, none⟩) O.names.length con, .slice (some ⟨ob, oo, none⟩) O.parts.length cop] ∧ Box w' b9 25 [.int .i64 a.kind, S [], S [], (.slice aN i cN), (.slice aP ((List.range i).map (witP (witN N) up K O)).length cP)] ∧ Ge base w' ∧ Own w' base 9 1 (.slice aN i cN) i ((O.names.take i).map S) ∧ ShsOwn (AvC M w.heap.size base wL50 (.slice aN i cN) (.slice aP ((List.range i).map (witP (witN N) up K O)).length cP)) w' base 25 (.slice aP ((List.range i).map (witP (witN N) up K O)).length cP) ((List.range i).map (witP (witN N) up K O)) ∧ Ge nq w' ∧ Box w' nq 25 pc ∧ ShC (AvC M w.heap.size base w' (.slice aN i cN) (.slice aP ((List.range i).map (witP (witN N) up K O)).length cP)) w' pc (witP (witN N) up K O i)) ?_ ?_
            ·refine W.seq ?_
             refine W.region ?_
             refine L.val (x_ldn (vs := _) kgrad5_ag25 rfl rfl (bx7.row rfl)) rfl ?_
             refine L.val (x_mv (v := S _) rfl) rfl ?_
             refine L.ret (x_call kgrad5_en109 rfl) rfl (find_ok M K _ _ kp ckp _ hk hfsK) ?_
             rintro v61 w61 ⟨hf, hw⟩
             have hB := hB.carry hw; have hk := hk.carry hw; have hno := hno.carry hw; have hro := hro.carry hw; have hrk := hrk.carry hw; have bx6 := bx6.carry hw; have bx7 := bx7.carry hw; have bx8 := bx8.carry hw; have bx9 := bx9.carry hw; have hG := hG.carry hw; have hGq := hGq.carry hw; have hN := hN.carry hw; have hP := hP.carry hw; have bx12 := bx12.carry hw
             obtain ⟨qv, rfl, hq⟩ : ∃ qv, v61 = .pointer qv ∧ ((K.names.length ≤ idxS (O.names.getD i []) K.names ∧ qv = none) ∨ (idxS (O.names.getD i []) K.names < K.names.length ∧ ∃ bb oo, kp = some ⟨bb, oo, none⟩ ∧ qv = some ⟨bb, oo + idxS (O.names.getD i []) K.names * 5, none⟩)) := by
               rcases hf with ⟨h1, h2⟩ | ⟨h1, b', o', h2, h3⟩
               · exact ⟨none, h2, .inl ⟨h1, rfl⟩⟩
               · exact ⟨_, h3, .inr ⟨h1, _, _, h2, rfl⟩⟩
             refine L.val (x_as (v := .pointer _) rfl) rfl ?_
             refine L.nil ?_
             refine thn_n ?_
             refine W.seq ?_
             refine W.region ?_
             refine L.val (x_mv (v := .pointer _) rfl) rfl ?_
             refine L.val (x_nep Try.underlying108 rfl rfl) rfl ?_
             refine L.nil ?_
             refine thn_n ?_
             refine W.cond (b := _) rfl (fun g63 => ?_) (fun g63 => ?_)
             ·have h63 := g63
              obtain ⟨h1, bb, oo2, hqe, rfl⟩ := hq.resolve_left (fun h => by rw [h.2] at h63; cases h63)
              subst hqe
              have hjp : idxS (O.names.getD i []) K.names < K.parts.length := by rcases hfsK with e | e; rw [e] at h1; simp at h1; omega
              have hnM := hrk.avoid hjp
              have hnp := near_pair (up := up) hnear h4.1 h4.2 (allB_fit hfa) (allB_fit hfb) (i := i) (by rw [← hOd]; exact hlt) (by rw [← hOd, ← hKd]; exact h1)
              rw [← hOd, ← hKd] at hnp
              have hwp : witP (witN N) up K O i = witN N up (keepS up (K.parts.getD (idxS (O.names.getD i []) K.names) default) (O.parts.getD i default)) (otherS up (K.parts.getD (idxS (O.names.getD i []) K.names) default) (O.parts.getD i default)) := by unfold witP; rw [if_pos h1]
              have hKO : SizeOf.sizeOf K + SizeOf.sizeOf O = SizeOf.sizeOf a + SizeOf.sizeOf b := by rw [hKd, hOd]; unfold keepS otherS; split <;> omega
              have hIK := ih up (keepS up (K.parts.getD (idxS (O.names.getD i []) K.names) default) (O.parts.getD i default)) (otherS up (K.parts.getD (idxS (O.names.getD i []) K.names) default) (O.parts.getD i default)) (by have := Sh.part_lt hjp; have := Sh.part_lt hip; unfold keepS otherS; split <;> omega) (by have := Sh.part_size hjp; have := Sh.part_size hip; have := hfK.2; have := hfO.2; unfold keepS; split <;> omega) (by have := Sh.part_size hjp; have := Sh.part_size hip; have := hfK.2; have := hfO.2; unfold otherS; split <;> omega) (by unfold keepS; split; exact allL_getD (allB_part hfK.1) hjp; exact allL_getD (allB_part hfO.1) hip) (by unfold otherS; split; exact allL_getD (allB_part hfO.1) hip; exact allL_getD (allB_part hfK.1) hjp) hnp
              refine W.cut (fun D' E' w' => D' = [] ∧ ∃ b14 b15 : Nat, E' 2 = .bool up ∧ E' 3 = .pointer (some ⟨w.heap.size, 0, none⟩) ∧ E' 4 = .pointer (some ⟨b4, 0, none⟩) ∧ E' 6 = .pointer (some ⟨b6, 0, none⟩) ∧ E' 7 = .pointer (some ⟨b7, 0, none⟩) ∧ E' 8 = .pointer (some ⟨b8, 0, none⟩) ∧ E' 9 = .pointer (some ⟨b9, 0, none⟩) ∧ E' 11 = S (O.names.getD i []) ∧ E' 12 = .pointer (some ⟨nq, 0, none⟩) ∧ E' 13 = .pointer (some ⟨bb, oo2 + idxS (O.names.getD i []) K.names * 5, none⟩) ∧ E' 14 = .pointer (some ⟨b14, 0, none⟩) ∧ E' 15 = .pointer (some ⟨b15, 0, none⟩) ∧ E' 47 = .slice (some ⟨nb, no, none⟩) O.names.length con ∧ E' 48 = .int .i64 (O.names.length : Nat) ∧ E' 49 = .int .i64 (i : Nat) ∧ b14 ≠ b15 ∧ nq < b14 ∧ nq < b15 ∧ Bel w w' ∧ ShC M w' [.int .i64 K.kind, S K.of, S K.name, .slice kn K.names.length ckn, .slice (some ⟨bb, oo2, none⟩) K.parts.length ckp] K ∧ StrsAt M w' (.slice (some ⟨nb, no, none⟩) O.names.length con) O.names ∧ ShRow M w' (some ⟨ob, oo, none⟩) rowo O.parts ∧ ShRow M w' (some ⟨bb, oo2, none⟩) rowk K.parts ∧ Box w' b6 25 [.int .i64 0, S [], S [], .slice none 0 0, .slice none 0 0] ∧ Box w' b7 25 [.int .i64 K.kind, S K.of, S K.name, .slice kn K.names.length ckn, .slice (some ⟨bb, oo2, none⟩) K.parts.length ckp] ∧ Box w' b8 25 [.int .i64 O.kind, S O.of, S O.name, .slice (some ⟨nb, no, none⟩) O.names.length con, .slice (some ⟨ob, oo, none⟩) O.parts.length cop] ∧ Box w' b9 25 [.int .i64 a.kind, S [], S [], (.slice aN i cN), (.slice aP ((List.range i).map (witP (witN N) up K O)).length cP)] ∧ Ge base w' ∧ Own w' base 9 1 (.slice aN i cN) i ((O.names.take i).map S) ∧ ShsOwn (AvC M w.heap.size base wL50 (.slice aN i cN) (.slice aP ((List.range i).map (witP (witN N) up K O)).length cP)) w' base 25 (.slice aP ((List.range i).map (witP (witN N) up K O)).length cP) ((List.range i).map (witP (witN N) up K O)) ∧ Ge nq w' ∧ Box w' nq 25 (rowo i) ∧ Box w' b14 25 (rowk (idxS (O.names.getD i []) K.names)) ∧ Box w' b15 25 (rowo i)) ?_ ?_
              ·refine W.drawF 8 kgrad5_mixed (fun wF64 hB0 => ?_)
               have hx12 := bx12.lt
               refine LAC.takeN (i := 0) rfl (by kernel_rfl) (by kernel_rfl) (by kernel_rfl) (by kernel_rfl) (fun w hw => x_mv (v := .pointer _) rfl) rfl ?_
               refine LAC.takeN (i := 1) rfl (by kernel_rfl) (by kernel_rfl) (by kernel_rfl) (by kernel_rfl) (fun w hw => x_nil rfl) rfl ?_
               refine LAC.takeN (i := 2) rfl (by kernel_rfl) (by kernel_rfl) (by kernel_rfl) (by kernel_rfl) (fun w hw => x_ldn (vs := rowk (idxS (O.names.getD i []) K.names)) kgrad5_ag25 rfl (hrk.five _ hjp) (hw.keepRow (hrk.five _ hjp) (hrk.elemAt hjp))) rfl ?_
               refine LAC.takeN (i := 3) rfl (by kernel_rfl) (by kernel_rfl) (by kernel_rfl) (by kernel_rfl) (fun w hw => x_ldn (vs := rowo i) kgrad5_ag25 rfl (hro.five i hip) (hw.keepRow (hro.five i hip) (bx12.row (hro.five i hip)))) rfl ?_
               refine LAC.step (rs := [4, 5]) (fun _ => hB0) (by kernel_rfl) (by simp) ⟨⟨_, rfl, ?_⟩, ⟨_, rfl, ?_⟩, trivial⟩
               ·have hs14 := hB0.size
                refine L.alloc (cs := [Value.int .i64 0, S [], S [], Value.slice none 0 0, Value.slice none 0 0]) kgrad5_zr25 rfl rfl (fun w14 bx14 hw hz14 => ?_)
                have hB0 := hB0.carry hw
                refine L.nil ?_
                refine thn_n ?_
                refine LAC.step (rs := [5]) (fun _ => hB0) (by kernel_rfl) (by simp) ⟨⟨_, rfl, ?_⟩, trivial⟩
                have hs15 := hB0.size
                refine L.alloc (cs := [Value.int .i64 0, S [], S [], Value.slice none 0 0, Value.slice none 0 0]) kgrad5_zr25 rfl rfl (fun w15 bx15 hw hz15 => ?_)
                have hB0 := hB0.carry hw; have bx14 := bx14.carry hw
                refine L.nil ?_
                refine thn_n ?_
                refine LAC.step (rs := [6]) (fun _ => hB0) (by kernel_rfl) (by simp) ⟨⟨_, rfl, ?_⟩, trivial⟩
                refine L.setRow kgrad5_ag25 rfl rfl bx14 rfl (hrk.five _ hjp) (hrk.each _ hjp).one (fun wl71 bx14 hw hzl71 => ?_)
                have hB0 := hB0.set hw (by omega); have bx15 := bx15.carryR hw (by omega)
                refine L.nil ?_
                refine thn_n ?_
                refine LAC.step (rs := [7]) (fun _ => hB0) (by kernel_rfl) (by simp) ⟨⟨_, rfl, ?_⟩, trivial⟩
                refine L.setRow kgrad5_ag25 rfl rfl bx15 rfl (hro.five i hip) (hro.each i hip).one (fun wl72 bx15 hw hzl72 => ?_)
                have hB0 := hB0.set hw (by omega); have bx14 := bx14.carryR hw (by omega)
                refine L.nil ?_
                refine thn_n ?_
                refine LAC.doneF (by kernel_rfl) hB0 ?_
                have hB := hB.carry hB0; have hk := hk.carry hB0; have hno := hno.carry hB0; have hro := hro.carry hB0; have hrk := hrk.carry hB0; have bx6 := bx6.carry hB0; have bx7 := bx7.carry hB0; have bx8 := bx8.carry hB0; have bx9 := bx9.carry hB0; have hG := hG.carry hB0; have hGq := hGq.carry hB0; have hN := hN.carry hB0; have hP := hP.carry hB0; have bx12 := bx12.carry hB0
                refine thn_n ?_
                exact ⟨rfl, _, _, rfl, rfl, rfl, rfl, rfl, rfl, rfl, rfl, rfl, rfl, rfl, rfl, rfl, rfl, rfl, by omega, by omega, by omega, hB, hk, hno, hro, hrk, bx6, bx7, bx8, bx9, hG, hN, hP, hGq, bx12, bx14, bx15⟩
               ·have hs15 := hB0.size
                refine L.alloc (cs := [Value.int .i64 0, S [], S [], Value.slice none 0 0, Value.slice none 0 0]) kgrad5_zr25 rfl rfl (fun w15 bx15 hw hz15 => ?_)
                have hB0 := hB0.carry hw
                refine L.nil ?_
                refine thn_n ?_
                refine LAC.step (rs := [4]) (fun _ => hB0) (by kernel_rfl) (by simp) ⟨⟨_, rfl, ?_⟩, trivial⟩
                have hs14 := hB0.size
                refine L.alloc (cs := [Value.int .i64 0, S [], S [], Value.slice none 0 0, Value.slice none 0 0]) kgrad5_zr25 rfl rfl (fun w14 bx14 hw hz14 => ?_)
                have hB0 := hB0.carry hw; have bx15 := bx15.carry hw
                refine L.nil ?_
                refine thn_n ?_
                refine LAC.step (rs := [6]) (fun _ => hB0) (by kernel_rfl) (by simp) ⟨⟨_, rfl, ?_⟩, trivial⟩
                refine L.setRow kgrad5_ag25 rfl rfl bx14 rfl (hrk.five _ hjp) (hrk.each _ hjp).one (fun wl71 bx14 hw hzl71 => ?_)
                have hB0 := hB0.set hw (by omega); have bx15 := bx15.carryR hw (by omega)
                refine L.nil ?_
                refine thn_n ?_
                refine LAC.step (rs := [7]) (fun _ => hB0) (by kernel_rfl) (by simp) ⟨⟨_, rfl, ?_⟩, trivial⟩
                refine L.setRow kgrad5_ag25 rfl rfl bx15 rfl (hro.five i hip) (hro.each i hip).one (fun wl72 bx15 hw hzl72 => ?_)
                have hB0 := hB0.set hw (by omega); have bx14 := bx14.carryR hw (by omega)
                refine L.nil ?_
                refine thn_n ?_
                refine LAC.doneF (by kernel_rfl) hB0 ?_
                have hB := hB.carry hB0; have hk := hk.carry hB0; have hno := hno.carry hB0; have hro := hro.carry hB0; have hrk := hrk.carry hB0; have bx6 := bx6.carry hB0; have bx7 := bx7.carry hB0; have bx8 := bx8.carry hB0; have bx9 := bx9.carry hB0; have hG := hG.carry hB0; have hGq := hGq.carry hB0; have hN := hN.carry hB0; have hP := hP.carry hB0; have bx12 := bx12.carry hB0
                refine thn_n ?_
                exact ⟨rfl, _, _, rfl, rfl, rfl, rfl, rfl, rfl, rfl, rfl, rfl, rfl, rfl, rfl, rfl, rfl, rfl, by omega, by omega, by omega, hB, hk, hno, hro, hrk, bx6, bx7, bx8, bx9, hG, hN, hP, hGq, bx12, bx14, bx15⟩
              ·rintro D E w68 ⟨rfl, b14, b15, e2, e3, e4, e6, e7, e8, e9, e11, e12, e13, e14, e15, e47, e48, e49, z6, z7, z8, hB, hk, hno, hro, hrk, bx6, bx7, bx8, bx9, hG, hN, hP, hGq, bx12, bx14, bx15⟩
               rw [upd_self e2, upd_self e3, upd_self e4, upd_self e6, upd_self e7, upd_self e8, upd_self e9, upd_self e11, upd_self e12, upd_self e13, upd_self e14, upd_self e15, upd_self e47, upd_self e48, upd_self e49]
               refine W.cut (fun D' E' w' => D' = [] ∧ ∃ c14 c15 : List Value, E' 2 = .bool up ∧ E' 3 = .pointer (some ⟨w.heap.size, 0, none⟩) ∧ E' 4 = .pointer (some ⟨b4, 0, none⟩) ∧ E' 6 = .pointer (some ⟨b6, 0, none⟩) ∧ E' 7 = .pointer (some ⟨b7, 0, none⟩) ∧ E' 8 = .pointer (some ⟨b8, 0, none⟩) ∧ E' 9 = .pointer (some ⟨b9, 0, none⟩) ∧ E' 11 = S (O.names.getD i []) ∧ E' 12 = .pointer (some ⟨nq, 0, none⟩) ∧ E' 14 = .pointer (some ⟨b14, 0, none⟩) ∧ E' 15 = .pointer (some ⟨b15, 0, none⟩) ∧ E' 47 = .slice (some ⟨nb, no, none⟩) O.names.length con ∧ E' 48 = .int .i64 (O.names.length : Nat) ∧ E' 49 = .int .i64 (i : Nat) ∧ Bel w w' ∧ ShC M w' [.int .i64 K.kind, S K.of, S K.name, .slice kn K.names.length ckn, .slice (some ⟨bb, oo2, none⟩) K.parts.length ckp] K ∧ StrsAt M w' (.slice (some ⟨nb, no, none⟩) O.names.length con) O.names ∧ ShRow M w' (some ⟨ob, oo, none⟩) rowo O.parts ∧ ShRow M w' (some ⟨bb, oo2, none⟩) rowk K.parts ∧ Box w' b6 25 [.int .i64 0, S [], S [], .slice none 0 0, .slice none 0 0] ∧ Box w' b7 25 [.int .i64 K.kind, S K.of, S K.name, .slice kn K.names.length ckn, .slice (some ⟨bb, oo2, none⟩) K.parts.length ckp] ∧ Box w' b8 25 [.int .i64 O.kind, S O.of, S O.name, .slice (some ⟨nb, no, none⟩) O.names.length con, .slice (some ⟨ob, oo, none⟩) O.parts.length cop] ∧ Box w' b9 25 [.int .i64 a.kind, S [], S [], (.slice aN i cN), (.slice aP ((List.range i).map (witP (witN N) up K O)).length cP)] ∧ Ge base w' ∧ Own w' base 9 1 (.slice aN i cN) i ((O.names.take i).map S) ∧ ShsOwn (AvC M w.heap.size base wL50 (.slice aN i cN) (.slice aP ((List.range i).map (witP (witN N) up K O)).length cP)) w' base 25 (.slice aP ((List.range i).map (witP (witN N) up K O)).length cP) ((List.range i).map (witP (witN N) up K O)) ∧ Ge nq w' ∧ Box w' nq 25 (rowo i) ∧ ShC M w' c14 (keepS up (K.parts.getD (idxS (O.names.getD i []) K.names) default) (O.parts.getD i default)) ∧ ShC M w' c15 (otherS up (K.parts.getD (idxS (O.names.getD i []) K.names) default) (O.parts.getD i default)) ∧ Box w' b14 25 c14 ∧ Box w' b15 25 c15) ?_ ?_
               ·refine W.seq ?_
                refine W.region ?_
                refine L.val (x_mv (v := .bool _) rfl) rfl ?_
                refine L.val (x_not rfl) rfl ?_
                refine L.nil ?_
                refine thn_n ?_
                refine W.cond (b := _) rfl (fun g69 => ?_) (fun g69 => ?_)
                ·have h69 := (not_t g69)
                 refine W.drawD (fun k => k = b14 ∨ k = b15) (fun _ => False) 4 kgrad5_mixed (fun wD70 hw => ?_)
                 have hB := hB.carry hw; have hk := hk.carry hw; have hno := hno.carry hw; have hro := hro.carry hw; have hrk := hrk.carry hw; have bx6 := bx6.carry hw; have bx7 := bx7.carry hw; have bx8 := bx8.carry hw; have bx9 := bx9.carry hw; have hG := hG.carry hw; have hGq := hGq.carry hw; have hN := hN.carry hw; have hP := hP.carry hw; have bx12 := bx12.carry hw; have bx14 := bx14.carry hw; have bx15 := bx15.carry hw
                 have hB0 := Gr.refl (fun _ => False) wD70; have hR0 := Gr.refl (fun k => k = b14 ∨ k = b15) wD70
                 refine LAD.take0 (i := 0) rfl (by kernel_rfl) (by kernel_rfl) (by kernel_rfl) (by kernel_rfl) (fun w hw => x_ldn (vs := rowo i) kgrad5_ag25 rfl (hro.five i hip) (hw.keepRowR (by rintro (e | e) <;> (have e : (_ : Nat) = _ := e; (try dsimp only at e); first | omega | exact hnM (hM _ (by omega)))) (hro.five i hip) (bx12.row (hro.five i hip)))) rfl ?_
                 refine LAD.take0 (i := 1) rfl (by kernel_rfl) (by kernel_rfl) (by kernel_rfl) (by kernel_rfl) (fun w hw => x_mv (v := .pointer _) rfl) rfl ?_
                 refine LAD.take0 (i := 2) rfl (by kernel_rfl) (by kernel_rfl) (by kernel_rfl) (by kernel_rfl) (fun w hw => x_nil rfl) rfl ?_
                 refine LAD.take0 (i := 3) rfl (by kernel_rfl) (by kernel_rfl) (by kernel_rfl) (by kernel_rfl) (fun w hw => x_ldn (vs := rowk (idxS (O.names.getD i []) K.names)) kgrad5_ag25 rfl (hrk.five _ hjp) (hw.keepRowR (by rintro (e | e) <;> (have e : (_ : Nat) = _ := e; (try dsimp only at e); first | omega | exact hnM (hM _ (by omega)))) (hrk.five _ hjp) (hrk.elemAt hjp))) rfl ?_
                 refine LAD.step (rs := [4]) hR0 (fun _ => hB0) (by kernel_rfl) (by simp) ⟨⟨_, rfl, ?_⟩, trivial⟩
                 refine L.setRow kgrad5_ag25 rfl rfl bx14 (hrk.five _ hjp) (hro.five i hip) (hro.each i hip).one (fun wl79 bx14 hw hzl79 => ?_)
                 have hR0 := hR0.into hw (by first | exact .inl rfl | exact .inr rfl); have bx15 := bx15.carryR hw (by omega)
                 refine L.nil ?_
                 refine thn_n ?_
                 refine LAD.step' (rs := [5]) hR0 (by kernel_rfl) (by kernel_rfl) (by simp) ⟨⟨_, rfl, ?_⟩, trivial⟩
                 refine L.setRow kgrad5_ag25 rfl rfl bx15 (hro.five i hip) (hrk.five _ hjp) (hrk.each _ hjp).one (fun wl80 bx15 hw hzl80 => ?_)
                 have hR0 := hR0.into hw (by first | exact .inl rfl | exact .inr rfl); have bx14 := bx14.carryR hw (by omega)
                 refine L.nil ?_
                 refine thn_n ?_
                 refine LAD.done (by kernel_rfl) (by kernel_rfl) hR0 ?_
                 have hB := hB.step hR0 (fun i hi e => by rcases e with e | e <;> omega)
                 have hk := hk.carryR hR0 (fun k e => hM k (by rcases e with e | e <;> omega))
                 have hno := hno.carryR hR0 (fun k e => hM k (by rcases e with e | e <;> omega))
                 have hro := hro.carryR hR0 (fun k e => hM k (by rcases e with e | e <;> omega))
                 have hrk := hrk.carryR hR0 (fun k e => hM k (by rcases e with e | e <;> omega))
                 have bx6 := bx6.carryR hR0 (fun e => by rcases e with e | e <;> omega)
                 have bx7 := bx7.carryR hR0 (fun e => by rcases e with e | e <;> omega)
                 have bx8 := bx8.carryR hR0 (fun e => by rcases e with e | e <;> omega)
                 have bx9 := bx9.carryR hR0 (fun e => by rcases e with e | e <;> omega)
                 have hG := hG.carryR hR0
                 have hGq := hGq.carryR hR0
                 have hN := Own.carryR hN hR0 (fun j hj e => by have h2 := hqN j hj; rcases e with e | e <;> omega)
                 have hP := hP.carryA (A' := _) hR0 (fun j hj e => by have h2 := hqP j hj; rcases e with e | e <;> omega) (fun j e => .inr (.inr (.inr (.inr (by rw [← hnq]; rcases e with e | e <;> omega))))) (fun _ h => h)
                 have bx12 := bx12.carryR hR0 (fun e => by rcases e with e | e <;> omega)
                 refine thn_n ?_
                 first
                   | exact ⟨rfl, rowo i, rowk _, rfl, rfl, rfl, rfl, rfl, rfl, rfl, rfl, rfl, rfl, rfl, rfl, rfl, rfl, hB, hk, hno, hro, hrk, bx6, bx7, bx8, bx9, hG, hN, hP, hGq, bx12, (by rw [h69]; exact hro.each i hip), (by rw [h69]; exact hrk.each _ hjp), bx14, bx15⟩
                   | exact ⟨rfl, rowk _, rowo i, rfl, rfl, rfl, rfl, rfl, rfl, rfl, rfl, rfl, rfl, rfl, rfl, rfl, rfl, hB, hk, hno, hro, hrk, bx6, bx7, bx8, bx9, hG, hN, hP, hGq, bx12, (by rw [h69]; exact hrk.each _ hjp), (by rw [h69]; exact hro.each i hip), bx14, bx15⟩
                ·have h69 := (not_f g69)
                 refine W.skip ?_
                 refine thn_n ?_
                 first
                   | exact ⟨rfl, rowo i, rowk _, rfl, rfl, rfl, rfl, rfl, rfl, rfl, rfl, rfl, rfl, rfl, rfl, rfl, rfl, hB, hk, hno, hro, hrk, bx6, bx7, bx8, bx9, hG, hN, hP, hGq, bx12, (by rw [h69]; exact hro.each i hip), (by rw [h69]; exact hrk.each _ hjp), bx14, bx15⟩
                   | exact ⟨rfl, rowk _, rowo i, rfl, rfl, rfl, rfl, rfl, rfl, rfl, rfl, rfl, rfl, rfl, rfl, rfl, rfl, hB, hk, hno, hro, hrk, bx6, bx7, bx8, bx9, hG, hN, hP, hGq, bx12, (by rw [h69]; exact hrk.each _ hjp), (by rw [h69]; exact hro.each i hip), bx14, bx15⟩
               ·rintro D E w74 ⟨rfl, c14, c15, e2, e3, e4, e6, e7, e8, e9, e11, e12, e14, e15, e47, e48, e49, hB, hk, hno, hro, hrk, bx6, bx7, bx8, bx9, hG, hN, hP, hGq, bx12, h14, h15, bx14, bx15⟩
                rw [upd_self e2, upd_self e3, upd_self e4, upd_self e6, upd_self e7, upd_self e8, upd_self e9, upd_self e11, upd_self e12, upd_self e14, upd_self e15, upd_self e47, upd_self e48, upd_self e49]
                refine W.region ?_
                refine L.val (x_ldn (vs := c14) kgrad5_ag25 rfl h14.len (bx14.row h14.len)) rfl ?_
                refine L.val (x_ldn (vs := c15) kgrad5_ag25 rfl h15.len (bx15.row h15.len)) rfl ?_
                refine L.val (x_mv (v := .bool _) rfl) rfl ?_
                have hx12 := bx12.lt
                have hG0 : base ≤ w74.heap.size := hG
                have hGq0 : nq ≤ w74.heap.size := hGq
                refine L.ret (x_call kgrad5_en113 rfl) rfl (hIK M M c14 c15 _ h14 h15) ?_
                rintro _ w77 ⟨cs77, rfl, ht, hw⟩
                have hB := hB.carry hw; have hk := hk.carry hw; have hno := hno.carry hw; have hro := hro.carry hw; have hrk := hrk.carry hw; have bx6 := bx6.carry hw; have bx7 := bx7.carry hw; have bx8 := bx8.carry hw; have bx9 := bx9.carry hw; have hG := hG.carry hw; have hGq := hGq.carry hw; have hN := hN.carry hw; have hP := hP.carry hw; have bx12 := bx12.carry hw
                have ht : ShC (fun k => AvC M w.heap.size base w77 (.slice aN i cN) (.slice aP ((List.range i).map (witP (witN N) up K O)).length cP) k ∨ k = nq) w77 cs77 (witP (witN N) up K O i) := by
                  rw [hwp]
                  refine ht.up.mono (fun j _ h => ?_)
                  have h9 : base ≤ w74.heap.size := hG0
                  have h8 : nq ≤ w74.heap.size := hGq0
                  rcases h with h | h
                  have h7 := hmof w77 hB.size j h
                  rcases h with h | h | h | h | h
                  · exact .inl ⟨by omega, h7, h7⟩
                  · exact .inl ⟨by omega, h7, h7⟩
                  · exact .inl ⟨by have := hqN j h; omega, h7, h7⟩
                  · exact .inl ⟨by have := hqP j h; omega, h7, h7⟩
                  · exact .inr h
                  · exact .inl ⟨by omega, hM j (by omega), hM j (by omega)⟩
                have hGt : Ge w77.heap.size w77 := Nat.le_refl _
                refine L.setRow kgrad5_ag25 rfl rfl bx12 (hro.five i hip) ht.len ht.one (fun wl85 bx12 hw hzl85 => ?_)
                have hsz := hB.size
                have hB := hB.set hw (by omega); have hk := hk.carryR hw (fun j e => hM j (by have e : j = _ := e; omega)); have hno := hno.carryR hw (fun j e => hM j (by have e : j = _ := e; omega)); have hro := hro.carryR hw (fun j e => hM j (by have e : j = _ := e; omega)); have hrk := hrk.carryR hw (fun j e => hM j (by have e : j = _ := e; omega)); have bx6 := bx6.carryR hw (by omega); have bx7 := bx7.carryR hw (by omega); have bx8 := bx8.carryR hw (by omega); have bx9 := bx9.carryR hw (by omega); have hG := hG.carryR hw; have hGq := hGq.carryR hw; have hN := Own.carryR hN hw (fun j hj e => by have e : j = _ := e; have h1 := (Own.lt hN hj).1; first | omega | (have h2 := hqN j hj; omega)); have hP := hP.carryA (A' := _) hw (fun j hj e => by have e : j = _ := e; have h1 := (hP.lt hj).1; first | omega | (have h2 := hqP j hj; omega)) (fun j e => by have e : j = _ := e; first | exact .inr (.inl (by omega)) | exact .inr (.inr (.inr (.inr (by omega))))) (fun _ h => h); have ht := ht.carryR hw (fun j e => by have e : j = _ := e; first | exact .inr (.inl (by omega)) | exact .inr e); have hGt := hGt.carryR hw
                have hpc := ht.mono (A' := AvC M w.heap.size base wl85 (.slice aN i cN) (.slice aP ((List.range i).map (witP (witN N) up K O)).length cP)) (fun j _ h => .inl (avc_mono hGt h))
                refine L.nil ?_
                refine thn_n ?_
                exact ⟨rfl, _, rfl, rfl, rfl, rfl, rfl, rfl, rfl, rfl, rfl, rfl, rfl, rfl, hB, hk, hno, hro, hrk, bx6, bx7, bx8, bx9, hG, hN, hP, hGq, bx12, hpc⟩
             ·have h63 := g63
              have hpc : ShC (AvC M w.heap.size base w61 (.slice aN i cN) (.slice aP ((List.range i).map (witP (witN N) up K O)).length cP)) w61 (rowo i) (witP (witN N) up K O i) := by
                have e : witP (witN N) up K O i = O.parts.getD i default := by
                  unfold witP
                  rw [if_neg (by rcases hq with ⟨h1, -⟩ | ⟨_, _, _, _, h⟩; omega; rw [h] at h63; cases h63)]
                rw [e]; exact (hro.each i hip).mono (fun k _ h => hmof _ hB.size k h)
              refine W.skip ?_
              refine thn_n ?_
              exact ⟨rfl, _, rfl, rfl, rfl, rfl, rfl, rfl, rfl, rfl, rfl, rfl, rfl, rfl, hB, hk, hno, hro, hrk, bx6, bx7, bx8, bx9, hG, hN, hP, hGq, bx12, hpc⟩
            ·rintro D E w78 ⟨rfl, pc, e2, e3, e4, e6, e7, e8, e9, e11, e12, e47, e48, e49, hB, hk, hno, hro, hrk, bx6, bx7, bx8, bx9, hG, hN, hP, hGq, bx12, hpc⟩
             rw [upd_self e2, upd_self e3, upd_self e4, upd_self e6, upd_self e7, upd_self e8, upd_self e9, upd_self e11, upd_self e12, upd_self e47, upd_self e48, upd_self e49]
             obtain ⟨rows, r1, r2, r3, r4⟩ := hP
             refine W.drawD (fun k => k = b9 ∨ some k = (Value.slice aN i cN).ownBlock ∨ some k = (Value.slice aP ((List.range i).map (witP (witN N) up K O)).length cP).ownBlock) (fun k => some k = (Value.slice aN i cN).ownBlock ∨ some k = (Value.slice aP ((List.range i).map (witP (witN N) up K O)).length cP).ownBlock) 11 kgrad5_mixed (fun wD78 hw => ?_)
             have hB := hB.carry hw; have hk := hk.carry hw; have hno := hno.carry hw; have hro := hro.carry hw; have hrk := hrk.carry hw; have bx6 := bx6.carry hw; have bx7 := bx7.carry hw; have bx8 := bx8.carry hw; have bx9 := bx9.carry hw; have bx12 := bx12.carry hw; have hG := hG.carry hw; have hGq := hGq.carry hw; have hN := hN.carry hw; have r2 := r2.carry hw; have hpc := hpc.carry hw
             have hB0 := Gr.refl (fun k => some k = (Value.slice aN i cN).ownBlock ∨ some k = (Value.slice aP ((List.range i).map (witP (witN N) up K O)).length cP).ownBlock) wD78; have hR0 := Gr.refl (fun k => k = b9 ∨ some k = (Value.slice aN i cN).ownBlock ∨ some k = (Value.slice aP ((List.range i).map (witP (witN N) up K O)).length cP).ownBlock) wD78
             have hBD := hw
             have hGD : base ≤ wD78.heap.size := hG
             have hqD : nq ≤ wD78.heap.size := hGq
             refine LAD.take0 (i := 0) rfl (by kernel_rfl) (by kernel_rfl) (by kernel_rfl) (by kernel_rfl) (fun w hw => x_fa kgrad5_fo25_3 rfl) rfl ?_
             refine LAD.take1 (i := 1) rfl (by kernel_rfl) (by kernel_rfl) (by kernel_rfl) (by kernel_rfl) (by kernel_rfl) (by kernel_rfl) (fun w hw => x_ld (v := .slice _ _ _) kgrad5_oc22 rfl (hw.keepR (fun e => by rcases e with e | e; (have := hloN _ e; (try dsimp only at this); omega); (have := hloP _ e; (try dsimp only at this); omega)) (bx9.cell0 rfl))) rfl ?_
             refine LAD.take0 (i := 2) rfl (by kernel_rfl) (by kernel_rfl) (by kernel_rfl) (by kernel_rfl) (fun w hw => x_mv (v := S _) rfl) rfl ?_
             refine LAD.take0 (i := 5) rfl (by kernel_rfl) (by kernel_rfl) (by kernel_rfl) (by kernel_rfl) (fun w hw => x_fa kgrad5_fo25_4 rfl) rfl ?_
             refine LAD.take1 (i := 6) rfl (by kernel_rfl) (by kernel_rfl) (by kernel_rfl) (by kernel_rfl) (by kernel_rfl) (by kernel_rfl) (fun w hw => x_ld (v := .slice _ _ _) kgrad5_oc23 rfl (hw.keepR (fun e => by rcases e with e | e; (have := hloN _ e; (try dsimp only at this); omega); (have := hloP _ e; (try dsimp only at this); omega)) (bx9.cell0 rfl))) rfl ?_
             refine LAD.take0 (i := 7) rfl (by kernel_rfl) (by kernel_rfl) (by kernel_rfl) (by kernel_rfl) (fun w hw => x_ldn (vs := pc) kgrad5_ag25 rfl hpc.len (hw.keepRowR (by rintro (e | e | e); (have e : (_ : Nat) = _ := e; (try dsimp only at e); omega); (have := hqN _ e; (try dsimp only at this); omega); (have := hqP _ e; (try dsimp only at this); omega)) hpc.len (bx12.row hpc.len))) rfl ?_
             refine LAD.step (rs := [3, 8]) hR0 (fun _ => hB0) (by kernel_rfl) (by simp) ⟨⟨_, rfl, ?_⟩, ⟨_, rfl, ?_⟩, trivial⟩
             ·have hs81 := hR0.size
              refine L.bs (sz := 1) (cells := [S (O.names.getD i [])]) Try.underlying22 kgrad5_el9 rfl rfl rfl rfl (fun w81 bx81 hw hz81 => ?_)
              have hB0 := hB0.carry hw; have hR0 := hR0.carry hw; have bx9 := bx9.carry hw; have hN := hN.carry hw; have r2 := r2.carry hw
              refine L.nil ?_
              refine thn_n ?_
              refine LAD.step (rs := [4, 8]) hR0 (fun _ => hB0) (by kernel_rfl) (by simp) ⟨⟨_, rfl, ?_⟩, ⟨_, rfl, ?_⟩, trivial⟩
              ·refine L.append (m := 1) Try.underlying22 kgrad5_el9 rfl rfl rfl hN rfl bx81.news (by simp [Value.oneCell', S]) (by omega) (Nat.le_trans hGD hR0.size) (fun v82 w82 hO82 hg hiff82 hob82 => ?_)
               obtain ⟨g82, c82, rfl⟩ := own_form hO82
               have hav82 : (Value.slice (some ⟨g82, 0, none⟩) (i + 1) c82).ownBlock = (Value.slice aN i cN).ownBlock ∨ ∀ k, some k = (Value.slice (some ⟨g82, 0, none⟩) (i + 1) c82).ownBlock → wD78.heap.size ≤ k :=
                 hob82.imp id (fun h k e => by have e2 := Option.some.inj (e.trans h); have h9 := hR0.size; omega)
               have bx9 := bx9.carryR hg (fun e => by have := hloN _ e; omega)
               try have bx86 := bx86.carryR hg (fun e => by have := hqN _ e; omega)
               have r2 := Own.carryR r2 hg (fun j hj hj' => own_ne r2 hN rfl hj hj')
               have hB0 := hB0.intoR hg (fun k e => .inl e)
               have hR0 := hR0.intoR hg (fun k e => .inr (.inl e))
               refine L.nil ?_
               refine thn_n ?_
               refine LAD.take0 (i := 10) rfl (by kernel_rfl) (by kernel_rfl) (by kernel_rfl) (by kernel_rfl) (fun w hw => x_fa kgrad5_fo25_3 rfl) rfl ?_
               refine LAD.step (rs := [8]) hR0 (fun _ => hB0) (by kernel_rfl) (by simp) ⟨⟨_, rfl, ?_⟩, trivial⟩
               have hs86 := hR0.size
               refine L.bs (sz := 5) (cells := pc) Try.underlying23 kgrad5_el25 rfl (by show (partsOk 5 0 [(0, Value.agg pc.toArray)] && decide ([((0 : Nat), Value.agg pc.toArray)].length = 1) && decide (0 < 1) && decide (1 * 5 ≤ 16777216)) = true; simp [partsOk, hpc.len, Value.cells]) (by show ([((0 : Nat), Value.agg pc.toArray)].map fun x => x.2.cells.toList).flatten = pc; simp [Value.cells]) rfl (fun w86 bx86 hw hz86 => ?_)
               have hB0 := hB0.carry hw; have hR0 := hR0.carry hw; have bx9 := bx9.carry hw; have r2 := r2.carry hw; have hO82 := hO82.carry hw
               refine L.nil ?_
               refine thn_n ?_
               refine LAD.step (rs := [9]) hR0 (fun _ => hB0) (by kernel_rfl) (by simp) ⟨⟨_, rfl, ?_⟩, trivial⟩
               refine L.append (m := 1) Try.underlying23 kgrad5_el25 rfl rfl rfl r2 hpc.len bx86.news (ShC.one hpc) (by omega) (Nat.le_trans hGD hR0.size) (fun v87 w87 hO87 hg hiff87 hob87 => ?_)
               obtain ⟨g87, c87, rfl⟩ := own_form hO87
               have hav87 : (Value.slice (some ⟨g87, 0, none⟩) (((List.range i).map (witP (witN N) up K O)).length + 1) c87).ownBlock = (Value.slice aP ((List.range i).map (witP (witN N) up K O)).length cP).ownBlock ∨ ∀ k, some k = (Value.slice (some ⟨g87, 0, none⟩) (((List.range i).map (witP (witN N) up K O)).length + 1) c87).ownBlock → wD78.heap.size ≤ k :=
                 hob87.imp id (fun h k e => by have e2 := Option.some.inj (e.trans h); have h9 := hR0.size; omega)
               have bx9 := bx9.carryR hg (fun e => by have := hloP _ e; omega)
               have hO82 := Own.carryR hO82 hg (fun j hj hj' => own_ne hO82 r2 rfl hj hj')
               try have hB0 := hB0.intoR hg (fun k e => .inr e)
               have hR0 := hR0.intoR hg (fun k e => .inr (.inr e))
               refine L.nil ?_
               refine thn_n ?_
               refine LAD.step (rs := [11]) hR0 (fun _ => hB0) (by kernel_rfl) (by simp) ⟨⟨_, rfl, ?_⟩, trivial⟩
               refine L.set (v := .slice _ _ _) kgrad5_sz22 rfl rfl rfl bx9 rfl (fun wl97 bx9 hw hzl97 => ?_)
               have hR0 := hR0.into hw (by first | exact .inl rfl | exact .inr rfl); have hO82 := Own.carryR hO82 hw (fun j hj e => by have e : j = _ := e; have h1 := (Own.lt hO82 hj).1; omega); have hO87 := Own.carryR hO87 hw (fun j hj e => by have e : j = _ := e; have h1 := (Own.lt hO87 hj).1; omega)
               refine L.nil ?_
               refine thn_n ?_
               refine LAD.take0 (i := 12) rfl (by kernel_rfl) (by kernel_rfl) (by kernel_rfl) (by kernel_rfl) (fun w hw => x_fa kgrad5_fo25_4 rfl) rfl ?_
               refine LAD.step' (rs := [13]) hR0 (by kernel_rfl) (by kernel_rfl) (by simp) ⟨⟨_, rfl, ?_⟩, trivial⟩
               refine L.set (v := .slice _ _ _) kgrad5_sz23 rfl rfl rfl bx9 rfl (fun wl99 bx9 hw hzl99 => ?_)
               have hR0 := hR0.into hw (by first | exact .inl rfl | exact .inr rfl); have hO82 := Own.carryR hO82 hw (fun j hj e => by have e : j = _ := e; have h1 := (Own.lt hO82 hj).1; omega); have hO87 := Own.carryR hO87 hw (fun j hj e => by have e : j = _ := e; have h1 := (Own.lt hO87 hj).1; omega)
               refine L.nil ?_
               refine thn_n ?_
               refine LAD.done (by kernel_rfl) (by kernel_rfl) hR0 ?_
               have hB := hB.step hR0 (fun i hi e => by rcases e with e | e | e; (have e : (_ : Nat) = _ := e; omega); (have h8 := hloN _ e; have h9 := hqN _ e; omega); (have h8 := hloP _ e; have h9 := hqP _ e; omega))
               have hk := hk.carryR hR0 (fun k e => hM k (by rcases e with e | e | e; (have e : (_ : Nat) = _ := e; omega); (have h8 := hloN _ e; have h9 := hqN _ e; omega); (have h8 := hloP _ e; have h9 := hqP _ e; omega)))
               have hno := hno.carryR hR0 (fun k e => hM k (by rcases e with e | e | e; (have e : (_ : Nat) = _ := e; omega); (have h8 := hloN _ e; have h9 := hqN _ e; omega); (have h8 := hloP _ e; have h9 := hqP _ e; omega)))
               have hro := hro.carryR hR0 (fun k e => hM k (by rcases e with e | e | e; (have e : (_ : Nat) = _ := e; omega); (have h8 := hloN _ e; have h9 := hqN _ e; omega); (have h8 := hloP _ e; have h9 := hqP _ e; omega)))
               have hrk := hrk.carryR hR0 (fun k e => hM k (by rcases e with e | e | e; (have e : (_ : Nat) = _ := e; omega); (have h8 := hloN _ e; have h9 := hqN _ e; omega); (have h8 := hloP _ e; have h9 := hqP _ e; omega)))
               have bx6 := bx6.carryR hR0 (fun e => by rcases e with e | e | e; (have e : (_ : Nat) = _ := e; omega); (have h8 := hloN _ e; have h9 := hqN _ e; omega); (have h8 := hloP _ e; have h9 := hqP _ e; omega))
               have bx7 := bx7.carryR hR0 (fun e => by rcases e with e | e | e; (have e : (_ : Nat) = _ := e; omega); (have h8 := hloN _ e; have h9 := hqN _ e; omega); (have h8 := hloP _ e; have h9 := hqP _ e; omega))
               have bx8 := bx8.carryR hR0 (fun e => by rcases e with e | e | e; (have e : (_ : Nat) = _ := e; omega); (have h8 := hloN _ e; have h9 := hqN _ e; omega); (have h8 := hloP _ e; have h9 := hqP _ e; omega))
               have bx12 := bx12.carryR hR0 (fun e => by rcases e with e | e | e; (have e : (_ : Nat) = _ := e; omega); (have h8 := hloN _ e; have h9 := hqN _ e; omega); (have h8 := hloP _ e; have h9 := hqP _ e; omega))
               have hG := hG.carryR hR0
               have hGq := hGq.carryR hR0
               have hpc := hpc.carryR hR0 (fun k e => by rcases e with e | e | e; exact .inr (.inl (by omega)); exact .inr (.inr (.inl e)); exact .inr (.inr (.inr (.inl e))))
               refine blk_n ?_
               refine thn_n ?_
               exact ⟨rfl, _, _, rfl, rfl, rfl, rfl, rfl, rfl, rfl, rfl, rfl, rfl, hlt, hB, hk, hno, hro, hrk, bx6, bx7, bx8, bx9, hG, (by
                   rw [List.take_succ_eq_append_getElem hlt, List.map_append]
                   simpa [List.getD_eq_getElem?_getD, hlt] using hO82), (by
                   rw [map_range_succ]
                   have hsz9 := hBD.size
                   exact ShsOwn.snocW r1 r3 r4 (hpc.mono (fun j _ h => avc_step (Nat.le_trans hsz9 hR0.size) (hav82.imp id (fun h k e => Nat.le_trans hsz9 (h k e))) (hav87.imp id (fun h k e => Nat.le_trans hsz9 (h k e))) h)) hO87 ((hBD.mono (fun _ _ f => f.elim)).trans hR0) (fun j e => by
                       rcases e with e | e | e
                       · exact .inr (.inl (by omega))
                       · exact .inr (.inr (.inl e))
                       · exact .inr (.inr (.inr (.inl e)))) (fun j h => avc_step (by have h9 : nq ≤ wD78.heap.size := hqD; have := hR0.size; omega) (hav82.imp id (fun h k e => by have := h k e; omega)) (hav87.imp id (fun h k e => by have := h k e; omega)) h))⟩
              ·have hs86 := hR0.size
               refine L.bs (sz := 5) (cells := pc) Try.underlying23 kgrad5_el25 rfl (by show (partsOk 5 0 [(0, Value.agg pc.toArray)] && decide ([((0 : Nat), Value.agg pc.toArray)].length = 1) && decide (0 < 1) && decide (1 * 5 ≤ 16777216)) = true; simp [partsOk, hpc.len, Value.cells]) (by show ([((0 : Nat), Value.agg pc.toArray)].map fun x => x.2.cells.toList).flatten = pc; simp [Value.cells]) rfl (fun w86 bx86 hw hz86 => ?_)
               have hB0 := hB0.carry hw; have hR0 := hR0.carry hw; have bx9 := bx9.carry hw; have hN := hN.carry hw; have r2 := r2.carry hw; have bx81 := bx81.carry hw
               refine L.nil ?_
               refine thn_n ?_
               refine LAD.step (rs := [4]) hR0 (fun _ => hB0) (by kernel_rfl) (by simp) ⟨⟨_, rfl, ?_⟩, trivial⟩
               refine L.append (m := 1) Try.underlying22 kgrad5_el9 rfl rfl rfl hN rfl bx81.news (by simp [Value.oneCell', S]) (by omega) (Nat.le_trans hGD hR0.size) (fun v82 w82 hO82 hg hiff82 hob82 => ?_)
               obtain ⟨g82, c82, rfl⟩ := own_form hO82
               have hav82 : (Value.slice (some ⟨g82, 0, none⟩) (i + 1) c82).ownBlock = (Value.slice aN i cN).ownBlock ∨ ∀ k, some k = (Value.slice (some ⟨g82, 0, none⟩) (i + 1) c82).ownBlock → wD78.heap.size ≤ k :=
                 hob82.imp id (fun h k e => by have e2 := Option.some.inj (e.trans h); have h9 := hR0.size; omega)
               have bx9 := bx9.carryR hg (fun e => by have := hloN _ e; omega)
               try have bx86 := bx86.carryR hg (fun e => by have := hqN _ e; omega)
               have r2 := Own.carryR r2 hg (fun j hj hj' => own_ne r2 hN rfl hj hj')
               have hB0 := hB0.intoR hg (fun k e => .inl e)
               have hR0 := hR0.intoR hg (fun k e => .inr (.inl e))
               refine L.nil ?_
               refine thn_n ?_
               refine LAD.take0 (i := 10) rfl (by kernel_rfl) (by kernel_rfl) (by kernel_rfl) (by kernel_rfl) (fun w hw => x_fa kgrad5_fo25_3 rfl) rfl ?_
               refine LAD.step (rs := [9]) hR0 (fun _ => hB0) (by kernel_rfl) (by simp) ⟨⟨_, rfl, ?_⟩, trivial⟩
               refine L.append (m := 1) Try.underlying23 kgrad5_el25 rfl rfl rfl r2 hpc.len bx86.news (ShC.one hpc) (by omega) (Nat.le_trans hGD hR0.size) (fun v87 w87 hO87 hg hiff87 hob87 => ?_)
               obtain ⟨g87, c87, rfl⟩ := own_form hO87
               have hav87 : (Value.slice (some ⟨g87, 0, none⟩) (((List.range i).map (witP (witN N) up K O)).length + 1) c87).ownBlock = (Value.slice aP ((List.range i).map (witP (witN N) up K O)).length cP).ownBlock ∨ ∀ k, some k = (Value.slice (some ⟨g87, 0, none⟩) (((List.range i).map (witP (witN N) up K O)).length + 1) c87).ownBlock → wD78.heap.size ≤ k :=
                 hob87.imp id (fun h k e => by have e2 := Option.some.inj (e.trans h); have h9 := hR0.size; omega)
               have bx9 := bx9.carryR hg (fun e => by have := hloP _ e; omega)
               have hO82 := Own.carryR hO82 hg (fun j hj hj' => own_ne hO82 r2 rfl hj hj')
               try have hB0 := hB0.intoR hg (fun k e => .inr e)
               have hR0 := hR0.intoR hg (fun k e => .inr (.inr e))
               refine L.nil ?_
               refine thn_n ?_
               refine LAD.step (rs := [11]) hR0 (fun _ => hB0) (by kernel_rfl) (by simp) ⟨⟨_, rfl, ?_⟩, trivial⟩
               refine L.set (v := .slice _ _ _) kgrad5_sz22 rfl rfl rfl bx9 rfl (fun wl97 bx9 hw hzl97 => ?_)
               have hR0 := hR0.into hw (by first | exact .inl rfl | exact .inr rfl); have hO82 := Own.carryR hO82 hw (fun j hj e => by have e : j = _ := e; have h1 := (Own.lt hO82 hj).1; omega); have hO87 := Own.carryR hO87 hw (fun j hj e => by have e : j = _ := e; have h1 := (Own.lt hO87 hj).1; omega)
               refine L.nil ?_
               refine thn_n ?_
               refine LAD.take0 (i := 12) rfl (by kernel_rfl) (by kernel_rfl) (by kernel_rfl) (by kernel_rfl) (fun w hw => x_fa kgrad5_fo25_4 rfl) rfl ?_
               refine LAD.step' (rs := [13]) hR0 (by kernel_rfl) (by kernel_rfl) (by simp) ⟨⟨_, rfl, ?_⟩, trivial⟩
               refine L.set (v := .slice _ _ _) kgrad5_sz23 rfl rfl rfl bx9 rfl (fun wl99 bx9 hw hzl99 => ?_)
               have hR0 := hR0.into hw (by first | exact .inl rfl | exact .inr rfl); have hO82 := Own.carryR hO82 hw (fun j hj e => by have e : j = _ := e; have h1 := (Own.lt hO82 hj).1; omega); have hO87 := Own.carryR hO87 hw (fun j hj e => by have e : j = _ := e; have h1 := (Own.lt hO87 hj).1; omega)
               refine L.nil ?_
               refine thn_n ?_
               refine LAD.done (by kernel_rfl) (by kernel_rfl) hR0 ?_
               have hB := hB.step hR0 (fun i hi e => by rcases e with e | e | e; (have e : (_ : Nat) = _ := e; omega); (have h8 := hloN _ e; have h9 := hqN _ e; omega); (have h8 := hloP _ e; have h9 := hqP _ e; omega))
               have hk := hk.carryR hR0 (fun k e => hM k (by rcases e with e | e | e; (have e : (_ : Nat) = _ := e; omega); (have h8 := hloN _ e; have h9 := hqN _ e; omega); (have h8 := hloP _ e; have h9 := hqP _ e; omega)))
               have hno := hno.carryR hR0 (fun k e => hM k (by rcases e with e | e | e; (have e : (_ : Nat) = _ := e; omega); (have h8 := hloN _ e; have h9 := hqN _ e; omega); (have h8 := hloP _ e; have h9 := hqP _ e; omega)))
               have hro := hro.carryR hR0 (fun k e => hM k (by rcases e with e | e | e; (have e : (_ : Nat) = _ := e; omega); (have h8 := hloN _ e; have h9 := hqN _ e; omega); (have h8 := hloP _ e; have h9 := hqP _ e; omega)))
               have hrk := hrk.carryR hR0 (fun k e => hM k (by rcases e with e | e | e; (have e : (_ : Nat) = _ := e; omega); (have h8 := hloN _ e; have h9 := hqN _ e; omega); (have h8 := hloP _ e; have h9 := hqP _ e; omega)))
               have bx6 := bx6.carryR hR0 (fun e => by rcases e with e | e | e; (have e : (_ : Nat) = _ := e; omega); (have h8 := hloN _ e; have h9 := hqN _ e; omega); (have h8 := hloP _ e; have h9 := hqP _ e; omega))
               have bx7 := bx7.carryR hR0 (fun e => by rcases e with e | e | e; (have e : (_ : Nat) = _ := e; omega); (have h8 := hloN _ e; have h9 := hqN _ e; omega); (have h8 := hloP _ e; have h9 := hqP _ e; omega))
               have bx8 := bx8.carryR hR0 (fun e => by rcases e with e | e | e; (have e : (_ : Nat) = _ := e; omega); (have h8 := hloN _ e; have h9 := hqN _ e; omega); (have h8 := hloP _ e; have h9 := hqP _ e; omega))
               have bx12 := bx12.carryR hR0 (fun e => by rcases e with e | e | e; (have e : (_ : Nat) = _ := e; omega); (have h8 := hloN _ e; have h9 := hqN _ e; omega); (have h8 := hloP _ e; have h9 := hqP _ e; omega))
               have hG := hG.carryR hR0
               have hGq := hGq.carryR hR0
               have hpc := hpc.carryR hR0 (fun k e => by rcases e with e | e | e; exact .inr (.inl (by omega)); exact .inr (.inr (.inl e)); exact .inr (.inr (.inr (.inl e))))
               refine blk_n ?_
               refine thn_n ?_
               exact ⟨rfl, _, _, rfl, rfl, rfl, rfl, rfl, rfl, rfl, rfl, rfl, rfl, hlt, hB, hk, hno, hro, hrk, bx6, bx7, bx8, bx9, hG, (by
                   rw [List.take_succ_eq_append_getElem hlt, List.map_append]
                   simpa [List.getD_eq_getElem?_getD, hlt] using hO82), (by
                   rw [map_range_succ]
                   have hsz9 := hBD.size
                   exact ShsOwn.snocW r1 r3 r4 (hpc.mono (fun j _ h => avc_step (Nat.le_trans hsz9 hR0.size) (hav82.imp id (fun h k e => Nat.le_trans hsz9 (h k e))) (hav87.imp id (fun h k e => Nat.le_trans hsz9 (h k e))) h)) hO87 ((hBD.mono (fun _ _ f => f.elim)).trans hR0) (fun j e => by
                       rcases e with e | e | e
                       · exact .inr (.inl (by omega))
                       · exact .inr (.inr (.inl e))
                       · exact .inr (.inr (.inr (.inl e)))) (fun j h => avc_step (by have h9 : nq ≤ wD78.heap.size := hqD; have := hR0.size; omega) (hav82.imp id (fun h k e => by have := h k e; omega)) (hav87.imp id (fun h k e => by have := h k e; omega)) h))⟩
             ·have hs86 := hR0.size
              refine L.bs (sz := 5) (cells := pc) Try.underlying23 kgrad5_el25 rfl (by show (partsOk 5 0 [(0, Value.agg pc.toArray)] && decide ([((0 : Nat), Value.agg pc.toArray)].length = 1) && decide (0 < 1) && decide (1 * 5 ≤ 16777216)) = true; simp [partsOk, hpc.len, Value.cells]) (by show ([((0 : Nat), Value.agg pc.toArray)].map fun x => x.2.cells.toList).flatten = pc; simp [Value.cells]) rfl (fun w86 bx86 hw hz86 => ?_)
              have hB0 := hB0.carry hw; have hR0 := hR0.carry hw; have bx9 := bx9.carry hw; have hN := hN.carry hw; have r2 := r2.carry hw
              refine L.nil ?_
              refine thn_n ?_
              refine LAD.step (rs := [3]) hR0 (fun _ => hB0) (by kernel_rfl) (by simp) ⟨⟨_, rfl, ?_⟩, trivial⟩
              have hs81 := hR0.size
              refine L.bs (sz := 1) (cells := [S (O.names.getD i [])]) Try.underlying22 kgrad5_el9 rfl rfl rfl rfl (fun w81 bx81 hw hz81 => ?_)
              have hB0 := hB0.carry hw; have hR0 := hR0.carry hw; have bx9 := bx9.carry hw; have hN := hN.carry hw; have r2 := r2.carry hw; have bx86 := bx86.carry hw
              refine L.nil ?_
              refine thn_n ?_
              refine LAD.step (rs := [4]) hR0 (fun _ => hB0) (by kernel_rfl) (by simp) ⟨⟨_, rfl, ?_⟩, trivial⟩
              refine L.append (m := 1) Try.underlying22 kgrad5_el9 rfl rfl rfl hN rfl bx81.news (by simp [Value.oneCell', S]) (by omega) (Nat.le_trans hGD hR0.size) (fun v82 w82 hO82 hg hiff82 hob82 => ?_)
              obtain ⟨g82, c82, rfl⟩ := own_form hO82
              have hav82 : (Value.slice (some ⟨g82, 0, none⟩) (i + 1) c82).ownBlock = (Value.slice aN i cN).ownBlock ∨ ∀ k, some k = (Value.slice (some ⟨g82, 0, none⟩) (i + 1) c82).ownBlock → wD78.heap.size ≤ k :=
                hob82.imp id (fun h k e => by have e2 := Option.some.inj (e.trans h); have h9 := hR0.size; omega)
              have bx9 := bx9.carryR hg (fun e => by have := hloN _ e; omega)
              try have bx86 := bx86.carryR hg (fun e => by have := hqN _ e; omega)
              have r2 := Own.carryR r2 hg (fun j hj hj' => own_ne r2 hN rfl hj hj')
              have hB0 := hB0.intoR hg (fun k e => .inl e)
              have hR0 := hR0.intoR hg (fun k e => .inr (.inl e))
              refine L.nil ?_
              refine thn_n ?_
              refine LAD.take0 (i := 10) rfl (by kernel_rfl) (by kernel_rfl) (by kernel_rfl) (by kernel_rfl) (fun w hw => x_fa kgrad5_fo25_3 rfl) rfl ?_
              refine LAD.step (rs := [9]) hR0 (fun _ => hB0) (by kernel_rfl) (by simp) ⟨⟨_, rfl, ?_⟩, trivial⟩
              refine L.append (m := 1) Try.underlying23 kgrad5_el25 rfl rfl rfl r2 hpc.len bx86.news (ShC.one hpc) (by omega) (Nat.le_trans hGD hR0.size) (fun v87 w87 hO87 hg hiff87 hob87 => ?_)
              obtain ⟨g87, c87, rfl⟩ := own_form hO87
              have hav87 : (Value.slice (some ⟨g87, 0, none⟩) (((List.range i).map (witP (witN N) up K O)).length + 1) c87).ownBlock = (Value.slice aP ((List.range i).map (witP (witN N) up K O)).length cP).ownBlock ∨ ∀ k, some k = (Value.slice (some ⟨g87, 0, none⟩) (((List.range i).map (witP (witN N) up K O)).length + 1) c87).ownBlock → wD78.heap.size ≤ k :=
                hob87.imp id (fun h k e => by have e2 := Option.some.inj (e.trans h); have h9 := hR0.size; omega)
              have bx9 := bx9.carryR hg (fun e => by have := hloP _ e; omega)
              have hO82 := Own.carryR hO82 hg (fun j hj hj' => own_ne hO82 r2 rfl hj hj')
              try have hB0 := hB0.intoR hg (fun k e => .inr e)
              have hR0 := hR0.intoR hg (fun k e => .inr (.inr e))
              refine L.nil ?_
              refine thn_n ?_
              refine LAD.step (rs := [11]) hR0 (fun _ => hB0) (by kernel_rfl) (by simp) ⟨⟨_, rfl, ?_⟩, trivial⟩
              refine L.set (v := .slice _ _ _) kgrad5_sz22 rfl rfl rfl bx9 rfl (fun wl97 bx9 hw hzl97 => ?_)
              have hR0 := hR0.into hw (by first | exact .inl rfl | exact .inr rfl); have hO82 := Own.carryR hO82 hw (fun j hj e => by have e : j = _ := e; have h1 := (Own.lt hO82 hj).1; omega); have hO87 := Own.carryR hO87 hw (fun j hj e => by have e : j = _ := e; have h1 := (Own.lt hO87 hj).1; omega)
              refine L.nil ?_
              refine thn_n ?_
              refine LAD.take0 (i := 12) rfl (by kernel_rfl) (by kernel_rfl) (by kernel_rfl) (by kernel_rfl) (fun w hw => x_fa kgrad5_fo25_4 rfl) rfl ?_
              refine LAD.step' (rs := [13]) hR0 (by kernel_rfl) (by kernel_rfl) (by simp) ⟨⟨_, rfl, ?_⟩, trivial⟩
              refine L.set (v := .slice _ _ _) kgrad5_sz23 rfl rfl rfl bx9 rfl (fun wl99 bx9 hw hzl99 => ?_)
              have hR0 := hR0.into hw (by first | exact .inl rfl | exact .inr rfl); have hO82 := Own.carryR hO82 hw (fun j hj e => by have e : j = _ := e; have h1 := (Own.lt hO82 hj).1; omega); have hO87 := Own.carryR hO87 hw (fun j hj e => by have e : j = _ := e; have h1 := (Own.lt hO87 hj).1; omega)
              refine L.nil ?_
              refine thn_n ?_
              refine LAD.done (by kernel_rfl) (by kernel_rfl) hR0 ?_
              have hB := hB.step hR0 (fun i hi e => by rcases e with e | e | e; (have e : (_ : Nat) = _ := e; omega); (have h8 := hloN _ e; have h9 := hqN _ e; omega); (have h8 := hloP _ e; have h9 := hqP _ e; omega))
              have hk := hk.carryR hR0 (fun k e => hM k (by rcases e with e | e | e; (have e : (_ : Nat) = _ := e; omega); (have h8 := hloN _ e; have h9 := hqN _ e; omega); (have h8 := hloP _ e; have h9 := hqP _ e; omega)))
              have hno := hno.carryR hR0 (fun k e => hM k (by rcases e with e | e | e; (have e : (_ : Nat) = _ := e; omega); (have h8 := hloN _ e; have h9 := hqN _ e; omega); (have h8 := hloP _ e; have h9 := hqP _ e; omega)))
              have hro := hro.carryR hR0 (fun k e => hM k (by rcases e with e | e | e; (have e : (_ : Nat) = _ := e; omega); (have h8 := hloN _ e; have h9 := hqN _ e; omega); (have h8 := hloP _ e; have h9 := hqP _ e; omega)))
              have hrk := hrk.carryR hR0 (fun k e => hM k (by rcases e with e | e | e; (have e : (_ : Nat) = _ := e; omega); (have h8 := hloN _ e; have h9 := hqN _ e; omega); (have h8 := hloP _ e; have h9 := hqP _ e; omega)))
              have bx6 := bx6.carryR hR0 (fun e => by rcases e with e | e | e; (have e : (_ : Nat) = _ := e; omega); (have h8 := hloN _ e; have h9 := hqN _ e; omega); (have h8 := hloP _ e; have h9 := hqP _ e; omega))
              have bx7 := bx7.carryR hR0 (fun e => by rcases e with e | e | e; (have e : (_ : Nat) = _ := e; omega); (have h8 := hloN _ e; have h9 := hqN _ e; omega); (have h8 := hloP _ e; have h9 := hqP _ e; omega))
              have bx8 := bx8.carryR hR0 (fun e => by rcases e with e | e | e; (have e : (_ : Nat) = _ := e; omega); (have h8 := hloN _ e; have h9 := hqN _ e; omega); (have h8 := hloP _ e; have h9 := hqP _ e; omega))
              have bx12 := bx12.carryR hR0 (fun e => by rcases e with e | e | e; (have e : (_ : Nat) = _ := e; omega); (have h8 := hloN _ e; have h9 := hqN _ e; omega); (have h8 := hloP _ e; have h9 := hqP _ e; omega))
              have hG := hG.carryR hR0
              have hGq := hGq.carryR hR0
              have hpc := hpc.carryR hR0 (fun k e => by rcases e with e | e | e; exact .inr (.inl (by omega)); exact .inr (.inr (.inl e)); exact .inr (.inr (.inr (.inl e))))
              refine blk_n ?_
              refine thn_n ?_
              exact ⟨rfl, _, _, rfl, rfl, rfl, rfl, rfl, rfl, rfl, rfl, rfl, rfl, hlt, hB, hk, hno, hro, hrk, bx6, bx7, bx8, bx9, hG, (by
                  rw [List.take_succ_eq_append_getElem hlt, List.map_append]
                  simpa [List.getD_eq_getElem?_getD, hlt] using hO82), (by
                  rw [map_range_succ]
                  have hsz9 := hBD.size
                  exact ShsOwn.snocW r1 r3 r4 (hpc.mono (fun j _ h => avc_step (Nat.le_trans hsz9 hR0.size) (hav82.imp id (fun h k e => Nat.le_trans hsz9 (h k e))) (hav87.imp id (fun h k e => Nat.le_trans hsz9 (h k e))) h)) hO87 ((hBD.mono (fun _ _ f => f.elim)).trans hR0) (fun j e => by
                      rcases e with e | e | e
                      · exact .inr (.inl (by omega))
                      · exact .inr (.inr (.inl e))
                      · exact .inr (.inr (.inr (.inl e)))) (fun j h => avc_step (by have h9 : nq ≤ wD78.heap.size := hqD; have := hR0.size; omega) (hav82.imp id (fun h k e => by have := h k e; omega)) (hav87.imp id (fun h k e => by have := h k e; omega)) h))⟩
           ·rintro D E w90 ⟨rfl, vN, vP, e2, e3, e4, e6, e7, e8, e9, e47, e48, e49, hi', hB, hk, hno, hro, hrk, bx6, bx7, bx8, bx9, hG, hN, hP⟩
            rw [upd_self e2, upd_self e3, upd_self e4, upd_self e6, upd_self e7, upd_self e8, upd_self e9, upd_self e47, upd_self e48, upd_self e49]
            refine W.region ?_
            refine L.val (x_add rfl rfl (wr64 (by omega))) rfl ?_
            refine L.val (x_mv (v := .int _ _) rfl) rfl ?_
            refine L.nil ?_
            refine thn_n ⟨rfl, ?_⟩
            refine ⟨_, ?_, i + 1, _, _, rfl, by first | rfl | exact vi (by omega), by first | rfl | exact vi (by omega), by first | rfl | exact vi (by omega), by first | rfl | exact vi (by omega), by first | rfl | exact vi (by omega), by first | rfl | exact vi (by omega), by first | rfl | exact vi (by omega), by first | rfl | exact vi (by omega), by first | rfl | exact vi (by omega), by first | rfl | exact vi (by omega), (by first | assumption | omega | rfl), (by first | assumption | omega | rfl), (by first | assumption | omega | rfl), (by first | assumption | omega | rfl), (by first | assumption | omega | rfl), (by first | assumption | omega | rfl), (by first | assumption | omega | rfl), (by first | assumption | omega | rfl), (by first | assumption | omega | rfl), (by first | assumption | omega | rfl), (by first | assumption | omega | rfl), (by first | assumption | omega | rfl), (by first | assumption | omega | rfl)⟩
            omega
          ·have h50 := dlt_f g50
           refine W.exit (thn_x (thn_x (blk_hit ?_)))
           refine thn_n ?_
           refine W.seq ?_
           refine W.region ?_
           obtain ⟨xsP, hPo⟩ := hP.own
           refine L.val (x_ldn (vs := _) kgrad5_ag25 rfl rfl (bx9.row rfl)) rfl ?_
           refine L.setRow kgrad5_ag25 rfl rfl bx6 rfl rfl (by intro v hv; simp only [List.mem_cons, List.not_mem_nil, or_false] at hv; rcases hv with rfl | rfl | rfl | rfl | rfl <;> first | rfl | exact own_one hN | exact own_one hPo) (fun wl103 bx6 hw hzl103 => ?_)
           have hsz := hB.size
           have hB := hB.set hw (by omega); have bx9 := bx9.carryR hw (by omega); have hN := Own.carryR hN hw (fun j hj e => by have e : j = _ := e; have h1 := (Own.lt hN hj).1; first | omega | (have h2 := hqN j hj; omega)); have hP := hP.carryA (A' := _) hw (fun j hj e => by have e : j = _ := e; have h1 := (hP.lt hj).1; first | omega | (have h2 := hqP j hj; omega)) (fun j e => by have e : j = _ := e; first | exact .inr (.inl (by omega)) | exact .inr (.inr (.inr (.inr (by omega))))) (fun _ h => h); have hG := hG.carryR hw
           refine L.nil ?_
           refine thn_n ?_
           refine W.ret (blk_r (thn_r (finR_mk (.inr rfl) ?_)))
           have hii : i = O.names.length := by omega
           subst hii
           rw [List.take_length] at hN
           refine ⟨_, resS rfl kgrad5_ag25 rfl bx6 rfl, _, rfl, ?_, hB⟩
           have e : witN (N + 1) up a b = .mk a.kind [] [] O.names ((List.range O.names.length).map (witP (witN N) up K O)) := by
             show witF (witN N) up a b = _
             unfold witF
             rw [← hOd, ← hKd, if_neg h27, if_neg h32, if_pos hnn]
           rw [e]
           exact ShC.intro (k := a.kind) (of := []) (nm := []) (strs_done hN (by omega) hLo (fun j h h2 => by omega)) (hP.done (by simp; omega) (fun j h => .inl ⟨h.1, hRes j h⟩) (fun j h => by omega)) (by simp) (by simp)
        ·have h42 := dlt_f g42
         refine W.skip ?_
         refine blk_n ?_
         refine thn_n ?_
         refine W.seq ?_
         refine W.region ?_
         refine L.val (x_ldn (vs := _) kgrad5_ag25 rfl rfl (bx7.row rfl)) rfl ?_
         refine L.alloc (cs := [Value.int .i64 0, S [], S [], Value.slice none 0 0, Value.slice none 0 0]) kgrad5_zr25 rfl rfl (fun w16 bx16 hw hz16 => ?_)
         have hB := hB.carry hw; have hk := hk.carry hw; have ho := ho.carry hw; have bx3 := bx3.carry hw; have bx4 := bx4.carry hw; have bx6 := bx6.carry hw; have bx7 := bx7.carry hw; have bx8 := bx8.carry hw; have hno := hno.carry hw; have hro := hro.carry hw; have hrk := hrk.carry hw; have hra := hra.carry hw; have hrb := hrb.carry hw
         refine L.setRow kgrad5_ag25 rfl rfl bx16 rfl rfl hk.one (fun wl106 bx16 hw hzl106 => ?_)
         have hsz := hB.size
         have hB := hB.set hw (by omega); have hk := hk.carryR hw (fun j e => hM j (by have e : j = _ := e; omega)); have ho := ho.carryR hw (fun j e => hM j (by have e : j = _ := e; omega)); have bx3 := bx3.carryR hw (by omega); have bx4 := bx4.carryR hw (by omega); have bx6 := bx6.carryR hw (by omega); have bx7 := bx7.carryR hw (by omega); have bx8 := bx8.carryR hw (by omega); have hno := hno.carryR hw (fun j e => hM j (by have e : j = _ := e; omega)); have hro := hro.carryR hw (fun j e => hM j (by have e : j = _ := e; omega)); have hrk := hrk.carryR hw (fun j e => hM j (by have e : j = _ := e; omega)); have hra := hra.carryR hw (fun j e => hM j (by have e : j = _ := e; omega)); have hrb := hrb.carryR hw (fun j e => hM j (by have e : j = _ := e; omega))
         obtain ⟨b16, hb16⟩ : ∃ b16, b16 = w25.heap.size := ⟨_, rfl⟩
         rw [← hb16] at bx16 ⊢
         obtain ⟨base, hbase⟩ : ∃ base, base = wl106.heap.size := ⟨_, rfl⟩
         have z5 : b7 < b16 ∧ b8 < b16 ∧ b16 < base := by have e : wl106.heap.size = w16.heap.size := hzl106; omega
         have hG : Ge base wl106 := by rw [hbase]; exact Nat.le_refl _
         have hnn : a.names = [] ∧ b.names = [] := ⟨List.eq_nil_of_length_eq_zero (by omega), List.eq_nil_of_length_eq_zero (by omega)⟩
         have h4 : a.kind ≠ 4 ∧ b.kind ≠ 4 := by
           rw [hKd] at h32; rw [hOd] at h27
           unfold keepS at h32; unfold otherS at h27
           cases up <;> simp at h27 h32 <;> exact ⟨by assumption, by assumption⟩
         refine L.nil ?_
         refine thn_n ?_
         refine W.seq ?_
         refine W.region ?_
         refine L.val (x_fa kgrad5_fo25_3 rfl) rfl ?_
         refine L.set (v := .slice _ _ _) kgrad5_sz22 rfl rfl rfl bx16 rfl (fun wl108 bx16 hw hzl108 => ?_)
         have hsz := hB.size
         have hB := hB.set hw (by omega); have hra := hra.carryR hw (fun j e => hM j (by have e : j = _ := e; omega)); have hrb := hrb.carryR hw (fun j e => hM j (by have e : j = _ := e; omega)); have bx3 := bx3.carryR hw (by omega); have bx4 := bx4.carryR hw (by omega); have bx6 := bx6.carryR hw (by omega); have hG := hG.carryR hw
         refine L.val (x_fa kgrad5_fo25_4 rfl) rfl ?_
         refine L.set (v := .slice _ _ _) kgrad5_sz23 rfl rfl rfl bx16 rfl (fun wl110 bx16 hw hzl110 => ?_)
         have hsz := hB.size
         have hB := hB.set hw (by omega); have hra := hra.carryR hw (fun j e => hM j (by have e : j = _ := e; omega)); have hrb := hrb.carryR hw (fun j e => hM j (by have e : j = _ := e; omega)); have bx3 := bx3.carryR hw (by omega); have bx4 := bx4.carryR hw (by omega); have bx6 := bx6.carryR hw (by omega); have hG := hG.carryR hw
         refine L.nil ?_
         refine thn_n ?_
         refine W.seq ?_
         refine W.seq ?_
         refine W.region ?_
         refine L.val (x_fa kgrad5_fo25_4 rfl) rfl ?_
         refine L.val (x_ld (v := .slice _ _ _) kgrad5_oc23 rfl (bx3.cell0 rfl)) rfl ?_
         refine L.val (x_len_slice Try.underlying23 rfl) rfl ?_
         refine L.val (x_mv (v := .int _ _) rfl) rfl ?_
         refine L.nil ?_
         refine thn_n ?_
         refine W.block ?_
         refine W.loop (fun m' E w' => ∃ (i : Nat) (vP : Value), m' = a.parts.length - i ∧ E 2 = .bool up ∧ E 3 = .pointer (some ⟨w.heap.size, 0, none⟩) ∧ E 4 = .pointer (some ⟨b4, 0, none⟩) ∧ E 6 = .pointer (some ⟨b6, 0, none⟩) ∧ E 16 = .pointer (some ⟨b16, 0, none⟩) ∧ E 96 = .slice p a.parts.length cap ∧ E 97 = .int .i64 (a.parts.length : Nat) ∧ E 98 = .int .i64 (i : Nat) ∧ (Bel w w') ∧ (ShRow M w' p rowa a.parts) ∧ (ShRow M w' q rowb b.parts) ∧ (Box w' w.heap.size 25 [.int .i64 a.kind, S a.of, S a.name, .slice pn a.names.length capn, .slice p a.parts.length cap]) ∧ (Box w' b4 25 [.int .i64 b.kind, S b.of, S b.name, .slice qn b.names.length capqn, .slice q b.parts.length capq]) ∧ (Box w' b6 25 [.int .i64 0, S [], S [], .slice none 0 0, .slice none 0 0]) ∧ (Box w' b16 25 [.int .i64 K.kind, S K.of, S K.name, .slice none 0 0, vP]) ∧ (Ge base w') ∧ (i ≤ a.parts.length) ∧ (ShsOwn (AvC M w.heap.size base w' (.slice none 0 0) vP) w' base 25 vP ((List.range i).map (witQ (witN N) up a b)))) (a.parts.length) ?_ ?_
         ·exact ⟨0, .slice none 0 0, by omega, by first | rfl | exact vi (by omega), by first | rfl | exact vi (by omega), by first | rfl | exact vi (by omega), by first | rfl | exact vi (by omega), by first | rfl | exact vi (by omega), by first | rfl | exact vi (by omega), by first | rfl | exact vi (by omega), by first | rfl | exact vi (by omega), (by first | assumption | omega | rfl), (by first | assumption | omega | rfl), (by first | assumption | omega | rfl), (by first | assumption | omega | rfl), (by first | assumption | omega | rfl), (by first | assumption | omega | rfl), (by first | assumption | omega | rfl), (by first | assumption | omega | rfl), (by first | assumption | omega | rfl), (by exact ShsOwn.nil)⟩
         ·rintro _ E wL99 ⟨i, vP, em, e2, e3, e4, e6, e16, e96, e97, e98, hB, hra, hrb, bx3, bx4, bx6, bx16, hG, hi, hP⟩
          rw [upd_self e2, upd_self e3, upd_self e4, upd_self e6, upd_self e16, upd_self e96, upd_self e97, upd_self e98]
          refine W.seq ?_
          refine W.region ?_
          refine L.val (x_lss rfl rfl) rfl ?_
          refine L.nil ?_
          refine thn_n ?_
          refine W.seq ?_
          refine W.cond (b := _) rfl (fun g99 => ?_) (fun g99 => ?_)
          ·have h99 := of_decide_eq_true g99
           have hip : i < a.parts.length := by omega
           obtain ⟨hjp, hfn⟩ := near_fun hnear h4.1 h4.2 (allB_fit hfa) hnn.1 hip
           obtain ⟨pb, po, rfl, -⟩ := hra.elem hip
           obtain ⟨qb, qo, rfl, -⟩ := hrb.elem hjp
           have hnA := hra.avoid hip
           have hnB := hrb.avoid hjp
           obtain ⟨rows, r1, r2, r3, r4⟩ := hP
           obtain ⟨aP, cP, rfl, hcP⟩ := own_shape r2
           have hloP : ∀ j, some j = (Value.slice aP ((List.range i).map (witQ (witN N) up a b)).length cP).ownBlock → base ≤ j := fun j h => (Own.lt r2 h).1
           have hqP : ∀ j, some j = (Value.slice aP ((List.range i).map (witQ (witN N) up a b)).length cP).ownBlock → j < wL99.heap.size := fun j h => (Own.lt r2 h).2
           have hPl : ((List.range i).map (witQ (witN N) up a b)).length = i := by simp
           refine W.skip ?_
           refine thn_n ?_
           refine W.seq ?_
           refine W.block ?_
           refine W.seq ?_
           refine W.region ?_
           refine L.val (x_mv (v := .int _ _) rfl) rfl ?_
           refine L.val (x_as (v := .int _ _) rfl) rfl ?_
           refine L.nil ?_
           refine thn_n ?_
           refine W.seq ?_
           refine W.region ?_
           refine L.val (x_fa kgrad5_fo25_0 rfl) rfl ?_
           refine L.val (x_ld (v := .int _ _) kgrad5_oc3 rfl (bx3.cell0 rfl)) rfl ?_
           refine L.val (x_eql rfl rfl) rfl ?_
           refine L.val (x_mv (v := .bool _) rfl) rfl ?_
           refine' L.group0 6 105 110 110 104 true rfl ?_ ?_ ?_
           rotate_left 1
           ·intro g104
            have h104 := of_decide_eq_true g104
            refine L.gyes' (dj := 104) (b := _) rfl rfl g104 ?_
            refine L.val (x_mv (v := .int _ _) rfl) rfl ?_
            refine L.gyes' (dj := 104) (b := _) rfl rfl g104 ?_
            refine L.val (x_fa kgrad5_fo25_4 rfl) rfl ?_
            refine L.gyes' (dj := 104) (b := _) rfl rfl g104 ?_
            refine L.val (x_ld (v := .slice _ _ _) kgrad5_oc23 rfl (bx3.cell0 rfl)) rfl ?_
            refine L.gyes' (dj := 104) (b := _) rfl rfl g104 ?_
            refine L.val (x_len_slice Try.underlying23 rfl) rfl ?_
            refine L.gyes' (dj := 104) (b := _) rfl rfl g104 ?_
            refine L.val (x_sub rfl rfl (wr64 (by omega))) rfl ?_
            refine L.gyes' (dj := 104) (b := _) rfl rfl g104 ?_
            refine L.val (x_lss rfl rfl) rfl ?_
            refine L.nil ?_
            refine thn_n ⟨rfl, rfl, ?_, rfl⟩
            repeat (first | exact jeq.refl _ _ _ | refine jeq.upd rfl ?_ | refine jeq.jk rfl rfl ?_)
           ·intro g104
            refine L.gno (dj := 104) (b := _) rfl rfl g104 rfl ?_
            refine L.gno (dj := 104) (b := _) rfl rfl g104 rfl ?_
            refine L.gno (dj := 104) (b := _) rfl rfl g104 rfl ?_
            refine L.gno (dj := 104) (b := _) rfl rfl g104 rfl ?_
            refine L.gno (dj := 104) (b := _) rfl rfl g104 rfl ?_
            refine L.gno (dj := 104) (b := _) rfl rfl g104 rfl ?_
            refine L.nil (thn_n ⟨rfl, rfl, ?_⟩)
            repeat (first | exact jeq.refl _ _ _ | refine jeq.upd rfl ?_ | refine jeq.jk rfl rfl ?_)
           intro J104 j104
           refine L.val (x_and rfl j104) rfl ?_
           refine L.nil ?_
           refine thn_n ?_
           refine W.cond (b := _) rfl (fun g111 => ?_) (fun g111 => ?_)
           ·have h111 := g111
            have hfn' : fitsN true N (b.parts.getD i default) (a.parts.getD i default) = true := by
              unfold funF at hfn; rwa [if_pos (by simp at h111; omega)] at hfn
            refine W.drawD (fun k => k = b16 ∨ some k = (Value.slice aP ((List.range i).map (witQ (witN N) up a b)).length cP).ownBlock) (fun k => some k = (Value.slice aP ((List.range i).map (witQ (witN N) up a b)).length cP).ownBlock) 18 kgrad5_mixed (fun wD112 hw => ?_)
            have hB := hB.carry hw; have hra := hra.carry hw; have hrb := hrb.carry hw; have bx3 := bx3.carry hw; have bx4 := bx4.carry hw; have bx6 := bx6.carry hw; have bx16 := bx16.carry hw; have hG := hG.carry hw; have r2 := r2.carry hw
            have hB0 := Gr.refl (fun k => some k = (Value.slice aP ((List.range i).map (witQ (witN N) up a b)).length cP).ownBlock) wD112; have hR0 := Gr.refl (fun k => k = b16 ∨ some k = (Value.slice aP ((List.range i).map (witQ (witN N) up a b)).length cP).ownBlock) wD112
            have hBD := hw
            refine LAD.take0 (i := 0) rfl (by kernel_rfl) (by kernel_rfl) (by kernel_rfl) (by kernel_rfl) (fun w hw => x_fa kgrad5_fo25_4 rfl) rfl ?_
            refine LAD.take1 (i := 1) rfl (by kernel_rfl) (by kernel_rfl) (by kernel_rfl) (by kernel_rfl) (by kernel_rfl) (by kernel_rfl) (fun w hw => x_ld (v := .slice _ _ _) kgrad5_oc23 rfl (hw.keepR (fun e => by have := hloP _ e; (try dsimp only at this); omega) (bx16.cell0 rfl))) rfl ?_
            refine LAD.take0 (i := 2) rfl (by kernel_rfl) (by kernel_rfl) (by kernel_rfl) (by kernel_rfl) (fun w hw => x_fa kgrad5_fo25_4 rfl) rfl ?_
            refine LAD.take0 (i := 3) rfl (by kernel_rfl) (by kernel_rfl) (by kernel_rfl) (by kernel_rfl) (fun w hw => x_ld (v := .slice _ _ _) kgrad5_oc23 rfl (hw.keepR (by rintro (e | e); (have e : (_ : Nat) = _ := e; (try dsimp only at e); first | omega | exact hnB (hM _ (by omega)) | exact hnA (hM _ (by omega))); (have := hloP _ e; (try dsimp only at this); first | omega | exact hnB (hM _ (by omega)) | exact hnA (hM _ (by omega)))) (bx4.cell0 rfl))) rfl ?_
            refine LAD.take0 (i := 4) rfl (by kernel_rfl) (by kernel_rfl) (by kernel_rfl) (by kernel_rfl) (fun w hw => x_mv (v := .int _ _) rfl) rfl ?_
            refine LAD.take0 (i := 5) rfl (by kernel_rfl) (by kernel_rfl) (by kernel_rfl) (by kernel_rfl) (fun w hw => x_ia (j := i) Try.underlying23 kgrad5_sz25 rfl rfl (by omega) (by omega)) rfl ?_
            refine LAD.take0 (i := 6) rfl (by kernel_rfl) (by kernel_rfl) (by kernel_rfl) (by kernel_rfl) (fun w hw => x_ldn (vs := rowb i) kgrad5_ag25 rfl (hrb.five i hjp) (hw.keepRowR (by rintro (e | e); (have e : (_ : Nat) = _ := e; (try dsimp only at e); first | omega | exact hnB (hM _ (by omega)) | exact hnA (hM _ (by omega))); (have := hloP _ e; (try dsimp only at this); first | omega | exact hnB (hM _ (by omega)) | exact hnA (hM _ (by omega)))) (hrb.five i hjp) (hrb.elemAt hjp))) rfl ?_
            refine LAD.take0 (i := 7) rfl (by kernel_rfl) (by kernel_rfl) (by kernel_rfl) (by kernel_rfl) (fun w hw => x_fa kgrad5_fo25_4 rfl) rfl ?_
            refine LAD.take0 (i := 8) rfl (by kernel_rfl) (by kernel_rfl) (by kernel_rfl) (by kernel_rfl) (fun w hw => x_ld (v := .slice _ _ _) kgrad5_oc23 rfl (hw.keepR (by rintro (e | e); (have e : (_ : Nat) = _ := e; (try dsimp only at e); first | omega | exact hnB (hM _ (by omega)) | exact hnA (hM _ (by omega))); (have := hloP _ e; (try dsimp only at this); first | omega | exact hnB (hM _ (by omega)) | exact hnA (hM _ (by omega)))) (bx3.cell0 rfl))) rfl ?_
            refine LAD.take0 (i := 9) rfl (by kernel_rfl) (by kernel_rfl) (by kernel_rfl) (by kernel_rfl) (fun w hw => x_mv (v := .int _ _) rfl) rfl ?_
            refine LAD.take0 (i := 10) rfl (by kernel_rfl) (by kernel_rfl) (by kernel_rfl) (by kernel_rfl) (fun w hw => x_ia (j := i) Try.underlying23 kgrad5_sz25 rfl rfl (by omega) (by omega)) rfl ?_
            refine LAD.take0 (i := 11) rfl (by kernel_rfl) (by kernel_rfl) (by kernel_rfl) (by kernel_rfl) (fun w hw => x_ldn (vs := rowa i) kgrad5_ag25 rfl (hra.five i hip) (hw.keepRowR (by rintro (e | e); (have e : (_ : Nat) = _ := e; (try dsimp only at e); first | omega | exact hnB (hM _ (by omega)) | exact hnA (hM _ (by omega))); (have := hloP _ e; (try dsimp only at this); first | omega | exact hnB (hM _ (by omega)) | exact hnA (hM _ (by omega)))) (hra.five i hip) (hra.elemAt hip))) rfl ?_
            refine LAD.take0 (i := 12) rfl (by kernel_rfl) (by kernel_rfl) (by kernel_rfl) (by kernel_rfl) (fun w hw => x_mv (v := .bool _) rfl) rfl ?_
            refine LAD.take0 (i := 13) rfl (by kernel_rfl) (by kernel_rfl) (by kernel_rfl) (by kernel_rfl) (fun w hw => x_not rfl) rfl ?_
            refine LAD.step (rs := [14]) hR0 (fun _ => hB0) (by kernel_rfl) (by simp) ⟨⟨_, rfl, ?_⟩, trivial⟩
            refine L.ret (x_call kgrad5_en113 rfl) rfl (hI' (!up) i i hip hjp hfn' M M (rowb i) (rowa i) _ ((hrb.each i hjp).carryR hR0 (fun k e => hM k (by rcases e with e | e; omega; (have := hloP _ e; omega)))) ((hra.each i hip).carryR hR0 (fun k e => hM k (by rcases e with e | e; omega; (have := hloP _ e; omega))))) ?_
            rintro _ w126 ⟨cs126, rfl, ht, hw⟩
            have hB0 := hB0.carry hw; have hR0 := hR0.carry hw; have bx16 := bx16.carry hw; have r2 := r2.carry hw
            have hsc := hR0.size
            have hsB := hB.size
            have hGB : base ≤ wD112.heap.size := hG
            have hsD := hBD.size
            have hGt : Ge w126.heap.size w126 := Nat.le_refl _
            have ht : ShC (AvC M w.heap.size base w126 (.slice none 0 0) (.slice aP ((List.range i).map (witQ (witN N) up a b)).length cP)) w126 cs126 (witQ (witN N) up a b i) := by
              have e : witQ (witN N) up a b i = witN N (!up) (b.parts.getD i default) (a.parts.getD i default) := by unfold witQ; rw [if_pos (by simp at h111; omega)]
              rw [e]
              refine ht.up.mono (fun j _ h => ?_)
              rcases h with h | h | h | h | h
              · exact .inl ⟨by omega, h.2, h.2⟩
              · exact .inl ⟨by omega, hM j h.1, hM j h.1⟩
              · cases h
              · have := hqP j h; have := hloP j h
                exact .inl ⟨by omega, hM j (by omega), hM j (by omega)⟩
              · exact .inr h
            refine L.nil ?_
            refine thn_n ?_
            refine LAD.step (rs := [15]) hR0 (fun _ => hB0) (by kernel_rfl) (by simp) ⟨⟨_, rfl, ?_⟩, trivial⟩
            refine L.bs (sz := 5) (cells := cs126) Try.underlying23 kgrad5_el25 rfl (by show (partsOk 5 0 [(0, Value.agg cs126.toArray)] && decide ([((0 : Nat), Value.agg cs126.toArray)].length = 1) && decide (0 < 1) && decide (1 * 5 ≤ 16777216)) = true; simp [partsOk, ht.len, Value.cells]) (by show ([((0 : Nat), Value.agg cs126.toArray)].map fun x => x.2.cells.toList).flatten = cs126; simp [Value.cells]) rfl (fun w127 bx127 hw hz127 => ?_)
            have hB0 := hB0.carry hw; have hR0 := hR0.carry hw; have bx16 := bx16.carry hw; have r2 := r2.carry hw; have ht := ht.carry hw; have hGt := hGt.carry hw
            refine L.nil ?_
            refine thn_n ?_
            refine LAD.step (rs := [16]) hR0 (fun _ => hB0) (by kernel_rfl) (by simp) ⟨⟨_, rfl, ?_⟩, trivial⟩
            refine L.append (m := 1) Try.underlying23 kgrad5_el25 rfl rfl rfl r2 ht.len bx127.news (ShC.one ht) (by omega) (Nat.le_trans hG hR0.size) (fun v128 w128 hO128 hg hiff128 hob128 => ?_)
            obtain ⟨g128, c128, rfl⟩ := own_form hO128
            have hav : (Value.slice (some ⟨g128, 0, none⟩) (((List.range i).map (witQ (witN N) up a b)).length + 1) c128).ownBlock = (Value.slice aP ((List.range i).map (witQ (witN N) up a b)).length cP).ownBlock ∨ ∀ k, some k = (Value.slice (some ⟨g128, 0, none⟩) (((List.range i).map (witQ (witN N) up a b)).length + 1) c128).ownBlock → w126.heap.size ≤ k :=
              hob128.imp id (fun h k e => by have e2 := Option.some.inj (e.trans h); have h9 : w126.heap.size ≤ _ := hGt; omega)
            have hGt := hGt.carryR hg
            have ht := ht.carryR hg (fun k e => .inr (.inr (.inr (.inl e))))
            have hGg := hg.size
            have bx16 := bx16.carryR hg (fun e => by have := hloP _ e; omega)
            have hB0 := hB0.intoR hg (fun k e => e)
            have hR0 := hR0.intoR hg (fun k e => .inr e)
            refine L.nil ?_
            refine thn_n ?_
            refine LAD.take0 (i := 17) rfl (by kernel_rfl) (by kernel_rfl) (by kernel_rfl) (by kernel_rfl) (fun w hw => x_fa kgrad5_fo25_4 rfl) rfl ?_
            refine LAD.step (rs := [18]) hR0 (fun _ => hB0) (by kernel_rfl) (by simp) ⟨⟨_, rfl, ?_⟩, trivial⟩
            refine L.set (v := .slice _ _ _) kgrad5_sz23 rfl rfl rfl bx16 rfl (fun wl147 bx16 hw hzl147 => ?_)
            have hR0 := hR0.into hw (by first | exact .inl rfl | exact .inr rfl); have ht := ht.carryR hw (fun j e => by have e : j = _ := e; first | exact .inr (.inl (by omega)) | exact .inr e); have hGt := hGt.carryR hw; have hO128 := Own.carryR hO128 hw (fun j hj e => by have e : j = _ := e; have h1 := (Own.lt hO128 hj).1; omega)
            refine L.nil ?_
            refine thn_n ?_
            refine LAD.done (by kernel_rfl) (by kernel_rfl) hR0 ?_
            have hB := hB.step hR0 (fun i hi e => by rcases e with e | e; (have e : (_ : Nat) = _ := e; omega); (have := hloP _ e; omega))
            have hra := hra.carryR hR0 (fun k e => hM k (by rcases e with e | e; (have e : (_ : Nat) = _ := e; omega); (have := hloP _ e; omega)))
            have hrb := hrb.carryR hR0 (fun k e => hM k (by rcases e with e | e; (have e : (_ : Nat) = _ := e; omega); (have := hloP _ e; omega)))
            have bx3 := bx3.carryR hR0 (fun e => by rcases e with e | e; (have e : (_ : Nat) = _ := e; omega); (have := hloP _ e; omega))
            have bx4 := bx4.carryR hR0 (fun e => by rcases e with e | e; (have e : (_ : Nat) = _ := e; omega); (have := hloP _ e; omega))
            have bx6 := bx6.carryR hR0 (fun e => by rcases e with e | e; (have e : (_ : Nat) = _ := e; omega); (have := hloP _ e; omega))
            have hG := hG.carryR hR0
            have hall2 : ∀ j, (j = b16 ∨ some j = (Value.slice aP ((List.range i).map (witQ (witN N) up a b)).length cP).ownBlock) → AvC M w.heap.size base wL99 (.slice none 0 0) (.slice aP ((List.range i).map (witQ (witN N) up a b)).length cP) j := fun j e => by
              rcases e with e | e
              · exact .inr (.inl (by omega))
              · exact .inr (.inr (.inr (.inl e)))
            have hi' : i + 1 ≤ a.parts.length := hip
            have hP : ShsOwn (AvC M w.heap.size base wl147 (.slice none 0 0) (.slice (some ⟨g128, 0, none⟩) (((List.range i).map (witQ (witN N) up a b)).length + 1) c128)) wl147 base 25 (.slice (some ⟨g128, 0, none⟩) (((List.range i).map (witQ (witN N) up a b)).length + 1) c128) ((List.range (i + 1)).map (witQ (witN N) up a b)) := by
              rw [map_range_succ]
              have hz9 : w126.heap.size ≤ wl147.heap.size := hGt
              have hR9 := (hBD.mono (fun _ _ f => f.elim)).trans hR0
              exact ShsOwn.snocW r1 r3 r4 (ht.mono (fun j _ h => avc_step hz9 (.inl rfl) hav h)) hO128 hR9 hall2 (fun j h => avc_step (by omega) (.inl rfl) (hav.imp id (fun h k e => by have := h k e; omega)) h)
            refine blk_n ?_
            refine thn_n ?_
            refine W.region ?_
            refine L.val (x_add rfl rfl (wr64 (by omega))) rfl ?_
            refine L.val (x_mv (v := .int _ _) rfl) rfl ?_
            refine L.nil ?_
            refine thn_n ⟨rfl, ?_⟩
            refine ⟨_, ?_, i + 1, _, rfl, by first | rfl | exact vi (by omega), by first | rfl | exact vi (by omega), by first | rfl | exact vi (by omega), by first | rfl | exact vi (by omega), by first | rfl | exact vi (by omega), by first | rfl | exact vi (by omega), by first | rfl | exact vi (by omega), by first | rfl | exact vi (by omega), (by first | assumption | omega | rfl), (by first | assumption | omega | rfl), (by first | assumption | omega | rfl), (by first | assumption | omega | rfl), (by first | assumption | omega | rfl), (by first | assumption | omega | rfl), (by first | assumption | omega | rfl), (by first | assumption | omega | rfl), (by first | assumption | omega | rfl), (by first | assumption | omega | rfl)⟩
            omega
           ·have h111 := g111
            have hfn' : fitsN true N (a.parts.getD i default) (b.parts.getD i default) = true := by
              unfold funF at hfn; rwa [if_neg (by simp at h111; omega)] at hfn
            refine W.drawD (fun k => k = b16 ∨ some k = (Value.slice aP ((List.range i).map (witQ (witN N) up a b)).length cP).ownBlock) (fun k => some k = (Value.slice aP ((List.range i).map (witQ (witN N) up a b)).length cP).ownBlock) 17 kgrad5_mixed (fun wD130 hw => ?_)
            have hB := hB.carry hw; have hra := hra.carry hw; have hrb := hrb.carry hw; have bx3 := bx3.carry hw; have bx4 := bx4.carry hw; have bx6 := bx6.carry hw; have bx16 := bx16.carry hw; have hG := hG.carry hw; have r2 := r2.carry hw
            have hB0 := Gr.refl (fun k => some k = (Value.slice aP ((List.range i).map (witQ (witN N) up a b)).length cP).ownBlock) wD130; have hR0 := Gr.refl (fun k => k = b16 ∨ some k = (Value.slice aP ((List.range i).map (witQ (witN N) up a b)).length cP).ownBlock) wD130
            have hBD := hw
            refine LAD.take0 (i := 0) rfl (by kernel_rfl) (by kernel_rfl) (by kernel_rfl) (by kernel_rfl) (fun w hw => x_fa kgrad5_fo25_4 rfl) rfl ?_
            refine LAD.take1 (i := 1) rfl (by kernel_rfl) (by kernel_rfl) (by kernel_rfl) (by kernel_rfl) (by kernel_rfl) (by kernel_rfl) (fun w hw => x_ld (v := .slice _ _ _) kgrad5_oc23 rfl (hw.keepR (fun e => by have := hloP _ e; (try dsimp only at this); omega) (bx16.cell0 rfl))) rfl ?_
            refine LAD.take0 (i := 2) rfl (by kernel_rfl) (by kernel_rfl) (by kernel_rfl) (by kernel_rfl) (fun w hw => x_fa kgrad5_fo25_4 rfl) rfl ?_
            refine LAD.take0 (i := 3) rfl (by kernel_rfl) (by kernel_rfl) (by kernel_rfl) (by kernel_rfl) (fun w hw => x_ld (v := .slice _ _ _) kgrad5_oc23 rfl (hw.keepR (by rintro (e | e); (have e : (_ : Nat) = _ := e; (try dsimp only at e); first | omega | exact hnB (hM _ (by omega)) | exact hnA (hM _ (by omega))); (have := hloP _ e; (try dsimp only at this); first | omega | exact hnB (hM _ (by omega)) | exact hnA (hM _ (by omega)))) (bx3.cell0 rfl))) rfl ?_
            refine LAD.take0 (i := 4) rfl (by kernel_rfl) (by kernel_rfl) (by kernel_rfl) (by kernel_rfl) (fun w hw => x_mv (v := .int _ _) rfl) rfl ?_
            refine LAD.take0 (i := 5) rfl (by kernel_rfl) (by kernel_rfl) (by kernel_rfl) (by kernel_rfl) (fun w hw => x_ia (j := i) Try.underlying23 kgrad5_sz25 rfl rfl (by omega) (by omega)) rfl ?_
            refine LAD.take0 (i := 6) rfl (by kernel_rfl) (by kernel_rfl) (by kernel_rfl) (by kernel_rfl) (fun w hw => x_ldn (vs := rowa i) kgrad5_ag25 rfl (hra.five i hip) (hw.keepRowR (by rintro (e | e); (have e : (_ : Nat) = _ := e; (try dsimp only at e); first | omega | exact hnB (hM _ (by omega)) | exact hnA (hM _ (by omega))); (have := hloP _ e; (try dsimp only at this); first | omega | exact hnB (hM _ (by omega)) | exact hnA (hM _ (by omega)))) (hra.five i hip) (hra.elemAt hip))) rfl ?_
            refine LAD.take0 (i := 7) rfl (by kernel_rfl) (by kernel_rfl) (by kernel_rfl) (by kernel_rfl) (fun w hw => x_fa kgrad5_fo25_4 rfl) rfl ?_
            refine LAD.take0 (i := 8) rfl (by kernel_rfl) (by kernel_rfl) (by kernel_rfl) (by kernel_rfl) (fun w hw => x_ld (v := .slice _ _ _) kgrad5_oc23 rfl (hw.keepR (by rintro (e | e); (have e : (_ : Nat) = _ := e; (try dsimp only at e); first | omega | exact hnB (hM _ (by omega)) | exact hnA (hM _ (by omega))); (have := hloP _ e; (try dsimp only at this); first | omega | exact hnB (hM _ (by omega)) | exact hnA (hM _ (by omega)))) (bx4.cell0 rfl))) rfl ?_
            refine LAD.take0 (i := 9) rfl (by kernel_rfl) (by kernel_rfl) (by kernel_rfl) (by kernel_rfl) (fun w hw => x_mv (v := .int _ _) rfl) rfl ?_
            refine LAD.take0 (i := 10) rfl (by kernel_rfl) (by kernel_rfl) (by kernel_rfl) (by kernel_rfl) (fun w hw => x_ia (j := i) Try.underlying23 kgrad5_sz25 rfl rfl (by omega) (by omega)) rfl ?_
            refine LAD.take0 (i := 11) rfl (by kernel_rfl) (by kernel_rfl) (by kernel_rfl) (by kernel_rfl) (fun w hw => x_ldn (vs := rowb i) kgrad5_ag25 rfl (hrb.five i hjp) (hw.keepRowR (by rintro (e | e); (have e : (_ : Nat) = _ := e; (try dsimp only at e); first | omega | exact hnB (hM _ (by omega)) | exact hnA (hM _ (by omega))); (have := hloP _ e; (try dsimp only at this); first | omega | exact hnB (hM _ (by omega)) | exact hnA (hM _ (by omega)))) (hrb.five i hjp) (hrb.elemAt hjp))) rfl ?_
            refine LAD.take0 (i := 12) rfl (by kernel_rfl) (by kernel_rfl) (by kernel_rfl) (by kernel_rfl) (fun w hw => x_mv (v := .bool _) rfl) rfl ?_
            refine LAD.step (rs := [13]) hR0 (fun _ => hB0) (by kernel_rfl) (by simp) ⟨⟨_, rfl, ?_⟩, trivial⟩
            refine L.ret (x_call kgrad5_en113 rfl) rfl (hI up i i hip hjp hfn' M M (rowa i) (rowb i) _ ((hra.each i hip).carryR hR0 (fun k e => hM k (by rcases e with e | e; omega; (have := hloP _ e; omega)))) ((hrb.each i hjp).carryR hR0 (fun k e => hM k (by rcases e with e | e; omega; (have := hloP _ e; omega))))) ?_
            rintro _ w143 ⟨cs143, rfl, ht, hw⟩
            have hB0 := hB0.carry hw; have hR0 := hR0.carry hw; have bx16 := bx16.carry hw; have r2 := r2.carry hw
            have hsc := hR0.size
            have hsB := hB.size
            have hGB : base ≤ wD130.heap.size := hG
            have hsD := hBD.size
            have hGt : Ge w143.heap.size w143 := Nat.le_refl _
            have ht : ShC (AvC M w.heap.size base w143 (.slice none 0 0) (.slice aP ((List.range i).map (witQ (witN N) up a b)).length cP)) w143 cs143 (witQ (witN N) up a b i) := by
              have e : witQ (witN N) up a b i = witN N up (a.parts.getD i default) (b.parts.getD i default) := by unfold witQ; rw [if_neg (by simp at h111; omega)]
              rw [e]
              refine ht.up.mono (fun j _ h => ?_)
              rcases h with h | h | h | h | h
              · exact .inl ⟨by omega, h.2, h.2⟩
              · exact .inl ⟨by omega, hM j h.1, hM j h.1⟩
              · cases h
              · have := hqP j h; have := hloP j h
                exact .inl ⟨by omega, hM j (by omega), hM j (by omega)⟩
              · exact .inr h
            refine L.nil ?_
            refine thn_n ?_
            refine LAD.step (rs := [14]) hR0 (fun _ => hB0) (by kernel_rfl) (by simp) ⟨⟨_, rfl, ?_⟩, trivial⟩
            refine L.bs (sz := 5) (cells := cs143) Try.underlying23 kgrad5_el25 rfl (by show (partsOk 5 0 [(0, Value.agg cs143.toArray)] && decide ([((0 : Nat), Value.agg cs143.toArray)].length = 1) && decide (0 < 1) && decide (1 * 5 ≤ 16777216)) = true; simp [partsOk, ht.len, Value.cells]) (by show ([((0 : Nat), Value.agg cs143.toArray)].map fun x => x.2.cells.toList).flatten = cs143; simp [Value.cells]) rfl (fun w144 bx144 hw hz144 => ?_)
            have hB0 := hB0.carry hw; have hR0 := hR0.carry hw; have bx16 := bx16.carry hw; have r2 := r2.carry hw; have ht := ht.carry hw; have hGt := hGt.carry hw
            refine L.nil ?_
            refine thn_n ?_
            refine LAD.step (rs := [15]) hR0 (fun _ => hB0) (by kernel_rfl) (by simp) ⟨⟨_, rfl, ?_⟩, trivial⟩
            refine L.append (m := 1) Try.underlying23 kgrad5_el25 rfl rfl rfl r2 ht.len bx144.news (ShC.one ht) (by omega) (Nat.le_trans hG hR0.size) (fun v145 w145 hO145 hg hiff145 hob145 => ?_)
            obtain ⟨g145, c145, rfl⟩ := own_form hO145
            have hav : (Value.slice (some ⟨g145, 0, none⟩) (((List.range i).map (witQ (witN N) up a b)).length + 1) c145).ownBlock = (Value.slice aP ((List.range i).map (witQ (witN N) up a b)).length cP).ownBlock ∨ ∀ k, some k = (Value.slice (some ⟨g145, 0, none⟩) (((List.range i).map (witQ (witN N) up a b)).length + 1) c145).ownBlock → w143.heap.size ≤ k :=
              hob145.imp id (fun h k e => by have e2 := Option.some.inj (e.trans h); have h9 : w143.heap.size ≤ _ := hGt; omega)
            have hGt := hGt.carryR hg
            have ht := ht.carryR hg (fun k e => .inr (.inr (.inr (.inl e))))
            have hGg := hg.size
            have bx16 := bx16.carryR hg (fun e => by have := hloP _ e; omega)
            have hB0 := hB0.intoR hg (fun k e => e)
            have hR0 := hR0.intoR hg (fun k e => .inr e)
            refine L.nil ?_
            refine thn_n ?_
            refine LAD.take0 (i := 16) rfl (by kernel_rfl) (by kernel_rfl) (by kernel_rfl) (by kernel_rfl) (fun w hw => x_fa kgrad5_fo25_4 rfl) rfl ?_
            refine LAD.step (rs := [17]) hR0 (fun _ => hB0) (by kernel_rfl) (by simp) ⟨⟨_, rfl, ?_⟩, trivial⟩
            refine L.set (v := .slice _ _ _) kgrad5_sz23 rfl rfl rfl bx16 rfl (fun wl165 bx16 hw hzl165 => ?_)
            have hR0 := hR0.into hw (by first | exact .inl rfl | exact .inr rfl); have ht := ht.carryR hw (fun j e => by have e : j = _ := e; first | exact .inr (.inl (by omega)) | exact .inr e); have hGt := hGt.carryR hw; have hO145 := Own.carryR hO145 hw (fun j hj e => by have e : j = _ := e; have h1 := (Own.lt hO145 hj).1; omega)
            refine L.nil ?_
            refine thn_n ?_
            refine LAD.done (by kernel_rfl) (by kernel_rfl) hR0 ?_
            have hB := hB.step hR0 (fun i hi e => by rcases e with e | e; (have e : (_ : Nat) = _ := e; omega); (have := hloP _ e; omega))
            have hra := hra.carryR hR0 (fun k e => hM k (by rcases e with e | e; (have e : (_ : Nat) = _ := e; omega); (have := hloP _ e; omega)))
            have hrb := hrb.carryR hR0 (fun k e => hM k (by rcases e with e | e; (have e : (_ : Nat) = _ := e; omega); (have := hloP _ e; omega)))
            have bx3 := bx3.carryR hR0 (fun e => by rcases e with e | e; (have e : (_ : Nat) = _ := e; omega); (have := hloP _ e; omega))
            have bx4 := bx4.carryR hR0 (fun e => by rcases e with e | e; (have e : (_ : Nat) = _ := e; omega); (have := hloP _ e; omega))
            have bx6 := bx6.carryR hR0 (fun e => by rcases e with e | e; (have e : (_ : Nat) = _ := e; omega); (have := hloP _ e; omega))
            have hG := hG.carryR hR0
            have hall2 : ∀ j, (j = b16 ∨ some j = (Value.slice aP ((List.range i).map (witQ (witN N) up a b)).length cP).ownBlock) → AvC M w.heap.size base wL99 (.slice none 0 0) (.slice aP ((List.range i).map (witQ (witN N) up a b)).length cP) j := fun j e => by
              rcases e with e | e
              · exact .inr (.inl (by omega))
              · exact .inr (.inr (.inr (.inl e)))
            have hi' : i + 1 ≤ a.parts.length := hip
            have hP : ShsOwn (AvC M w.heap.size base wl165 (.slice none 0 0) (.slice (some ⟨g145, 0, none⟩) (((List.range i).map (witQ (witN N) up a b)).length + 1) c145)) wl165 base 25 (.slice (some ⟨g145, 0, none⟩) (((List.range i).map (witQ (witN N) up a b)).length + 1) c145) ((List.range (i + 1)).map (witQ (witN N) up a b)) := by
              rw [map_range_succ]
              have hz9 : w143.heap.size ≤ wl165.heap.size := hGt
              have hR9 := (hBD.mono (fun _ _ f => f.elim)).trans hR0
              exact ShsOwn.snocW r1 r3 r4 (ht.mono (fun j _ h => avc_step hz9 (.inl rfl) hav h)) hO145 hR9 hall2 (fun j h => avc_step (by omega) (.inl rfl) (hav.imp id (fun h k e => by have := h k e; omega)) h)
            refine blk_n ?_
            refine thn_n ?_
            refine W.region ?_
            refine L.val (x_add rfl rfl (wr64 (by omega))) rfl ?_
            refine L.val (x_mv (v := .int _ _) rfl) rfl ?_
            refine L.nil ?_
            refine thn_n ⟨rfl, ?_⟩
            refine ⟨_, ?_, i + 1, _, rfl, by first | rfl | exact vi (by omega), by first | rfl | exact vi (by omega), by first | rfl | exact vi (by omega), by first | rfl | exact vi (by omega), by first | rfl | exact vi (by omega), by first | rfl | exact vi (by omega), by first | rfl | exact vi (by omega), by first | rfl | exact vi (by omega), (by first | assumption | omega | rfl), (by first | assumption | omega | rfl), (by first | assumption | omega | rfl), (by first | assumption | omega | rfl), (by first | assumption | omega | rfl), (by first | assumption | omega | rfl), (by first | assumption | omega | rfl), (by first | assumption | omega | rfl), (by first | assumption | omega | rfl), (by first | assumption | omega | rfl)⟩
            omega
          ·have h99 := dlt_f g99
           have hii : i = a.parts.length := by omega
           refine W.exit (thn_x (thn_x (blk_hit ?_)))
           refine thn_n ?_
           refine W.seq ?_
           refine W.region ?_
           obtain ⟨xsP, hPo⟩ := hP.own
           refine L.val (x_ldn (vs := _) kgrad5_ag25 rfl rfl (bx16.row rfl)) rfl ?_
           refine L.setRow kgrad5_ag25 rfl rfl bx6 rfl rfl (by intro v hv; simp only [List.mem_cons, List.not_mem_nil, or_false] at hv; rcases hv with rfl | rfl | rfl | rfl | rfl <;> first | rfl | exact own_one hPo) (fun wl169 bx6 hw hzl169 => ?_)
           have hsz := hB.size
           have hB := hB.set hw (by omega); have bx16 := bx16.carryR hw (by omega); have hG := hG.carryR hw; have hP := hP.carryA (A' := _) hw (fun j hj e => by have e : j = _ := e; have h1 := (hP.lt hj).1; first | omega | (have h2 := hqP j hj; omega)) (fun j e => by have e : j = _ := e; first | exact .inr (.inl (by omega)) | exact .inr (.inr (.inr (.inr (by omega))))) (fun _ h => h)
           refine L.nil ?_
           refine thn_n ?_
           refine W.ret (finR_mk (.inr rfl) ?_)
           refine ⟨_, resS rfl kgrad5_ag25 rfl bx6 rfl, _, rfl, ?_, hB⟩
           have e : witN (N + 1) up a b = .mk K.kind K.of K.name [] ((List.range i).map (witQ (witN N) up a b)) := by
             show witF (witN N) up a b = _
             unfold witF
             rw [← hOd, ← hKd, if_neg h27, if_neg h32, if_neg (by rw [hnn.1, hnn.2]; simp), hii]
           rw [e]
           exact ShC.intro (StrsAt.nil _ _ _ _ (by simp)) (hP.done (by simp; omega) (fun j h => .inl ⟨h.1, hRes j h⟩) (fun j h => by omega)) hofK hnmK
end Go.Gx
