/- The reference's Sort. Conditions: none. -/
import Derived.Test.YteehllhldaopjaaGreatRSort
import Derived.Test.YteehllhldaopjaaGreatSort3
namespace Go.Gx
open Go.Proofs
theorem krsort3_ag25 : aggT Tryz.prog 25 5 = true := by kernel_rfl
theorem krsort3_en52 : Go.Proofs.Enters Tryz.prog 52 := Go.Proofs.enters_of Tryz.func52 (by kernel_rfl) rfl
theorem krsort3_en73 : Go.Proofs.Enters Tryz.prog 73 := Go.Proofs.enters_of Tryz.func73 (by kernel_rfl) rfl
theorem krsort3_zr25 : (Tryz.prog.info? 25).bind (·.zero) = some (Value.agg [Value.int .i64 0, S [], S [], Value.slice none 0 0, Value.slice none 0 0].toArray) := by kernel_rfl

theorem rsort_okL (A : Nat → Prop) (s : Sh) (cs : List Value) (w : World) (hs : ShC A w cs s) :
    Ret Tryz.prog 113 #[.agg cs.toArray] w fun v w' => ∃ cs', v = .agg cs'.toArray ∧ ShC (fun k => A k ∧ k < w.heap.size) w' cs' (sortS s) ∧ Bel w w' := by
  obtain ⟨A1, hs, hA1, hU⟩ : ∃ A1 : Nat → Prop, ShC A1 w cs s ∧ (∀ k, A k → A1 k) ∧ (∀ k, w.heap.size ≤ k → A1 k) := ⟨_, hs.up, fun _ => .inl, fun _ => .inr⟩
  have hlen := hs.len
  refine ret_of_W_R Tryz.func113 rfl (Nat.le_of_ble_eq_true rfl) ?_
  have hB := Gr.refl (fun _ => False) w
  refine W.seq ?_
  refine W.region ?_
  refine L.box (cs := cs) rfl rfl (fun w1 bx1 hw hz1 => ?_)
  have hB := hB.carry hw; have hs := hs.carry hw
  refine L.alloc (cs := [Value.int .i64 0, S [], S [], Value.slice none 0 0, Value.slice none 0 0]) krsort3_zr25 rfl rfl (fun w2 bx2 hw hz2 => ?_)
  have hB := hB.carry hw; have hs := hs.carry hw; have bx1 := bx1.carry hw
  refine L.nil ?_
  refine thn_n ?_
  refine W.seq ?_
  refine W.seq ?_
  refine W.region ?_
  refine L.val (x_ldn (vs := cs) krsort3_ag25 rfl hlen (bx1.row hlen)) rfl ?_
  refine L.ret (x_call krsort3_en52 rfl) rfl (check07 A1 s _ _ hs) ?_
  rintro _ w4 ⟨rfl, hw⟩
  have hB := hB.carry hw; have hs := hs.carry hw; have bx1 := bx1.carry hw; have bx2 := bx2.carry hw
  refine L.val (x_neq rfl rfl) rfl ?_
  refine L.nil ?_
  refine thn_n ?_
  refine W.cond (b := _) rfl (fun g5 => ?_) (fun g5 => ?_)
  ·have h5 := dne_t g5
   refine W.seq ?_
   refine W.region ?_
   refine L.val (x_ldn (vs := cs) krsort3_ag25 rfl hlen (bx1.row hlen)) rfl ?_
   refine L.setRow krsort3_ag25 rfl rfl bx2 rfl hlen hs.one (fun wl7 bx2 hw hzl7 => ?_)
   have hsz := hB.size
   have hB := hB.set hw (by omega); have hs := hs.carryR hw (fun k e => hU k (by have : k = _ := e; omega)); have bx1 := bx1.carryR hw (by omega)
   refine L.nil ?_
   refine thn_n ?_
   refine W.ret (thn_r (finR_mk (.inr rfl) ?_))
   refine ⟨_, resS rfl krsort3_ag25 rfl bx2 hlen, _, rfl, ?_, hB⟩
   rw [sortS, if_neg h5]
   exact hs.mono (fun j _ h => hA1 j h.1)
  ·have h5 := dne_f g5
   refine W.skip ?_
   refine thn_n ?_
   refine W.seq ?_
   refine W.region ?_
   refine L.val (x_ldn (vs := cs) krsort3_ag25 rfl hlen (bx1.row hlen)) rfl ?_
   have hbc := hB.size
   have hb2 := bx2.lt
   refine L.ret (x_call krsort3_en73 rfl) rfl (rsorted0 _ s (Nat.lt_succ_self _) (check_zero h5).1 (check_zero h5).2.2 A1 _ _ hs) ?_
   rintro _ w8 ⟨cs8, rfl, ht, hw⟩
   have hB := hB.carry hw; have hs := hs.carry hw; have bx1 := bx1.carry hw; have bx2 := bx2.carry hw
   refine L.setRow krsort3_ag25 rfl rfl bx2 rfl ht.len ht.one (fun wl10 bx2 hw hzl10 => ?_)
   have hsz := hB.size
   have hB := hB.set hw (by omega); have hs := hs.carryR hw (fun k e => hU k (by have : k = _ := e; omega)); have bx1 := bx1.carryR hw (by omega)
   have ht := ht.carryR hw (fun k e => by have e : k = w1.heap.size := e; show k < _; omega)
   refine L.nil ?_
   refine thn_n ?_
   refine W.ret (finR_mk (.inr rfl) ?_)
   refine ⟨_, resS rfl krsort3_ag25 rfl bx2 ht.len, _, rfl, ?_, hB⟩
   rw [sortS, if_pos h5]
   exact ht.mono (fun j _ h => by show j < _; omega)
end Go.Gx

