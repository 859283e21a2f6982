/- Sort: a type that is right is put in its order, any other stays. Conditions: none. -/
import Derived.Test.YteehllhldaopjaaGdSort2
namespace Go.Gx
open Go.Proofs
theorem ksort3_ag25 : aggT Try.prog 25 5 = true := by kernel_rfl
theorem ksort3_en29 : Go.Proofs.Enters Try.prog 29 := Go.Proofs.enters_of Try.func29 (by kernel_rfl) rfl
theorem ksort3_en68 : Go.Proofs.Enters Try.prog 68 := Go.Proofs.enters_of Try.func68 (by kernel_rfl) rfl
theorem ksort3_zr25 : (Try.prog.info? 25).bind (·.zero) = some (Value.agg [Value.int .i64 0, S [], S [], Value.slice none 0 0, Value.slice none 0 0].toArray) := by kernel_rfl
theorem check_zero {s : Sh} (h : checkS s = 0) : s.size ≤ 400 ∧ s.deep ≤ 40 ∧ s.allB fitsS = true := by
  unfold checkS at h
  split at h
  · cases h
  · split at h
    · cases h
    · split at h
      · cases h
      · next h1 h2 h3 => exact ⟨by omega, by omega, by simpa using h3⟩
def sortS (s : Sh) : Sh := if checkS s = 0 then s.sort else s
theorem sort_okL (A : Nat → Prop) (s : Sh) (cs : List Value) (w : World) (hs : ShC A w cs s) :
    Ret Try.prog 33 #[.agg cs.toArray] w fun v w' => ∃ cs', v = .agg cs'.toArray ∧ ShC (fun k => A k ∧ k < w.heap.size) w' cs' (sortS s) ∧ Bel w w' := by
  obtain ⟨A1, hs, hA1, hU⟩ : ∃ A1 : Nat → Prop, ShC A1 w cs s ∧ (∀ k, A k → A1 k) ∧ (∀ k, w.heap.size ≤ k → A1 k) := ⟨_, hs.up, fun _ => .inl, fun _ => .inr⟩
  have hlen := hs.len
  refine ret_of_W_R Try.func33 rfl (Nat.le_of_ble_eq_true rfl) ?_
  have hB := Gr.refl (fun _ => False) w
  refine W.seq ?_
  refine W.region ?_
  refine L.box (cs := cs) rfl rfl (fun w1 bx1 hw hz1 => ?_)
  have hB := hB.carry hw; have hs := hs.carry hw
  refine L.alloc (cs := [Value.int .i64 0, S [], S [], Value.slice none 0 0, Value.slice none 0 0]) ksort3_zr25 rfl rfl (fun w2 bx2 hw hz2 => ?_)
  have hB := hB.carry hw; have hs := hs.carry hw; have bx1 := bx1.carry hw
  refine L.nil ?_
  refine thn_n ?_
  refine W.seq ?_
  refine W.seq ?_
  refine W.region ?_
  refine L.val (x_ldn (vs := cs) ksort3_ag25 rfl hlen (bx1.row hlen)) rfl ?_
  refine L.ret (x_call ksort3_en29 rfl) rfl (checkL A1 s _ _ hs) ?_
  rintro _ w4 ⟨rfl, hw⟩
  have hB := hB.carry hw; have hs := hs.carry hw; have bx1 := bx1.carry hw; have bx2 := bx2.carry hw
  refine L.val (x_neq rfl rfl) rfl ?_
  refine L.nil ?_
  refine thn_n ?_
  refine W.cond (b := _) rfl (fun g5 => ?_) (fun g5 => ?_)
  ·have h5 := dne_t g5
   refine W.seq ?_
   refine W.region ?_
   refine L.val (x_ldn (vs := cs) ksort3_ag25 rfl hlen (bx1.row hlen)) rfl ?_
   refine L.setRow ksort3_ag25 rfl rfl bx2 rfl hlen hs.one (fun wl7 bx2 hw hzl7 => ?_)
   have hsz := hB.size
   have hB := hB.set hw (by omega); have hs := hs.carryR hw (fun k e => hU k (by have : k = _ := e; omega)); have bx1 := bx1.carryR hw (by omega)
   refine L.nil ?_
   refine thn_n ?_
   refine W.ret (thn_r (finR_mk (.inr rfl) ?_))
   refine ⟨_, resS rfl ksort3_ag25 rfl bx2 hlen, _, rfl, ?_, hB⟩
   rw [sortS, if_neg h5]
   exact hs.mono (fun j _ h => hA1 j h.1)
  ·have h5 := dne_f g5
   refine W.skip ?_
   refine thn_n ?_
   refine W.seq ?_
   refine W.region ?_
   refine L.val (x_ldn (vs := cs) ksort3_ag25 rfl hlen (bx1.row hlen)) rfl ?_
   have hbc := hB.size
   have hb2 := bx2.lt
   refine L.ret (x_call ksort3_en68 rfl) rfl (sorted0 _ s (Nat.lt_succ_self _) (check_zero h5).1 (check_zero h5).2.2 A1 _ _ hs) ?_
   rintro _ w8 ⟨cs8, rfl, ht, hw⟩
   have hB := hB.carry hw; have hs := hs.carry hw; have bx1 := bx1.carry hw; have bx2 := bx2.carry hw
   refine L.setRow ksort3_ag25 rfl rfl bx2 rfl ht.len ht.one (fun wl10 bx2 hw hzl10 => ?_)
   have hsz := hB.size
   have hB := hB.set hw (by omega); have hs := hs.carryR hw (fun k e => hU k (by have : k = _ := e; omega)); have bx1 := bx1.carryR hw (by omega)
   have ht := ht.carryR hw (fun k e => by have e : k = w1.heap.size := e; show k < _; omega)
   refine L.nil ?_
   refine thn_n ?_
   refine W.ret (finR_mk (.inr rfl) ?_)
   refine ⟨_, resS rfl ksort3_ag25 rfl bx2 ht.len, _, rfl, ?_, hB⟩
   rw [sortS, if_pos h5]
   exact ht.mono (fun j _ h => by show j < _; omega)
end Go.Gx
