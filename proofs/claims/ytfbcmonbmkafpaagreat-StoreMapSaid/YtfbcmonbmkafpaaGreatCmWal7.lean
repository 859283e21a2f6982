/- A log's Append and Turn. Conditions: none. -/
import Derived.Test.YtfbcmonbmkafpaaGreatCmDsk4
namespace Go.Gx
open Go.Proofs
theorem kwal7_en79 : Go.Proofs.Enters Tryz.prog 79 := Go.Proofs.enters_of Tryz.func79 (by kernel_rfl) rfl
def need (l : List Str) : Nat := (l.map fun s => min s.length 30000 + 13).sum
theorem makeS_le (l : List Str) : (makeS l).1.length ≤ need l := by
  unfold makeS
  split
  · exact Nat.zero_le _
  · rename_i h
    exact flat_frm (by simpa using h)
theorem len_need (l : List Str) : l.length ≤ need l := by
  induction l with
  | nil => exact Nat.zero_le _
  | cons x l ih => simp only [need, List.map_cons, List.sum_cons, List.length_cons] at ih ⊢; omega
def appP (q : Pt) (l : List Str) : Pt := ⟨q.ep + 1, q.half, q.tail + (makeS l).1.length, q.cnt + l.length⟩
def appA (D : Dk) (q : Pt) (l : List Str) : Int × Dk × Pt :=
  if (makeS l).2 = 0 ∧ l ≠ [] then (if roomN D.pl.length < q.tail + (makeS l).1.length then (210, D, q) else (0, comD D (appP q l) q.tail (makeS l).1, appP q l)) else ((makeS l).2, D, q)
def turnP (q : Pt) (l : List Str) : Pt := ⟨q.ep + 1, 1 - q.half, (makeS l).1.length, l.length⟩
structure QOk (D : Dk) (q : Pt) : Prop where
  h6 : 6 ≤ D.pl.length
  arm : D.armed = 0
  live : D.dead = false
  ca : D.ca = []
  ops : D.ops < 900000000
  half : q.half ≤ 1
  tail : q.tail ≤ roomN D.pl.length
  ep : q.ep < 1000000000
  cnt : q.cnt < 2000000000
theorem roomN_le {n : Nat} (h : n ≤ 4096) : roomN n ≤ 1000000 := by unfold roomN hlf; omega
theorem append_nil (v : Value) (w : World) : Ret Tryz.prog 42 #[.pointer none, v] w fun v w' => v = .int .i64 1 ∧ w' = w := by
  refine ret_of_W Tryz.func42 rfl (Nat.le_of_ble_eq_true rfl) (res1 rfl) ?_
  refine W.seq ?_
  refine W.region ?_
  refine L.val (x_as (v := .int _ _) rfl) rfl ?_
  refine L.nil ?_
  refine thn_n ?_
  refine W.seq ?_
  refine W.seq ?_
  refine W.region ?_
  refine L.val (x_mv (v := .pointer _) rfl) rfl ?_
  refine L.ret (x_call kwal7_en79 rfl) rfl (alive_nil _) ?_
  rintro _ w9 ⟨rfl, hq9⟩
  rw [hq9]
  refine L.val (x_as (v := .int _ _) rfl) rfl ?_
  refine L.nil ?_
  refine thn_n ?_
  refine W.seq ?_
  refine W.region ?_
  refine L.val (x_mv (v := .int _ _) rfl) rfl ?_
  refine L.val (x_neq rfl rfl) rfl ?_
  refine L.nil ?_
  refine thn_n ?_
  refine W.cond (b := _) rfl (fun g11 => ?_) (fun g11 => ?_)
  ·have h11 := dne_t g11
   refine W.seq ?_
   refine W.region ?_
   refine L.val (x_mv (v := .int _ _) rfl) rfl ?_
   refine L.val (x_as (v := .int _ _) rfl) rfl ?_
   refine L.nil ?_
   refine thn_n ?_
   refine W.ret (thn_r (fin_mk (.inr rfl) ?_))
   exact ⟨rfl, rfl⟩
  ·have h11 := dne_f g11
   cases g11
end Go.Gx
