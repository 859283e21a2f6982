/- Finding a name; the library's searches. Conditions: none. -/
import Derived.Test.YteehllhldaopjaaGdSort3
namespace Go.Gx
open Go.Proofs
theorem kgrad_en135 : Go.Proofs.Enters Try.prog 135 := Go.Proofs.enters_of Try.func135 (by kernel_rfl) rfl
theorem kgrad_fo25_3 : fieldOff Try.prog 25 3 = some 3 := by kernel_rfl
theorem kgrad_fo25_4 : fieldOff Try.prog 25 4 = some 4 := by kernel_rfl
theorem kgrad_oc22 : oneCellT Try.prog 22 = true := by kernel_rfl
theorem kgrad_oc23 : oneCellT Try.prog 23 = true := by kernel_rfl
theorem kgrad_oc9 : oneCellT Try.prog 9 = true := by kernel_rfl
theorem kgrad_sz25 : (Try.prog.info? 25).map (·.size) = some 5 := by kernel_rfl
theorem kgrad_sz9 : (Try.prog.info? 9).map (·.size) = some 1 := by kernel_rfl
def idxS (x : Str) : List Str → Nat
  | [] => 0
  | y :: l => if y = x then 0 else idxS x l + 1
theorem idxOf_at {x : Str} : ∀ {l : List Str} {k : Nat}, k < l.length → l.getD k [] = x → (∀ j, j < k → l.getD j [] ≠ x) → idxS x l = k
  | [], _, h, _, _ => absurd h (by simp)
  | y :: l, 0, _, h, _ => by
    have h : y = x := by simpa using h
    rw [idxS, if_pos h]
  | y :: l, k + 1, h, h1, h2 => by
    have hy : y ≠ x := by simpa using h2 0 (by omega)
    have ih := idxOf_at (x := x) (l := l) (k := k) (by simpa using h) (by simpa using h1) (fun j hj => by simpa using h2 (j + 1) (by omega))
    rw [idxS, if_neg hy, ih]
theorem idxOf_no {x : Str} : ∀ {l : List Str}, (∀ j, j < l.length → l.getD j [] ≠ x) → idxS x l = l.length
  | [], _ => rfl
  | y :: l, h => by
    have hy : y ≠ x := by simpa using h 0 (by simp)
    rw [idxS, if_neg hy, idxOf_no (fun j hj => by simpa using h (j + 1) (by simpa using hj))]; rfl
theorem idxS_lt {x : Str} : ∀ {l : List Str}, idxS x l < l.length ↔ x ∈ l
  | [] => by simp [idxS]
  | y :: l => by
    rw [idxS, List.mem_cons]
    split
    · next h => simp [h]
    · next h =>
      have := idxS_lt (x := x) (l := l)
      have e : ¬ x = y := fun e => h e.symm
      simp [← this, e]
theorem idxS_get {x : Str} : ∀ {l : List Str}, idxS x l < l.length → l.getD (idxS x l) [] = x
  | [], h => absurd h (by simp)
  | y :: l, h => by
    rw [idxS] at h ⊢
    split
    · next e => simp [e]
    · next e =>
      rw [if_neg e] at h
      have := idxS_get (x := x) (l := l) (by simpa using h)
      simpa using this
def indexS (l : List Str) (x : Str) : Int := if idxS x l < l.length then (idxS x l : Nat) else -1
theorem index_ok (A : Nat → Prop) (v : Value) (l : List Str) (x : Str) (w : World) (hl : StrsAt A w v l) :
    Ret Try.prog 135 #[v, S x] w fun r w' => r = .int .i64 (indexS l x) ∧ Bel w w' := by
  obtain ⟨p, cap, rfl, h1, h2, h3, -⟩ := id hl
  refine ret_of_W Try.func135 rfl (Nat.le_of_ble_eq_true rfl) (res1 rfl) ?_
  have hB := Gr.refl (fun _ => False) w
  refine W.seq ?_
  refine W.region ?_
  refine L.val (x_as (v := .int _ _) rfl) rfl ?_
  refine L.nil ?_
  refine thn_n ?_
  refine W.seq ?_
  refine W.seq ?_
  refine W.region ?_
  refine L.val (x_mv (v := .slice _ _ _) rfl) rfl ?_
  refine L.val (x_len_slice Try.underlying22 rfl) rfl ?_
  refine L.val (x_mv (v := .int _ _) rfl) rfl ?_
  refine L.nil ?_
  refine thn_n ?_
  refine W.block ?_
  refine W.loop (fun m' E w' => ∃ (k : Nat), m' = l.length - k ∧ E 0 = .slice p l.length cap ∧ E 1 = S x ∧ E 7 = .int .i64 (l.length : Nat) ∧ E 8 = .int .i64 (k : Nat) ∧ (Bel w w') ∧ (StrsAt A w' (.slice p l.length cap) l) ∧ (k ≤ l.length) ∧ (∀ j, j < k → l.getD j [] ≠ x)) (l.length) ?_ ?_
  ·exact ⟨0, by omega, by first | rfl | exact vi (by omega), by first | rfl | exact vi (by omega), by first | rfl | exact vi (by omega), by first | rfl | exact vi (by omega), (by first | assumption | omega | rfl), (by first | assumption | omega | rfl), (by first | assumption | omega | rfl), (by intro j hj; omega)⟩
  ·rintro _ E wL9 ⟨k, em, e0, e1, e7, e8, hB, hl, hk, hne⟩
   rw [upd_self e0, upd_self e1, upd_self e7, upd_self e8]
   refine W.seq ?_
   refine W.region ?_
   refine L.val (x_lss rfl rfl) rfl ?_
   refine L.nil ?_
   refine thn_n ?_
   refine W.seq ?_
   refine W.cond (b := _) rfl (fun g9 => ?_) (fun g9 => ?_)
   ·have h9 := of_decide_eq_true g9
    have hlt : k < l.length := by omega
    obtain ⟨b, o, rfl, hc⟩ := hl.elem hlt
    refine W.skip ?_
    refine thn_n ?_
    refine W.seq ?_
    refine W.block ?_
    refine W.seq ?_
    refine W.region ?_
    refine L.val (x_mv (v := .int _ _) rfl) rfl ?_
    refine L.val (x_as (v := .int _ _) rfl) rfl ?_
    refine L.nil ?_
    refine thn_n ?_
    refine W.seq ?_
    refine W.region ?_
    refine L.val (x_mv (v := S _) rfl) rfl ?_
    refine L.val (x_mv (v := .slice _ _ _) rfl) rfl ?_
    refine L.val (x_mv (v := .int _ _) rfl) rfl ?_
    refine L.val (x_ia1 (j := k) Try.underlying22 kgrad_sz9 rfl rfl (by omega) (by omega)) rfl ?_
    refine L.val (x_ld (v := S _) kgrad_oc9 rfl hc) rfl ?_
    refine L.val (x_eqs rfl rfl) rfl ?_
    refine L.nil ?_
    refine thn_n ?_
    refine W.cond (b := _) rfl (fun g16 => ?_) (fun g16 => ?_)
    ·have h16 := seq_t g16
     refine W.seq ?_
     refine W.region ?_
     refine L.val (x_mv (v := .int _ _) rfl) rfl ?_
     refine L.val (x_as (v := .int _ _) rfl) rfl ?_
     refine L.nil ?_
     refine thn_n ?_
     refine W.ret (blk_r (thn_r (thn_r (blk_r (thn_r (fin_mk (.inr rfl) ?_))))))
     exact ⟨vi (by unfold indexS; rw [idxOf_at hlt h16.symm hne, if_pos hlt]), hB⟩
    ·have h16 := seq_f g16
     refine W.skip ?_
     refine blk_n ?_
     refine thn_n ?_
     refine W.region ?_
     refine L.val (x_add rfl rfl (wr64 (by omega))) rfl ?_
     refine L.val (x_mv (v := .int _ _) rfl) rfl ?_
     refine L.nil ?_
     refine thn_n ⟨rfl, ?_⟩
     refine ⟨_, ?_, k + 1, rfl, by first | rfl | exact vi (by omega), by first | rfl | exact vi (by omega), by first | rfl | exact vi (by omega), by first | rfl | exact vi (by omega), (by first | assumption | omega | rfl), (by first | assumption | omega | rfl), (by first | assumption | omega | rfl), (by intro j hj; by_cases e : j = k; subst e; exact fun e => h16 e.symm; exact hne j (by omega))⟩
     omega
   ·have h9 := dlt_f g9
    refine W.exit (thn_x (thn_x (blk_hit ?_)))
    refine thn_n ?_
    refine W.seq ?_
    refine W.region ?_
    refine L.val (x_as (v := .int _ _) rfl) rfl ?_
    refine L.nil ?_
    refine thn_n ?_
    refine W.ret (fin_mk (.inr rfl) ?_)
    exact ⟨vi (by unfold indexS; rw [idxOf_no (fun j hj => hne j (by omega)), if_neg (by omega)]), hB⟩
def partS (s : Sh) (x : Str) : Option Sh := if idxS x s.names < s.names.length then some (s.parts.getD (idxS x s.names) default) else none
def FindV (s : Sh) (x : Str) (p : Option Addr) (v : Value) : Prop :=
  (s.names.length ≤ idxS x s.names ∧ v = .pointer none) ∨ (idxS x s.names < s.names.length ∧ ∃ b o, p = some ⟨b, o, none⟩ ∧ v = .pointer (some ⟨b, o + idxS x s.names * 5, none⟩))
theorem find_ok (A : Nat → Prop) (s : Sh) (x : Str) (vn : Value) (p : Option Addr) (cap : Nat) (w : World) (hs : ShC A w [.int .i64 s.kind, S s.of, S s.name, vn, .slice p s.parts.length cap] s) (hfs : s.names = [] ∨ s.names.length = s.parts.length) :
    Ret Try.prog 109 #[.agg [.int .i64 s.kind, S s.of, S s.name, vn, .slice p s.parts.length cap].toArray, S x] w fun v w' => FindV s x p v ∧ Bel w w' := by
  obtain ⟨vn', vp', hcs, hn, hp, hof, hnm⟩ := hs.inv
  simp only [List.cons.injEq, and_true, true_and] at hcs
  obtain ⟨rfl, rfl⟩ := hcs
  obtain ⟨p', cap', row, hpe, p1, p2, p3, hr⟩ := hp
  simp only [Value.slice.injEq, true_and] at hpe
  obtain ⟨rfl, rfl⟩ := hpe
  obtain ⟨pn, capn, rfl, -⟩ := id hn
  refine ret_of_W Try.func109 rfl (Nat.le_of_ble_eq_true rfl) (res1 rfl) ?_
  have hB := Gr.refl (fun _ => False) w
  refine W.seq ?_
  refine W.region ?_
  refine L.box (cs := _) rfl rfl (fun w2 bx2 hw hz2 => ?_)
  have hB := hB.carry hw; have hn := hn.carry hw; have hr := hr.carry hw
  refine L.val (x_as (v := .pointer _) rfl) rfl ?_
  refine L.nil ?_
  refine thn_n ?_
  refine W.seq ?_
  refine W.seq ?_
  refine W.region ?_
  refine L.val (x_fa kgrad_fo25_3 rfl) rfl ?_
  refine L.val (x_ld (v := .slice _ _ _) kgrad_oc22 rfl (bx2.cell0 rfl)) rfl ?_
  refine L.val (x_mv (v := S _) rfl) rfl ?_
  refine L.ret (x_call kgrad_en135 rfl) rfl (index_ok A _ s.names x _ hn) ?_
  rintro _ w9 ⟨rfl, hw⟩
  have hB := hB.carry hw; have hn := hn.carry hw; have hr := hr.carry hw; have bx2 := bx2.carry hw
  refine L.val (x_as (v := .int _ _) rfl) rfl ?_
  refine L.nil ?_
  refine thn_n ?_
  refine W.seq ?_
  refine W.region ?_
  refine L.val (x_mv (v := .int _ _) rfl) rfl ?_
  refine L.val (x_geq rfl rfl) rfl ?_
  refine L.nil ?_
  refine thn_n ?_
  refine W.cond (b := _) rfl (fun g11 => ?_) (fun g11 => ?_)
  ·have h11 := of_decide_eq_true g11
   have hlt : idxS x s.names < s.names.length := by unfold indexS at h11; split at h11; assumption; omega
   have hie : indexS s.names x = (idxS x s.names : Nat) := by unfold indexS; rw [if_pos hlt]
   have hip : idxS x s.names < s.parts.length := by rcases hfs with e | e; rw [e] at hlt; simp at hlt; omega
   obtain ⟨b, o, rfl, hc⟩ := hr.elem hip
   refine W.seq ?_
   refine W.region ?_
   refine L.val (x_fa kgrad_fo25_4 rfl) rfl ?_
   refine L.val (x_ld (v := .slice _ _ _) kgrad_oc23 rfl (bx2.cell0 rfl)) rfl ?_
   refine L.val (x_mv (v := .int _ _) rfl) rfl ?_
   refine L.val (x_ia (j := idxS x s.names) Try.underlying23 kgrad_sz25 rfl rfl hie (by omega)) rfl ?_
   refine L.val (x_as (v := .pointer _) rfl) rfl ?_
   refine L.nil ?_
   refine thn_n ?_
   refine W.ret (thn_r (fin_mk (.inr rfl) ?_))
   exact ⟨.inr ⟨hlt, b, o, rfl, rfl⟩, hB⟩
  ·have h11 := dle_f g11
   refine W.skip ?_
   refine thn_n ?_
   refine W.seq ?_
   refine W.region ?_
   refine L.val (x_as (v := .pointer _) rfl) rfl ?_
   refine L.nil ?_
   refine thn_n ?_
   refine W.ret (fin_mk (.inr rfl) ?_)
   exact ⟨.inl ⟨by unfold indexS at h11; split at h11; omega; omega, rfl⟩, hB⟩
end Go.Gx
