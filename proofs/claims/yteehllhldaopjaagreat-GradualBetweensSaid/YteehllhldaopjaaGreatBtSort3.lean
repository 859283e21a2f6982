/- Sort: a type that is right is put in its order, any other stays. Conditions: none. -/
import Derived.Laws.OwnMore
import Derived.Test.YteehllhldaopjaaGreatBtSort2
import Derived.Test.YteehllhldaopjaaGreatBtSortF
namespace Go.Gx
open Go.Proofs
theorem ksort3_ag25 : aggT Tryz.prog 25 5 = true := by kernel_rfl
theorem ksort3_en50 : Go.Proofs.Enters Tryz.prog 50 := Go.Proofs.enters_of Tryz.func50 kr_ rfl
theorem ksort3_en72 : Go.Proofs.Enters Tryz.prog 72 := Go.Proofs.enters_of Tryz.func72 kr_ rfl
theorem ksort3_zr25 : (Tryz.prog.info? 25).bind (·.zero) = some (Value.agg [Value.int .i64 0, S [], S [], Value.slice none 0 0, Value.slice none 0 0].toArray) := by kernel_rfl
theorem check_zero {s : Sh} (h : checkS s = 0) : s.size ≤ 400 ∧ s.deep ≤ 40 ∧ s.allB fitsS = true := by
  unfold checkS at h;split at h
  · cases h
  · split at h
    · cases h
    · split at h
      · cases h
      · next h1 h2 h3 => exact ⟨by omega, by omega, by simpa using h3⟩
def sortS (s : Sh) : Sh := if checkS s = 0 then s.sort else s
theorem sort_okL (A : Nat → Prop) (s : Sh) (cs : List Value) (w : World) (hs : ShC A w cs s) :
    Ret Tryz.prog 75 #[.agg cs.toArray] w fun v w' => ∃ cs', v = .agg cs'.toArray ∧ ShC (fun k => A k ∧ k < w.heap.size) w' cs' (sortS s) ∧ Bel w w' := by
  obtain ⟨A1, hs, hA1, hU⟩ : ∃ A1 : Nat → Prop, ShC A1 w cs s ∧ (∀ k, A k → A1 k) ∧ (∀ k, w.heap.size ≤ k → A1 k) := ⟨_, hs.up, fun _ => .inl, fun _ => .inr⟩;have hlen := hs.len;refine ret_of_W_R Tryz.func75 rfl (Nat.le_of_ble_eq_true rfl) ?_;have hB := Gr.refl (fun _ => False) w;refine W.seq (W.region (L.box (cs := cs) rfl rfl (fun w1 bx1 hw hz1 => ?_)));have hB := hB.carry hw; have hs := hs.carry hw;refine L.alloc (cs := [Value.int .i64 0, S [], S [], Value.slice none 0 0, Value.slice none 0 0]) ksort3_zr25 rfl rfl (fun w2 bx2 hw hz2 => ?_);have hB := hB.carry hw; have hs := hs.carry hw; have bx1 := bx1.carry hw;refine L.nil (thn_n (W.seq (W.seq (W.region (L.val (x_ldn (vs := cs) ksort3_ag25 rfl hlen (bx1.row hlen)) rfl ?_)))));refine L.ret (x_call ksort3_en50 rfl) rfl (checkL A1 s _ _ hs) ?_;rintro _ w4 ⟨rfl, hw⟩;have hB := hB.carry hw; have hs := hs.carry hw; have bx1 := bx1.carry hw; have bx2 := bx2.carry hw;refine L.val (x_neq rfl rfl) rfl ?_;refine L.nil (thn_n (W.cond (b := _) rfl (fun g5 => ?_) (fun g5 => ?_)))
  ·have h5 := dne_t g5;refine W.seq (W.region (L.val (x_ldn (vs := cs) ksort3_ag25 rfl hlen (bx1.row hlen)) rfl ?_));refine L.setRow ksort3_ag25 rfl rfl bx2 rfl hlen hs.one (fun wl7 bx2 hw hzl7 => ?_);have hsz := hB.size;have hB := hB.set hw om_; have hs := hs.carryR hw (fun k e => hU k (by have : k = _ := e; omega)); have bx1 := bx1.carryR hw om_;refine L.nil (thn_n (W.ret (thn_r (finR_mk (.inr rfl) ?_))));refine ⟨_, resS rfl ksort3_ag25 rfl bx2 hlen, _, rfl, ?_, hB⟩;rw [sortS, if_neg h5];exact hs.mono (fun j _ h => hA1 j h.1)
  ·have h5 := dne_f g5;refine W.skip (thn_n (W.seq (W.region (L.val (x_ldn (vs := cs) ksort3_ag25 rfl hlen (bx1.row hlen)) rfl ?_))));have hbc := hB.size;have hb2 := bx2.lt;refine L.ret (x_call ksort3_en72 rfl) rfl (sorted0 _ s (Nat.lt_succ_self _) (check_zero h5).1 (check_zero h5).2.2 A1 _ _ hs) ?_;rintro _ w8 ⟨cs8, rfl, ht, hw⟩;have hB := hB.carry hw; have hs := hs.carry hw; have bx1 := bx1.carry hw; have bx2 := bx2.carry hw;refine L.setRow ksort3_ag25 rfl rfl bx2 rfl ht.len ht.one (fun wl10 bx2 hw hzl10 => ?_);have hsz := hB.size;have hB := hB.set hw om_; have hs := hs.carryR hw (fun k e => hU k (by have : k = _ := e; omega)); have bx1 := bx1.carryR hw om_;have ht := ht.carryR hw (fun k e => by have e : k = w1.heap.size := e; show k < _; omega);refine L.nil (thn_n (W.ret (finR_mk (.inr rfl) ?_)));refine ⟨_, resS rfl ksort3_ag25 rfl bx2 ht.len, _, rfl, ?_, hB⟩;rw [sortS, if_pos h5];exact ht.mono (fun j _ h => by show j < _; omega)
end Go.Gx
namespace Go.Gx
open Go.Proofs
theorem kgrad_en151 : Go.Proofs.Enters Tryz.prog 151 := Go.Proofs.enters_of Tryz.func151 kr_ rfl
theorem kgrad_fo25_3 : fieldOff Tryz.prog 25 3 = some 3 := by kernel_rfl
theorem kgrad_fo25_4 : fieldOff Tryz.prog 25 4 = some 4 := by kernel_rfl
theorem kgrad_oc22 : oneCellT Tryz.prog 22 = true := by kernel_rfl
theorem kgrad_oc23 : oneCellT Tryz.prog 23 = true := by kernel_rfl
theorem kgrad_oc9 : oneCellT Tryz.prog 9 = true := by kernel_rfl
theorem kgrad_sz25 : (Tryz.prog.info? 25).map (·.size) = some 5 := by kernel_rfl
theorem kgrad_sz9 : (Tryz.prog.info? 9).map (·.size) = some 1 := by kernel_rfl
def idxS (x : Str) : List Str → Nat
  | [] => 0
  | y :: l => if y = x then 0 else idxS x l + 1
theorem idxOf_at {x : Str} : ∀ {l : List Str} {k : Nat}, k < l.length → l.getD k [] = x → (∀ j, j < k → l.getD j [] ≠ x) → idxS x l = k
  | [], _, h, _, _ => absurd h (by simp)
  | y :: l, 0, _, h, _ => by
    have h : y = x := by simpa using h
    rw [idxS, if_pos h]
  | y :: l, k + 1, h, h1, h2 => by
    have hy : y ≠ x := by simpa using h2 0 om_
    have ih := idxOf_at (x := x) (l := l) (k := k) (by simpa using h) (by simpa using h1) (fun j hj => by simpa using h2 (j + 1) om_);rw [idxS, if_neg hy, ih]
theorem idxOf_no {x : Str} : ∀ {l : List Str}, (∀ j, j < l.length → l.getD j [] ≠ x) → idxS x l = l.length
  | [], _ => rfl
  | y :: l, h => by
    have hy : y ≠ x := by simpa using h 0 (by simp)
    rw [idxS, if_neg hy, idxOf_no (fun j hj => by simpa using h (j + 1) (by simpa using hj))]; rfl
theorem idxS_get {x : Str} : ∀ {l : List Str}, idxS x l < l.length → l.getD (idxS x l) [] = x
  | [], h => absurd h (by simp)
  | y :: l, h => by
    rw [idxS] at h ⊢;split
    · next e => simp [e]
    · next e =>
      rw [if_neg e] at h;have := idxS_get (x := x) (l := l) (by simpa using h);simpa using this
def indexS (l : List Str) (x : Str) : Int := if idxS x l < l.length then (idxS x l : Nat) else -1
theorem index_ok (A : Nat → Prop) (v : Value) (l : List Str) (x : Str) (w : World) (hl : StrsAt A w v l) :
    Ret Tryz.prog 151 #[v, S x] w fun r w' => r = .int .i64 (indexS l x) ∧ Bel w w' := by
  obtain ⟨p, cap, rfl, h1, h2, h3, -⟩ := id hl;refine ret_of_W Tryz.func151 rfl (Nat.le_of_ble_eq_true rfl) (res1 rfl) ?_;have hB := Gr.refl (fun _ => False) w;refine W.seq (W.region (L.val (x_as (v := .int _ _) rfl) rfl ?_));refine L.nil (thn_n (W.seq (W.seq (W.region (L.val (x_mv (v := .slice _ _ _) rfl) rfl ?_)))));refine L.val (x_len_slice Tryz.underlying22 rfl) rfl ?_;refine L.val (x_mv (v := .int _ _) rfl) rfl ?_;refine L.nil (thn_n (W.block (W.loop (fun m' E w' => ∃ (k : Nat), m' = l.length - k ∧ E 0 = .slice p l.length cap ∧ E 1 = S x ∧ E 7 = .int .i64 (l.length : Nat) ∧ E 8 = .int .i64 (k : Nat) ∧ (Bel w w') ∧ (StrsAt A w' (.slice p l.length cap) l) ∧ (k ≤ l.length) ∧ (∀ j, j < k → l.getD j [] ≠ x)) (l.length) ?_ ?_)))
  ·exact ⟨0, by omega, vi_, vi_, vi_, vi_, ao_, ao_, ao_, (by intro j hj; omega)⟩
  ·rintro _ E wL9 ⟨k, em, e0, e1, e7, e8, hB, hl, hk, hne⟩;rw [upd_self e0, upd_self e1, upd_self e7, upd_self e8];refine W.seq (W.region (L.val (x_lss rfl rfl) rfl ?_));refine L.nil (thn_n (W.seq (W.cond (b := _) rfl (fun g9 => ?_) (fun g9 => ?_))))
   ·have h9 := of_decide_eq_true g9;have hlt : k < l.length := by omega
    obtain ⟨b, o, rfl, hc⟩ := hl.elem hlt;refine W.skip (thn_n (W.seq (W.block (W.seq (W.region (L.val (x_mv (v := .int _ _) rfl) rfl ?_))))));refine L.val (x_as (v := .int _ _) rfl) rfl ?_;refine L.nil (thn_n (W.seq (W.region (L.val (x_mv (v := S _) rfl) rfl ?_))));refine L.val (x_mv (v := .slice _ _ _) rfl) rfl ?_;refine L.val (x_mv (v := .int _ _) rfl) rfl ?_;refine L.val (x_ia1 (j := k) Tryz.underlying22 kgrad_sz9 rfl rfl om_ om_) rfl ?_;refine L.val (x_ld (v := S _) kgrad_oc9 rfl hc) rfl ?_;refine L.val (x_eqs rfl rfl) rfl ?_;refine L.nil (thn_n (W.cond (b := _) rfl (fun g16 => ?_) (fun g16 => ?_)))
    ·have h16 := seq_t g16;refine W.seq (W.region (L.val (x_mv (v := .int _ _) rfl) rfl ?_));refine L.val (x_as (v := .int _ _) rfl) rfl ?_;refine L.nil (thn_n (W.ret (blk_r (thn_r (thn_r (blk_r (thn_r (fin_mk (.inr rfl) ?_))))))));exact ⟨vi (by unfold indexS; rw [idxOf_at hlt h16.symm hne, if_pos hlt]), hB⟩
    ·have h16 := seq_f g16;refine W.skip (blk_n (thn_n (W.region (L.val (x_add rfl rfl (wr64 om_)) rfl ?_))));refine L.val (x_mv (v := .int _ _) rfl) rfl ?_;refine L.nil (thn_n ⟨rfl, ?_⟩);refine ⟨_, ?_, k + 1, rfl, vi_, vi_, vi_, vi_, ao_, ao_, ao_, (by intro j hj; by_cases e : j = k; subst e; exact fun e => h16 e.symm; exact hne j om_)⟩;omega
   ·have h9 := dlt_f g9;refine W.exit (thn_x (thn_x (blk_hit ?_)));refine thn_n (W.seq (W.region (L.val (x_as (v := .int _ _) rfl) rfl ?_)));refine L.nil (thn_n (W.ret (fin_mk (.inr rfl) ?_)));exact ⟨vi (by unfold indexS; rw [idxOf_no (fun j hj => hne j om_), if_neg om_]), hB⟩
def FindV (s : Sh) (x : Str) (p : Option Addr) (v : Value) : Prop :=
  (s.names.length ≤ idxS x s.names ∧ v = .pointer none) ∨ (idxS x s.names < s.names.length ∧ ∃ b o, p = some ⟨b, o, none⟩ ∧ v = .pointer (some ⟨b, o + idxS x s.names * 5, none⟩))
theorem find_ok (A : Nat → Prop) (s : Sh) (x : Str) (vn : Value) (p : Option Addr) (cap : Nat) (w : World) (hs : ShC A w [.int .i64 s.kind, S s.of, S s.name, vn, .slice p s.parts.length cap] s) (hfs : s.names = [] ∨ s.names.length = s.parts.length) :
    Ret Tryz.prog 107 #[.agg [.int .i64 s.kind, S s.of, S s.name, vn, .slice p s.parts.length cap].toArray, S x] w fun v w' => FindV s x p v ∧ Bel w w' := by
  obtain ⟨vn', vp', hcs, hn, hp, hof, hnm⟩ := hs.inv;simp only [List.cons.injEq, and_true, true_and] at hcs;obtain ⟨rfl, rfl⟩ := hcs;obtain ⟨p', cap', row, hpe, p1, p2, p3, hr⟩ := hp;simp only [Value.slice.injEq, true_and] at hpe;obtain ⟨rfl, rfl⟩ := hpe;obtain ⟨pn, capn, rfl, -⟩ := id hn;refine ret_of_W Tryz.func107 rfl (Nat.le_of_ble_eq_true rfl) (res1 rfl) ?_;have hB := Gr.refl (fun _ => False) w;refine W.seq (W.region (L.box (cs := _) rfl rfl (fun w2 bx2 hw hz2 => ?_)));have hB := hB.carry hw; have hn := hn.carry hw; have hr := hr.carry hw;refine L.val (x_as (v := .pointer _) rfl) rfl ?_;refine L.nil (thn_n (W.seq (W.seq (W.region (L.val (x_fa kgrad_fo25_3 rfl) rfl ?_)))));refine L.val (x_ld (v := .slice _ _ _) kgrad_oc22 rfl (bx2.cell0 rfl)) rfl ?_;refine L.val (x_mv (v := S _) rfl) rfl ?_;refine L.ret (x_call kgrad_en151 rfl) rfl (index_ok A _ s.names x _ hn) ?_;rintro _ w9 ⟨rfl, hw⟩;have hB := hB.carry hw; have hn := hn.carry hw; have hr := hr.carry hw; have bx2 := bx2.carry hw;refine L.val (x_as (v := .int _ _) rfl) rfl ?_;refine L.nil (thn_n (W.seq (W.region (L.val (x_mv (v := .int _ _) rfl) rfl ?_))));refine L.val (x_geq rfl rfl) rfl ?_;refine L.nil (thn_n (W.cond (b := _) rfl (fun g11 => ?_) (fun g11 => ?_)))
  ·have h11 := of_decide_eq_true g11;have hlt : idxS x s.names < s.names.length := by unfold indexS at h11; split at h11; assumption; omega
   have hie : indexS s.names x = (idxS x s.names : Nat) := by unfold indexS; rw [if_pos hlt]
   have hip : idxS x s.names < s.parts.length := by rcases hfs with e | e; rw [e] at hlt; simp at hlt; omega
   obtain ⟨b, o, rfl, hc⟩ := hr.elem hip;refine W.seq (W.region (L.val (x_fa kgrad_fo25_4 rfl) rfl ?_));refine L.val (x_ld (v := .slice _ _ _) kgrad_oc23 rfl (bx2.cell0 rfl)) rfl ?_;refine L.val (x_mv (v := .int _ _) rfl) rfl ?_;refine L.val (x_ia (j := idxS x s.names) Tryz.underlying23 kgrad_sz25 rfl rfl hie om_) rfl ?_;refine L.val (x_as (v := .pointer _) rfl) rfl ?_;refine L.nil (thn_n (W.ret (thn_r (fin_mk (.inr rfl) ?_))));exact ⟨.inr ⟨hlt, b, o, rfl, rfl⟩, hB⟩
  ·have h11 := dle_f g11;refine W.skip (thn_n (W.seq (W.region (L.val (x_as (v := .pointer _) rfl) rfl ?_))));refine L.nil (thn_n (W.ret (fin_mk (.inr rfl) ?_)));exact ⟨.inl ⟨by unfold indexS at h11; split at h11; omega; omega, rfl⟩, hB⟩
end Go.Gx
namespace Go.Gx
open Go.Proofs
theorem kgrad2_ag25 : aggT Tryz.prog 25 5 = true := by kernel_rfl
theorem kgrad2_en102 : Go.Proofs.Enters Tryz.prog 102 := Go.Proofs.enters_of Tryz.func102 kr_ rfl
theorem kgrad2_en103 : Go.Proofs.Enters Tryz.prog 103 := Go.Proofs.enters_of Tryz.func103 kr_ rfl
theorem kgrad2_en149 : Go.Proofs.Enters Tryz.prog 149 := Go.Proofs.enters_of Tryz.func149 kr_ rfl
theorem kgrad2_en152 : Go.Proofs.Enters Tryz.prog 152 := Go.Proofs.enters_of Tryz.func152 kr_ rfl
theorem kgrad2_en50 : Go.Proofs.Enters Tryz.prog 50 := Go.Proofs.enters_of Tryz.func50 kr_ rfl
theorem kgrad2_en51 : Go.Proofs.Enters Tryz.prog 51 := Go.Proofs.enters_of Tryz.func51 kr_ rfl
theorem kgrad2_fo25_0 : fieldOff Tryz.prog 25 0 = some 0 := by kernel_rfl
theorem kgrad2_fo25_4 : fieldOff Tryz.prog 25 4 = some 4 := by kernel_rfl
theorem kgrad2_oc23 : oneCellT Tryz.prog 23 = true := by kernel_rfl
theorem kgrad2_oc3 : oneCellT Tryz.prog 3 = true := by kernel_rfl
theorem kgrad2_oc9 : oneCellT Tryz.prog 9 = true := by kernel_rfl
theorem kgrad2_sz25 : (Tryz.prog.info? 25).map (·.size) = some 5 := by kernel_rfl
theorem kgrad2_sz9 : (Tryz.prog.info? 9).map (·.size) = some 1 := by kernel_rfl
theorem any_succ {q : Nat → Bool} {k : Nat} : (List.range (k + 1)).any q = ((List.range k).any q || q k) := by
  rw [List.range_succ, List.any_append]; simp
theorem any_hit {q : Nat → Bool} {k n : Nat} (h : k < n) (hk : q k = true) : (List.range n).any q = true := List.any_eq_true.2 ⟨k, List.mem_range.2 h, hk⟩
theorem ifstr_ok (g : Nat) (eg : Enters Tryz.prog g) (cb : List Value) (q : Nat → Bool) (A : Nat → Prop) (v : Value) (l : List Str) (w : World) (hl : StrsAt A w v l)
    (hq : ∀ w1 i, Bel w w1 → i < l.length → Ret Tryz.prog g ([S (l.getD i [])] ++ cb).toArray w1 fun v w' => v = .bool (q i) ∧ Bel w1 w') :
    Ret Tryz.prog 152 #[v, .func (.func g) #[] cb.toArray] w fun r w' => (∃ i : Int, r = .int .i64 i ∧ decide (0 ≤ i) = (List.range l.length).any q) ∧ Bel w w' := by
  obtain ⟨p, cap, rfl, h1, h2, h3, -⟩ := id hl;refine ret_of_W Tryz.func152 rfl (Nat.le_of_ble_eq_true rfl) (res1 rfl) ?_;have hB := Gr.refl (fun _ => False) w;refine W.seq (W.region (L.val (x_as (v := .int _ _) rfl) rfl ?_));refine L.nil (thn_n (W.seq (W.seq (W.region (L.val (x_mv (v := .slice _ _ _) rfl) rfl ?_)))));refine L.val (x_len_slice Tryz.underlying22 rfl) rfl ?_;refine L.val (x_mv (v := .int _ _) rfl) rfl ?_;refine L.nil (thn_n (W.block (W.loop (fun m' E w' => ∃ (k : Nat), m' = l.length - k ∧ E 0 = .slice p l.length cap ∧ E 1 = .func (.func g) #[] cb.toArray ∧ E 7 = .int .i64 (l.length : Nat) ∧ E 8 = .int .i64 (k : Nat) ∧ (Bel w w') ∧ (StrsAt A w' (.slice p l.length cap) l) ∧ (k ≤ l.length) ∧ ((List.range k).any q = false)) (l.length) ?_ ?_)))
  ·exact ⟨0, by omega, vi_, vi_, vi_, vi_, ao_, ao_, ao_, (by rfl)⟩
  ·rintro _ E wL9 ⟨k, em, e0, e1, e7, e8, hB, hl, hk, hne⟩;rw [upd_self e0, upd_self e1, upd_self e7, upd_self e8];refine W.seq (W.region (L.val (x_lss rfl rfl) rfl ?_));refine L.nil (thn_n (W.seq (W.cond (b := _) rfl (fun g9 => ?_) (fun g9 => ?_))))
   ·have h9 := of_decide_eq_true g9;have hlt : k < l.length := by omega
    obtain ⟨b, o, rfl, hc⟩ := hl.elem hlt;refine W.skip (thn_n (W.seq (W.block (W.seq (W.region (L.val (x_mv (v := .int _ _) rfl) rfl ?_))))));refine L.val (x_as (v := .int _ _) rfl) rfl ?_;refine L.nil (thn_n (W.seq (W.region (L.val (x_mv (v := .func _ _ _) rfl) rfl ?_))));refine L.val (x_mv (v := .slice _ _ _) rfl) rfl ?_;refine L.val (x_mv (v := .int _ _) rfl) rfl ?_;refine L.val (x_ia1 (j := k) Tryz.underlying22 kgrad2_sz9 rfl rfl om_ om_) rfl ?_;refine L.val (x_ld (v := S _) kgrad2_oc9 rfl hc) rfl ?_;refine L.ret (x_callv eg rfl rfl) rfl (hq _ k hB hlt) ?_;rintro _ w16 ⟨rfl, hw⟩;have hB := hB.carry hw; have hl := hl.carry hw;refine L.nil (thn_n (W.cond (b := _) rfl (fun g16 => ?_) (fun g16 => ?_)))
    ·have h16 := g16;refine W.seq (W.region (L.val (x_mv (v := .int _ _) rfl) rfl ?_));refine L.val (x_as (v := .int _ _) rfl) rfl ?_;refine L.nil (thn_n (W.ret (blk_r (thn_r (thn_r (blk_r (thn_r (fin_mk (.inr rfl) ?_))))))));exact ⟨⟨_, rfl, by rw [any_hit hlt h16]; exact decide_eq_true om_⟩, hB⟩
    ·have h16 := g16;refine W.skip (blk_n (thn_n (W.region (L.val (x_add rfl rfl (wr64 om_)) rfl ?_))));refine L.val (x_mv (v := .int _ _) rfl) rfl ?_;refine L.nil (thn_n ⟨rfl, ?_⟩);refine ⟨_, ?_, k + 1, rfl, vi_, vi_, vi_, vi_, ao_, ao_, ao_, (by rw [any_succ, hne, h16]; rfl)⟩;omega
   ·have h9 := dlt_f g9;refine W.exit (thn_x (thn_x (blk_hit ?_)));refine thn_n (W.seq (W.region (L.val (x_as (v := .int _ _) rfl) rfl ?_)));refine L.nil (thn_n (W.ret (fin_mk (.inr rfl) ?_)));exact ⟨⟨_, rfl, by rw [show l.length = k by omega, hne]; rfl⟩, hB⟩
theorem cfstr_ok (g : Nat) (eg : Enters Tryz.prog g) (cb : List Value) (q : Nat → Bool) (A : Nat → Prop) (v : Value) (l : List Str) (w : World) (hl : StrsAt A w v l)
    (hq : ∀ w1 i, Bel w w1 → i < l.length → Ret Tryz.prog g ([S (l.getD i [])] ++ cb).toArray w1 fun v w' => v = .bool (q i) ∧ Bel w1 w') :
    Ret Tryz.prog 108 #[v, .func (.func g) #[] cb.toArray] w fun r w' => r = .bool ((List.range l.length).any q) ∧ Bel w w' := by
  obtain ⟨p, cap, rfl, -⟩ := id hl;refine ret_of_W Tryz.func108 rfl (Nat.le_of_ble_eq_true rfl) (res1 rfl) ?_;have hB := Gr.refl (fun _ => False) w;refine W.seq (W.region (L.val (x_as (v := .bool _) rfl) rfl ?_));refine L.nil (thn_n (W.seq (W.region (L.val (x_mv (v := .slice _ _ _) rfl) rfl ?_))));refine L.val (x_mv (v := .func _ _ _) rfl) rfl ?_;refine L.ret (x_call kgrad2_en152 rfl) rfl (ifstr_ok g eg cb q A _ l w hl hq) ?_;rintro _ w7 ⟨⟨i, rfl, hi⟩, hw⟩;have hB := hB.carry hw;refine L.val (x_geq rfl rfl) rfl ?_;refine L.val (x_as (v := .bool _) rfl) rfl ?_;refine L.nil (thn_n (W.ret (fin_mk (.inr rfl) ?_)));exact ⟨vb hi, hB⟩
theorem ifsh_ok (g : Nat) (eg : Enters Tryz.prog g) (cb : List Value) (q : Nat → Bool) (A : Nat → Prop) (p : Option Addr) (cap : Nat) (row : Nat → List Value) (l : List Sh) (w : World) (hr : ShRow A w p row l) (hle : l.length ≤ 70368744177664)
    (hq : ∀ w1 i, Bel w w1 → i < l.length → Ret Tryz.prog g ([Value.agg (row i).toArray] ++ cb).toArray w1 fun v w' => v = .bool (q i) ∧ Bel w1 w') :
    Ret Tryz.prog 149 #[.slice p l.length cap, .func (.func g) #[] cb.toArray] w fun r w' => (∃ i : Int, r = .int .i64 i ∧ decide (0 ≤ i) = (List.range l.length).any q) ∧ Bel w w' := by
  refine ret_of_W Tryz.func149 rfl (Nat.le_of_ble_eq_true rfl) (res1 rfl) ?_;have hB := Gr.refl (fun _ => False) w;refine W.seq (W.region (L.val (x_as (v := .int _ _) rfl) rfl ?_));refine L.nil (thn_n (W.seq (W.seq (W.region (L.val (x_mv (v := .slice _ _ _) rfl) rfl ?_)))));refine L.val (x_len_slice Tryz.underlying23 rfl) rfl ?_;refine L.val (x_mv (v := .int _ _) rfl) rfl ?_;refine L.nil (thn_n (W.block (W.loop (fun m' E w' => ∃ (k : Nat), m' = l.length - k ∧ E 0 = .slice p l.length cap ∧ E 1 = .func (.func g) #[] cb.toArray ∧ E 7 = .int .i64 (l.length : Nat) ∧ E 8 = .int .i64 (k : Nat) ∧ (Bel w w') ∧ (ShRow A w' p row l) ∧ (k ≤ l.length) ∧ ((List.range k).any q = false)) (l.length) ?_ ?_)))
  ·exact ⟨0, by omega, vi_, vi_, vi_, vi_, ao_, ao_, ao_, (by rfl)⟩
  ·rintro _ E wL9 ⟨k, em, e0, e1, e7, e8, hB, hr, hk, hne⟩;rw [upd_self e0, upd_self e1, upd_self e7, upd_self e8];refine W.seq (W.region (L.val (x_lss rfl rfl) rfl ?_));refine L.nil (thn_n (W.seq (W.cond (b := _) rfl (fun g9 => ?_) (fun g9 => ?_))))
   ·have h9 := of_decide_eq_true g9;have hlt : k < l.length := by omega
    obtain ⟨b, o, rfl, hc⟩ := hr.elem hlt;refine W.skip (thn_n (W.seq (W.block (W.seq (W.region (L.val (x_mv (v := .int _ _) rfl) rfl ?_))))));refine L.val (x_as (v := .int _ _) rfl) rfl ?_;refine L.nil (thn_n (W.seq (W.region (L.val (x_mv (v := .func _ _ _) rfl) rfl ?_))));refine L.val (x_mv (v := .slice _ _ _) rfl) rfl ?_;refine L.val (x_mv (v := .int _ _) rfl) rfl ?_;refine L.val (x_ia (j := k) Tryz.underlying23 kgrad2_sz25 rfl rfl om_ om_) rfl ?_;refine L.val (x_ldn (vs := row k) kgrad2_ag25 rfl (hr.five k hlt) hc) rfl ?_;refine L.ret (x_callv eg rfl rfl) rfl (hq _ k hB hlt) ?_;rintro _ w16 ⟨rfl, hw⟩;have hB := hB.carry hw; have hr := hr.carry hw;refine L.nil (thn_n (W.cond (b := _) rfl (fun g16 => ?_) (fun g16 => ?_)))
    ·have h16 := g16;refine W.seq (W.region (L.val (x_mv (v := .int _ _) rfl) rfl ?_));refine L.val (x_as (v := .int _ _) rfl) rfl ?_;refine L.nil (thn_n (W.ret (blk_r (thn_r (thn_r (blk_r (thn_r (fin_mk (.inr rfl) ?_))))))));exact ⟨⟨_, rfl, by rw [any_hit hlt h16]; exact decide_eq_true om_⟩, hB⟩
    ·have h16 := g16;refine W.skip (blk_n (thn_n (W.region (L.val (x_add rfl rfl (wr64 om_)) rfl ?_))));refine L.val (x_mv (v := .int _ _) rfl) rfl ?_;refine L.nil (thn_n ⟨rfl, ?_⟩);refine ⟨_, ?_, k + 1, rfl, vi_, vi_, vi_, vi_, ao_, ao_, ao_, (by rw [any_succ, hne, h16]; rfl)⟩;omega
   ·have h9 := dlt_f g9;refine W.exit (thn_x (thn_x (blk_hit ?_)));refine thn_n (W.seq (W.region (L.val (x_as (v := .int _ _) rfl) rfl ?_)));refine L.nil (thn_n (W.ret (fin_mk (.inr rfl) ?_)));exact ⟨⟨_, rfl, by rw [show l.length = k by omega, hne]; rfl⟩, hB⟩
theorem cfsh_ok (g : Nat) (eg : Enters Tryz.prog g) (cb : List Value) (q : Nat → Bool) (A : Nat → Prop) (p : Option Addr) (cap : Nat) (row : Nat → List Value) (l : List Sh) (w : World) (hr : ShRow A w p row l) (hle : l.length ≤ 70368744177664)
    (hq : ∀ w1 i, Bel w w1 → i < l.length → Ret Tryz.prog g ([Value.agg (row i).toArray] ++ cb).toArray w1 fun v w' => v = .bool (q i) ∧ Bel w1 w') :
    Ret Tryz.prog 102 #[.slice p l.length cap, .func (.func g) #[] cb.toArray] w fun r w' => r = .bool ((List.range l.length).any q) ∧ Bel w w' := by
  refine ret_of_W Tryz.func102 rfl (Nat.le_of_ble_eq_true rfl) (res1 rfl) ?_;have hB := Gr.refl (fun _ => False) w;refine W.seq (W.region (L.val (x_as (v := .bool _) rfl) rfl ?_));refine L.nil (thn_n (W.seq (W.region (L.val (x_mv (v := .slice _ _ _) rfl) rfl ?_))));refine L.val (x_mv (v := .func _ _ _) rfl) rfl ?_;refine L.ret (x_call kgrad2_en149 rfl) rfl (ifsh_ok g eg cb q A p cap row l w hr hle hq) ?_;rintro _ w7 ⟨⟨i, rfl, hi⟩, hw⟩;have hB := hB.carry hw;refine L.val (x_geq rfl rfl) rfl ?_;refine L.val (x_as (v := .bool _) rfl) rfl ?_;refine L.nil (thn_n (W.ret (fin_mk (.inr rfl) ?_)));exact ⟨vb hi, hB⟩
def notAny (s : Sh) : Bool := !decide (s.kind = 4)
theorem any_allL {p : Sh → Bool} {l : List Sh} : (List.range l.length).any (fun i => !(l.getD i default).allB p) = !allL p l := by
  cases h : allL p l
  · rw [Bool.not_false, List.any_eq_true]
    suffices H : ∃ i, i < l.length ∧ (l.getD i default).allB p = false by
      obtain ⟨i, hi, h⟩ := H;exact ⟨i, List.mem_range.2 hi, by rw [h]; rfl⟩
    induction l with
    | nil => cases h
    | cons x l ih =>
      rw [allL] at h;cases hx : x.allB p
      · exact ⟨0, by simp, by simpa using hx⟩
      · rw [hx, Bool.true_and] at h;obtain ⟨i, hi, h'⟩ := ih h;exact ⟨i + 1, by simpa using hi, by simpa using h'⟩
  · rw [Bool.not_true, List.any_eq_false];intro i hi;have hi := List.mem_range.1 hi;rw [allL_getD h hi]; simp
theorem plain1_ok (s : Sh) (hp : ∀ (A : Nat → Prop) (cs : List Value) (w : World), ShC A w cs s → Ret Tryz.prog 51 #[.agg cs.toArray] w fun v w' => v = .bool (s.allB notAny) ∧ Bel w w') (A : Nat → Prop) (cs : List Value) (w : World) (hs : ShC A w cs s) :
    Ret Tryz.prog 103 #[.agg cs.toArray] w fun v w' => v = .bool (!s.allB notAny) ∧ Bel w w' := by
  have hlen := hs.len;refine ret_of_W Tryz.func103 rfl (Nat.le_of_ble_eq_true rfl) (res1 rfl) ?_;have hB := Gr.refl (fun _ => False) w;refine W.seq (W.region (L.box (cs := cs) rfl rfl (fun w1 bx1 hw hz1 => ?_)));have hB := hB.carry hw; have hs := hs.carry hw;refine L.val (x_as (v := .bool _) rfl) rfl ?_;refine L.nil (thn_n (W.seq (W.region (L.val (x_ldn (vs := cs) kgrad2_ag25 rfl hlen (bx1.row hlen)) rfl ?_))));refine L.ret (x_call kgrad2_en51 rfl) rfl (hp A _ _ hs) ?_;rintro _ w4 ⟨rfl, hw⟩;have hB := hB.carry hw; have hs := hs.carry hw; have bx1 := bx1.carry hw;refine L.val (x_not rfl) rfl ?_;refine L.val (x_as (v := .bool _) rfl) rfl ?_;refine L.nil (thn_n (W.ret (fin_mk (.inr rfl) ?_)));exact ⟨rfl, hB⟩
theorem plainG_ok : ∀ (N : Nat) (s : Sh), SizeOf.sizeOf s < N → ∀ (A : Nat → Prop) (cs : List Value) (w : World), ShC A w cs s →
    Ret Tryz.prog 51 #[.agg cs.toArray] w fun v w' => v = .bool (s.allB notAny) ∧ Bel w w' := by
  intro N;induction N with
  | zero => intro s h; omega
  | succ N ih =>
    intro s hN A cs w hs;obtain ⟨vn, vp, rfl, hn, hp, hof, hnm⟩ := hs.inv;obtain ⟨p, cap, row, rfl, p1, p2, p3, hr⟩ := hp;refine ret_of_W Tryz.func51 rfl (Nat.le_of_ble_eq_true rfl) (res1 rfl) ?_;have hB := Gr.refl (fun _ => False) w;refine W.seq (W.region (L.box (cs := _) rfl rfl (fun w1 bx1 hw hz1 => ?_)));have hB := hB.carry hw; have hr := hr.carry hw;refine L.val (x_as (v := .bool _) rfl) rfl ?_;refine L.nil (thn_n (W.seq (W.region (L.val (x_fa kgrad2_fo25_0 rfl) rfl ?_))));refine L.val (x_ld (v := .int _ _) kgrad2_oc3 rfl (bx1.cell0 rfl)) rfl ?_;refine L.val (x_neq rfl rfl) rfl ?_;refine L.val (x_mv (v := .bool _) rfl) rfl ?_;refine' L.group 4 7 10 10 6 true rfl ?_ ?_ ?_;rotate_left 1
    ·intro g6 hg6;have h6 := dne_t g6;refine L.gyes' (dj := 6) (b := _) rfl rfl g6 ?_;refine L.val (x_fa kgrad2_fo25_4 rfl) rfl ?_;refine L.gyes' (dj := 6) (b := _) rfl rfl g6 ?_;refine L.val (x_ld (v := .slice _ _ _) kgrad2_oc23 rfl (bx1.cell0 rfl)) rfl ?_;refine L.gyes' (dj := 6) (b := _) rfl rfl g6 ?_;refine L.ret (x_call kgrad2_en102 rfl) rfl (cfsh_ok 103 kgrad2_en103 [] (fun i => !(s.parts.getD i default).allB notAny) A p cap row s.parts _ hr p3 (fun w1 i g hi => plain1_ok _ (fun A cs w h => ih _ (by have := Sh.part_lt hi; omega) A cs w h) A _ _ ((hr.each i hi).carry g))) ?_;rintro _ w9 ⟨rfl, hw⟩;have hB := hB.carry hw; have hr := hr.carry hw; have bx1 := bx1.carry hw; have hg6 := hg6.carry hw;refine L.gyes' (dj := 6) (b := _) rfl rfl g6 ?_;refine L.val (x_not rfl) rfl ?_;refine L.nil (thn_n ⟨rfl, ?_, ?_, fun _ => rfl⟩)
     ·exact hg6
     ·repeat (first | exact jeq.refl _ _ _ | refine jeq.upd rfl ?_ | refine jeq.jk rfl rfl ?_)
    ·intro g6;(iterate 4 refine L.gno (dj := 6) (b := _) rfl rfl g6 rfl ?_);refine L.nil (thn_n ⟨rfl, Gr.refl _ _, ?_⟩);refine ⟨?_, fun h => h.elim⟩;repeat (first | exact jeq.refl _ _ _ | refine jeq.upd rfl ?_ | refine jeq.jk rfl rfl ?_)
    intro J6 w6 hw j6;have hB := hB.carry hw; have hr := hr.carry hw; have bx1 := bx1.carry hw;refine L.val (x_and rfl j6) rfl ?_;refine L.val (x_as (v := .bool _) rfl) rfl ?_;refine L.nil (thn_n (W.ret (fin_mk (.inr rfl) ?_)));exact ⟨vb (by rw [Sh.allB_eq, any_allL]; simp [notAny]), hB⟩
theorem plain_okG (A : Nat → Prop) (s : Sh) (cs : List Value) (w : World) (hs : ShC A w cs s) :
    Ret Tryz.prog 15 #[.agg cs.toArray] w fun v w' => v = .bool (decide (checkS s = 0) && s.allB notAny) ∧ Bel w w' := by
  have hlen := hs.len;refine ret_of_W Tryz.func15 rfl (Nat.le_of_ble_eq_true rfl) (res1 rfl) ?_;have hB := Gr.refl (fun _ => False) w;refine W.seq (W.region (L.box (cs := cs) rfl rfl (fun w1 bx1 hw hz1 => ?_)));have hB := hB.carry hw; have hs := hs.carry hw;refine L.val (x_as (v := .bool _) rfl) rfl ?_;refine L.nil (thn_n (W.seq (W.region (L.val (x_ldn (vs := cs) kgrad2_ag25 rfl hlen (bx1.row hlen)) rfl ?_))));refine L.ret (x_call kgrad2_en50 rfl) rfl (checkL A s _ _ hs) ?_;rintro _ w4 ⟨rfl, hw⟩;have hB := hB.carry hw; have hs := hs.carry hw; have bx1 := bx1.carry hw;refine L.val (x_eql rfl rfl) rfl ?_;refine L.val (x_mv (v := .bool _) rfl) rfl ?_;refine' L.group 2 7 8 8 6 true rfl ?_ ?_ ?_;rotate_left 1
  ·intro g6 hg6;have h6 := of_decide_eq_true g6;refine L.gyes' (dj := 6) (b := _) rfl rfl g6 ?_;refine L.val (x_ldn (vs := cs) kgrad2_ag25 rfl hlen (bx1.row hlen)) rfl ?_;refine L.gyes' (dj := 6) (b := _) rfl rfl g6 ?_;refine L.ret (x_call kgrad2_en51 rfl) rfl (plainG_ok _ s (Nat.lt_succ_self _) A _ _ hs) ?_;rintro _ w8 ⟨rfl, hw⟩;have hB := hB.carry hw; have hs := hs.carry hw; have bx1 := bx1.carry hw; have hg6 := hg6.carry hw;refine L.nil (thn_n ⟨rfl, ?_, ?_, fun _ => rfl⟩)
   ·exact hg6
   ·repeat (first | exact jeq.refl _ _ _ | refine jeq.upd rfl ?_ | refine jeq.jk rfl rfl ?_)
  ·intro g6;refine L.gno (dj := 6) (b := _) rfl rfl g6 rfl ?_;refine L.gno (dj := 6) (b := _) rfl rfl g6 rfl ?_;refine L.nil (thn_n ⟨rfl, Gr.refl _ _, ?_⟩);refine ⟨?_, fun h => h.elim⟩;repeat (first | exact jeq.refl _ _ _ | refine jeq.upd rfl ?_ | refine jeq.jk rfl rfl ?_)
  intro J6 w6 hw j6;have hB := hB.carry hw; have hs := hs.carry hw; have bx1 := bx1.carry hw;refine L.val (x_and rfl j6) rfl ?_;refine L.val (x_as (v := .bool _) rfl) rfl ?_;refine L.nil (thn_n (W.ret (fin_mk (.inr rfl) ?_)));exact ⟨rfl, hB⟩
end Go.Gx
namespace Go.Gx
variable {P : Program} {ops : Array Oper} {Q : Exit → Act → World → Prop} {C : World → Prop}
def YC (P : Program) (ops : Array Oper) (C : World → Prop) (o : Oper) (v : Value) (a : Act) : Prop :=
  Region.wanted o (yielded ops a.tmps) = true ∧ ∀ w, C w → (execOp a.eval o).run P w = .ok (.value v) w
theorem YC.same {o : Oper} {v : Value} {a a' : Act} (hy : YC P ops C o v a) (he : execOp a'.eval o = execOp a.eval o) (hw : Region.wanted o (yielded ops a'.tmps) = Region.wanted o (yielded ops a.tmps)) : YC P ops C o v a' := by
  unfold YC at *;rw [he, hw];exact hy
theorem YC.take {i : Nat} {o : Oper} {v : Value} {a : Act} (hi : ops[i]? = some o) (hy : YC P ops C o v a) {K : Act → World → Prop} {w : World} (hC : C w) (h : K (a.put o.dst v) w) : wpOp P ops Q i K a w := by
  unfold wpOp;simp only [hi, hy.1, if_true, Oper.wp, hy.2 w hC, Oper.upon];exact .inl h
theorem wpOp_late {j : Nat} {oi oj : Oper} {v : Value} (hj : ops[j]? = some oj) (hap : oi.apart ops oj = true)
    (hsi : ∀ cs b, oi.op ≠ .select cs b) (hsj : ∀ cs b, oj.op ≠ .select cs b)
    (hQ : ∀ c a w, Q (.panic c) (a.put oi.dst v) w → Q (.panic c) a w) {K : Act → World → Prop} {a : Act} {w : World}
    (hy : YC P ops C oi v a) (h : wpOp P ops Q j K (a.put oi.dst v) w) :
    wpOp P ops Q j (fun a' w' => YC P ops C oi v a' ∧ K (a'.put oi.dst v) w') a w := by
  obtain ⟨h1, h2, h3⟩ := Oper.apart_spec hap;have keep : ∀ u, YC P ops C oi v (a.put oj.dst u) := fun u => hy.same (execOp_put oi hsi a oj.dst u h3) (wanted_put oi a oj.dst u h3)
  have hw1 := wanted_put oj a oi.dst v h1;have he1 := execOp_put oj hsj a oi.dst v h1;unfold wpOp at h ⊢;simp only [hj] at h ⊢;rw [hw1] at h;by_cases hw : Region.wanted oj (yielded ops a.tmps) = true
  · rw [if_pos hw] at h ⊢;rcases h with h | ⟨ha, hl⟩
    · left;unfold Oper.wp at h ⊢;rw [he1] at h;generalize (execOp a.eval oj).run P w = r at h ⊢;cases r with
      | halt x w' =>
        cases x with
        | panic u => exact hQ _ _ _ h
        | _ => exact h
      | ok x w' =>
        cases x with
        | value u => exact ⟨keep u, by rw [← Act.put_comm a v u h2]; exact h⟩
        | skip => exact ⟨keep _, by rw [← Act.put_comm a v undef h2]; exact h⟩
        | defer d =>
          refine ⟨(hy.same (a' := { a with defers := d :: a.defers }) rfl rfl).same (execOp_put oi hsi _ oj.dst _ h3) (wanted_put oi _ oj.dst _ h3), ?_⟩;rw [← Act.put_comm _ v undef h2, ← Act.put_defers];exact h
        | enter f args =>
          refine Calls.mono h fun e w'' he => ?_
          cases e with
          | returned u => exact ⟨keep u, by rw [← Act.put_comm a v u h2]; exact he⟩
          | panicked c => exact hQ _ _ _ he
          | outgrown => exact he
        | row row args => exact Rows.mono h fun u w'' he => ⟨keep u, by rw [← Act.put_comm a v u h2]; exact he⟩
        | _ => exact h
    · exact .inr ⟨by unfold Oper.asks at *; rw [he1] at ha; exact ha, hl⟩
  · rw [if_neg hw] at h ⊢;exact ⟨keep _, by rw [← Act.put_comm a v undef h2]; exact h⟩
def wpAnyC (P : Program) (ops : Array Oper) (C : World → Prop) (st : Nat) (Q : Exit → Act → World → Prop) : Nat → Array Bool → Act → World → Prop
  | 0, listed, a, w => (listed.getD st false = false → C w) ∧ Region.ready .any ops listed = [] ∧ Q .normal a w
  | f + 1, listed, a, w => (listed.getD st false = false → C w) ∧ (Region.ready .any ops listed = [] → Q .normal a w) ∧ ∀ i ∈ Region.ready .any ops listed, wpOp P ops Q i (wpAnyC P ops C st Q f (listed.setIfInBounds i true)) a w
theorem wpAnyC.any {st : Nat} : ∀ (f : Nat) (listed : Array Bool) (a : Act) (w : World), wpAnyC P ops C st Q f listed a w → wpAny P .any ops Q f listed a w
  | 0, _, _, _, h => h.2
  | f + 1, _, _, _, h => ⟨h.2.1, fun i hi => wpOp_mono (fun _ _ h' => wpAnyC.any f _ _ _ h') (h.2.2 i hi)⟩
theorem wpAnyC.here {st f : Nat} {listed : Array Bool} {a : Act} {w : World} (h : wpAnyC P ops C st Q f listed a w) : listed.getD st false = false → C w := by
  cases f <;> exact h.1
theorem unlisted {listed : Array Bool} {i : Nat} (h : listed.getD i true = false) : listed.getD i false = false := by
  rcases Nat.lt_or_ge i listed.size with h' | h'
  · simp [h'] at h ⊢; exact h
  · simp [Array.getElem?_eq_none h'] at h
theorem wpAnyC.take {i st : Nat} {oi ost : Oper} {v : Value} (hi : ops[i]? = some oi) (hsel : ∀ (j : Nat) (o : Oper) cs b, ops[j]? = some o → o.op ≠ .select cs b)
    (hQ : ∀ c a w, Q (.panic c) (a.put oi.dst v) w → Q (.panic c) a w) (hst : ops[st]? = some ost) (hdep : ∃ e ∈ ost.after, Region.binds .any e = true ∧ e.on = i) (hne : st ≠ i) :
    ∀ (fuel : Nat) (listed : Array Bool) (a : Act) (w : World),
      (listed.getD st false = true → listed.getD i false = true) →
      (∀ j oj, ops[j]? = some oj → j ≠ i → listed.getD j true = false → (∀ e ∈ oj.after, Region.binds .any e = true → e.on ≠ i) → oi.apart ops oj = true) →
      i ∈ Region.ready .any ops listed → YC P ops C oi v a →
      wpAnyC P ops C st Q fuel (listed.setIfInBounds i true) (a.put oi.dst v) w → wpAnyC P ops C st Q (fuel + 1) listed a w := by
  intro fuel;induction fuel with
  | zero =>
    intro listed a w hcl _ hr hy H;have hun := (mem_ready.1 hr).1;have hst0 : listed.getD st false = false := by
      cases hh : listed.getD st false
      · rfl
      · have := hcl hh; rw [unlisted hun] at this; cases this
    have hC : C w := H.1 (by rw [getD_set_ne false hne.symm]; exact hst0);refine ⟨fun _ => hC, fun h => (by rw [h] at hr; cases hr), fun j hj => ?_⟩;by_cases hji : j = i
    · subst hji; exact hy.take hi hC H
    · have := ready_mono hj hji;rw [H.2.1] at this;cases this
  | succ fuel ih =>
    intro listed a w hcl hfree hr hy H;have hun := (mem_ready.1 hr).1;have hst0 : listed.getD st false = false := by
      cases hh : listed.getD st false
      · rfl
      · have := hcl hh; rw [unlisted hun] at this; cases this
    have hC : C w := H.here (by rw [getD_set_ne false hne.symm]; exact hst0);refine ⟨fun _ => hC, fun h => (by rw [h] at hr; cases hr), fun j hj => ?_⟩;by_cases hji : j = i
    · subst hji; exact hy.take hi hC H
    · have h1 := H.2.2 j (ready_mono hj hji);obtain ⟨hjun, oj, hoj, hall⟩ := mem_ready.1 hj;have hnot : ∀ e ∈ oj.after, Region.binds .any e = true → e.on ≠ i := fun e he hb heq => by
        have h1 := hall e he hb;rw [heq, unlisted hun] at h1; cases h1
      have hjst : j ≠ st := fun e => by
        subst e;rw [hst] at hoj; cases hoj;obtain ⟨e, he, hb, hon⟩ := hdep;exact hnot e he hb hon
      have h2 := wpOp_late hoj (hfree j oj hoj hji hjun hnot) (fun cs b => hsel i oi cs b hi) (fun cs b => hsel j oj cs b hoj) hQ hy h1;refine wpOp_mono (fun a' w' h3 => ih (listed.setIfInBounds j true) a' w' (fun h => ?_) (fun k ok hk hki hu hno => ?_) (ready_mono hr (Ne.symm hji)) h3.1 ?_) h2
      · rw [getD_set_ne false hjst, hst0] at h; cases h
      · refine hfree k ok hk hki ?_ hno;by_cases hjk : j = k
        · subst hjk; exact hjun
        · rw [getD_set_ne true hjk] at hu; exact hu
      · rw [Array.setIfInBounds_comm _ _ hji];exact h3.2
section
variable {n st : Nat} {K : List Deferred → Env → World → Prop} {D : List Deferred} {E : Env} {w : World}
def LAC (P : Program) (n : Nat) (ops : Array Oper) (C : World → Prop) (st : Nat) (K : List Deferred → Env → World → Prop) (fuel : Nat) (listed : Array Bool) (D : List Deferred) (E : Env) (w : World) : Prop :=
  ∀ a, Fr D n a E → wpAnyC P ops C st (lift n (nrm K)) fuel listed a w
theorem W.drawT {id : Nat} {l : List Oper} {Q : Post} (C : World → Prop) (st : Nat) (hm : P.follows .mixedOrders = true) (h : LAC P n l.toArray C st (Q .normal) l.length (Array.replicate l.length false) D E w.drew) : W P n (.region id l.toArray true) Q D E w := by
  intro a ha;refine wp_mono (wp_region_any (Q := lift n (nrm (Q .normal))) hm ?_) ?_
  · have := (h a ha).any;simpa using this
  · rintro e a' w' ⟨he, E', hE, rfl, hq⟩;exact ⟨he, E', hE, hq⟩
theorem LAC.take {fuel : Nat} {listed : Array Bool} {i d : Nat} {op : Op} {t : TypeId} {p : String} {af : Array Edge} {v : Value}
    (ho : ops[i]? = some ⟨some d, op, t, p, af, none⟩) (hs : Region.noSelect ops = true) (hf : Region.free .any ops listed i = true) (hr : (Region.ready .any ops listed).contains i = true)
    (hst : (ops[st]?).map (fun o => o.after.any fun e => Region.binds .any e && Nat.beq e.on i) = some true) (hne : Nat.beq st i = false) (hl : listed.getD st true = false)
    (hx : ∀ w, C w → X P op t E w v w) (hd : Nat.blt d n = true) (k : LAC P n ops C st K fuel (listed.setIfInBounds i true) D (upd E d v) w) : LAC P n ops C st K (fuel + 1) listed D E w := by
  intro a ha;cases hos : ops[st]? with
  | none => rw [hos] at hst; cases hst
  | some ost =>
    rw [hos] at hst;simp only [Option.map_some, Option.some.injEq] at hst;obtain ⟨e, he, hb⟩ := Array.any_eq_true'.1 hst;simp only [Bool.and_eq_true] at hb;refine wpAnyC.take ho (Region.noSelect_spec hs) ?_ hos ⟨e, he, hb.1, Nat.eq_of_beq_eq_true hb.2⟩ (fun h => by subst h; simp at hne) fuel listed a w (fun h => by rw [unlisted hl] at h; cases h) (Region.free_spec ho hf) (by simpa using hr)
      ⟨by simp [Region.wanted], fun w hw => ?_⟩ (k _ (ha.put v hd))
    · rintro c a w ⟨_, E, _, h, _⟩; cases h
    · have := hx w hw;unfold X at this;rw [execOp_bare, ha.eval]; exact this
theorem LAC.done {listed : Array Bool} (hr : Region.ready .any ops listed = []) (hl : listed.getD st false = true) (h : K D E w) : LAC P n ops C st K 0 listed D E w :=
  fun _ ha => ⟨fun h0 => (by rw [hl] at h0; cases h0), hr, lift_mk (by simp) ha ⟨rfl, h⟩⟩
def LACs (P : Program) (n : Nat) (ops : Array Oper) (C : World → Prop) (st : Nat) (K : List Deferred → Env → World → Prop) (fuel : Nat) (listed : Array Bool) (D : List Deferred) (E : Env) (w : World) : List Nat → Prop
  | [] => True
  | i :: r => (∃ o, ops[i]? = some o ∧ L P n ops (thn (LAC P n ops C st K fuel (listed.setIfInBounds i true)) (nrm K)) [o] D E w) ∧ LACs P n ops C st K fuel listed D E w r
theorem LAC.step {fuel : Nat} {listed : Array Bool} {rs : List Nat} (hC : listed.getD st false = false → C w) (hr : Region.ready .any ops listed = rs) (hne : rs ≠ [])
    (h : LACs P n ops C st K fuel listed D E w rs) : LAC P n ops C st K (fuel + 1) listed D E w := by
  intro a ha;refine ⟨hC, fun h0 => absurd (hr.symm.trans h0) hne, fun j hj => ?_⟩;rw [hr] at hj;have key : ∀ rs : List Nat, LACs P n ops C st K fuel listed D E w rs → j ∈ rs → ∃ o, ops[j]? = some o ∧ L P n ops (thn (LAC P n ops C st K fuel (listed.setIfInBounds j true)) (nrm K)) [o] D E w := by
    intro rs;induction rs with
    | nil => intro _ hi; cases hi
    | cons k r ih =>
      intro hL hi;rcases List.mem_cons.1 hi with rfl | hi
      · exact hL.1
      · exact ih hL.2 hi
  obtain ⟨o, ho, hLo⟩ := key rs h hj;have h1 := hLo a ha;have hl : ∀ e a w, lift n (thn (LAC P n ops C st K fuel (listed.setIfInBounds j true)) (nrm K)) e a w → Exit.then (wpAnyC P ops C st (lift n (nrm K)) fuel (listed.setIfInBounds j true)) (lift n (nrm K)) e a w := by
    intro e a w ⟨h1, E', h2, h3⟩;cases e <;> simp only [thn, Exit.then] at h3 ⊢;case normal => exact h3 a h2
    case outgrown => exact absurd rfl h1
    all_goals exact ⟨by simp, E', h2, h3⟩
  unfold wpOp;rw [ho];simp only;unfold wpList at h1;split
  · rename_i hw
    rw [if_pos hw] at h1;rcases h1 with h1 | ⟨_, a', w', h1⟩
    · refine .inl ?_;unfold Oper.wp at h1 ⊢;generalize (execOp a.eval o).run P w = res at h1 ⊢;cases res with
      | ok x w' =>
        cases x <;> simp only [Oper.upon, wpList] at h1 ⊢ <;> try exact hl _ _ _ h1
        · refine h1.mono fun e w'' h => ?_
          cases e with
          | returned v => exact hl _ _ _ h
          | panicked c => exact hl _ _ _ h
          | outgrown => obtain ⟨a', w', h⟩ := h; exact absurd rfl h.1
        · exact h1.mono fun v w'' h => hl _ _ _ h
      | halt x w' => cases x <;> simp only [Oper.upon] at h1 ⊢ <;> try exact hl _ _ _ h1
    · exact absurd rfl h1.1
  · rename_i hw; rw [if_neg hw] at h1; exact hl _ _ _ h1
end
theorem L.bs0 {n : Nat} {Q : Post} {D : List Deferred} {E : Env} {w : World} {ops : Array Oper} {r : List Oper} {d : Nat} {T e : TypeId} {sz : Nat} {t : TypeId} {p : String} {af : Array Edge} (hu : P.underlying T = some (.slice e)) (he : elT P e sz = true) (hd : Nat.blt d n = true)
    (k : ∀ w1, Own w1 w.heap.size e sz (.slice (some ⟨w.heap.size, 0, none⟩) 0 0) 0 [] → Bel w w1 → w1.heap.size = w.heap.size + 1 → L P n ops Q r D (upd E d (.slice (some ⟨w.heap.size, 0, none⟩) 0 0)) w1) :
    L P n ops Q (⟨some d, .buildSlice T 0 #[], t, p, af, none⟩ :: r) D E w := by
  obtain ⟨i, z, hi, hz, hs, hzs, hpos, -⟩ := elT_spec he;have e0 : Array.range 0 = #[] := by simp
  have hrun : (Instr.buildSlice T 0 ((#[] : Array (Nat × Operand)).map fun x => (x.1, ev E x.2))).run P w = .ok (.slice (some ⟨w.heap.size, 0, none⟩) 0 0) (w.alloc (.cells #[] e)) := by
    simp [Instr.buildSlice, run_underlying hu, sizeOf, typeInfo, hi, Instr.fill, newRow, e0]
  refine L.val (v := .slice (some ⟨w.heap.size, 0, none⟩) 0 0) (w' := w.alloc (.cells #[] e)) ?_ hd (k _ ⟨by simp, .inr ⟨w.heap.size, 0, #[], rfl, Nat.le_refl _, World.alloc_heap_new w _, Nat.le_refl _, by simp [maxLen], by simp, by simp⟩⟩ (bel_alloc _ _) (by simp));unfold X;simp only [execOp, Sem.run_bind, hrun];rfl
def Holds (w : World) (u : Value) (m : Nat) (news : List Value) : Prop :=
  (∃ a c, u = .slice (some a) m c ∧ ∀ j x, news[j]? = some x → w.cell? (a.add j) = some x) ∨ (u = .slice none 0 0 ∧ m = 0 ∧ news = [])
theorem L.appendG {n : Nat} {Q : Post} {D : List Deferred} {E : Env} {w : World} {base : Nat} {e : TypeId} {sz : Nat} {v : Value} {k : Nat} {xs : List Value} {ops : Array Oper} {r : List Oper} {d : Nat} {x y : Operand} {T t : TypeId} {p : String} {af : Array Edge} {u : Value} {m : Nat} {news : List Value}
    (hu : P.underlying T = some (.slice e)) (he : elT P e sz = true) (hx : ev E x = v) (hy : ev E y = u) (hd : Nat.blt d n = true) (h : Own w base e sz v k xs)
    (hl : news.length = m * sz) (hn : Holds w u m news) (h1 : ∀ u ∈ news, u.oneCell' = true) (hk : (k + m) * 200 ≤ 140737488355328) (hb : base ≤ w.heap.size)
    (kk : ∀ v' w', Own w' base e sz v' (k + m) (xs ++ news) → Gr (fun j => some j = v.ownBlock) w w' → (v'.ownBlock = v.ownBlock ∨ v'.ownBlock = some w.heap.size) → L P n ops Q r D (upd E d v') w') :
    L P n ops Q (⟨some d, .call ⟨.builtin .append, #[x, y], #[T, T]⟩, t, p, af, none⟩ :: r) D E w := by
  rcases hn with ⟨a, c, rfl, hn⟩ | ⟨rfl, rfl, rfl⟩
  · exact L.append hu he hx hy hd h hl hn h1 hk hb (fun v' w' a1 a2 _ a4 => kk v' w' a1 a2 a4)
  · obtain ⟨i, z, hi, -⟩ := elT_spec he;have hrun := run_append_owned_none (P := P) w base T t e i sz hu hi v k xs h;refine L.val (x_append hx hy hrun) hd (kk v w (by simpa using h) (Gr.refl _ _) (.inl rfl))
theorem x_slog {E : Env} {w : World} {x y : Operand} {t s e : TypeId} {a : Option Addr} {c m : Nat} {k : IntKind} {i : Int} {j sz : Nat} (hu : P.underlying s = some (.slice e)) (hs : (P.info? e).map (·.size) = some sz)
    (hx : ev E x = .slice a m c) (hy : ev E y = .int k i) (hi : i = (j : Nat)) (hj : j ≤ m) :
    X P (.slice s x (some y) none none) t E w (.slice (if c = j then a else a.map (·.add (j * sz))) (m - j) (c - j)) w := by
  unfold X;subst hi;cases hi : P.info? e with
  | none => simp [hi] at hs
  | some inf =>
    simp only [hi, Option.map_some, Option.some.injEq] at hs;simp [execOp, hx, hy, Instr.sliceAt, Instr.slice, Instr.sliceBounds, Instr.sliceBound, asIntOf, run_underlying hu, sizeOf, typeInfo, hi, hs, hj]
theorem add_add (b o i j : Nat) : ((⟨b, o, none⟩ : Addr).add i).add j = ⟨b, o + (i + j), none⟩ := by
  cases i <;> cases j <;> simp [Addr.add];omega
theorem own_take {w : World} {base : Nat} {e : TypeId} {sz : Nat} {a : Option Addr} {c k j : Nat} {xs : List Value} (h : Own w base e sz (.slice a k c) k xs) (hj : j ≤ k) : Holds w (.slice a j c) j (xs.take (j * sz)) := by
  rcases h.open with ⟨h1, h2, h3⟩ | ⟨b, cap, tl, h1, -, -, -, hbx⟩
  · cases h1;right;have : j = 0 := by omega
    subst this; simp
  · cases h1;refine .inl ⟨_, _, rfl, fun i x hi => ?_⟩;have hi' : (xs ++ tl)[i]? = some x := by
      rw [List.getElem?_take] at hi;split at hi
      · rw [List.getElem?_append_left (List.getElem?_eq_some_iff.1 hi).1]; exact hi
      · cases hi
    exact hbx.news i x hi'
theorem own_drop {w : World} {base : Nat} {e : TypeId} {sz : Nat} {a : Option Addr} {c k j : Nat} {xs : List Value} (h : Own w base e sz (.slice a k c) k xs) (hj : j ≤ k) :
    Holds w (.slice (if c = j then a else a.map (·.add (j * sz))) (k - j) (c - j)) (k - j) (xs.drop (j * sz)) := by
  have hlen : xs.length = k * sz := h.1;rcases h.open with ⟨h1, h2, h3⟩ | ⟨b, cap, tl, h1, -, hkc, -, hbx⟩
  · cases h1;right;have : j = 0 := by omega
    subst this; subst h3; simp
  · cases h1;left;split
    · next hcj =>
      have : k = j := by omega
      subst this;refine ⟨_, _, rfl, fun i x hi => ?_⟩;rw [List.drop_of_length_le om_] at hi; cases hi
    · refine ⟨(⟨b, 0, none⟩ : Addr).add (j * sz), _, rfl, fun i x hi => ?_⟩;rw [List.getElem?_drop] at hi;have hi' : (xs ++ tl)[j * sz + i]? = some x := by rw [List.getElem?_append_left (List.getElem?_eq_some_iff.1 hi).1]; exact hi
      rw [add_add, Nat.zero_add];exact hbx.cell hi'
end Go.Gx
