/- Numbers and texts taken off bytes; frames taken. Conditions: none. -/
import Derived.Test.YtfbcmonbmkafpaaGreatCmOct2
namespace Go.Gx
open Go.Proofs
theorem koct4_en138 : Go.Proofs.Enters Tryz.prog 138 := Go.Proofs.enters_of Tryz.func138 (by kernel_rfl) rfl
theorem koct4_en146 : Go.Proofs.Enters Tryz.prog 146 := Go.Proofs.enters_of Tryz.func146 (by kernel_rfl) rfl
theorem koct4_mixed : Tryz.prog.follows .mixedOrders = true := by kernel_rfl
theorem koct4_oc3 : oneCellT Tryz.prog 3 = true := by kernel_rfl
theorem koct4_oc4 : oneCellT Tryz.prog 4 = true := by kernel_rfl
theorem koct4_oc9 : oneCellT Tryz.prog 9 = true := by kernel_rfl
theorem koct4_sz3 : (Tryz.prog.info? 3).map (·.size) = some 1 := by kernel_rfl
theorem koct4_sz4 : (Tryz.prog.info? 4).map (·.size) = some 1 := by kernel_rfl
theorem koct4_zr4 : (Tryz.prog.info? 4).bind (·.zero) = some (Value.bool false) := by kernel_rfl
def beV (l : Str) : Nat := l.foldl (fun n b => n * 256 + b.toNat) 0
theorem beV_snoc (l : Str) (b : UInt8) : beV (l ++ [b]) = beV l * 256 + b.toNat := by unfold beV; rw [List.foldl_append]; rfl
theorem beV_lt0 : ∀ (l : Str) (n : Nat), l.foldl (fun n b => n * 256 + b.toNat) n < (n + 1) * 256 ^ l.length
  | [], n => by simp
  | b :: l, n => by
    have h1 := beV_lt0 l (n * 256 + b.toNat)
    have hb := b.toNat_lt
    have h2 : (n * 256 + b.toNat + 1) * 256 ^ l.length ≤ ((n + 1) * 256) * 256 ^ l.length := Nat.mul_le_mul_right _ (by omega)
    rw [List.foldl_cons, List.length_cons, Nat.pow_succ, Nat.mul_comm (256 ^ l.length) 256, ← Nat.mul_assoc]
    omega
theorem beV_lt (l : Str) : beV l < 256 ^ l.length := by have := beV_lt0 l 0; simpa [beV] using this
def takeNum (s : Str) (at_ : Nat) : Nat × Nat × Int :=
  match s.drop at_ with
  | [] => (0, 0, 10)
  | f :: r =>
    if f.toNat < 248 then (f.toNat, at_ + 1, 0)
    else if r.length < f.toNat - 247 then (0, 0, 10)
    else if beV (r.take (f.toNat - 247)) < 248 ∨ widN (beV (r.take (f.toNat - 247))) ≠ f.toNat - 247 then (0, 0, 11)
    else (beV (r.take (f.toNat - 247)), at_ + 1 + (f.toNat - 247), 0)
def takeText (s : Str) (at_ : Nat) : Str × Nat × Int :=
  let (n, p, e) := takeNum s at_
  if e ≠ 0 then ([], 0, e)
  else if s.length - p < n then ([], 0, 10)
  else ((s.drop p).take n, p + n, 0)
theorem nextB_ok (ba bs bf : Nat) (s : Str) (at_ : Nat) (sh : Bool) (w : World) (h1 : Box w ba 3 [.int .i64 (at_ : Nat)]) (h2 : Box w bs 9 [S s]) (h3 : Box w bf 4 [.bool sh]) (hat : at_ ≤ s.length) (hs : s.length ≤ 9223372036854775806) (hd : ba ≠ bs ∧ ba ≠ bf ∧ bs ≠ bf) :
    Ret Tryz.prog 146 #[.pointer (some ⟨ba, 0, none⟩), .pointer (some ⟨bs, 0, none⟩), .pointer (some ⟨bf, 0, none⟩)] w fun v w' => v = .int .u8 ((s.getD at_ 0).toNat : Nat) ∧ Box w' ba 3 [.int .i64 (if at_ = s.length then at_ else at_ + 1 : Nat)] ∧ Box w' bs 9 [S s] ∧ Box w' bf 4 [.bool (sh || decide (at_ = s.length))] ∧ Gr (fun k => k = ba ∨ k = bf) w w' := by
  refine ret_of_W Tryz.func146 rfl (Nat.le_of_ble_eq_true rfl) (res1 rfl) ?_
  refine W.seq ?_
  refine W.region ?_
  refine L.val (x_as (v := .int _ _) rfl) rfl ?_
  refine L.nil ?_
  refine thn_n ?_
  refine W.seq ?_
  refine W.seq ?_
  refine W.region ?_
  refine L.val (x_ld (v := .int _ _) koct4_oc3 rfl (h1.cell (i := 0) rfl)) rfl ?_
  refine L.val (x_ld (v := S _) koct4_oc9 rfl (h2.cell (i := 0) rfl)) rfl ?_
  refine L.val (x_len_str Tryz.underlying9 rfl) rfl ?_
  refine L.val (x_eql rfl rfl) rfl ?_
  refine L.nil ?_
  refine thn_n ?_
  refine W.cond (b := _) rfl (fun g7 => ?_) (fun g7 => ?_)
  ·have h7 := of_decide_eq_true g7
   have he : at_ = s.length := by omega
   refine W.seq ?_
   refine W.region ?_
   refine L.set (v := .bool _) koct4_sz4 rfl rfl rfl h3 rfl (fun wl6 h3 hw hzl6 => ?_)
   have h1 := h1.carryR hw (by omega); have h2 := h2.carryR hw (by omega)
   have hG := hw.mono (R' := fun k => k = ba ∨ k = bf) (fun k _ e => .inr e)
   refine L.nil ?_
   refine thn_n ?_
   refine W.seq ?_
   refine W.region ?_
   refine L.val (x_as (v := .int _ _) rfl) rfl ?_
   refine L.nil ?_
   refine thn_n ?_
   refine W.ret (thn_r (fin_mk (.inr rfl) ?_))
   have e1 : decide (at_ = s.length) = true := decide_eq_true he
   have e0 : s.getD at_ 0 = 0 := by rw [List.getD_eq_getElem?_getD, List.getElem?_eq_none (by omega)]; rfl
   rw [e1, Bool.or_true, e0, if_pos he]
   exact ⟨rfl, h1, h2, h3, hG⟩
  ·have h7 := of_decide_eq_false g7
   have hlt : at_ < s.length := by omega
   refine W.skip ?_
   refine thn_n ?_
   refine W.seq ?_
   refine W.region ?_
   refine L.val (x_ld (v := .int _ _) koct4_oc3 rfl (h1.cell (i := 0) rfl)) rfl ?_
   refine L.val (x_add rfl rfl (wr64 (by omega))) rfl ?_
   refine L.set (v := .int _ _) koct4_sz3 rfl rfl rfl h1 rfl (fun wl10 h1 hw hzl10 => ?_)
   have h2 := h2.carryR hw (by omega); have h3 := h3.carryR hw (by omega)
   have hG := hw.mono (R' := fun k => k = ba ∨ k = bf) (fun k _ e => .inl e)
   refine L.nil ?_
   refine thn_n ?_
   refine W.seq ?_
   refine W.region ?_
   refine L.val (x_ld (v := S _) koct4_oc9 rfl (h2.cell (i := 0) rfl)) rfl ?_
   refine L.val (x_ld (v := .int _ _) koct4_oc3 rfl (h1.cell (i := 0) rfl)) rfl ?_
   refine L.val (x_sub rfl rfl (wr64 (by omega))) rfl ?_
   refine L.val (x_ixs (j := at_) Tryz.underlying9 rfl rfl (by omega) (by omega)) rfl ?_
   refine L.val (x_as (v := .int _ _) rfl) rfl ?_
   refine L.nil ?_
   refine thn_n ?_
   refine W.ret (fin_mk (.inr rfl) ?_)
   have e1 : decide (at_ = s.length) = false := decide_eq_false (by omega)
   rw [e1, Bool.or_false, if_neg (show ¬ at_ = s.length by omega)]
   exact ⟨rfl, h1, h2, h3, hG⟩
theorem x_shl8 {P : Program} {E : Env} {w : World} {x y : Operand} {t u z : TypeId} {k' : IntKind} {n : Nat} (hx : ev E x = .int .u64 (n : Nat)) (hy : ev E y = .int k' 8) (hn : n < 72057594037927936) : X P (.binOp .shl u x y z) t E w (.int .u64 ((n * 256 : Nat) : Int)) w := by
  have h := x_shl (P := P) (t := t) (u := u) (z := z) (w := w) hx hy (by omega) (by show (8 : Int) ≤ ((64 : Nat) : Int); omega)
  have e : IntKind.u64.wrap ((n : Int) * 2 ^ (8 : Int).toNat) = ((n * 256 : Nat) : Int) := by
    rw [show (8 : Int).toNat = 8 from rfl]
    rw [wru64 (by omega)]
    omega
  rwa [e] at h
theorem x_orB {P : Program} {E : Env} {w : World} {x y : Operand} {t u z : TypeId} {n b : Nat} (hx : ev E x = .int .u64 ((n * 256 : Nat) : Int)) (hy : ev E y = .int .u64 (b : Nat)) (hn : n < 72057594037927936) (hb : b < 256) : X P (.binOp .or u x y z) t E w (.int .u64 ((n * 256 + b : Nat) : Int)) w := by
  have h := x_bor (P := P) (t := t) (u := u) (z := z) (w := w) hx hy
  have e : bits .or .u64 ((n * 256 : Nat) : Int) (b : Nat) = ((n * 256 + b : Nat) : Int) := by
    rw [bits_or_u64_nat _ _ (by omega) (by omega)]
    have := Nat.shiftLeft_add_eq_or_of_lt (i := 8) (b := b) (by omega) n
    rw [Nat.shiftLeft_eq] at this
    rw [← this]
  rwa [e] at h
theorem drop_cons {s : Str} {k : Nat} (h : k < s.length) : s.drop k = s.getD k 0 :: s.drop (k + 1) := by
  rw [List.drop_eq_getElem_cons h, List.getD_eq_getElem?_getD, List.getElem?_eq_getElem h]; rfl
theorem takeNum_end {s : Str} {k : Nat} (h : s.length ≤ k) : takeNum s k = (0, 0, 10) := by
  unfold takeNum; rw [List.drop_of_length_le h]
theorem takeNum_at {s : Str} {k : Nat} (h : k < s.length) : takeNum s k =
    if (s.getD k 0).toNat < 248 then ((s.getD k 0).toNat, k + 1, 0)
    else if s.length - (k + 1) < (s.getD k 0).toNat - 247 then (0, 0, 10)
    else if beV ((s.drop (k + 1)).take ((s.getD k 0).toNat - 247)) < 248 ∨ widN (beV ((s.drop (k + 1)).take ((s.getD k 0).toNat - 247))) ≠ (s.getD k 0).toNat - 247 then (0, 0, 11)
    else (beV ((s.drop (k + 1)).take ((s.getD k 0).toNat - 247)), k + 1 + ((s.getD k 0).toNat - 247), 0) := by
  unfold takeNum; rw [drop_cons h]; dsimp only; rw [List.length_drop]
def NumSt (s : Str) (at_ K n0 j a n : Nat) (sh : Bool) : Prop :=
  a ≤ s.length ∧ n < 256 ^ j + 248 ∧ (0 < K → n < 256 ^ j) ∧ (sh = false → a = at_ + 1 + j ∧ n = if K = 0 then n0 else beV ((s.drop (at_ + 1)).take j)) ∧ (sh = true → s.length < at_ + 1 + j)
theorem takeNum_ok (s : Str) (at_ : Nat) (hat : at_ ≤ s.length) (hs : s.length ≤ 1000000000) (w : World) :
    Ret Tryz.prog 123 #[S s, .int .i64 (at_ : Nat)] w fun v w' => v = .tuple #[.int .u64 ((takeNum s at_).1 : Nat), .int .i64 ((takeNum s at_).2.1 : Nat), .int .i64 (takeNum s at_).2.2] ∧ Bel w w' := by
  have hb8 := b8_lt (s.getD at_ 0)
  refine ret_of_W Tryz.func123 rfl (Nat.le_of_ble_eq_true rfl) (res3 rfl) ?_
  have hB := Gr.refl (fun _ => False) w
  refine W.seq ?_
  refine W.region ?_
  refine L.box (cs := [S s]) rfl rfl (fun w2 bx2 hw hz2 => ?_)
  have hB := hB.carry hw
  refine L.box (cs := [.int .i64 (at_ : Nat)]) rfl rfl (fun w3 bx3 hw hz3 => ?_)
  have hB := hB.carry hw; have bx2 := bx2.carry hw
  refine L.val (x_as (v := .int _ _) rfl) rfl ?_
  refine L.val (x_as (v := .int _ _) rfl) rfl ?_
  refine L.val (x_as (v := .int _ _) rfl) rfl ?_
  refine L.nil ?_
  refine thn_n ?_
  refine W.seq ?_
  refine W.seq ?_
  refine W.region ?_
  refine L.val (x_ld (v := .int _ _) koct4_oc3 rfl (bx3.cell (i := 0) rfl)) rfl ?_
  refine L.val (x_lss rfl rfl) rfl ?_
  refine L.val (x_mv (v := .bool _) rfl) rfl ?_
  refine' L.group0 4 15 18 18 14 false rfl ?_ ?_ ?_
  rotate_left 1
  ·intro g14
   have h14 := dlt_f g14
   refine L.gyes' (dj := 14) (b := _) rfl rfl g14 ?_
   refine L.val (x_ld (v := .int _ _) koct4_oc3 rfl (bx3.cell (i := 0) rfl)) rfl ?_
   refine L.gyes' (dj := 14) (b := _) rfl rfl g14 ?_
   refine L.val (x_ld (v := S _) koct4_oc9 rfl (bx2.cell (i := 0) rfl)) rfl ?_
   refine L.gyes' (dj := 14) (b := _) rfl rfl g14 ?_
   refine L.val (x_len_str Tryz.underlying9 rfl) rfl ?_
   refine L.gyes' (dj := 14) (b := _) rfl rfl g14 ?_
   refine L.val (x_gtr rfl rfl) rfl ?_
   refine L.nil ?_
   refine thn_n ⟨rfl, rfl, ?_, rfl⟩
   repeat (first | exact jeq.refl _ _ _ | refine jeq.upd rfl ?_ | refine jeq.jk rfl rfl ?_)
  ·intro g14
   refine L.gno (dj := 14) (b := _) rfl rfl g14 rfl ?_
   refine L.gno (dj := 14) (b := _) rfl rfl g14 rfl ?_
   refine L.gno (dj := 14) (b := _) rfl rfl g14 rfl ?_
   refine L.gno (dj := 14) (b := _) rfl rfl g14 rfl ?_
   refine L.nil (thn_n ⟨rfl, rfl, ?_⟩)
   repeat (first | exact jeq.refl _ _ _ | refine jeq.upd rfl ?_ | refine jeq.jk rfl rfl ?_)
  intro J14 j14
  refine L.val (x_or rfl j14) rfl ?_
  refine L.nil ?_
  refine thn_n ?_
  refine W.cond (b := _) rfl (fun g19 => ?_) (fun g19 => ?_)
  ·have h19 := g19
   simp only [Bool.or_eq_true, decide_eq_true_eq] at g19; omega
  ·have h19 := g19
   refine W.skip ?_
   refine thn_n ?_
   refine W.seq ?_
   refine W.region ?_
   refine L.alloc (cs := [Value.bool false]) koct4_zr4 rfl rfl (fun w7 bx7 hw hz7 => ?_)
   have hB := hB.carry hw; have bx2 := bx2.carry hw; have bx3 := bx3.carry hw
   refine L.set (v := .bool _) koct4_sz4 rfl rfl rfl bx7 rfl (fun wl18 bx7 hw hzl18 => ?_)
   have hsz := hB.size
   have hB := hB.set hw (by omega); have bx2 := bx2.carryR hw (by omega); have bx3 := bx3.carryR hw (by omega)
   refine L.nil ?_
   refine thn_n ?_
   refine W.seq ?_
   refine W.region ?_
   have hz3 := hz3
   refine L.val (x_mkfn rfl rfl) rfl ?_
   refine L.val (x_as (v := _) rfl) rfl ?_
   refine L.nil ?_
   refine thn_n ?_
   refine W.seq ?_
   refine W.region ?_
   refine L.val (x_mv (v := _) rfl) rfl ?_
   refine L.ret (x_callv koct4_en146 rfl rfl) rfl (nextB_ok _ _ _ s at_ false _ bx3 bx2 bx7 hat (by omega) ⟨by omega, by omega, by omega⟩) ?_
   rintro _ w22 ⟨rfl, bx3, bx2, bx7, hG22⟩
   have hsz22 := hG22.size
   have hB := hB.step hG22 (fun i hi e => by rcases e with rfl | rfl <;> omega)
   rw [Bool.false_or] at bx7
   refine L.val (x_as (v := .int _ _) rfl) rfl ?_
   refine L.nil ?_
   refine thn_n ?_
   refine W.seq ?_
   refine W.region ?_
   refine L.val (x_mv (v := .int _ _) rfl) rfl ?_
   refine L.val (x_conv (k' := .u64) (by rw [Tryz.underlying5]; rfl) Tryz.underlying103 rfl (wru64 (by omega))) rfl ?_
   refine L.val (x_as (v := .int _ _) rfl) rfl ?_
   refine L.val (x_as (v := .int _ _) rfl) rfl ?_
   refine L.nil ?_
   refine thn_n ?_
   refine W.cut (fun D' E' w' => D' = [] ∧ ∃ K n0 : Nat, w' = w22 ∧ E' 2 = .pointer (some ⟨w.heap.size, 0, none⟩) ∧ E' 3 = .pointer (some ⟨w2.heap.size, 0, none⟩) ∧ E' 7 = .pointer (some ⟨w3.heap.size, 0, none⟩) ∧ E' 8 = (Value.func (.func 146) ([] : List Value).toArray [.pointer (some ⟨w2.heap.size, 0, none⟩), .pointer (some ⟨w.heap.size, 0, none⟩), .pointer (some ⟨w3.heap.size, 0, none⟩)].toArray) ∧ E' 10 = .int .u64 (n0 : Nat) ∧ E' 11 = .int .i64 (K : Nat) ∧ ((s.getD at_ 0).toNat < 248 ∧ K = 0 ∧ n0 = (s.getD at_ 0).toNat ∨ 248 ≤ (s.getD at_ 0).toNat ∧ K = (s.getD at_ 0).toNat - 247 ∧ n0 = 0)) ?_ ?_
   ·refine W.seq ?_
    refine W.region ?_
    refine L.val (x_mv (v := .int _ _) rfl) rfl ?_
    refine L.val (x_geq rfl rfl) rfl ?_
    refine L.nil ?_
    refine thn_n ?_
    refine W.cond (b := _) rfl (fun g26 => ?_) (fun g26 => ?_)
    ·have h26 := of_decide_eq_true g26
     have hf : 248 ≤ (s.getD at_ 0).toNat := by omega
     have hKn : (s.getD at_ 0).toNat < 248 ∧ (s.getD at_ 0).toNat - 247 = 0 ∧ 0 = (s.getD at_ 0).toNat ∨ 248 ≤ (s.getD at_ 0).toNat ∧ (s.getD at_ 0).toNat - 247 = (s.getD at_ 0).toNat - 247 ∧ 0 = 0 := .inr ⟨hf, rfl, rfl⟩
     refine W.region ?_
     refine L.val (x_mv (v := .int _ _) rfl) rfl ?_
     refine L.val (x_conv (k' := .i64) (by rw [Tryz.underlying5]; rfl) Tryz.underlying3 rfl (wr64 (by omega))) rfl ?_
     refine L.val (x_sub rfl rfl (wr64 (by omega))) rfl ?_
     refine L.val (x_add rfl rfl (wr64 (by omega))) rfl ?_
     refine L.val (x_as (v := .int _ _) rfl) rfl ?_
     refine L.val (x_as (v := .int _ _) rfl) rfl ?_
     refine L.nil ?_
     refine thn_n ?_
     exact ⟨rfl, (s.getD at_ 0).toNat - 247, 0, rfl, rfl, rfl, rfl, rfl, rfl, congrArg (Value.int .i64) (by omega), .inr ⟨hf, rfl, rfl⟩⟩
    ·have h26 := dle_f g26
     have hf : (s.getD at_ 0).toNat < 248 := by omega
     refine W.skip ?_
     refine thn_n ?_
     exact ⟨rfl, 0, (s.getD at_ 0).toNat, rfl, rfl, rfl, rfl, rfl, rfl, rfl, .inl ⟨hf, rfl, rfl⟩⟩
   ·rintro D E w31 ⟨rfl, K, n0, rfl, e2, e3, e7, e8, e10, e11, hK⟩
    rw [upd_self e2, upd_self e3, upd_self e7, upd_self e8, upd_self e10, upd_self e11]
    have hK8 : K ≤ 8 := by omega
    have hst0 : NumSt s at_ K n0 0 (if at_ = s.length then at_ else at_ + 1) n0 (decide (at_ = s.length)) := by
      refine ⟨by split <;> omega, by omega, fun h => by omega, fun h => ?_, fun h => ?_⟩
      · have : ¬ at_ = s.length := of_decide_eq_false h
        rw [if_neg this]
        refine ⟨rfl, ?_⟩
        split
        · rfl
        · rw [List.take_zero]; show n0 = 0; omega
      · have := of_decide_eq_true h; omega
    refine W.seq ?_
    refine W.seq ?_
    refine W.region ?_
    refine L.val (x_mv (v := .int _ _) rfl) rfl ?_
    refine L.val (x_mv (v := .int _ _) rfl) rfl ?_
    refine L.nil ?_
    refine thn_n ?_
    refine W.block ?_
    refine W.loop (fun m' E w' => ∃ (j a n : Nat) (sh : Bool), m' = K - j ∧ E 2 = .pointer (some ⟨w.heap.size, 0, none⟩) ∧ E 3 = .pointer (some ⟨w2.heap.size, 0, none⟩) ∧ E 7 = .pointer (some ⟨w3.heap.size, 0, none⟩) ∧ E 8 = (Value.func (.func 146) ([] : List Value).toArray [.pointer (some ⟨w2.heap.size, 0, none⟩), .pointer (some ⟨w.heap.size, 0, none⟩), .pointer (some ⟨w3.heap.size, 0, none⟩)].toArray) ∧ E 10 = .int .u64 (n : Nat) ∧ E 11 = .int .i64 (K : Nat) ∧ E 31 = .int .i64 (K : Nat) ∧ E 32 = .int .i64 (j : Nat) ∧ (j ≤ K) ∧ (Bel w w') ∧ (Box w' w.heap.size 9 [S s]) ∧ (Box w' w2.heap.size 3 [.int .i64 (a : Nat)]) ∧ (Box w' w3.heap.size 4 [.bool sh]) ∧ (NumSt s at_ K n0 j a n sh)) (K) ?_ ?_
    ·exact ⟨0, _, n0, _, by omega, by first | rfl | exact vi (by omega) | exact vs (by first | assumption | (rw [hst]; done) | (rw [hst]; simp only [List.append_assoc])), by first | rfl | exact vi (by omega) | exact vs (by first | assumption | (rw [hst]; done) | (rw [hst]; simp only [List.append_assoc])), by first | rfl | exact vi (by omega) | exact vs (by first | assumption | (rw [hst]; done) | (rw [hst]; simp only [List.append_assoc])), by first | rfl | exact vi (by omega) | exact vs (by first | assumption | (rw [hst]; done) | (rw [hst]; simp only [List.append_assoc])), by first | rfl | exact vi (by omega) | exact vs (by first | assumption | (rw [hst]; done) | (rw [hst]; simp only [List.append_assoc])), by first | rfl | exact vi (by omega) | exact vs (by first | assumption | (rw [hst]; done) | (rw [hst]; simp only [List.append_assoc])), by first | rfl | exact vi (by omega) | exact vs (by first | assumption | (rw [hst]; done) | (rw [hst]; simp only [List.append_assoc])), by first | rfl | exact vi (by omega) | exact vs (by first | assumption | (rw [hst]; done) | (rw [hst]; simp only [List.append_assoc])), (by first | assumption | omega | rfl), (by first | assumption | omega | rfl), (by first | assumption | omega | rfl), (by first | assumption | omega | rfl), (by first | assumption | omega | rfl), (by exact hst0)⟩
    ·rintro _ E wL33 ⟨j, a, n, sh, em, e2, e3, e7, e8, e10, e11, e31, e32, hj, hB, bx2, bx3, bx7, hst⟩
     rw [upd_self e2, upd_self e3, upd_self e7, upd_self e8, upd_self e10, upd_self e11, upd_self e31, upd_self e32]
     refine W.seq ?_
     refine W.region ?_
     refine L.val (x_lss rfl rfl) rfl ?_
     refine L.nil ?_
     refine thn_n ?_
     refine W.seq ?_
     refine W.cond (b := _) rfl (fun g33 => ?_) (fun g33 => ?_)
     ·have h33 := of_decide_eq_true g33
      have hlt : j < K := by omega
      obtain ⟨s1, -, s2, s3, s4⟩ := hst
      have hn7 : n < 72057594037927936 := Nat.lt_of_lt_of_le (s2 (by omega)) (Nat.le_trans (Nat.pow_le_pow_right (by omega) (show j ≤ 7 by omega)) (by decide))
      have hba := b8_lt (s.getD a 0)
      refine W.skip ?_
      refine thn_n ?_
      refine W.seq ?_
      refine W.block ?_
      refine W.region ?_
      refine L.val (x_mv (v := .int _ _) rfl) rfl ?_
      refine L.val (x_shl8 rfl rfl hn7) rfl ?_
      refine L.val (x_mv (v := _) rfl) rfl ?_
      refine L.ret (x_callv koct4_en146 rfl rfl) rfl (nextB_ok _ _ _ s a sh _ bx3 bx2 bx7 s1 (by omega) ⟨by omega, by omega, by omega⟩) ?_
      rintro _ w37 ⟨rfl, bx3, bx2, bx7, hG37⟩
      refine L.val (x_conv (k' := .u64) (by rw [Tryz.underlying5]; rfl) Tryz.underlying103 rfl (wru64 (by omega))) rfl ?_
      refine L.val (x_orB (n := n) (b := (s.getD a 0).toNat) rfl rfl hn7 (by omega)) rfl ?_
      have hB := hB.step hG37 (fun i hi e => by rcases e with rfl | rfl <;> omega)
      have hst2 : NumSt s at_ K n0 (j + 1) (if a = s.length then a else a + 1) (n * 256 + (s.getD a 0).toNat) (sh || decide (a = s.length)) := by
        have hp : n * 256 + (s.getD a 0).toNat < 256 ^ (j + 1) := by have := s2 (by omega); rw [Nat.pow_succ]; omega
        refine ⟨by split <;> omega, by omega, fun _ => hp, fun h => ?_, fun h => ?_⟩
        · rw [Bool.or_eq_false_iff] at h
          have hne : ¬ a = s.length := of_decide_eq_false h.2
          obtain ⟨ea, en⟩ := s3 h.1
          rw [if_neg hne]
          refine ⟨by omega, ?_⟩
          rw [if_neg (by omega)] at en ⊢
          have e1 : (s.drop (at_ + 1)).take (j + 1) = (s.drop (at_ + 1)).take j ++ [s.getD a 0] := by
            rw [take_snoc (d := 0) (by rw [List.length_drop]; omega), List.getD_eq_getElem?_getD, List.getElem?_drop, ← ea, ← List.getD_eq_getElem?_getD]
          rw [e1, beV_snoc, en]
        · rw [Bool.or_eq_true] at h
          rcases h with h | h
          · have := s4 h; omega
          · have := of_decide_eq_true h
            cases hsh : sh with
            | true => have := s4 hsh; omega
            | false => have := (s3 hsh).1; omega
      refine L.val (x_as (v := .int _ _) rfl) rfl ?_
      refine L.nil ?_
      refine blk_n ?_
      refine thn_n ?_
      refine W.region ?_
      refine L.val (x_add rfl rfl (wr64 (by omega))) rfl ?_
      refine L.val (x_mv (v := .int _ _) rfl) rfl ?_
      refine L.nil ?_
      refine thn_n ⟨rfl, ?_⟩
      refine ⟨_, ?_, j + 1, _, _, _, rfl, by first | rfl | exact vi (by omega) | exact vs (by first | assumption | (rw [hst]; done) | (rw [hst]; simp only [List.append_assoc])), by first | rfl | exact vi (by omega) | exact vs (by first | assumption | (rw [hst]; done) | (rw [hst]; simp only [List.append_assoc])), by first | rfl | exact vi (by omega) | exact vs (by first | assumption | (rw [hst]; done) | (rw [hst]; simp only [List.append_assoc])), by first | rfl | exact vi (by omega) | exact vs (by first | assumption | (rw [hst]; done) | (rw [hst]; simp only [List.append_assoc])), by first | rfl | exact vi (by omega) | exact vs (by first | assumption | (rw [hst]; done) | (rw [hst]; simp only [List.append_assoc])), by first | rfl | exact vi (by omega) | exact vs (by first | assumption | (rw [hst]; done) | (rw [hst]; simp only [List.append_assoc])), by first | rfl | exact vi (by omega) | exact vs (by first | assumption | (rw [hst]; done) | (rw [hst]; simp only [List.append_assoc])), by first | rfl | exact vi (by omega) | exact vs (by first | assumption | (rw [hst]; done) | (rw [hst]; simp only [List.append_assoc])), (by first | assumption | omega | rfl), (by first | assumption | omega | rfl), (by first | assumption | omega | rfl), (by first | assumption | omega | rfl), (by first | assumption | omega | rfl), (by exact hst2)⟩
      omega
     ·have h33 := dlt_f g33
      have hjK : j = K := by omega
      subst hjK
      obtain ⟨s1, s5, s2, s3, s4⟩ := hst
      have hnb : n < 18446744073709551616 := by
        by_cases h0 : 0 < j
        · exact Nat.lt_of_lt_of_le (s2 h0) (Nat.le_trans (Nat.pow_le_pow_right (by omega) hK8) (by decide))
        · have : j = 0 := by omega
          subst this
          omega
      refine W.exit (thn_x (thn_x (blk_hit ?_)))
      refine thn_n ?_
      refine W.seq ?_
      refine W.block ?_
      refine W.seq ?_
      refine W.region ?_
      refine L.val (x_ld (v := .bool _) koct4_oc4 rfl (bx7.cell (i := 0) rfl)) rfl ?_
      refine L.val (x_as (v := .bool _) rfl) rfl ?_
      refine L.nil ?_
      refine thn_n ?_
      refine W.cond (b := _) rfl (fun g42 => ?_) (fun g42 => ?_)
      ·have h42 := g42
       have hlt := s4 g42
       have e : takeNum s at_ = (0, 0, 10) := by
         by_cases he : at_ = s.length
         · exact takeNum_end (by omega)
         · rw [takeNum_at (by omega), if_neg (by omega), if_pos (by omega)]
       refine W.seq ?_
       refine W.region ?_
       refine L.val (x_as (v := .int _ _) rfl) rfl ?_
       refine L.val (x_as (v := .int _ _) rfl) rfl ?_
       refine L.val (x_as (v := .int _ _) rfl) rfl ?_
       refine L.nil ?_
       refine thn_n ?_
       refine W.ret (blk_r (thn_r (fin_mk (.inr rfl) ?_)))
       rw [e]; exact ⟨rfl, hB⟩
      ·have h42 := g42
       obtain ⟨ea, en⟩ := s3 g42
       have hat2 : at_ < s.length := by omega
       refine W.seq ?_
       refine W.region ?_
       refine L.val (x_mv (v := .int _ _) rfl) rfl ?_
       refine L.val (x_gtr rfl rfl) rfl ?_
       refine L.val (x_mv (v := .bool _) rfl) rfl ?_
       refine L.splitat (dj := 46) (b := _) rfl (fun g46 => ?_) (fun g46 => ?_)
       ·have h46 := of_decide_eq_true g46
        have hf8 : 248 ≤ (s.getD at_ 0).toNat := by omega
        have hj7 : (s.getD at_ 0).toNat - 247 = j := by omega
        have hlen : at_ + 1 + j ≤ s.length := by omega
        rw [if_neg (by omega)] at en
        have e0 : takeNum s at_ = if n < 248 ∨ widN n ≠ j then (0, 0, 11) else (n, at_ + 1 + j, 0) := by
          rw [takeNum_at hat2, if_neg (by omega), if_neg (by omega), hj7, ← en]
        refine L.gyes' (dj := 46) (b := _) rfl rfl g46 ?_
        refine L.val (x_mv (v := .int _ _) rfl) rfl ?_
        refine L.gyes' (dj := 46) (b := _) rfl rfl g46 ?_
        refine L.val (x_lss rfl rfl) rfl ?_
        refine L.gyes' (dj := 46) (b := _) rfl rfl g46 ?_
        refine L.val (x_mv (v := .bool _) rfl) rfl ?_
        refine L.splitat (dj := 49) (b := _) rfl (fun g49 => ?_) (fun g49 => ?_)
        ·have h49 := of_decide_eq_true g49
         have e : takeNum s at_ = (0, 0, 11) := by rw [e0, if_pos (.inl (by omega))]
         refine L.gno (dj := 49) (b := _) rfl rfl g49 rfl ?_
         refine L.gno (dj := 49) (b := _) rfl rfl g49 rfl ?_
         refine L.gno (dj := 49) (b := _) rfl rfl g49 rfl ?_
         refine L.gno (dj := 49) (b := _) rfl rfl g49 rfl ?_
         refine L.gyes' (dj := 46) (b := _) rfl rfl g46 ?_
         refine L.val (x_pick_t (v := .bool _) (congrArg Value.bool g49) rfl) rfl ?_
         refine L.val (x_pick_t (v := .bool _) (congrArg Value.bool g46) rfl) rfl ?_
         refine L.val (x_as (v := .bool _) rfl) rfl ?_
         refine L.nil ?_
         refine thn_n ?_
         refine W.cond (b := true) rfl (fun _ => ?_) (fun h => nomatch h)
         refine W.seq ?_
         refine W.region ?_
         refine L.val (x_as (v := .int _ _) rfl) rfl ?_
         refine L.val (x_as (v := .int _ _) rfl) rfl ?_
         refine L.val (x_as (v := .int _ _) rfl) rfl ?_
         refine L.nil ?_
         refine thn_n ?_
         refine W.ret (blk_r (thn_r (fin_mk (.inr rfl) ?_)))
         rw [e]; exact ⟨rfl, hB⟩
        ·have h49 := dlt_f g49
         refine L.gyes' (dj := 49) (b := _) rfl rfl g49 ?_
         refine L.val (x_mv (v := .int _ _) rfl) rfl ?_
         refine L.gyes' (dj := 49) (b := _) rfl rfl g49 ?_
         refine L.ret (x_call koct4_en138 rfl) rfl (width_ok n hnb _) ?_
         rintro _ w51 ⟨rfl, hq51⟩
         rw [hq51]
         refine L.gyes' (dj := 49) (b := _) rfl rfl g49 ?_
         refine L.val (x_mv (v := .int _ _) rfl) rfl ?_
         refine L.gyes' (dj := 49) (b := _) rfl rfl g49 ?_
         refine L.val (x_neq rfl rfl) rfl ?_
         refine L.gyes' (dj := 46) (b := _) rfl rfl g46 ?_
         refine L.val (x_pick_f (v := .bool _) (congrArg Value.bool g49) rfl) rfl ?_
         refine L.val (x_pick_t (v := .bool _) (congrArg Value.bool g46) rfl) rfl ?_
         refine L.val (x_as (v := .bool _) rfl) rfl ?_
         refine L.nil ?_
         refine thn_n ?_
         refine W.cond (b := _) rfl (fun g53 => ?_) (fun g53 => ?_)
         ·have h53 := dne_t g53
          have e : takeNum s at_ = (0, 0, 11) := by rw [e0, if_pos (.inr (by omega))]
          refine W.seq ?_
          refine W.region ?_
          refine L.val (x_as (v := .int _ _) rfl) rfl ?_
          refine L.val (x_as (v := .int _ _) rfl) rfl ?_
          refine L.val (x_as (v := .int _ _) rfl) rfl ?_
          refine L.nil ?_
          refine thn_n ?_
          refine W.ret (blk_r (thn_r (fin_mk (.inr rfl) ?_)))
          rw [e]; exact ⟨rfl, hB⟩
         ·have h53 := dne_f g53
          have e : takeNum s at_ = (n, at_ + 1 + j, 0) := by rw [e0, if_neg (by omega)]
          refine W.skip ?_
          refine blk_n ?_
          refine thn_n ?_
          refine W.seq ?_
          refine W.drawB koct4_mixed (by kernel_rfl) ?_
          refine LQ.val (fun w hw => x_mv (v := .int _ _) rfl) rfl ?_
          refine LQ.val (fun w hw => x_ld (v := .int _ _) koct4_oc3 rfl (hw.keep (bx3.cell (i := 0) rfl))) rfl ?_
          refine LQ.val (fun w hw => x_as (v := .int _ _) rfl) rfl ?_
          refine LQ.val (fun w hw => x_as (v := .int _ _) rfl) rfl ?_
          refine LQ.val (fun w hw => x_as (v := .int _ _) rfl) rfl ?_
          refine LQ.nil ?_
          intro w56 hw
          have hB := hB.carry hw; have bx2 := bx2.carry hw; have bx3 := bx3.carry hw; have bx7 := bx7.carry hw
          refine thn_n ?_
          refine W.ret (fin_mk (.inr rfl) ?_)
          rw [e, ea]; exact ⟨rfl, hB⟩
       ·have h46 := dlt_f g46
        have hj0 : j = 0 := by omega
        subst hj0
        rw [if_pos rfl] at en
        have e : takeNum s at_ = (n, at_ + 1, 0) := by
          rw [takeNum_at hat2, if_pos (by omega)]
          have : n = (s.getD at_ 0).toNat := by omega
          rw [this]
        refine L.gno (dj := 46) (b := _) rfl rfl g46 rfl ?_
        refine L.gno (dj := 46) (b := _) rfl rfl g46 rfl ?_
        refine L.gno (dj := 46) (b := _) rfl rfl g46 rfl ?_
        refine L.gun (dj := 49) rfl rfl rfl ?_
        refine L.gun (dj := 49) rfl rfl rfl ?_
        refine L.gun (dj := 49) rfl rfl rfl ?_
        refine L.gun (dj := 49) rfl rfl rfl ?_
        refine L.gno (dj := 46) (b := _) rfl rfl g46 rfl ?_
        refine L.val (x_pick_f (v := .bool _) (congrArg Value.bool g46) rfl) rfl ?_
        refine L.val (x_as (v := .bool _) rfl) rfl ?_
        refine L.nil ?_
        refine thn_n ?_
        refine W.cond (b := false) rfl (fun h => nomatch h) (fun _ => ?_)
        refine W.skip ?_
        refine blk_n ?_
        refine thn_n ?_
        refine W.seq ?_
        refine W.drawB koct4_mixed (by kernel_rfl) ?_
        refine LQ.val (fun w hw => x_mv (v := .int _ _) rfl) rfl ?_
        refine LQ.val (fun w hw => x_ld (v := .int _ _) koct4_oc3 rfl (hw.keep (bx3.cell (i := 0) rfl))) rfl ?_
        refine LQ.val (fun w hw => x_as (v := .int _ _) rfl) rfl ?_
        refine LQ.val (fun w hw => x_as (v := .int _ _) rfl) rfl ?_
        refine LQ.val (fun w hw => x_as (v := .int _ _) rfl) rfl ?_
        refine LQ.nil ?_
        intro w56 hw
        have hB := hB.carry hw; have bx2 := bx2.carry hw; have bx3 := bx3.carry hw; have bx7 := bx7.carry hw
        refine thn_n ?_
        refine W.ret (fin_mk (.inr rfl) ?_)
        rw [e, ea]; exact ⟨rfl, hB⟩
end Go.Gx
