/- A disk, as it lies in memory. Conditions: none. -/
import Derived.Test.YtfbcmonbmkafpaaCjWal3
import Derived.Test.YtfbcmonbmkafpaaCjMore
namespace Go.Gx
open Go.Proofs
theorem kdsk1_en39 : Go.Proofs.Enters Try.prog 39 := Go.Proofs.enters_of Try.func39 (by kernel_rfl) rfl
theorem kdsk1_fo42_0 : fieldOff Try.prog 42 0 = some 0 := by kernel_rfl
theorem kdsk1_fo42_5 : fieldOff Try.prog 42 5 = some 7 := by kernel_rfl
theorem kdsk1_oc36 : oneCellT Try.prog 36 = true := by kernel_rfl
theorem kdsk1_oc4 : oneCellT Try.prog 4 = true := by kernel_rfl
def dkTy (T : TypeId) : Bool := T == 42 || T == 86 || T == 88
def lgTy (T : TypeId) : Bool := dkTy T || T == 29
def DkB (ty : TypeId → Bool) (n0 : Nat) (w : World) (k : Nat) : Prop := n0 ≤ k ∧ ∃ cs T m, w.heap[k]? = some (.cells cs T m) ∧ ty T = true
def Dg (ty : TypeId → Bool) (n0 : Nat) (w w' : World) : Prop := Gr (DkB ty n0 w) w w'
section
variable {ty : TypeId → Bool} {n0 b : Nat} {w w' w'' : World} {T : TypeId} {cs : List Value}
theorem Dg.same (h : Dg ty n0 w w') {k : Nat} (hk : k < w.heap.size) (hn : ¬ DkB ty n0 w k) : w'.heap[k]? = w.heap[k]? ∧ ¬ DkB ty n0 w' k := by
  have e := h.block k hk hn
  exact ⟨e, fun ⟨h1, cs, T, m, h2, h3⟩ => hn ⟨h1, cs, T, m, by rw [← e]; exact h2, h3⟩⟩
theorem Dg.refl (ty : TypeId → Bool) (n0 : Nat) (w : World) : Dg ty n0 w w := Gr.refl _ _
theorem DkB.mono {ty' : TypeId → Bool} {k : Nat} (h : DkB ty n0 w k) (ht : ∀ T, ty T = true → ty' T = true) : DkB ty' n0 w k := by
  obtain ⟨h1, cs, T, m, h2, h3⟩ := h
  exact ⟨h1, cs, T, m, h2, ht T h3⟩
theorem Dg.mono {ty' : TypeId → Bool} (h : Dg ty n0 w w') (ht : ∀ T, ty T = true → ty' T = true) : Dg ty' n0 w w' := Gr.mono h (fun _ _ e => DkB.mono e ht)
theorem Dg.trans (h : Dg ty n0 w w') (h2 : Dg ty n0 w' w'') : Dg ty n0 w w'' :=
  ⟨h2.os.trans h.os, h2.tape.trans h.tape, h2.output.trans h.output, Nat.le_trans h.size h2.size, fun k hk hn => by
    obtain ⟨e, hn'⟩ := h.same hk hn
    exact (h2.block k (Nat.lt_of_lt_of_le hk h.size) hn').trans e⟩
theorem Dg.of_bel (g : Bel w w') : Dg ty n0 w w' := g.mono (fun _ _ f => f.elim)
theorem Dg.bel {w0 : World} (h : Bel w0 w) (g : Dg ty w0.heap.size w w') : Bel w0 w' := Gr.step h g (fun i hi e => by have := e.1; omega)
theorem DkB.no_box (h : Box w b T cs) (hT : ty T = false) : ¬ DkB ty n0 w b := fun ⟨_, cs', T', m, e, h3⟩ => by
  unfold Box at h
  rw [h] at e
  cases e
  rw [hT] at h3; cases h3
theorem DkB.box (h : Box w b T cs) (hT : ty T = true) (hb : n0 ≤ b) : DkB ty n0 w b := ⟨hb, _, _, _, h, hT⟩
theorem Box.dg (h : Box w b T cs) (g : Dg ty n0 w w') (hT : ty T = false) : Box w' b T cs := h.carryR g (DkB.no_box h hT)
theorem DkB.no_own {base k sz : Nat} {v : Value} {xs : List Value} (h : Own w base T sz v k xs) (hT : ty T = false) : ∀ j, some j = v.ownBlock → ¬ DkB ty n0 w j := fun j hj => by
  rcases Own.open h with ⟨rfl, -⟩ | ⟨b, cap, tl, rfl, -, -, -, hb⟩
  · cases hj
  · cases hj
    exact DkB.no_box hb hT
theorem DkB.own {base k sz : Nat} {v : Value} {xs : List Value} (h : Own w base T sz v k xs) (hT : ty T = true) (hb : n0 ≤ base) : ∀ j, some j = v.ownBlock → DkB ty n0 w j := fun j hj => by
  rcases Own.open h with ⟨rfl, -⟩ | ⟨b, cap, tl, rfl, hbb, -, -, hbx⟩
  · cases hj
  · cases hj
    exact DkB.box hbx hT (Nat.le_trans hb hbb)
theorem Own.dg {base k sz : Nat} {v : Value} {xs : List Value} (h : Own w base T sz v k xs) (g : Dg ty n0 w w') (hT : ty T = false) : Own w' base T sz v k xs := h.carryR g (DkB.no_own h hT)
theorem StrsAt.dg {v : Value} {l : List Str} (h : StrsAt (DkB ty n0 w) w v l) (g : Dg ty n0 w w') : StrsAt (DkB ty n0 w') w' v l := by
  obtain ⟨p, cap, rfl, h1, h2, h3, h4, h5⟩ := h
  refine ⟨p, cap, rfl, h1, h2, h3, h4, fun hne => ?_⟩
  obtain ⟨b, o, rfl, hA, hc⟩ := h5 hne
  have hlt : b < w.heap.size := World.block_lt_of_cell? w _ (hc 0 (List.length_pos_iff.2 hne))
  exact ⟨b, o, rfl, (g.same hlt hA).2, fun i hi => g.cell (hc i hi) hA⟩
end
structure Dk where
  pl : List Str
  ca : List (Nat × Str)
  armed : Nat
  ops : Nat
  dead : Bool
def waV (x : Nat × Str) : List Value := .int .i64 (x.1 : Nat) :: x.2.map B8
def plV (l : List Str) : List Value := (l.map fun s => s.map B8).flatten
structure DkOk (D : Dk) : Prop where
  pos : 0 < D.pl.length
  small : D.pl.length ≤ 4096
  sec : ∀ s ∈ D.pl, s.length = 64
  cac : ∀ x ∈ D.ca, x.1 < D.pl.length ∧ x.2.length = 64
  few : D.ca.length ≤ 100000 ∧ D.ops ≤ 1000000000
def dkV (vp vc vk : Value) (tn ct : Int) (D : Dk) : List Value := [vp, vc, vk, .int .i64 tn, .int .i64 ct, .int .i64 (D.armed : Nat), .int .i64 (D.ops : Nat), .bool D.dead]
def DiskAt (n0 : Nat) (w : World) (b : Nat) (D : Dk) : Prop :=
  n0 ≤ b ∧ DkOk D ∧ ∃ bp vc vk tn ct, n0 ≤ bp ∧ Box w b 42 (dkV (.slice (some ⟨bp, 0, none⟩) D.pl.length D.pl.length) vc vk tn ct D) ∧ vk.oneCell' = true ∧ Box w bp 86 (plV D.pl) ∧
    Own w n0 88 65 vc D.ca.length (D.ca.map waV).flatten
section
variable {n0 b : Nat} {w w' : World} {D : Dk}
theorem DiskAt.bel (h : DiskAt n0 w b D) (g : Bel w w') : DiskAt n0 w' b D := by
  obtain ⟨h1, h2, bp, vc, vk, tn, ct, h3, h4, h5, h6, h7⟩ := h
  exact ⟨h1, h2, bp, vc, vk, tn, ct, h3, h4.carry g, h5, h6.carry g, Own.carry h7 g⟩
theorem DiskAt.carryR {R : Nat → Prop} (h : DiskAt n0 w b D) (g : Gr R w w') (hR : ∀ k, R k → ∃ T cs, Box w k T cs ∧ T ≠ 42 ∧ T ≠ 86 ∧ T ≠ 88) : DiskAt n0 w' b D := by
  obtain ⟨h1, h2, bp, vc, vk, tn, ct, h3, h4, h5, h6, h7⟩ := h
  have hx : ∀ {k : Nat} {T : TypeId} {cs : List Value}, Box w k T cs → (T = 42 ∨ T = 86 ∨ T = 88) → ¬ R k := fun {k T cs} hb hT hr => by
    obtain ⟨T', cs', hb', n1, n2, n3⟩ := hR k hr
    unfold Box at hb hb'
    rw [hb] at hb'
    cases hb'
    rcases hT with h | h | h
    · exact n1 h
    · exact n2 h
    · exact n3 h
  refine ⟨h1, h2, bp, vc, vk, tn, ct, h3, h4.carryR g (hx h4 (.inl rfl)), h5, h6.carryR g (hx h6 (.inr (.inl rfl))), Own.carryR h7 g fun j hj => ?_⟩
  rcases Own.open h7 with ⟨rfl, -⟩ | ⟨b', cap, tl, rfl, -, -, -, hb⟩
  · cases hj
  · cases hj
    exact hx hb (.inr (.inr rfl))
end
theorem none_d (n0 b : Nat) (D : Dk) (w : World) (h : DiskAt n0 w b D) : Ret Try.prog 39 #[.pointer (some ⟨b, 0, none⟩)] w fun v w' => v = .bool false ∧ w' = w := by
  obtain ⟨h1, h2, bp, vc, vk, tn, ct, h3, hb, h5, h6, h7⟩ := h
  have hp := h2.pos
  refine ret_of_W Try.func39 rfl (Nat.le_of_ble_eq_true rfl) (res1 rfl) ?_
  refine W.seq ?_
  refine W.region ?_
  refine L.val (x_as (v := .bool _) rfl) rfl ?_
  refine L.nil ?_
  refine thn_n ?_
  refine W.seq ?_
  refine W.region ?_
  refine L.val (x_mv (v := .pointer _) rfl) rfl ?_
  refine L.val (x_eqp0 Try.underlying27 rfl rfl) rfl ?_
  refine L.val (x_mv (v := .bool _) rfl) rfl ?_
  refine L.splitat (dj := 5) (b := _) rfl (fun g5 => ?_) (fun g5 => ?_)
  ·have h5 := g5
   cases g5
  ·have h5 := g5
   refine L.gyes' (dj := 5) (b := _) rfl rfl g5 ?_
   refine L.val (x_mv (v := .pointer _) rfl) rfl ?_
   refine L.gyes' (dj := 5) (b := _) rfl rfl g5 ?_
   refine L.val (x_nil rfl) rfl ?_
   refine L.gyes' (dj := 5) (b := _) rfl rfl g5 ?_
   refine L.val (x_fa kdsk1_fo42_0 rfl) rfl ?_
   refine L.gyes' (dj := 5) (b := _) rfl rfl g5 ?_
   refine L.val (x_ld (v := .slice _ _ _) kdsk1_oc36 rfl (hb.cell0 rfl)) rfl ?_
   refine L.gyes' (dj := 5) (b := _) rfl rfl g5 ?_
   refine L.val (x_len_slice Try.underlying36 rfl) rfl ?_
   refine L.gyes' (dj := 5) (b := _) rfl rfl g5 ?_
   refine L.val (x_eql rfl rfl) rfl ?_
   refine L.val (x_pick_f (v := .bool _) (congrArg Value.bool g5) rfl) rfl ?_
   refine L.val (x_as (v := .bool _) rfl) rfl ?_
   refine L.nil ?_
   refine thn_n ?_
   refine W.ret (fin_mk (.inr rfl) ?_)
   refine ⟨?_, rfl⟩
   show Value.bool (decide _) = _
   rw [decide_eq_false (by omega)]
theorem sectors_d (n0 b : Nat) (D : Dk) (w : World) (h : DiskAt n0 w b D) : Ret Try.prog 30 #[.pointer (some ⟨b, 0, none⟩)] w fun v w' => v = .int .i64 (D.pl.length : Nat) ∧ w' = w := by
  obtain ⟨h1, h2, bp, vc, vk, tn, ct, h3, hb, h5, h6, h7⟩ := id h
  refine ret_of_W Try.func30 rfl (Nat.le_of_ble_eq_true rfl) (res1 rfl) ?_
  refine W.seq ?_
  refine W.region ?_
  refine L.val (x_as (v := .int _ _) rfl) rfl ?_
  refine L.nil ?_
  refine thn_n ?_
  refine W.seq ?_
  refine W.seq ?_
  refine W.region ?_
  refine L.val (x_mv (v := .pointer _) rfl) rfl ?_
  refine L.ret (x_call kdsk1_en39 rfl) rfl (none_d n0 b D _ h) ?_
  rintro _ w4 ⟨rfl, hq⟩
  rw [hq]
  refine L.nil ?_
  refine thn_n ?_
  refine W.cond (b := _) rfl (fun g4 => ?_) (fun g4 => ?_)
  ·have h4 := g4
   cases g4
  ·have h4 := g4
   refine W.skip ?_
   refine thn_n ?_
   refine W.seq ?_
   refine W.region ?_
   refine L.val (x_mv (v := .pointer _) rfl) rfl ?_
   refine L.val (x_nil rfl) rfl ?_
   refine L.val (x_fa kdsk1_fo42_0 rfl) rfl ?_
   refine L.val (x_ld (v := .slice _ _ _) kdsk1_oc36 rfl (hb.cell0 rfl)) rfl ?_
   refine L.val (x_len_slice Try.underlying36 rfl) rfl ?_
   refine L.val (x_as (v := .int _ _) rfl) rfl ?_
   refine L.nil ?_
   refine thn_n ?_
   refine W.ret (fin_mk (.inr rfl) ?_)
   exact ⟨rfl, rfl⟩
theorem dead_d (n0 b : Nat) (D : Dk) (w : World) (h : DiskAt n0 w b D) : Ret Try.prog 23 #[.pointer (some ⟨b, 0, none⟩)] w fun v w' => v = .bool D.dead ∧ w' = w := by
  obtain ⟨h1, h2, bp, vc, vk, tn, ct, h3, hb, h5, h6, h7⟩ := id h
  refine ret_of_W Try.func23 rfl (Nat.le_of_ble_eq_true rfl) (res1 rfl) ?_
  refine W.seq ?_
  refine W.region ?_
  refine L.val (x_as (v := .bool _) rfl) rfl ?_
  refine L.nil ?_
  refine thn_n ?_
  refine W.seq ?_
  refine W.region ?_
  refine L.val (x_mv (v := .pointer _) rfl) rfl ?_
  refine L.ret (x_call kdsk1_en39 rfl) rfl (none_d n0 b D _ h) ?_
  rintro _ w4 ⟨rfl, hq⟩
  rw [hq]
  refine L.val (x_not rfl) rfl ?_
  refine L.val (x_mv (v := .bool _) rfl) rfl ?_
  refine L.splitat (dj := 6) (b := _) rfl (fun g6 => ?_) (fun g6 => ?_)
  ·have h6 := (not_t g6)
   refine L.gyes' (dj := 6) (b := _) rfl rfl g6 ?_
   refine L.val (x_mv (v := .pointer _) rfl) rfl ?_
   refine L.gyes' (dj := 6) (b := _) rfl rfl g6 ?_
   refine L.val (x_nil rfl) rfl ?_
   refine L.gyes' (dj := 6) (b := _) rfl rfl g6 ?_
   refine L.val (x_fa kdsk1_fo42_5 rfl) rfl ?_
   refine L.gyes' (dj := 6) (b := _) rfl rfl g6 ?_
   refine L.val (x_ld (v := .bool _) kdsk1_oc4 rfl (hb.cell0 rfl)) rfl ?_
   refine L.val (x_pick_t (v := .bool _) (congrArg Value.bool g6) rfl) rfl ?_
   refine L.val (x_as (v := .bool _) rfl) rfl ?_
   refine L.nil ?_
   refine thn_n ?_
   refine W.ret (fin_mk (.inr rfl) ?_)
   exact ⟨rfl, rfl⟩
  ·have h6 := (not_f g6)
   cases g6
def readyD (D : Dk) (i : Int) : Int := if D.dead then 190 else if 0 ≤ i ∧ i < (D.pl.length : Nat) then 0 else 191
theorem ready_d (n0 b : Nat) (D : Dk) (i : Int) (w : World) (h : DiskAt n0 w b D) : Ret Try.prog 40 #[.pointer (some ⟨b, 0, none⟩), .int .i64 i] w fun v w' => v = .int .i64 (readyD D i) ∧ w' = w := by
  obtain ⟨h1, h2, bp, vc, vk, tn, ct, h3, hb, h5, h6, h7⟩ := id h
  unfold readyD
  refine ret_of_W Try.func40 rfl (Nat.le_of_ble_eq_true rfl) (res1 rfl) ?_
  refine W.seq ?_
  refine W.region ?_
  refine L.val (x_as (v := .int _ _) rfl) rfl ?_
  refine L.nil ?_
  refine thn_n ?_
  refine W.seq ?_
  refine W.block ?_
  refine W.seq ?_
  refine W.region ?_
  refine L.val (x_mv (v := .pointer _) rfl) rfl ?_
  refine L.ret (x_call kdsk1_en39 rfl) rfl (none_d n0 b D _ h) ?_
  rintro _ w7 ⟨rfl, hq⟩
  rw [hq]
  refine L.val (x_as (v := .bool _) rfl) rfl ?_
  refine L.nil ?_
  refine thn_n ?_
  refine W.cond (b := _) rfl (fun g7 => ?_) (fun g7 => ?_)
  ·have h7 := g7
   cases g7
  ·have h7 := g7
   refine W.seq ?_
   refine W.region ?_
   refine L.val (x_mv (v := .pointer _) rfl) rfl ?_
   refine L.val (x_nil rfl) rfl ?_
   refine L.val (x_fa kdsk1_fo42_5 rfl) rfl ?_
   refine L.val (x_ld (v := .bool _) kdsk1_oc4 rfl (hb.cell0 rfl)) rfl ?_
   refine L.val (x_as (v := .bool _) rfl) rfl ?_
   refine L.nil ?_
   refine thn_n ?_
   refine W.cond (b := _) rfl (fun g12 => ?_) (fun g12 => ?_)
   ·have h12 := g12
    rw [if_pos g12]
    refine W.seq ?_
    refine W.region ?_
    refine L.val (x_as (v := .int _ _) rfl) rfl ?_
    refine L.nil ?_
    refine thn_n ?_
    refine W.ret (blk_r (thn_r (fin_mk (.inr rfl) ?_)))
    exact ⟨rfl, rfl⟩
   ·have h12 := g12
    rw [if_neg (by rw [g12]; decide)]
    refine W.seq ?_
    refine W.region ?_
    refine L.val (x_mv (v := .int _ _) rfl) rfl ?_
    refine L.val (x_lss rfl rfl) rfl ?_
    refine L.val (x_mv (v := .bool _) rfl) rfl ?_
    refine' L.group0 7 17 23 23 16 false rfl ?_ ?_ ?_
    rotate_left 1
    ·intro g16
     have h16 := dlt_f g16
     refine L.gyes' (dj := 16) (b := _) rfl rfl g16 ?_
     refine L.val (x_mv (v := .int _ _) rfl) rfl ?_
     refine L.gyes' (dj := 16) (b := _) rfl rfl g16 ?_
     refine L.val (x_mv (v := .pointer _) rfl) rfl ?_
     refine L.gyes' (dj := 16) (b := _) rfl rfl g16 ?_
     refine L.val (x_nil rfl) rfl ?_
     refine L.gyes' (dj := 16) (b := _) rfl rfl g16 ?_
     refine L.val (x_fa kdsk1_fo42_0 rfl) rfl ?_
     refine L.gyes' (dj := 16) (b := _) rfl rfl g16 ?_
     refine L.val (x_ld (v := .slice _ _ _) kdsk1_oc36 rfl (hb.cell0 rfl)) rfl ?_
     refine L.gyes' (dj := 16) (b := _) rfl rfl g16 ?_
     refine L.val (x_len_slice Try.underlying36 rfl) rfl ?_
     refine L.gyes' (dj := 16) (b := _) rfl rfl g16 ?_
     refine L.val (x_geq rfl rfl) rfl ?_
     refine L.nil ?_
     refine thn_n ⟨rfl, rfl, ?_, rfl⟩
     repeat (first | exact jeq.refl _ _ _ | refine jeq.upd rfl ?_ | refine jeq.jk rfl rfl ?_)
    ·intro g16
     refine L.gno (dj := 16) (b := _) rfl rfl g16 rfl ?_
     refine L.gno (dj := 16) (b := _) rfl rfl g16 rfl ?_
     refine L.gno (dj := 16) (b := _) rfl rfl g16 rfl ?_
     refine L.gno (dj := 16) (b := _) rfl rfl g16 rfl ?_
     refine L.gno (dj := 16) (b := _) rfl rfl g16 rfl ?_
     refine L.gno (dj := 16) (b := _) rfl rfl g16 rfl ?_
     refine L.gno (dj := 16) (b := _) rfl rfl g16 rfl ?_
     refine L.nil (thn_n ⟨rfl, rfl, ?_⟩)
     repeat (first | exact jeq.refl _ _ _ | refine jeq.upd rfl ?_ | refine jeq.jk rfl rfl ?_)
    intro J16 j16
    refine L.val (x_or rfl j16) rfl ?_
    refine L.val (x_as (v := .bool _) rfl) rfl ?_
    refine L.nil ?_
    refine thn_n ?_
    refine W.cond (b := _) rfl (fun g24 => ?_) (fun g24 => ?_)
    ·have h24 := g24
     have hno : ¬ (0 ≤ i ∧ i < (D.pl.length : Nat)) := by simp only [Bool.or_eq_true, decide_eq_true_eq] at g24; omega
     rw [if_neg hno]
     refine W.seq ?_
     refine W.region ?_
     refine L.val (x_as (v := .int _ _) rfl) rfl ?_
     refine L.nil ?_
     refine thn_n ?_
     refine W.ret (blk_r (thn_r (fin_mk (.inr rfl) ?_)))
     exact ⟨rfl, rfl⟩
    ·have h24 := g24
     have hyes : 0 ≤ i ∧ i < (D.pl.length : Nat) := by simp only [Bool.or_eq_false_iff, decide_eq_false_iff_not] at g24; omega
     rw [if_pos hyes]
     refine W.skip ?_
     refine blk_n ?_
     refine thn_n ?_
     refine W.seq ?_
     refine W.region ?_
     refine L.val (x_as (v := .int _ _) rfl) rfl ?_
     refine L.nil ?_
     refine thn_n ?_
     refine W.ret (fin_mk (.inr rfl) ?_)
     exact ⟨rfl, rfl⟩
end Go.Gx
namespace Go.Gx
open Go.Proofs
section
variable {P : Program} {n : Nat} {Q : Post} {D : List Deferred} {E : Env} {w : World}
theorem L.setPart {ops : Array Oper} {r : List Oper} {x y : Operand} {s t : TypeId} {p : String} {af : Array Edge} {b o k : Nat} {T : TypeId} {cs new : List Value} (hs : aggT P s k = true)
    (hx : ev E x = .pointer (some ⟨b, o, none⟩)) (hy : ev E y = .agg new.toArray) (hb : Box w b T cs) (hl : o + k ≤ cs.length) (hn : new.length = k) (h1 : ∀ v ∈ new, v.oneCell' = true)
    (kk : ∀ w1, Box w1 b T (cs.take o ++ new ++ cs.drop (o + k)) → Gr (· = b) w w1 → w1.heap.size = w.heap.size → L P n ops Q r D E w1) : L P n ops Q (⟨none, .store s x y, t, p, af, none⟩ :: r) D E w := by
  unfold aggT at hs
  simp only [Bool.and_eq_true, beq_iff_eq] at hs
  have hst := run_storeCells_at P b o T new 0 cs.toArray w hb (by simpa [hn] using hl) h1
  have hrun : (storeVar s ⟨b, o, none⟩ (.agg new.toArray)).run P w = .ok () (w.setRow b (cs.take o ++ new ++ cs.drop (o + k)).toArray) := by
    cases hq : P.info? s with
    | none => rw [hq] at hs; simp at hs
    | some i =>
      have hi : i.size = k := by rw [hq] at hs; simpa using hs.2
      simp only [Nat.add_zero, hn] at hst
      simp [storeVar, sizeOf, typeInfo, hq, Value.cells, hi, hn, hst]
  refine L.skip (w' := w.setRow b (cs.take o ++ new ++ cs.drop (o + k)).toArray) ?_ (kk _ (setRow_heap w b cs.toArray _ T (0, 0) hb) ⟨rfl, rfl, rfl, by simp [World.setRow], fun k _ hk => setRow_other w b k _ hk⟩ (by simp [World.setRow]))
  unfold Xs
  simp only [execOp, hx, hy, Instr.storeAt, Instr.sureAddr, Sem.run_bind, Sem.run_pure, Result.andThen_ok, hrun]
end
end Go.Gx
namespace Go.Gx
open Go.Proofs
theorem kdsk2_ag88 : aggT Try.prog 88 65 = true := by kernel_rfl
theorem kdsk2_el86 : elT Try.prog 86 64 = true := by kernel_rfl
theorem kdsk2_el88 : elT Try.prog 88 65 = true := by kernel_rfl
theorem kdsk2_en40 : Go.Proofs.Enters Try.prog 40 := Go.Proofs.enters_of Try.func40 (by kernel_rfl) rfl
theorem kdsk2_en68 : Go.Proofs.Enters Try.prog 68 := Go.Proofs.enters_of Try.func68 (by kernel_rfl) rfl
theorem kdsk2_fo42_1 : fieldOff Try.prog 42 1 = some 1 := by kernel_rfl
theorem kdsk2_fo42_3 : fieldOff Try.prog 42 3 = some 5 := by kernel_rfl
theorem kdsk2_fo42_4 : fieldOff Try.prog 42 4 = some 6 := by kernel_rfl
theorem kdsk2_fo88_1 : fieldOff Try.prog 88 1 = some 1 := by kernel_rfl
theorem kdsk2_mixed : Try.prog.follows .mixedOrders = true := by kernel_rfl
theorem kdsk2_oc3 : oneCellT Try.prog 3 = true := by kernel_rfl
theorem kdsk2_oc37 : oneCellT Try.prog 37 = true := by kernel_rfl
theorem kdsk2_si42 : structInfo Try.prog 42 = some ([(0, 1), (1, 1), (2, 3), (5, 1), (6, 1), (7, 1)], [Value.slice none 0 0, Value.slice none 0 0, Value.slice none 0 0, Value.int .i64 0, Value.int .i64 0, Value.int .i64 0, Value.int .i64 0, Value.bool false]) := by kernel_rfl
theorem kdsk2_sz3 : (Try.prog.info? 3).map (·.size) = some 1 := by kernel_rfl
theorem kdsk2_sz37 : (Try.prog.info? 37).map (·.size) = some 1 := by kernel_rfl
theorem kdsk2_sz5 : (Try.prog.info? 5).map (·.size) = some 1 := by kernel_rfl
theorem kdsk2_zr88 : (Try.prog.info? 88).bind (·.zero) = some (Value.agg [Value.int .i64 0, Value.int .u8 0, Value.int .u8 0, Value.int .u8 0, Value.int .u8 0, Value.int .u8 0, Value.int .u8 0, Value.int .u8 0, Value.int .u8 0, Value.int .u8 0, Value.int .u8 0, Value.int .u8 0, Value.int .u8 0, Value.int .u8 0, Value.int .u8 0, Value.int .u8 0, Value.int .u8 0, Value.int .u8 0, Value.int .u8 0, Value.int .u8 0, Value.int .u8 0, Value.int .u8 0, Value.int .u8 0, Value.int .u8 0, Value.int .u8 0, Value.int .u8 0, Value.int .u8 0, Value.int .u8 0, Value.int .u8 0, Value.int .u8 0, Value.int .u8 0, Value.int .u8 0, Value.int .u8 0, Value.int .u8 0, Value.int .u8 0, Value.int .u8 0, Value.int .u8 0, Value.int .u8 0, Value.int .u8 0, Value.int .u8 0, Value.int .u8 0, Value.int .u8 0, Value.int .u8 0, Value.int .u8 0, Value.int .u8 0, Value.int .u8 0, Value.int .u8 0, Value.int .u8 0, Value.int .u8 0, Value.int .u8 0, Value.int .u8 0, Value.int .u8 0, Value.int .u8 0, Value.int .u8 0, Value.int .u8 0, Value.int .u8 0, Value.int .u8 0, Value.int .u8 0, Value.int .u8 0, Value.int .u8 0, Value.int .u8 0, Value.int .u8 0, Value.int .u8 0, Value.int .u8 0, Value.int .u8 0].toArray) := by kernel_rfl
theorem madeCells_rep (sz c : Nat) (x : Value) : madeCells (List.replicate sz x).toArray (c * sz) = (List.replicate (c * sz) x).toArray := by
  apply Array.ext'
  simp only [madeCells]
  apply List.ext_getElem
  · simp
  · intro i h1 h2
    have h3 : i < c * sz := by simpa using h2
    have hs : 0 < sz := by rcases Nat.eq_zero_or_pos sz with h | h; (rw [h, Nat.mul_zero] at h3; omega); exact h
    simp [Nat.mod_lt i hs]
theorem L.mkZ {P : Program} {n : Nat} {Q : Post} {D : List Deferred} {E : Env} {w : World} {ops : Array Oper} {r : List Oper} {d : Nat} {x : Operand} {s e t : TypeId} {p : String} {af : Array Edge} {v : Value} {sz : Nat} (c : Nat) (hu : P.underlying s = some (.slice e)) (he : elT P e sz = true)
    (hz : ((P.info? e).bind (·.zero)).map (fun z => z.cells) = some (List.replicate sz v).toArray) (hx : ev E x = .int .i64 (c : Nat)) (hc : c ≤ 400000000000) (hd : Nat.blt d n = true)
    (kk : ∀ w1, Box w1 w.heap.size e (List.replicate (c * sz) v) → Bel w w1 → w1.heap.size = w.heap.size + 1 → L P n ops Q r D (upd E d (.slice (some ⟨w.heap.size, 0, none⟩) c c)) w1) :
    L P n ops Q (⟨some d, .makeSlice s x x, t, p, af, none⟩ :: r) D E w := by
  obtain ⟨inf, z, hinf, hz', hs, hzs, hpos, hby⟩ := elT_spec he
  have hzc : z.cells = (List.replicate sz v).toArray := by simpa [hinf, hz'] using hz
  have hrun := run_make (P := P) w s e inf z hu hinf hz' .i64 .i64 (c : Nat) (c : Nat) (by omega) (by omega) (by have : (inf.bytes : Int) * (c : Int) ≤ 200 * (c : Int) := Int.mul_le_mul_of_nonneg_right (by omega) (by omega); omega) (by omega)
  have hmade : madeCells z.cells (((c : Nat) : Int).toNat * inf.size) = (List.replicate (c * sz) v).toArray := by
    rw [hs, hzc, Int.toNat_natCast, madeCells_rep]
  rw [hmade] at hrun
  refine L.val (v := .slice (some ⟨w.heap.size, 0, none⟩) c c) (w' := w.alloc (.cells (List.replicate (c * sz) v).toArray e)) ?_ hd (kk _ (box_alloc _ _ _) (bel_alloc _ _) (by simp))
  unfold X
  simp only [execOp, Sem.run_bind, hx, hrun]
  simp [Result.andThen]
def newD (n : Nat) : Dk := ⟨List.replicate n (zeros 64), [], 0, 0, false⟩
theorem plV_new (n : Nat) : plV (List.replicate n (zeros 64)) = List.replicate (n * 64) (.int .u8 0) := by
  unfold plV
  induction n with
  | zero => rfl
  | succ n ih =>
    have : (zeros 64).map B8 = List.replicate 64 (.int .u8 0) := by unfold zeros; rw [List.map_replicate]; rfl
    rw [List.replicate_succ, List.map_cons, List.flatten_cons, ih, this, List.replicate_append_replicate, Nat.succ_mul, Nat.add_comm]
theorem newD_ok {n : Nat} (h : 1 ≤ n ∧ n ≤ 4096) : DkOk (newD n) := by
  refine ⟨by simp [newD]; omega, by simp [newD]; omega, fun s hs => ?_, fun x hx => (by cases hx), by simp [newD]⟩
  simp only [newD, List.mem_replicate] at hs
  rw [hs.2, zeros_len]
theorem newdisk_ok (n : Nat) (h : 1 ≤ n ∧ n ≤ 4096) (w : World) : Ret Try.prog 15 #[.int .i64 (n : Nat)] w fun v w' => ∃ b, v = .tuple #[.pointer (some ⟨b, 0, none⟩), .int .i64 0] ∧ DiskAt w.heap.size w' b (newD n) ∧ Bel w w' := by
  refine ret_of_W Try.func15 rfl (Nat.le_of_ble_eq_true rfl) (res2 rfl) ?_
  have hB := Gr.refl (fun _ => False) w
  refine W.seq ?_
  refine W.region ?_
  refine L.val (x_as (v := .pointer _) rfl) rfl ?_
  refine L.val (x_as (v := .int _ _) rfl) rfl ?_
  refine L.nil ?_
  refine thn_n ?_
  refine W.seq ?_
  refine W.seq ?_
  refine W.region ?_
  refine L.val (x_mv (v := .int _ _) rfl) rfl ?_
  refine L.val (x_lss rfl rfl) rfl ?_
  refine L.val (x_mv (v := .bool _) rfl) rfl ?_
  refine' L.group0 2 7 8 8 6 false rfl ?_ ?_ ?_
  rotate_left 1
  ·intro g6
   have h6 := dlt_f g6
   refine L.gyes' (dj := 6) (b := _) rfl rfl g6 ?_
   refine L.val (x_mv (v := .int _ _) rfl) rfl ?_
   refine L.gyes' (dj := 6) (b := _) rfl rfl g6 ?_
   refine L.val (x_gtr rfl rfl) rfl ?_
   refine L.nil ?_
   refine thn_n ⟨rfl, rfl, ?_, rfl⟩
   repeat (first | exact jeq.refl _ _ _ | refine jeq.upd rfl ?_ | refine jeq.jk rfl rfl ?_)
  ·intro g6
   refine L.gno (dj := 6) (b := _) rfl rfl g6 rfl ?_
   refine L.gno (dj := 6) (b := _) rfl rfl g6 rfl ?_
   refine L.nil (thn_n ⟨rfl, rfl, ?_⟩)
   repeat (first | exact jeq.refl _ _ _ | refine jeq.upd rfl ?_ | refine jeq.jk rfl rfl ?_)
  intro J6 j6
  refine L.val (x_or rfl j6) rfl ?_
  refine L.nil ?_
  refine thn_n ?_
  refine W.cond (b := _) rfl (fun g9 => ?_) (fun g9 => ?_)
  ·have h9 := g9
   simp only [Bool.or_eq_true, decide_eq_true_eq] at g9; omega
  ·have h9 := g9
   refine W.skip ?_
   refine thn_n ?_
   refine W.seq ?_
   refine W.region ?_
   refine L.val (x_mv (v := .int _ _) rfl) rfl ?_
   refine L.mkZ (v := .int .u8 0) (sz := 64) n Try.underlying36 kdsk2_el86 (by kernel_rfl) rfl (by omega) rfl (fun w11 bx11 hw hz11 => ?_)
   have hB := hB.carry hw
   refine L.val (x_build (cells := [.slice _ _ _, .slice _ _ _, .slice _ _ _, .int _ _, .int _ _, .int _ _, .int _ _, .bool _]) kdsk2_si42 rfl rfl) rfl ?_
   refine L.box (cs := dkV (.slice (some ⟨w.heap.size, 0, none⟩) n n) (.slice none 0 0) (.slice none 0 0) 0 0 (newD n)) rfl rfl (fun w13 bx13 hw hz13 => ?_)
   have hB := hB.carry hw; have bx11 := bx11.carry hw
   have hsz := hB.size
   refine L.val (x_as (v := .pointer _) rfl) rfl ?_
   refine L.val (x_as (v := .int _ _) rfl) rfl ?_
   refine L.nil ?_
   refine thn_n ?_
   refine W.ret (fin_mk (.inr rfl) ?_)
   have e1 : (newD n).pl.length = n := by simp [newD]
   refine ⟨_, rfl, ⟨by omega, newD_ok h, w.heap.size, .slice none 0 0, .slice none 0 0, 0, 0, Nat.le_refl _, by rw [e1]; exact bx13, rfl, ?_, own_nil⟩, hB⟩
   show Box w13 w.heap.size _ (plV (List.replicate n (zeros 64)))
   rw [plV_new]; exact bx11
theorem falls_d (b : Nat) (vp vc vk : Value) (tn ct : Int) (D : Dk) (w : World) (hb : Box w b 42 (dkV vp vc vk tn ct D)) (ha : D.armed = 0) (ho : D.ops ≤ 1000000000) : Ret Try.prog 68 #[.pointer (some ⟨b, 0, none⟩)] w fun v w' => v = .bool false ∧ Box w' b 42 (dkV vp vc vk tn ct { D with ops := D.ops + 1 }) ∧ Gr (fun k => k = b) w w' := by
  refine ret_of_W Try.func68 rfl (Nat.le_of_ble_eq_true rfl) (res1 rfl) ?_
  refine W.seq ?_
  refine W.region ?_
  refine L.val (x_as (v := .bool _) rfl) rfl ?_
  refine L.nil ?_
  refine thn_n ?_
  refine W.seq ?_
  refine W.region ?_
  refine L.val (x_mv (v := .pointer _) rfl) rfl ?_
  refine L.val (x_nil rfl) rfl ?_
  refine L.val (x_fa kdsk2_fo42_4 rfl) rfl ?_
  refine L.val (x_ld (v := .int _ _) kdsk2_oc3 rfl (hb.cell0 rfl)) rfl ?_
  refine L.val (x_add rfl rfl (wr64 (by omega))) rfl ?_
  refine L.val (x_nil rfl) rfl ?_
  refine L.val (x_fa kdsk2_fo42_4 rfl) rfl ?_
  refine L.set (v := .int _ _) kdsk2_sz3 rfl rfl rfl hb rfl (fun wl9 hb hw hzl9 => ?_)
  have hG := hw
  refine L.nil ?_
  refine thn_n ?_
  refine W.seq ?_
  refine W.seq ?_
  refine W.region ?_
  refine L.val (x_mv (v := .pointer _) rfl) rfl ?_
  refine L.val (x_nil rfl) rfl ?_
  refine L.val (x_fa kdsk2_fo42_3 rfl) rfl ?_
  refine L.val (x_ld (v := .int _ _) kdsk2_oc3 rfl (hb.cell0 rfl)) rfl ?_
  refine L.val (x_eql rfl rfl) rfl ?_
  refine L.nil ?_
  refine thn_n ?_
  refine W.cond (b := _) rfl (fun g14 => ?_) (fun g14 => ?_)
  ·have h14 := of_decide_eq_true g14
   refine W.seq ?_
   refine W.region ?_
   refine L.val (x_as (v := .bool _) rfl) rfl ?_
   refine L.nil ?_
   refine thn_n ?_
   refine W.ret (thn_r (fin_mk (.inr rfl) ?_))
   refine ⟨rfl, ?_, hG⟩
   have e : (((D.ops + 1 : Nat) : Int)) = (D.ops : Nat) + 1 := by omega
   unfold dkV
   dsimp only
   rw [e]
   exact hb
  ·have h14 := of_decide_eq_false g14
   omega
theorem waV_len {x : Nat × Str} (h : x.2.length = 64) : (waV x).length = 65 := by simp [waV, h]
theorem waV_one (x : Nat × Str) : ∀ v ∈ waV x, v.oneCell' = true := fun v hv => by
  rcases List.mem_cons.1 hv with rfl | hv
  · rfl
  · exact B8_one _ v hv
theorem fill0 {pl : List (Nat × Nat)} {zs : List Value} {z v : Value} (h : v.cells = #[v]) : fillS ((0, 1) :: pl) (z :: zs) [(0, v)] = some (v :: zs) := by simp [fillS, h]
theorem box_ne {w : World} {b c : Nat} {T U : TypeId} {cs ds : List Value} (h : Box w b T cs) (h2 : Box w c U ds) (hne : Nat.beq T U = false) : b ≠ c := fun e => by
  subst e
  unfold Box at h h2
  rw [h] at h2
  simp only [Option.some.injEq, Obj.cells.injEq] at h2
  rw [h2.2.1] at hne
  simp at hne
def wrD (D : Dk) (i : Nat) (s : Str) : Dk := { D with ca := D.ca ++ [(i, s)], ops := D.ops + 1 }
theorem write_d (n0 b : Nat) (D : Dk) (i : Nat) (s : Str) (w : World) (h : DiskAt n0 w b D) (ha : D.armed = 0) (hd : D.dead = false) (hi : i < D.pl.length) (hs : s.length = 64) (hn : n0 ≤ w.heap.size) (hf : D.ca.length < 100000 ∧ D.ops < 1000000000) :
    Ret Try.prog 55 #[.pointer (some ⟨b, 0, none⟩), .int .i64 (i : Nat), S s] w fun v w' => v = .int .i64 0 ∧ DiskAt n0 w' b (wrD D i s) ∧ Dg dkTy n0 w w' := by
  obtain ⟨h1, h2, bp, vc, vk, tn, ct, h3, hb, h5, hp, hc⟩ := id h
  obtain ⟨ac, cc, rfl, hcc⟩ := own_shape hc
  have hr : readyD D (i : Nat) = 0 := by unfold readyD; rw [hd, if_neg (by decide), if_pos (by omega)]
  have hbl := hb.lt
  have hwl : (waV (i, s)).length = 65 := waV_len (x := (i, s)) hs
  have hqc : ∀ j, some j = (Value.slice ac D.ca.length cc).ownBlock → n0 ≤ j ∧ j < w.heap.size ∧ j ≠ b ∧ j ≠ bp := fun j hj => ⟨(Own.lt hc hj).1, (Own.lt hc hj).2, fun e => own_box_ne hc hb (by decide) (e ▸ hj), fun e => own_box_ne hc hp (by decide) (e ▸ hj)⟩
  have hbpne : bp ≠ b := box_ne hp hb (by decide)
  have hpl := hp.lt
  refine ret_of_W Try.func55 rfl (Nat.le_of_ble_eq_true rfl) (res1 rfl) ?_
  have hB := Gr.refl (fun _ => False) w
  refine W.seq ?_
  refine W.region ?_
  refine L.val (x_as (v := .int _ _) rfl) rfl ?_
  refine L.nil ?_
  refine thn_n ?_
  refine W.seq ?_
  refine W.seq ?_
  refine W.region ?_
  refine L.val (x_mv (v := .pointer _) rfl) rfl ?_
  refine L.val (x_mv (v := .int _ _) rfl) rfl ?_
  refine L.ret (x_call kdsk2_en40 rfl) rfl (ready_d n0 b D _ _ h) ?_
  rintro _ w11 ⟨rfl, hq⟩
  rw [hq, hr]
  refine L.val (x_as (v := .int _ _) rfl) rfl ?_
  refine L.nil ?_
  refine thn_n ?_
  refine W.seq ?_
  refine W.region ?_
  refine L.val (x_mv (v := .int _ _) rfl) rfl ?_
  refine L.val (x_neq rfl rfl) rfl ?_
  refine L.nil ?_
  refine thn_n ?_
  refine W.cond (b := _) rfl (fun g13 => ?_) (fun g13 => ?_)
  ·have h13 := dne_t g13
   cases g13
  ·have h13 := dne_f g13
   refine W.skip ?_
   refine thn_n ?_
   refine W.seq ?_
   refine W.seq ?_
   refine W.region ?_
   refine L.val (x_mv (v := S _) rfl) rfl ?_
   refine L.val (x_len_str Try.underlying9 rfl) rfl ?_
   refine L.val (x_neq rfl rfl) rfl ?_
   refine L.nil ?_
   refine thn_n ?_
   refine W.cond (b := _) rfl (fun g17 => ?_) (fun g17 => ?_)
   ·have h17 := dne_t g17
    omega
   ·have h17 := dne_f g17
    refine W.skip ?_
    refine thn_n ?_
    refine W.seq ?_
    refine W.region ?_
    refine L.val (x_mv (v := .int _ _) rfl) rfl ?_
    refine L.val (x_build (cells := waV (i, zeros 64)) (places := [(0, 1), (1, 64)]) (zero := Value.int .i64 0 :: (zeros 64).map B8) (by kernel_rfl) rfl (fill0 rfl)) rfl ?_
    refine L.alloc (cs := [Value.int .i64 0, Value.int .u8 0, Value.int .u8 0, Value.int .u8 0, Value.int .u8 0, Value.int .u8 0, Value.int .u8 0, Value.int .u8 0, Value.int .u8 0, Value.int .u8 0, Value.int .u8 0, Value.int .u8 0, Value.int .u8 0, Value.int .u8 0, Value.int .u8 0, Value.int .u8 0, Value.int .u8 0, Value.int .u8 0, Value.int .u8 0, Value.int .u8 0, Value.int .u8 0, Value.int .u8 0, Value.int .u8 0, Value.int .u8 0, Value.int .u8 0, Value.int .u8 0, Value.int .u8 0, Value.int .u8 0, Value.int .u8 0, Value.int .u8 0, Value.int .u8 0, Value.int .u8 0, Value.int .u8 0, Value.int .u8 0, Value.int .u8 0, Value.int .u8 0, Value.int .u8 0, Value.int .u8 0, Value.int .u8 0, Value.int .u8 0, Value.int .u8 0, Value.int .u8 0, Value.int .u8 0, Value.int .u8 0, Value.int .u8 0, Value.int .u8 0, Value.int .u8 0, Value.int .u8 0, Value.int .u8 0, Value.int .u8 0, Value.int .u8 0, Value.int .u8 0, Value.int .u8 0, Value.int .u8 0, Value.int .u8 0, Value.int .u8 0, Value.int .u8 0, Value.int .u8 0, Value.int .u8 0, Value.int .u8 0, Value.int .u8 0, Value.int .u8 0, Value.int .u8 0, Value.int .u8 0, Value.int .u8 0]) kdsk2_zr88 rfl rfl (fun w8 bx8 hw hz8 => ?_)
    have hB := hB.carry hw; have hb := hb.carry hw; have hc := hc.carry hw; have hp := hp.carry hw
    refine L.setRow kdsk2_ag88 rfl rfl bx8 rfl rfl (waV_one (i, zeros 64)) (fun wl17 bx8 hw hzl17 => ?_)
    have hsz := hB.size
    have hB := hB.set hw (by omega); have hb := hb.carryR hw (by omega); have hc := Own.carryR hc hw (fun j hj e => by have e : j = _ := e; have := hqc j hj; omega); have hp := hp.carryR hw (by omega)
    refine L.nil ?_
    refine thn_n ?_
    refine W.seq ?_
    refine W.region ?_
    refine L.val (x_fa kdsk2_fo88_1 rfl) rfl ?_
    refine L.val (x_slArr Try.underlying86 kdsk2_sz5 rfl rfl) rfl ?_
    refine L.val (x_mv (v := S _) rfl) rfl ?_
    refine L.cpS Try.underlying67 kdsk2_sz5 rfl rfl rfl bx8 (by omega) (by rw [hs]; exact Nat.le_refl _) (fun w23 bx8 hw hz23 => ?_)
    have hsB := hB.size
    have hB := hB.set hw (by omega); have hb := hb.carryR hw (by omega); have hp := hp.carryR hw (by omega)
    have hc := Own.carryR hc hw (fun j hj e => by have e : j = _ := e; have := hqc j hj; omega)
    have e8 : (waV (i, zeros 64)).take (0 + 1) ++ s.map B8 ++ (waV (i, zeros 64)).drop (0 + 1 + s.length) = waV (i, s) := by
      rw [hs, List.drop_of_length_le (by rw [waV_len (zeros_len 64)]; exact Nat.le_refl _), List.append_nil]
      rfl
    rw [e8] at bx8
    have hb23 := hb
    have hc23 := hc
    refine L.nil ?_
    refine thn_n ?_
    refine W.seq ?_
    refine W.drawD (fun j => some j = (Value.slice ac D.ca.length cc).ownBlock ∨ j = b) (fun j => some j = (Value.slice ac D.ca.length cc).ownBlock) 10 kdsk2_mixed (fun wD24 hw => ?_)
    have hb := hb.carry hw; have hc := hc.carry hw; have hp := hp.carry hw; have bx8 := bx8.carry hw
    have hB0 := Gr.refl (fun j => some j = (Value.slice ac D.ca.length cc).ownBlock) wD24; have hR0 := Gr.refl (fun j => some j = (Value.slice ac D.ca.length cc).ownBlock ∨ j = b) wD24
    have hD := hw
    refine LAD.take0 (i := 0) rfl (by kernel_rfl) (by kernel_rfl) (by kernel_rfl) (by kernel_rfl) (fun w hw => x_mv (v := .pointer _) rfl) rfl ?_
    refine LAD.take0 (i := 1) rfl (by kernel_rfl) (by kernel_rfl) (by kernel_rfl) (by kernel_rfl) (fun w hw => x_mv (v := .pointer _) rfl) rfl ?_
    refine LAD.take0 (i := 2) rfl (by kernel_rfl) (by kernel_rfl) (by kernel_rfl) (by kernel_rfl) (fun w hw => x_nil rfl) rfl ?_
    refine LAD.take0 (i := 3) rfl (by kernel_rfl) (by kernel_rfl) (by kernel_rfl) (by kernel_rfl) (fun w hw => x_fa kdsk2_fo42_1 rfl) rfl ?_
    refine LAD.take1 (i := 4) rfl (by kernel_rfl) (by kernel_rfl) (by kernel_rfl) (by kernel_rfl) (by kernel_rfl) (by kernel_rfl) (fun w hw => x_ld (v := .slice _ _ _) kdsk2_oc37 rfl (hw.keepR (fun e => by have := hqc _ e; (try dsimp only at this); omega) (hb.cell0 rfl))) rfl ?_
    refine LAD.take0 (i := 5) rfl (by kernel_rfl) (by kernel_rfl) (by kernel_rfl) (by kernel_rfl) (fun w hw => x_ldn (vs := waV (i, s)) kdsk2_ag88 rfl hwl (hw.keepRowR (fun e => by rcases e with e | e; (have := hqc _ e; (try dsimp only at this); omega); (have e : (_ : Nat) = _ := e; (try dsimp only at e); omega)) hwl (bx8.row hwl))) rfl ?_
    refine LAD.step (rs := [6]) hR0 (fun _ => hB0) (by kernel_rfl) (by simp) ⟨⟨_, rfl, ?_⟩, trivial⟩
    refine L.bs (sz := 65) (cells := waV (i, s)) Try.underlying37 kdsk2_el88 rfl (by show (partsOk 65 0 [(0, Value.agg (waV (i, s)).toArray)] && decide ([((0 : Nat), Value.agg (waV (i, s)).toArray)].length = 1) && decide (0 < 1) && decide (1 * 65 ≤ 16777216)) = true; simp [partsOk, hwl, Value.cells]) (List.append_nil (waV (i, s))) rfl (fun w30 bx30 hw hz30 => ?_)
    have hB0 := hB0.carry hw; have hR0 := hR0.carry hw; have hb := hb.carry hw; have hc := hc.carry hw
    refine L.nil ?_
    refine thn_n ?_
    refine LAD.step (rs := [7]) hR0 (fun _ => hB0) (by kernel_rfl) (by simp) ⟨⟨_, rfl, ?_⟩, trivial⟩
    refine L.appendN (m := 1) Try.underlying37 kdsk2_el88 rfl rfl rfl hc (by rw [hwl]) (holdsN_box bx30) (waV_one (i, s)) (by omega) (by have := hB.size; have := hB0.size; have := hD.size; omega) (fun v31 w31 hO31 hg hob31 => ?_)
    have hB0 := hB0.intoR hg (fun k e => e)
    have hR0 := hR0.intoR hg (fun k e => .inl e)
    have hb := hb.carryR hg (fun e => (hqc _ e).2.2.1 rfl)
    have hb31 := hb
    obtain ⟨a31, c31, e31, -⟩ := own_shape hO31
    subst e31
    refine L.nil ?_
    refine thn_n ?_
    refine LAD.take0 (i := 8) rfl (by kernel_rfl) (by kernel_rfl) (by kernel_rfl) (by kernel_rfl) (fun w hw => x_nil rfl) rfl ?_
    refine LAD.take0 (i := 9) rfl (by kernel_rfl) (by kernel_rfl) (by kernel_rfl) (by kernel_rfl) (fun w hw => x_fa kdsk2_fo42_1 rfl) rfl ?_
    refine LAD.step (rs := [10]) hR0 (fun _ => hB0) (by kernel_rfl) (by simp) ⟨⟨_, rfl, ?_⟩, trivial⟩
    refine L.set (v := .slice _ _ _) kdsk2_sz37 rfl rfl rfl hb rfl (fun wl32 hb hw hzl32 => ?_)
    have hR0 := hR0.into hw (by first | exact .inl rfl | exact .inr rfl)
    have hn31 : ∀ j, some j = (Value.slice a31 (D.ca.length + 1) c31).ownBlock → j ≠ b := fun j hj e => own_box_ne hO31 hb31 (by decide) (e ▸ hj)
    have hO32 := Own.carryR hO31 hw (fun j hj e => hn31 j hj e)
    refine L.nil ?_
    refine thn_n ?_
    refine LAD.done (by kernel_rfl) (by kernel_rfl) hR0 ?_
    have hp := hp.carryR hR0 (fun e => by rcases e with e | e; exact (hqc _ e).2.2.2 rfl; exact hbpne e)
    have bx8 := trivial
    have hall : Gr (fun j => some j = (Value.slice ac D.ca.length cc).ownBlock ∨ j = b) w23 wl32 := ((Gr.refl _ _).carry hD).trans hR0
    refine thn_n ?_
    refine W.seq ?_
    refine W.seq ?_
    refine W.region ?_
    refine L.val (x_mv (v := .pointer _) rfl) rfl ?_
    refine L.ret (x_call kdsk2_en68 rfl) rfl (falls_d b _ _ _ _ _ D _ hb ha (by omega)) ?_
    rintro _ w35 ⟨rfl, hb35, hG35⟩
    refine L.nil ?_
    refine thn_n ?_
    refine W.cond (b := _) rfl (fun g35 => ?_) (fun g35 => ?_)
    ·have h35 := g35
     cases g35
    ·have h35 := g35
     refine W.skip ?_
     refine thn_n ?_
     refine W.seq ?_
     refine W.region ?_
     refine L.val (x_as (v := .int _ _) rfl) rfl ?_
     refine L.nil ?_
     refine thn_n ?_
     refine W.ret (fin_mk (.inr rfl) ?_)
     refine ⟨rfl, ?_, ?_⟩
     · refine ⟨h1, ⟨h2.pos, h2.small, h2.sec, fun x hx => ?_, ?_⟩, bp, _, vk, tn, ct, h3, hb35, h5, hp.carryR hG35 (fun e => hbpne e), ?_⟩
       · rcases List.mem_append.1 hx with hx | hx
         · exact h2.cac x hx
         · rw [List.mem_singleton.1 hx]; exact ⟨hi, hs⟩
       · simp only [wrD, List.length_append, List.length_singleton]; omega
       · have := Own.carryR hO32 hG35 (fun j hj e => hn31 j hj e)
         simpa [wrD] using this
     · refine (Dg.of_bel hB).trans (Dg.trans (hall.mono fun k _ e => ?_) (hG35.mono fun k _ e => ?_))
       · rcases e with e | rfl
         · exact DkB.own hc23 (by kernel_rfl) (Nat.le_refl _) k e
         · exact DkB.box hb23 (by kernel_rfl) h1
       · have e : k = b := e
         rw [e]
         exact DkB.box hb (by kernel_rfl) h1
end Go.Gx
