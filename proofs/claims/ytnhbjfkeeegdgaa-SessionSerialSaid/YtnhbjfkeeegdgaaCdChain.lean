/- Four appends in one assignment: their new elements are laid in any order, the appends one behind the other. Conditions: none. -/
import Derived.Test.YtnhbjfkeeegdgaaCdSes2
import Derived.Test.YtnhbjfkeeegdgaaCdMapS
import Derived.Test.YtnhbjfkeeegdgaaCdSesW
namespace Go.Gx
variable {P : Program} {ops : Array Oper} {n st : Nat} {C0 C1 : World → Prop} {K : List Deferred → Env → World → Prop} {D : List Deferred} {E : Env} {w : World}
theorem LAD.inv {σ : Type} (I : σ → Env → World → Prop) (lst : σ → Array Bool) (μ : σ → Nat) (f0 : Nat)
    (hC : ∀ s E w, I s E w → C0 w ∧ ((lst s).getD st false = false → C1 w))
    (hstep : ∀ s E w, I s E w → μ s ≠ 0 → Region.ready .any ops (lst s) ≠ [] ∧ ∀ i ∈ Region.ready .any ops (lst s), ∃ o s', ops[i]? = some o ∧ lst s' = (lst s).setIfInBounds i true ∧ μ s = μ s' + 1 ∧ L P n ops (thn (fun D' E' w' => D' = D ∧ I s' E' w') (nrm K)) [o] D E w)
    (hend : ∀ s E w, I s E w → μ s = 0 → LAD P n ops C0 C1 st K f0 (lst s) D E w) :
    ∀ (k : Nat) s E w, μ s = k → I s E w → LAD P n ops C0 C1 st K (k + f0) (lst s) D E w := by
  intro k
  induction k with
  | zero => intro s E w hk hI; rw [Nat.zero_add]; exact hend s E w hI hk
  | succ k ih =>
    intro s E w hk hI
    obtain ⟨hne, hall⟩ := hstep s E w hI (by omega)
    obtain ⟨h0, h1⟩ := hC s E w hI
    rw [show k + 1 + f0 = (k + f0) + 1 by omega]
    refine LAD.step (rs := Region.ready .any ops (lst s)) h0 h1 rfl hne ?_
    have key : ∀ rs : List Nat, (∀ i ∈ rs, i ∈ Region.ready .any ops (lst s)) → LADs P n ops C0 C1 st K (k + f0) (lst s) D E w rs := by
      intro rs
      induction rs with
      | nil => intro _; trivial
      | cons i r ih2 =>
        intro hr
        obtain ⟨o, s', ho, hl, hm, hL⟩ := hall i (hr i (by simp))
        refine ⟨⟨o, ho, ?_⟩, ih2 fun j hj => hr j (by simp [hj])⟩
        refine hL.mono fun e D' E' w' hq => ?_
        cases e with
        | normal =>
          obtain ⟨hD, hI'⟩ := hq
          show LAD P n ops C0 C1 st K (k + f0) ((lst s).setIfInBounds i true) D' E' w'
          rw [hD, ← hl]
          exact ih s' E' w' (by omega) hI'
        | _ => exact hq
    exact key _ fun i hi => hi
structure Ch where
  v : Value
  k : Nat
  xs : List Value
  news : List Value
def ChAt (e sz sb sp : Nat) (c : Ch) (n0 : Nat) (b d : Bool) (E : Env) (w : World) : Prop :=
  if d = true then Own w 0 e sz (E sp) (c.k + 1) (c.xs ++ c.news) ∧ ((E sp).ownBlock = c.v.ownBlock ∨ ∃ j, (E sp).ownBlock = some j ∧ n0 ≤ j)
  else Own w 0 e sz c.v c.k c.xs ∧ (b = true → ∃ blk, E sb = .slice (some ⟨blk, 0, none⟩) 1 1 ∧ Box w blk e c.news)
section
variable {e sz sb sp n0 : Nat} {c : Ch} {b d : Bool} {E' : Env} {w' : World}
theorem ChAt.bel (h : ChAt e sz sb sp c n0 b d E w) (g : Bel w w') (hs : E' sb = E sb) (hp : E' sp = E sp) : ChAt e sz sb sp c n0 b d E' w' := by
  unfold ChAt at *
  split
  · next hd => rw [if_pos hd] at h; rw [hp]; exact ⟨h.1.carry g, h.2⟩
  · next hd =>
    rw [if_neg hd] at h
    rw [hs]
    exact ⟨h.1.carry g, fun hb => let ⟨blk, h1, h2⟩ := h.2 hb; ⟨blk, h1, h2.carry g⟩⟩
theorem ChAt.other {e' sz' k' : Nat} {v' : Value} {xs' : List Value} (h : ChAt e sz sb sp c n0 b d E w) (ho : Own w 0 e' sz' v' k' xs') (hne : Nat.beq e' e = false) (g : Gr (fun j => some j = v'.ownBlock) w w') (hs : E' sb = E sb) (hp : E' sp = E sp) : ChAt e sz sb sp c n0 b d E' w' := by
  have hn : Nat.beq e e' = false := by rw [← Bool.not_eq_true] at *; exact fun h => hne (by rw [Nat.eq_of_beq_eq_true h]; simp)
  unfold ChAt at *
  split
  · next hd => rw [if_pos hd] at h; rw [hp]; exact ⟨h.1.carryR g fun j hj => own_ne h.1 ho hn hj, h.2⟩
  · next hd =>
    rw [if_neg hd] at h
    rw [hs]
    exact ⟨h.1.carryR g fun j hj => own_ne h.1 ho hn hj, fun hb => let ⟨blk, h1, h2⟩ := h.2 hb; ⟨blk, h1, h2.carryR g (own_box_ne ho h2 hne)⟩⟩
theorem ChAt.laid {blk : Nat} (h : ChAt e sz sb sp c n0 b false E w) (g : Bel w w') (hs : E' sb = .slice (some ⟨blk, 0, none⟩) 1 1) (hb : Box w' blk e c.news) : ChAt e sz sb sp c n0 true false E' w' := by
  unfold ChAt at *
  rw [if_neg (by simp)] at h ⊢
  exact ⟨h.1.carry g, fun _ => ⟨blk, hs, hb⟩⟩
theorem ChAt.added (ho : Own w' 0 e sz (E' sp) (c.k + 1) (c.xs ++ c.news)) (hob : (E' sp).ownBlock = c.v.ownBlock ∨ ∃ j, (E' sp).ownBlock = some j ∧ n0 ≤ j) : ChAt e sz sb sp c n0 b true E' w' := by
  unfold ChAt; rw [if_pos rfl]; exact ⟨ho, hob⟩
end
structure CS where
  b0 : Bool
  b1 : Bool
  b2 : Bool
  b3 : Bool
  j : Nat
def CS.ok (s : CS) : Bool := decide (s.j ≤ 4) && (decide (s.j ≤ 0) || s.b0) && (decide (s.j ≤ 1) || s.b1) && (decide (s.j ≤ 2) || s.b2) && (decide (s.j ≤ 3) || s.b3)
def CS.left (s : CS) : Nat := (if s.b0 then 0 else 1) + (if s.b1 then 0 else 1) + (if s.b2 then 0 else 1) + (if s.b3 then 0 else 1) + (4 - s.j)
structure CN where
  bi : Nat → Nat
  ai : Nat → Nat
  sb : Nat → Nat
  sp : Nat → Nat
  e : Nat → Nat
  sz : Nat → Nat
  T : Nat → Nat
def CN.lst (c : CN) (base : Array Bool) (s : CS) : Array Bool :=
  (((((((base.setIfInBounds (c.bi 0) s.b0).setIfInBounds (c.bi 1) s.b1).setIfInBounds (c.bi 2) s.b2).setIfInBounds (c.bi 3) s.b3).setIfInBounds (c.ai 0) (decide (0 < s.j))).setIfInBounds (c.ai 1) (decide (1 < s.j))).setIfInBounds (c.ai 2) (decide (2 < s.j))).setIfInBounds (c.ai 3) (decide (3 < s.j))
def CN.chk (c : CN) (ops : Array Oper) (base : Array Bool) (b0 b1 b2 b3 : Bool) (j : Nat) : Bool :=
  let s : CS := ⟨b0, b1, b2, b3, j⟩
  let r := Region.ready .any ops (c.lst base s)
  !s.ok || s.left == 0 || (!r.isEmpty &&
    r.all (fun i => (i == c.bi 0 && !b0) || (i == c.bi 1 && !b1) || (i == c.bi 2 && !b2) || (i == c.bi 3 && !b3) || (i == c.ai 0 && j == 0 && b0) || (i == c.ai 1 && j == 1 && b1) || (i == c.ai 2 && j == 2 && b2) || (i == c.ai 3 && j == 3 && b3)) &&
    (b0 || c.lst base ⟨true, b1, b2, b3, j⟩ == (c.lst base s).setIfInBounds (c.bi 0) true) && (b1 || c.lst base ⟨b0, true, b2, b3, j⟩ == (c.lst base s).setIfInBounds (c.bi 1) true) && (b2 || c.lst base ⟨b0, b1, true, b3, j⟩ == (c.lst base s).setIfInBounds (c.bi 2) true) && (b3 || c.lst base ⟨b0, b1, b2, true, j⟩ == (c.lst base s).setIfInBounds (c.bi 3) true) &&
    (decide (4 ≤ j) || c.lst base ⟨b0, b1, b2, b3, j + 1⟩ == (c.lst base s).setIfInBounds (c.ai j) true))
def CN.chks (c : CN) (ops : Array Oper) (base : Array Bool) : Bool :=
  [true, false].all fun b0 => [true, false].all fun b1 => [true, false].all fun b2 => [true, false].all fun b3 => [0, 1, 2, 3, 4].all fun j => c.chk ops base b0 b1 b2 b3 j
theorem CN.chks_spec {c : CN} {base : Array Bool} (h : c.chks ops base = true) (b0 b1 b2 b3 : Bool) {j : Nat} (hj : j ≤ 4) : c.chk ops base b0 b1 b2 b3 j = true := by
  unfold CN.chks at h
  have m : ∀ b : Bool, b ∈ [true, false] := fun b => by cases b <;> simp
  have mj : j ∈ [0, 1, 2, 3, 4] := by
    simp only [List.mem_cons, List.not_mem_nil, or_false]; omega
  exact List.all_eq_true.1 (List.all_eq_true.1 (List.all_eq_true.1 (List.all_eq_true.1 (List.all_eq_true.1 h b0 (m b0)) b1 (m b1)) b2 (m b2)) b3 (m b3)) j mj
def CN.sound (c : CN) : Bool :=
  let sl := [c.sb 0, c.sb 1, c.sb 2, c.sb 3, c.sp 0, c.sp 1, c.sp 2, c.sp 3]
  decide sl.Nodup && decide [c.e 0, c.e 1, c.e 2, c.e 3].Nodup
def CN.slots (c : CN) : List Nat := [c.sb 0, c.sb 1, c.sb 2, c.sb 3, c.sp 0, c.sp 1, c.sp 2, c.sp 3]
structure CI (c : CN) (ch : Nat → Ch) (E0 : Env) (wD : World) (R : Nat → Prop) (s : CS) (E : Env) (w : World) : Prop where
  ok : s.ok = true
  env : ∀ t, t ∉ c.slots → E t = E0 t
  gr : Gr R wD w
  c0 : ChAt (c.e 0) (c.sz 0) (c.sb 0) (c.sp 0) (ch 0) wD.heap.size s.b0 (decide (0 < s.j)) E w
  c1 : ChAt (c.e 1) (c.sz 1) (c.sb 1) (c.sp 1) (ch 1) wD.heap.size s.b1 (decide (1 < s.j)) E w
  c2 : ChAt (c.e 2) (c.sz 2) (c.sb 2) (c.sp 2) (ch 2) wD.heap.size s.b2 (decide (2 < s.j)) E w
  c3 : ChAt (c.e 3) (c.sz 3) (c.sb 3) (c.sp 3) (ch 3) wD.heap.size s.b3 (decide (3 < s.j)) E w
def BsOk (P : Program) (n : Nat) (ops : Array Oper) (c : CN) (ch : Nat → Ch) (E0 : Env) (D : List Deferred) (i : Nat) : Prop :=
  ∃ o, ops[c.bi i]? = some o ∧ ∀ (E : Env) (w : World) (Q : Post), (∀ t, t ∉ c.slots → E t = E0 t) →
    (∀ w1, Box w1 w.heap.size (c.e i) (ch i).news → Bel w w1 → w1.heap.size = w.heap.size + 1 → Q .normal D (upd E (c.sb i) (.slice (some ⟨w.heap.size, 0, none⟩) 1 1)) w1) → L P n ops Q [o] D E w
def ApOk (P : Program) (n : Nat) (ops : Array Oper) (c : CN) (ch : Nat → Ch) (E0 : Env) (D : List Deferred) (i : Nat) : Prop :=
  ∃ o, ops[c.ai i]? = some o ∧ ∀ (E : Env) (w : World) (Q : Post) (blk : Nat), (∀ t, t ∉ c.slots → E t = E0 t) → E (c.sb i) = .slice (some ⟨blk, 0, none⟩) 1 1 → Box w blk (c.e i) (ch i).news → Own w 0 (c.e i) (c.sz i) (ch i).v (ch i).k (ch i).xs →
    (∀ v' w1, Own w1 0 (c.e i) (c.sz i) v' ((ch i).k + 1) ((ch i).xs ++ (ch i).news) → Gr (fun j => some j = (ch i).v.ownBlock) w w1 → (v'.ownBlock = (ch i).v.ownBlock ∨ v'.ownBlock = some w.heap.size) → Q .normal D (upd E (c.sp i) v') w1) → L P n ops Q [o] D E w
theorem slots_mem {c : CN} {i : Nat} (h : i < 4) : c.sb i ∈ c.slots ∧ c.sp i ∈ c.slots := by
  have : i = 0 ∨ i = 1 ∨ i = 2 ∨ i = 3 := by omega
  unfold CN.slots
  rcases this with rfl | rfl | rfl | rfl <;> simp
set_option maxHeartbeats 1000000 in
theorem LAD.chain (c : CN) (ch : Nat → Ch) {E0 : Env} {wD : World} (R1 : Nat → Prop) (base : Array Bool) (f0 : Nat) (hs : c.sound = true) (hk : c.chks ops base = true)
    (hb : BsOk P n ops c ch E0 D 0 ∧ BsOk P n ops c ch E0 D 1 ∧ BsOk P n ops c ch E0 D 2 ∧ BsOk P n ops c ch E0 D 3)
    (ha : ApOk P n ops c ch E0 D 0 ∧ ApOk P n ops c ch E0 D 1 ∧ ApOk P n ops c ch E0 D 2 ∧ ApOk P n ops c ch E0 D 3)
    (hC : ∀ w, Gr R1 wD w → C0 w ∧ C1 w) (hR : ∀ i, i < 4 → ∀ j, some j = (ch i).v.ownBlock → R1 j)
    (hend : ∀ E w, CI c ch E0 wD R1 ⟨true, true, true, true, 4⟩ E w → LAD P n ops C0 C1 st K f0 (c.lst base ⟨true, true, true, true, 4⟩) D E w)
    (h0 : CI c ch E0 wD R1 ⟨false, false, false, false, 0⟩ E w) : LAD P n ops C0 C1 st K (8 + f0) (c.lst base ⟨false, false, false, false, 0⟩) D E w := by
  unfold CN.sound at hs
  simp only [Bool.and_eq_true, decide_eq_true_eq] at hs
  obtain ⟨hn, ht⟩ := hs
  simp only [List.nodup_cons, List.mem_cons, List.not_mem_nil, or_false, not_or, List.nodup_nil, and_true, not_false_eq_true] at hn ht
  obtain ⟨⟨n01, n02, n03, n04, n05, n06, n07⟩, ⟨n12, n13, n14, n15, n16, n17⟩, ⟨n23, n24, n25, n26, n27⟩, ⟨n34, n35, n36, n37⟩, ⟨n45, n46, n47⟩, ⟨n56, n57⟩, n67⟩ := hn
  obtain ⟨⟨t01, t02, t03⟩, ⟨t12, t13⟩, t23⟩ := ht
  have tne : ∀ {a b : Nat}, a ≠ b → Nat.beq a b = false := fun {a b} h => by
    rw [← Bool.not_eq_true]; exact fun e => h (Nat.eq_of_beq_eq_true e)
  refine LAD.inv (CI c ch E0 wD R1) (c.lst base) CS.left f0 (fun s E w hI => ⟨(hC w hI.gr).1, fun _ => (hC w hI.gr).2⟩) ?_ ?_ 8 _ E w rfl h0
  · intro s E w hI hl
    have hj : s.j ≤ 4 := by
      have := hI.ok; unfold CS.ok at this
      simp only [Bool.and_eq_true, decide_eq_true_eq] at this
      exact this.1.1.1.1
    have hchk := CN.chks_spec hk s.b0 s.b1 s.b2 s.b3 hj
    unfold CN.chk at hchk
    have hok := hI.ok
    have hs' : (⟨s.b0, s.b1, s.b2, s.b3, s.j⟩ : CS) = s := rfl
    simp only [hs', hok, Bool.not_true, Bool.false_or, beq_iff_eq, Bool.or_eq_true, Bool.and_eq_true, decide_eq_true_eq, beq_false_of_ne hl] at hchk
    obtain ⟨⟨⟨⟨⟨⟨hne, hall⟩, q0⟩, q1⟩, q2⟩, q3⟩, qa⟩ := hchk
    refine ⟨fun e => by rw [e] at hne; simp at hne, fun i hi => ?_⟩
    have hi2 := List.all_eq_true.1 hall i hi
    simp only [Bool.or_eq_true, Bool.and_eq_true, beq_iff_eq, Bool.not_eq_true'] at hi2
    clear hall hne hs' hi
    obtain ⟨b0, b1, b2, b3, j⟩ := s
    dsimp only at hi2 q0 q1 q2 q3 qa hj
    have hok2 := hok
    unfold CS.ok at hok2
    simp only [Bool.and_eq_true, Bool.or_eq_true, decide_eq_true_eq] at hok2
    have e0 := hI.c0; have e1 := hI.c1; have e2 := hI.c2; have e3 := hI.c3
    dsimp only at e0 e1 e2 e3
    rcases hi2 with ((((((⟨rfl, h⟩ | ⟨rfl, h⟩) | ⟨rfl, h⟩) | ⟨rfl, h⟩) | ⟨⟨rfl, h⟩, hb'⟩) | ⟨⟨rfl, h⟩, hb'⟩) | ⟨⟨rfl, h⟩, hb'⟩) | ⟨⟨rfl, h⟩, hb'⟩
    · subst h
      have hj0 : decide (0 < j) = false := decide_eq_false (by simp at hok2; omega)
      rw [hj0] at e0
      obtain ⟨o, ho, hL⟩ := hb.1
      refine ⟨o, ⟨true, b1, b2, b3, j⟩, ho, q0.resolve_left (by simp), by simp only [CS.left]; simp; omega, hL E w _ hI.env (fun w1 hbx hB hsz => ⟨rfl, ?_⟩)⟩
      refine ⟨by unfold CS.ok at hok ⊢; simp_all, fun t ht => (upd_ne _ _ (fun e => ht (by rw [e]; exact (slots_mem (c := c) (i := 0) (by decide)).1))).trans (hI.env t ht), hI.gr.carry hB, ?_, ?_, ?_, ?_⟩
      · dsimp only; rw [hj0]; exact e0.laid hB (upd_same _ _ _) hbx
      · exact e1.bel hB (upd_ne _ _ (Ne.symm n01)) (upd_ne _ _ (Ne.symm n05))
      · exact e2.bel hB (upd_ne _ _ (Ne.symm n02)) (upd_ne _ _ (Ne.symm n06))
      · exact e3.bel hB (upd_ne _ _ (Ne.symm n03)) (upd_ne _ _ (Ne.symm n07))
    · subst h
      have hj0 : decide (1 < j) = false := decide_eq_false (by simp at hok2; omega)
      rw [hj0] at e1
      obtain ⟨o, ho, hL⟩ := hb.2.1
      refine ⟨o, ⟨b0, true, b2, b3, j⟩, ho, q1.resolve_left (by simp), by simp only [CS.left]; simp; omega, hL E w _ hI.env (fun w1 hbx hB hsz => ⟨rfl, ?_⟩)⟩
      refine ⟨by unfold CS.ok at hok ⊢; simp_all, fun t ht => (upd_ne _ _ (fun e => ht (by rw [e]; exact (slots_mem (c := c) (i := 1) (by decide)).1))).trans (hI.env t ht), hI.gr.carry hB, ?_, ?_, ?_, ?_⟩
      · exact e0.bel hB (upd_ne _ _ n01) (upd_ne _ _ (Ne.symm n14))
      · dsimp only; rw [hj0]; exact e1.laid hB (upd_same _ _ _) hbx
      · exact e2.bel hB (upd_ne _ _ (Ne.symm n12)) (upd_ne _ _ (Ne.symm n16))
      · exact e3.bel hB (upd_ne _ _ (Ne.symm n13)) (upd_ne _ _ (Ne.symm n17))
    · subst h
      have hj0 : decide (2 < j) = false := decide_eq_false (by simp at hok2; omega)
      rw [hj0] at e2
      obtain ⟨o, ho, hL⟩ := hb.2.2.1
      refine ⟨o, ⟨b0, b1, true, b3, j⟩, ho, q2.resolve_left (by simp), by simp only [CS.left]; simp; omega, hL E w _ hI.env (fun w1 hbx hB hsz => ⟨rfl, ?_⟩)⟩
      refine ⟨by unfold CS.ok at hok ⊢; simp_all, fun t ht => (upd_ne _ _ (fun e => ht (by rw [e]; exact (slots_mem (c := c) (i := 2) (by decide)).1))).trans (hI.env t ht), hI.gr.carry hB, ?_, ?_, ?_, ?_⟩
      · exact e0.bel hB (upd_ne _ _ n02) (upd_ne _ _ (Ne.symm n24))
      · exact e1.bel hB (upd_ne _ _ n12) (upd_ne _ _ (Ne.symm n25))
      · dsimp only; rw [hj0]; exact e2.laid hB (upd_same _ _ _) hbx
      · exact e3.bel hB (upd_ne _ _ (Ne.symm n23)) (upd_ne _ _ (Ne.symm n27))
    · subst h
      have hj0 : decide (3 < j) = false := decide_eq_false (by simp at hok2; omega)
      rw [hj0] at e3
      obtain ⟨o, ho, hL⟩ := hb.2.2.2
      refine ⟨o, ⟨b0, b1, b2, true, j⟩, ho, q3.resolve_left (by simp), by simp only [CS.left]; simp; omega, hL E w _ hI.env (fun w1 hbx hB hsz => ⟨rfl, ?_⟩)⟩
      refine ⟨by unfold CS.ok at hok ⊢; simp_all, fun t ht => (upd_ne _ _ (fun e => ht (by rw [e]; exact (slots_mem (c := c) (i := 3) (by decide)).1))).trans (hI.env t ht), hI.gr.carry hB, ?_, ?_, ?_, ?_⟩
      · exact e0.bel hB (upd_ne _ _ n03) (upd_ne _ _ (Ne.symm n34))
      · exact e1.bel hB (upd_ne _ _ n13) (upd_ne _ _ (Ne.symm n35))
      · exact e2.bel hB (upd_ne _ _ n23) (upd_ne _ _ (Ne.symm n36))
      · dsimp only; rw [hj0]; exact e3.laid hB (upd_same _ _ _) hbx
    · subst h; subst hb'
      have ek := e0
      unfold ChAt at ek
      rw [if_neg (by simp)] at ek
      obtain ⟨hO, hbk⟩ := ek
      obtain ⟨blk, hsl, hbx⟩ := hbk rfl
      obtain ⟨o, ho, hL⟩ := ha.1
      refine ⟨o, ⟨true, b1, b2, b3, 1⟩, ho, qa.resolve_left (by decide), by simp only [CS.left], hL E w _ blk hI.env hsl hbx hO (fun v' w1 hO' g hob => ⟨rfl, ?_⟩)⟩
      refine ⟨by unfold CS.ok at hok ⊢; simp_all, fun t ht => (upd_ne _ _ (fun e => ht (by rw [e]; exact (slots_mem (c := c) (i := 0) (by decide)).2))).trans (hI.env t ht), hI.gr.trans (g.mono (fun j _ e => hR 0 (by decide) j e)), ?_, ?_, ?_, ?_⟩
      · exact ChAt.added (by rw [upd_same]; exact hO') (by rw [upd_same]; exact hob.imp id (fun e => ⟨_, e, hI.gr.size⟩))
      · exact e1.other hO (tne t01) g (upd_ne _ _ n14) (upd_ne _ _ (Ne.symm n45))
      · exact e2.other hO (tne t02) g (upd_ne _ _ n24) (upd_ne _ _ (Ne.symm n46))
      · exact e3.other hO (tne t03) g (upd_ne _ _ n34) (upd_ne _ _ (Ne.symm n47))
    · subst h; subst hb'
      have ek := e1
      unfold ChAt at ek
      rw [if_neg (by simp)] at ek
      obtain ⟨hO, hbk⟩ := ek
      obtain ⟨blk, hsl, hbx⟩ := hbk rfl
      obtain ⟨o, ho, hL⟩ := ha.2.1
      refine ⟨o, ⟨b0, true, b2, b3, 2⟩, ho, qa.resolve_left (by decide), by simp only [CS.left], hL E w _ blk hI.env hsl hbx hO (fun v' w1 hO' g hob => ⟨rfl, ?_⟩)⟩
      refine ⟨by unfold CS.ok at hok ⊢; simp_all, fun t ht => (upd_ne _ _ (fun e => ht (by rw [e]; exact (slots_mem (c := c) (i := 1) (by decide)).2))).trans (hI.env t ht), hI.gr.trans (g.mono (fun j _ e => hR 1 (by decide) j e)), ?_, ?_, ?_, ?_⟩
      · exact e0.other hO (tne (Ne.symm t01)) g (upd_ne _ _ n05) (upd_ne _ _ n45)
      · exact ChAt.added (by rw [upd_same]; exact hO') (by rw [upd_same]; exact hob.imp id (fun e => ⟨_, e, hI.gr.size⟩))
      · exact e2.other hO (tne t12) g (upd_ne _ _ n25) (upd_ne _ _ (Ne.symm n56))
      · exact e3.other hO (tne t13) g (upd_ne _ _ n35) (upd_ne _ _ (Ne.symm n57))
    · subst h; subst hb'
      have ek := e2
      unfold ChAt at ek
      rw [if_neg (by simp)] at ek
      obtain ⟨hO, hbk⟩ := ek
      obtain ⟨blk, hsl, hbx⟩ := hbk rfl
      obtain ⟨o, ho, hL⟩ := ha.2.2.1
      refine ⟨o, ⟨b0, b1, true, b3, 3⟩, ho, qa.resolve_left (by decide), by simp only [CS.left], hL E w _ blk hI.env hsl hbx hO (fun v' w1 hO' g hob => ⟨rfl, ?_⟩)⟩
      refine ⟨by unfold CS.ok at hok ⊢; simp_all, fun t ht => (upd_ne _ _ (fun e => ht (by rw [e]; exact (slots_mem (c := c) (i := 2) (by decide)).2))).trans (hI.env t ht), hI.gr.trans (g.mono (fun j _ e => hR 2 (by decide) j e)), ?_, ?_, ?_, ?_⟩
      · exact e0.other hO (tne (Ne.symm t02)) g (upd_ne _ _ n06) (upd_ne _ _ n46)
      · exact e1.other hO (tne (Ne.symm t12)) g (upd_ne _ _ n16) (upd_ne _ _ n56)
      · exact ChAt.added (by rw [upd_same]; exact hO') (by rw [upd_same]; exact hob.imp id (fun e => ⟨_, e, hI.gr.size⟩))
      · exact e3.other hO (tne t23) g (upd_ne _ _ n36) (upd_ne _ _ (Ne.symm n67))
    · subst h; subst hb'
      have ek := e3
      unfold ChAt at ek
      rw [if_neg (by simp)] at ek
      obtain ⟨hO, hbk⟩ := ek
      obtain ⟨blk, hsl, hbx⟩ := hbk rfl
      obtain ⟨o, ho, hL⟩ := ha.2.2.2
      refine ⟨o, ⟨b0, b1, b2, true, 4⟩, ho, qa.resolve_left (by decide), by simp only [CS.left], hL E w _ blk hI.env hsl hbx hO (fun v' w1 hO' g hob => ⟨rfl, ?_⟩)⟩
      refine ⟨by unfold CS.ok at hok ⊢; simp_all, fun t ht => (upd_ne _ _ (fun e => ht (by rw [e]; exact (slots_mem (c := c) (i := 3) (by decide)).2))).trans (hI.env t ht), hI.gr.trans (g.mono (fun j _ e => hR 3 (by decide) j e)), ?_, ?_, ?_, ?_⟩
      · exact e0.other hO (tne (Ne.symm t03)) g (upd_ne _ _ n07) (upd_ne _ _ n47)
      · exact e1.other hO (tne (Ne.symm t13)) g (upd_ne _ _ n17) (upd_ne _ _ n57)
      · exact e2.other hO (tne (Ne.symm t23)) g (upd_ne _ _ n27) (upd_ne _ _ n67)
      · exact ChAt.added (by rw [upd_same]; exact hO') (by rw [upd_same]; exact hob.imp id (fun e => ⟨_, e, hI.gr.size⟩))
  · intro s E w hI hl
    have : s = ⟨true, true, true, true, 4⟩ := by
      obtain ⟨b0, b1, b2, b3, j⟩ := s
      unfold CS.left at hl
      have hok := hI.ok
      unfold CS.ok at hok
      simp only [Bool.and_eq_true, decide_eq_true_eq] at hok
      cases b0 <;> cases b1 <;> cases b2 <;> cases b3 <;> simp at hl hok ⊢ <;> omega
    subst this
    exact hend E w hI
theorem LAD.chainB (c : CN) (ch : Nat → Ch) {E0 : Env} {wD : World} (R1 : Nat → Prop) {base : Array Bool} (f0 : Nat) (hbase : c.lst base ⟨false, false, false, false, 0⟩ = base) (hs : c.sound = true) (hk : c.chks ops base = true)
    (hb : BsOk P n ops c ch E0 D 0 ∧ BsOk P n ops c ch E0 D 1 ∧ BsOk P n ops c ch E0 D 2 ∧ BsOk P n ops c ch E0 D 3)
    (ha : ApOk P n ops c ch E0 D 0 ∧ ApOk P n ops c ch E0 D 1 ∧ ApOk P n ops c ch E0 D 2 ∧ ApOk P n ops c ch E0 D 3)
    (hC : ∀ w, Gr R1 wD w → C0 w ∧ C1 w) (hR : ∀ i, i < 4 → ∀ j, some j = (ch i).v.ownBlock → R1 j)
    (ho : ∀ i, i < 4 → Own wD 0 (c.e i) (c.sz i) (ch i).v (ch i).k (ch i).xs)
    (hend : ∀ E w, CI c ch E0 wD R1 ⟨true, true, true, true, 4⟩ E w → LAD P n ops C0 C1 st K f0 (c.lst base ⟨true, true, true, true, 4⟩) D E w) : LAD P n ops C0 C1 st K (8 + f0) base D E0 wD := by
  have h := LAD.chain (K := K) (st := st) c ch R1 base f0 hs hk hb ha hC hR hend (E := E0) (w := wD) ⟨rfl, fun _ _ => rfl, Gr.refl _ _, ?_, ?_, ?_, ?_⟩
  · rw [hbase] at h; exact h
  all_goals
    unfold ChAt
    rw [if_neg (by simp)]
  · exact ⟨ho 0 (by decide), fun h => by cases h⟩
  · exact ⟨ho 1 (by decide), fun h => by cases h⟩
  · exact ⟨ho 2 (by decide), fun h => by cases h⟩
  · exact ⟨ho 3 (by decide), fun h => by cases h⟩
end Go.Gx
namespace Go.Gx
open Go.Proofs
structure Dd where
  acts : List Ac
  values : List Str
  there : List Bool
  keys : List (List Str)
  at_ : Nat
  end_ : Int
  writes : Bool
  clashed : Bool
instance : Inhabited Dd := ⟨⟨[], [], [], [], 0, 0, false, false⟩⟩
def Dd.add (d : Dd) (a : Ac) (v : Str) (t : Bool) (k : List Str) : Dd := { d with acts := d.acts ++ [a], values := d.values ++ [v], there := d.there ++ [t], keys := d.keys ++ [k] }
theorem StrsAt.move {A A' : Nat → Prop} {w w' : World} (hc : ∀ (a : Addr) v, ¬ A a.block → w.cell? a = some v → w'.cell? a = some v ∧ ¬ A' a.block) {v : Value} {l : List Str} (h : StrsAt A w v l) : StrsAt A' w' v l := by
  have h1 : ShC A w [.int .i64 0, S [], S [], v, .slice none 0 0] (.mk 0 [] [] l []) := ShC.intro h (ShsAt.nil _ _ _ _ (by simp)) (by simp) (by simp)
  obtain ⟨vn, vp, e, h2, -⟩ := (h1.move hc).inv
  simp only [List.cons.injEq, and_true] at e
  rw [e.2.2.2.1]; exact h2
def StC (A : Nat → Prop) (w : World) (cs : List Value) (l : List Str) : Prop := ∃ v, cs = [v] ∧ StrsAt A w v l
instance car_stc : Car StC 1 where
  pos := by omega
  len := fun h => by obtain ⟨v, rfl, -⟩ := h; rfl
  one := fun h => by
    obtain ⟨v, rfl, h⟩ := h
    intro u hu
    rw [List.mem_singleton.1 hu]
    obtain ⟨_, _, rfl, -⟩ := h; rfl
  move := fun hc h => by obtain ⟨v, e, h⟩ := h; exact ⟨v, e, h.move hc⟩
def didV (va vv vt vk : Value) (d : Dd) : List Value := [va, vv, vt, vk, .int .i64 (d.at_ : Nat), .int .i64 d.end_, .bool d.writes, .bool d.clashed]
def DidAt (ow : Labels) (t : Nat) (w : World) (i : Nat) (cs : List Value) (d : Dd) : Prop :=
  ∃ va vv vt vk krows, cs = didV va vv vt vk d ∧ OwnP ow t (.eds i) w 36 5 va d.acts.length (d.acts.map acV).flatten ∧ OwnP ow t (.own i) w 9 1 vv d.values.length (d.values.map S) ∧
    OwnP ow t (.asked i) w 4 1 vt d.there.length (d.there.map Value.bool) ∧ OwnP ow t (.heads i) w 37 1 vk d.keys.length (List.flatten krows) ∧ RowsC StC (fun k => ow k ≠ none) w krows d.keys ∧
    (∀ a ∈ d.acts, EdOk a.ed) ∧ d.values.length = d.acts.length ∧ d.there.length = d.acts.length ∧ d.keys.length = d.acts.length
def DidsAt (ow : Labels) (t : Nat) (w : World) (v : Value) (ds : List Dd) : Prop :=
  ∃ rows, OwnP ow t .log w 41 8 v ds.length (List.flatten rows) ∧ rows.length = ds.length ∧ ∀ i, i < ds.length → DidAt ow t w i (rows.getD i []) (ds.getD i default)
theorem rows_goes {α : Type} [Inhabited α] {Th : Thing α} {k t' : Nat} [Car Th k] {r : List (List Value)} {l : List α} {ow ow' : Labels} {w w' : World} (h : RowsC Th (fun k => ow k ≠ none) w r l) (g : Goes t' w w' ow ow') : RowsC Th (fun k => ow' k ≠ none) w' r l := by
  refine ((h.mono (A' := fun k => ow k ≠ none ∨ w.heap.size ≤ k) fun k hk hn => hn.resolve_right (by omega)).carryR g.gr (fun j ⟨p, hp⟩ => .inl (by rw [hp]; simp))).mono fun k _ hn => ?_
  by_cases hlt : k < w.heap.size
  · rcases g.old k hlt with e | ⟨-, e⟩
    · exact .inl (by rw [← e]; exact hn)
    · exact absurd e hn
  · exact .inr (by omega)
theorem DidAt.goes {ow ow' : Labels} {t t' i : Nat} {w w' : World} {cs : List Value} {d : Dd} (h : DidAt ow t w i cs d) (g : Goes t' w w' ow ow') (hne : t ≠ t') : DidAt ow' t w' i cs d := by
  obtain ⟨va, vv, vt, vk, kr, h1, h2, h3, h4, h5, h6, h7⟩ := h
  exact ⟨va, vv, vt, vk, kr, h1, h2.goes g hne, h3.goes g hne, h4.goes g hne, h5.goes g hne, rows_goes h6 g, h7⟩
theorem DidsAt.goes {ow ow' : Labels} {t t' : Nat} {w w' : World} {v : Value} {ds : List Dd} (h : DidsAt ow t w v ds) (g : Goes t' w w' ow ow') (hne : t ≠ t') : DidsAt ow' t w' v ds := by
  obtain ⟨rows, h1, h2, h3⟩ := h
  exact ⟨rows, h1.goes g hne, h2, fun i hi => (h3 i hi).goes g hne⟩
theorem DidAt.keep {ow ow' : Labels} {t i : Nat} {C : Part → Prop} {w w' : World} {cs : List Value} {d : Dd} (h : DidAt ow t w i cs d) (g : Keeps t C w w' ow ow') (hne : ¬ C (.eds i) ∧ ¬ C (.own i) ∧ ¬ C (.asked i) ∧ ¬ C (.heads i)) : DidAt ow' t w' i cs d := by
  obtain ⟨n1, n2, n3, n4⟩ := hne
  obtain ⟨va, vv, vt, vk, kr, h1, h2, h3, h4, h5, h6, h7⟩ := h
  exact ⟨va, vv, vt, vk, kr, h1, h2.keep g n1, h3.keep g n2, h4.keep g n3, h5.keep g n4, rows_keep h6 g, h7⟩
theorem DidsAt.bel {ow : Labels} {t : Nat} {w w' : World} {v : Value} {ds : List Dd} (h : DidsAt ow t w v ds) (g : Bel w w') (hf : ∀ k, w.heap.size ≤ k → ow k = none) : DidsAt ow t w' v ds := by
  have hK : Keeps t (fun _ => False) w w' ow ow := Keeps.bel hf g
  obtain ⟨rows, h1, h2, h3⟩ := h
  exact ⟨rows, h1.keep hK (fun f => f), h2, fun i hi => (h3 i hi).keep hK ⟨fun f => f, fun f => f, fun f => f, fun f => f⟩⟩
structure Goes2 (tb td : Nat) (w w' : World) (ow ow' : Labels) : Prop where
  old : ∀ k, k < w.heap.size → ow' k = ow k ∨ ((Mine ow tb k ∨ Mine ow td k) ∧ ow' k = none)
  new : ∀ k, w.heap.size ≤ k → ow' k = none ∨ Mine ow' tb k ∨ Mine ow' td k
  gr : Gr (fun k => Mine ow tb k ∨ Mine ow td k) w w'
  end_ : ∀ k, w'.heap.size ≤ k → ow' k = none
theorem Goes.two {tb td : Nat} {w w' : World} {ow ow' : Labels} (h : Goes tb w w' ow ow') : Goes2 tb td w w' ow ow' :=
  ⟨fun k hk => (h.old k hk).imp id (fun ⟨m, e⟩ => ⟨.inl m, e⟩), fun k hk => (h.new k hk).imp id .inl, h.gr.mono (fun _ _ m => .inl m), h.end_⟩
theorem Goes.two' {tb td : Nat} {w w' : World} {ow ow' : Labels} (h : Goes td w w' ow ow') : Goes2 tb td w w' ow ow' :=
  ⟨fun k hk => (h.old k hk).imp id (fun ⟨m, e⟩ => ⟨.inr m, e⟩), fun k hk => (h.new k hk).imp id .inr, h.gr.mono (fun _ _ m => .inr m), h.end_⟩
theorem Goes2.back {tb td : Nat} {w w' : World} {ow ow' : Labels} (h : Goes2 tb td w w' ow ow') {k : Nat} (hk : k < w.heap.size) (m : Mine ow' tb k ∨ Mine ow' td k) : Mine ow tb k ∨ Mine ow td k := by
  rcases h.old k hk with e | ⟨-, e⟩
  · rcases m with ⟨p, m⟩ | ⟨p, m⟩
    · exact .inl ⟨p, by rw [← e]; exact m⟩
    · exact .inr ⟨p, by rw [← e]; exact m⟩
  · rcases m with ⟨p, m⟩ | ⟨p, m⟩ <;> (rw [e] at m; cases m)
theorem Goes2.trans {tb td : Nat} {w w' w'' : World} {ow ow' ow'' : Labels} (h : Goes2 tb td w w' ow ow') (h2 : Goes2 tb td w' w'' ow' ow'') : Goes2 tb td w w'' ow ow'' := by
  have hs := h.gr.size
  refine ⟨fun k hk => ?_, fun k hk => ?_, ?_, h2.end_⟩
  · rcases h2.old k (by omega) with e2 | ⟨m2, e2⟩
    · rcases h.old k hk with e | ⟨m, e⟩
      · exact .inl (e2.trans e)
      · exact .inr ⟨m, e2.trans e⟩
    · exact .inr ⟨h.back hk m2, e2⟩
  · by_cases hlt : k < w'.heap.size
    · rcases h2.old k hlt with e | ⟨-, e⟩
      · rcases h.new k hk with e1 | ⟨p, m⟩ | ⟨p, m⟩
        · exact .inl (e.trans e1)
        · exact .inr (.inl ⟨p, e.trans m⟩)
        · exact .inr (.inr ⟨p, e.trans m⟩)
      · exact .inl e
    · exact h2.new k (by omega)
  · exact ⟨h2.gr.os.trans h.gr.os, h2.gr.tape.trans h.gr.tape, h2.gr.output.trans h.gr.output, Nat.le_trans hs h2.gr.size, fun k hk hn => (h2.gr.block k (by omega) (fun m => hn (h.back hk m))).trans (h.gr.block k hk hn)⟩
theorem flat_set {k : Nat} {rows : List (List Value)} (h : ∀ r ∈ rows, r.length = k) {i j : Nat} (hi : i < rows.length) (hj : j < k) (x : Value) : rows.flatten.set (i * k + j) x = (rows.set i ((rows.getD i []).set j x)).flatten := by
  induction rows generalizing i with
  | nil => simp at hi
  | cons r rows ih =>
    have hr := h r (by simp)
    cases i with
    | zero =>
      rw [List.flatten_cons, List.set_append, if_pos (by rw [hr]; omega)]
      simp
    | succ i =>
      have e : (i + 1) * k + j - k = i * k + j := by rw [Nat.add_mul, Nat.one_mul]; omega
      rw [List.flatten_cons, List.set_append, if_neg (by rw [hr, Nat.add_mul, Nat.one_mul]; omega), hr, e, ih (fun q hq => h q (by simp [hq])) (by simpa using hi)]
      simp
theorem Own.reset {w w' : World} {base sz k cap b : Nat} {e : TypeId} {xs xs' cs cs' : List Value} (h : Own w base e sz (.slice (some ⟨b, 0, none⟩) k cap) k xs) (h0 : Box w b e cs) (h1 : Box w' b e cs') (hl : cs'.length = cs.length) (ht : cs'.take (k * sz) = xs') (hx : xs'.length = k * sz) :
    Own w' base e sz (.slice (some ⟨b, 0, none⟩) k cap) k xs' := by
  refine ⟨hx, ?_⟩
  rcases h.2 with ⟨e1, -⟩ | ⟨b', c, cur, e1, hb, hg, a1, a2, a3, a4⟩
  · cases e1
  · simp only [Value.slice.injEq, Option.some.injEq, Addr.mk.injEq, and_true, true_and] at e1
    obtain ⟨e1, e2⟩ := e1
    subst e1; subst e2
    unfold Box at h0 h1
    rw [h0] at hg
    simp only [Option.some.injEq, Obj.cells.injEq] at hg
    refine .inr ⟨b, cap, cs'.toArray, rfl, hb, h1, a1, a2, ?_, by simpa using ht⟩
    rw [← a3, ← hg.1]; simpa using hl
theorem set_append_left {α : Type} {a b : List α} {i : Nat} {x : α} (h : i < a.length) : (a ++ b).set i x = a.set i x ++ b := by rw [List.set_append, if_pos h]
end Go.Gx
namespace Go.Gx
open Go.Proofs
structure Bnd (N : Nat) (s : Bs) : Prop where
  al : s.all.length ≤ N
  lg : s.log.length ≤ N
  fi : s.first.length ≤ 40
  ll : ∀ l ∈ s.log, l.length ≤ N
  se : ∀ x ∈ s.all, x.at_ ≤ s.log.length ∧ x.eds.length ≤ N ∧ x.gets.length ≤ N ∧ x.heads.length ≤ N
theorem flat_le {l : List (List Ed)} {N : Nat} (h : ∀ x ∈ l, x.length ≤ N) : l.flatten.length ≤ l.length * N := by
  induction l with
  | nil => simp
  | cons a l ih =>
    rw [List.flatten_cons, List.length_append, List.length_cons, Nat.add_mul, Nat.one_mul, Nat.add_comm]
    have := h a (by simp)
    have := ih fun x hx => h x (by simp [hx])
    omega
theorem Bnd.flat {N : Nat} {s : Bs} (h : Bnd N s) (hN : N ≤ 900) : (s.first :: s.log).flatten.length ≤ 1000000 := by
  rw [List.flatten_cons, List.length_append]
  have h1 := flat_le h.ll
  have h2 : s.log.length * N ≤ 900 * 900 := Nat.mul_le_mul (Nat.le_trans h.lg hN) hN
  have := h.fi
  omega
theorem Bnd.mono {N M : Nat} {s : Bs} (h : Bnd N s) (hM : N ≤ M) : Bnd M s :=
  ⟨Nat.le_trans h.al hM, Nat.le_trans h.lg hM, h.fi, fun l hl => Nat.le_trans (h.ll l hl) hM, fun x hx => let ⟨a, b, c, d⟩ := h.se x hx; ⟨a, Nat.le_trans b hM, Nat.le_trans c hM, Nat.le_trans d hM⟩⟩
theorem Bnd.begin_ {N : Nat} {s : Bs} (h : Bnd N s) : Bnd (N + 1) s.begin_ := by
  refine ⟨by simp [Bs.begin_]; exact h.al, Nat.le_trans h.lg (by omega), h.fi, fun l hl => Nat.le_trans (h.ll l hl) (by omega), fun x hx => ?_⟩
  rcases List.mem_append.1 hx with hx | hx
  · exact (h.mono (Nat.le_succ N)).se x hx
  · rw [List.mem_singleton.1 hx]; exact ⟨Nat.le_refl _, by simp, by simp, by simp⟩
theorem Bnd.upd {N : Nat} {s : Bs} (h : Bnd N s) (id : Int) {x : Sx} (hx : x.at_ ≤ s.log.length ∧ x.eds.length ≤ N + 1 ∧ x.gets.length ≤ N + 1 ∧ x.heads.length ≤ N + 1) : Bnd (N + 1) (s.upd id x) := by
  refine ⟨by simp [Bs.upd]; exact Nat.le_trans h.al (by omega), Nat.le_trans h.lg (by omega), h.fi, fun l hl => Nat.le_trans (h.ll l hl) (by omega), fun y hy => ?_⟩
  rcases List.mem_or_eq_of_mem_set hy with hy | rfl
  · exact (h.mono (Nat.le_succ N)).se y hy
  · exact hx
theorem Bnd.ses {N : Nat} {s : Bs} (h : Bnd N s) (id : Int) : (s.ses id).at_ ≤ s.log.length ∧ (s.ses id).eds.length ≤ N ∧ (s.ses id).gets.length ≤ N ∧ (s.ses id).heads.length ≤ N := by
  unfold Bs.ses
  by_cases hi : id.toNat - 1 < s.all.length
  · rw [List.getD_eq_getElem?_getD, List.getElem?_eq_getElem hi]; exact h.se _ (List.getElem_mem hi)
  · rw [List.getD_eq_getElem?_getD, List.getElem?_eq_none (by omega)]; exact ⟨by simp [default], by simp [default], by simp [default], by simp [default]⟩
theorem Bnd.getS {N : Nat} {s : Bs} (h : Bnd N s) (id : Int) (k : Str) : Bnd (N + 1) (s.getS id k) := by
  unfold Bs.getS
  have := h.ses id
  split
  · exact h.upd id ⟨this.1, Nat.le_succ_of_le this.2.1, by simp; omega, Nat.le_succ_of_le this.2.2.2⟩
  · exact h.mono (Nat.le_succ N)
theorem Bnd.keysS {N : Nat} {s : Bs} (h : Bnd N s) (id : Int) (k : Str) : Bnd (N + 1) (s.keysS id k) := by
  have := h.ses id
  exact h.upd id ⟨this.1, Nat.le_succ_of_le this.2.1, Nat.le_succ_of_le this.2.2.1, by simp; omega⟩
theorem Bnd.putS {N : Nat} {s : Bs} (h : Bnd N s) (id : Int) (e : Ed) : Bnd (N + 1) (s.putS id e) := by
  have := h.ses id
  exact h.upd id ⟨this.1, by simp; omega, Nat.le_succ_of_le this.2.2.1, Nat.le_succ_of_le this.2.2.2⟩
theorem Bnd.shut {N : Nat} {s : Bs} (h : Bnd N s) (id : Int) : Bnd (N + 1) (s.shut id) := by
  have := h.ses id
  exact h.upd id ⟨this.1, Nat.le_succ_of_le this.2.1, Nat.le_succ_of_le this.2.2.1, Nat.le_succ_of_le this.2.2.2⟩
theorem Bnd.commitS {N : Nat} {s : Bs} (h : Bnd N s) (id : Int) : Bnd (N + 1) (s.commitS id) := by
  unfold Bs.commitS
  have h1 := h.shut id
  have h2 := h.ses id
  split
  · exact h1
  · refine ⟨h1.al, by simp; exact h.lg, h1.fi, fun l hl => ?_, fun x hx => ?_⟩
    · rcases List.mem_append.1 hl with hl | hl
      · exact Nat.le_trans (h.ll l hl) (by omega)
      · rw [List.mem_singleton.1 hl]; omega
    · obtain ⟨a, b⟩ := h1.se x hx
      have a : x.at_ ≤ s.log.length := a
      exact ⟨by simp; omega, b⟩
def stepS (s : Bs) (ds : List Dd) (a : Ac) : Bs × List Dd :=
  if a.kind < 1 ∨ 5 < a.kind then (s.begin_, ds ++ [⟨[], [], [], [], s.log.length, -1, false, false⟩])
  else if a.id < 1 ∨ (ds.length : Int) < a.id then (s, ds)
  else
    let i := a.id.toNat - 1
    let d := ds.getD i default
    if a.kind = 1 then (if s.isOpen a.id then (s.getS a.id a.ed.key, ds.set i (d.add a (s.getA a.id a.ed.key).1 (s.getA a.id a.ed.key).2 [])) else (s, ds))
    else if a.kind = 2 then (if s.isOpen a.id then (s.keysS a.id a.ed.key, ds.set i (d.add a [] false (s.keysA a.id a.ed.key))) else (s, ds))
    else if a.kind = 3 then (if s.isOpen a.id ∧ okEd a.ed = true then (s.putS a.id a.ed, ds.set i { d.add a [] false [] with writes := true }) else (s, ds))
    else if a.kind = 4 then (if s.isOpen a.id then (s.commitS a.id, if s.commitA a.id = 0 then ds.set i { d with end_ := (s.log.length : Nat) } else ds.set i { d with clashed := true }) else (s, ds))
    else (if s.isOpen a.id then s.shut a.id else s, ds)
theorem Bnd.step {N : Nat} {s : Bs} (h : Bnd N s) (ds : List Dd) (a : Ac) : Bnd (N + 1) (stepS s ds a).1 := by
  have hm := h.mono (Nat.le_succ N)
  unfold stepS
  split
  · exact h.begin_
  · split
    · exact hm
    · dsimp only
      split
      · split
        · exact h.getS _ _
        · exact hm
      · split
        · split
          · exact h.keysS _ _
          · exact hm
        · split
          · split
            · exact h.putS _ _
            · exact hm
          · split
            · split
              · exact h.commitS _
              · exact hm
            · dsimp only; split
              · exact h.shut _
              · exact hm
theorem add_len {d : Dd} {a : Ac} {v : Str} {t : Bool} {k : List Str} : (d.add a v t k).acts.length = d.acts.length + 1 := by simp [Dd.add]
def DBnd (N : Nat) (ds : List Dd) : Prop := ds.length ≤ N ∧ ∀ d ∈ ds, d.acts.length ≤ N
theorem DBnd.step {N : Nat} {ds : List Dd} (h : DBnd N ds) (s : Bs) (a : Ac) : DBnd (N + 1) (stepS s ds a).2 := by
  have hm : DBnd (N + 1) ds := ⟨Nat.le_trans h.1 (by omega), fun d hd => Nat.le_trans (h.2 d hd) (by omega)⟩
  have hg : (ds.getD (a.id.toNat - 1) default).acts.length ≤ N := by
    by_cases hi : a.id.toNat - 1 < ds.length
    · rw [List.getD_eq_getElem?_getD, List.getElem?_eq_getElem hi]; exact h.2 _ (List.getElem_mem hi)
    · rw [List.getD_eq_getElem?_getD, List.getElem?_eq_none (by omega)]; simp [default]
  have hset : ∀ d' : Dd, d'.acts.length ≤ N + 1 → DBnd (N + 1) (ds.set (a.id.toNat - 1) d') := fun d' hd => ⟨by rw [List.length_set]; exact hm.1, fun d hd' => by
    rcases List.mem_or_eq_of_mem_set hd' with h1 | rfl
    · exact hm.2 d h1
    · exact hd⟩
  unfold stepS
  split
  · refine ⟨by simp; exact h.1, fun d hd => ?_⟩
    rcases List.mem_append.1 hd with hd | hd
    · exact hm.2 d hd
    · rw [List.mem_singleton.1 hd]; simp
  · split
    · exact hm
    · dsimp only
      split
      · split
        · exact hset _ (by first | (rw [add_len]; omega) | (show (Dd.add _ _ _ _ _).acts.length ≤ _; rw [add_len]; omega))
        · exact hm
      · split
        · split
          · exact hset _ (by first | (rw [add_len]; omega) | (show (Dd.add _ _ _ _ _).acts.length ≤ _; rw [add_len]; omega))
          · exact hm
        · split
          · split
            · exact hset _ (by first | (rw [add_len]; omega) | (show (Dd.add _ _ _ _ _).acts.length ≤ _; rw [add_len]; omega))
            · exact hm
          · split
            · split
              · dsimp only; split
                · exact hset _ (by dsimp only; omega)
                · exact hset _ (by dsimp only; omega)
              · exact hm
            · exact hm
end Go.Gx
