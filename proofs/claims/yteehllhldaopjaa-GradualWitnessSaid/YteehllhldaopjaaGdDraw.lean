/- Regions that draw and write: what writes nothing is taken first, two loads side by side once, the rest one behind the other. Conditions: none. -/
import Derived.Laws.Bits64
import Derived.Test.YteehllhldaopjaaGdDef
namespace Go.Gx
variable {P : Program} {n : Nat} {Q : Post} {D : List Deferred} {E : Env} {w : World}
theorem wq64 {a b : Int} (ha : 0 ≤ a ∧ a ≤ 9223372036854775807) (hb : 0 < b) : IntKind.i64.wrap (a.tdiv b) = a / b := by
  rw [Int.tdiv_eq_ediv_of_nonneg ha.1]
  have h1 : 0 ≤ a / b := Int.ediv_nonneg ha.1 (by omega)
  have h2 : a / b ≤ a := Int.ediv_le_self _ ha.1
  exact wr64 ⟨by omega, by omega⟩
theorem x_quo {x y : Operand} {t u z : TypeId} {k : IntKind} {a b c : Int} (hx : ev E x = .int k a) (hy : ev E y = .int k b) (hb : b ≠ 0) (hc : k.wrap (a.tdiv b) = c) :
    X P (.binOp .quo u x y z) t E w (.int k c) w := by
  unfold X; simp [execOp, hx, hy, go_sem, Op.intDiv, hb, ← hc]
theorem x_conv {x : Operand} {t s d : TypeId} {k k' : IntKind} {a c : Int} (hs : (P.underlying s).isSome = true) (hd : P.underlying d = some (.int k')) (hx : ev E x = .int k a) (hc : k'.wrap a = c) :
    X P (.convert s d x) t E w (.int k' c) w := by
  have hk : P.intKind d = k' := by simp [Program.intKind, hd]
  unfold X; simp [execOp, hx, run_convert_int w s d k a hs (by rw [hk]; exact hd), hk, hc]
theorem x_band {x y : Operand} {t u z : TypeId} {k : IntKind} {a b : Int} (hx : ev E x = .int k a) (hy : ev E y = .int k b) : X P (.binOp .and u x y z) t E w (.int k (bits .and k a b)) w := by
  unfold X; simp [execOp, hx, hy, go_sem]
theorem x_bxor {x y : Operand} {t u z : TypeId} {k : IntKind} {a b : Int} (hx : ev E x = .int k a) (hy : ev E y = .int k b) : X P (.binOp .xor u x y z) t E w (.int k (bits .xor k a b)) w := by
  unfold X; simp [execOp, hx, hy, go_sem]
theorem x_shl {x y : Operand} {t u z : TypeId} {k k' : IntKind} {a b : Int} (hx : ev E x = .int k a) (hy : ev E y = .int k' b) (hb : 0 ≤ b) (hb' : b ≤ k.bits) : X P (.binOp .shl u x y z) t E w (.int k (k.wrap (a * 2 ^ b.toNat))) w := by
  unfold X; simp [execOp, hx, hy, eqGuard, binOp_shl, shift_shl k k' a b hb hb']
theorem x_shr {x y : Operand} {t u z : TypeId} {k k' : IntKind} {a b : Int} (hx : ev E x = .int k a) (hy : ev E y = .int k' b) (hb : 0 ≤ b) (hb' : b ≤ k.bits) : X P (.binOp .shr u x y z) t E w (.int k (a / 2 ^ b.toNat)) w := by
  unfold X; simp [execOp, hx, hy, eqGuard, binOp_shr, shift_shr k k' a b hb hb']
theorem x_nil {x : Operand} {t : TypeId} {a : Addr} (hx : ev E x = .pointer (some a)) : X P (.nilCheck x) t E w (.pointer (some a)) w := by
  unfold X; simp [execOp, hx, go_sem]
theorem and_le {a b : Int} (hb : 0 ≤ b ∧ b ≤ 18446744073709551615) : 0 ≤ bits .and .u64 a b ∧ bits .and .u64 a b ≤ b := by
  obtain ⟨n, rfl⟩ := Int.eq_ofNat_of_zero_le hb.1
  have h1 : (BitVec.ofInt 64 (n : Int)).toNat = n := by
    rw [BitVec.toNat_ofInt]; omega
  have h2 : (BitVec.ofInt 64 a &&& BitVec.ofInt 64 (n : Int)).toNat ≤ n := by
    rw [BitVec.toNat_and, h1]; exact Nat.and_le_right
  have h3 : bits .and .u64 a (n : Int) = ((BitVec.ofInt 64 a &&& BitVec.ofInt 64 (n : Int)).toNat : Int) := by
    show IntKind.u64.wrap _ = _
    rw [IntKind.wrap_u64]
    show (((BitVec.ofInt 64 a &&& BitVec.ofInt 64 (n : Int)).toNat : Nat) : Int) % _ = _
    omega
  rw [h3]
  omega
def nrm (K : List Deferred → Env → World → Prop) : Post := fun e D E w => e = .normal ∧ K D E w
theorem nrm_n {K : List Deferred → Env → World → Prop} (h : K D E w) : nrm K .normal D E w := ⟨rfl, h⟩
theorem W.drawS {id : Nat} {l : List Oper} (hm : P.follows .mixedOrders = true) (h : LA P n l.toArray (nrm (Q .normal)) l.length (Array.replicate l.length false) D E w.drew) : W P n (.region id l.toArray true) Q D E w := by
  intro a ha
  refine wp_mono (wp_region_any (Q := lift n (nrm (Q .normal))) hm ?_) ?_
  · have := h a ha
    simpa using this
  · rintro e a' w' ⟨he, E', hE, rfl, hq⟩
    exact ⟨he, E', hE, hq⟩
theorem LA.take {K : List Deferred → Env → World → Prop} {ops : Array Oper} {fuel : Nat} {listed : Array Bool} {i d : Nat} {op : Op} {t : TypeId} {p : String} {af : Array Edge} {v : Value}
    (ho : ops[i]? = some ⟨some d, op, t, p, af, none⟩) (hs : Region.noSelect ops = true) (hf : Region.free .any ops listed i = true) (hr : (Region.ready .any ops listed).contains i = true)
    (hx : ∀ w, X P op t E w v w) (hd : Nat.blt d n = true) (k : LA P n ops (nrm K) fuel (listed.setIfInBounds i true) D (upd E d v) w) : LA P n ops (nrm K) (fuel + 1) listed D E w := by
  intro a ha
  refine wpAny_take ho hs hf hr ?_ (.inl ⟨by simp [Region.wanted], fun w => ?_⟩) (k _ (ha.put v hd))
  · rintro c a w ⟨_, E, _, h, _⟩; cases h
  · have := hx w
    unfold X at this
    rw [execOp_bare, ha.eval]; exact this
theorem upd_comm {E : Env} {i j : Nat} {x y : Value} (h : i ≠ j) : upd (upd E j y) i x = upd (upd E i x) j y := by
  funext t
  by_cases hi : t = i
  · subst hi; rw [upd_same, upd_ne _ _ h, upd_same]
  · by_cases hj : t = j
    · subst hj; rw [upd_ne _ _ hi, upd_same, upd_same]
    · rw [upd_ne _ _ hi, upd_ne _ _ hj, upd_ne _ _ hj, upd_ne _ _ hi]
theorem LA.pair {K : List Deferred → Env → World → Prop} {ops : Array Oper} {fuel : Nat} {listed : Array Bool} {i j d e : Nat} {op op' : Op} {t t' : TypeId} {p p' : String} {af af' : Array Edge} {v v' : Value}
    (hi : ops[i]? = some ⟨some d, op, t, p, af, none⟩) (hj : ops[j]? = some ⟨some e, op', t', p', af', none⟩)
    (hr : Region.ready .any ops listed = [i, j]) (hri : Region.ready .any ops (listed.setIfInBounds i true) = [j]) (hrj : Region.ready .any ops (listed.setIfInBounds j true) = [i]) (hij : Nat.beq i j = false) (hde : Nat.beq d e = false)
    (hx : X P op t E w v w) (hx' : X P op' t' E w v' w) (hy : X P op' t' (upd E d v) w v' w) (hy' : X P op t (upd E e v') w v w) (hd : Nat.blt d n = true) (he : Nat.blt e n = true)
    (k : LA P n ops (nrm K) fuel ((listed.setIfInBounds i true).setIfInBounds j true) D (upd (upd E d v) e v') w) : LA P n ops (nrm K) (fuel + 1 + 1) listed D E w := by
  have hne : i ≠ j := fun h => by subst h; simp at hij
  have hned : d ≠ e := fun h => by subst h; simp at hde
  refine LA.step hr (by simp) ⟨⟨_, hi, ?_⟩, ⟨_, hj, ?_⟩, trivial⟩
  · refine L.val hx hd (L.nil (thn_n ?_))
    exact LA.step hri (by simp) ⟨⟨_, hj, L.val hy he (L.nil (thn_n k))⟩, trivial⟩
  · refine L.val hx' he (L.nil (thn_n ?_))
    refine LA.step hrj (by simp) ⟨⟨_, hi, L.val hy' hd (L.nil (thn_n ?_))⟩, trivial⟩
    rw [Array.setIfInBounds_comm _ _ hne.symm, upd_comm hned]
    exact k
theorem wpQuiet_app {ops : Array Oper} {C : World → Prop} {Q : Act → Prop} : ∀ (l r : List Oper) (a : Act), wpQuiet P ops C (wpQuiet P ops C Q r) l a → wpQuiet P ops C Q (l ++ r) a := by
  intro l
  induction l with
  | nil => intro r a h; exact h
  | cons o l ih =>
    intro r a h
    rw [List.cons_append]
    unfold wpQuiet at h ⊢
    split
    · rename_i hw; rw [if_pos hw] at h
      obtain ⟨v, h1, h2⟩ := h
      exact ⟨v, h1, ih _ _ h2⟩
    · rename_i hw; rw [if_neg hw] at h; exact ih _ _ h
theorem wpQuiet_mono {ops : Array Oper} {C : World → Prop} {Q Q' : Act → Prop} (hq : ∀ a, Q a → Q' a) : ∀ (l : List Oper) (a : Act), wpQuiet P ops C Q l a → wpQuiet P ops C Q' l a := by
  intro l
  induction l with
  | nil => intro a h; exact hq _ h
  | cons o l ih =>
    intro a h
    unfold wpQuiet at h ⊢
    split
    · rename_i hw; rw [if_pos hw] at h
      obtain ⟨v, h1, h2⟩ := h
      exact ⟨v, h1, ih _ h2⟩
    · rename_i hw; rw [if_neg hw] at h; exact ih _ h
theorem LQ.group {ops : Array Oper} {C : World → Prop} {K : Env → Prop} {l : List Oper} (k lo hi y dj : Nat) {b : Bool} (want : Bool) {v0 : Bool} (_ : E dj = .bool b)
    (hyes : b = want → LQ P n ops C (fun E' => jeq lo hi E E' ∧ E' y = .bool v0) (l.take k) D E)
    (hno : b = (!want) → LQ P n ops C (fun E' => jeq lo hi E E') (l.take k) D E)
    (kont : ∀ J, (b = want → J y = .bool v0) → LQ P n ops C K (l.drop k) D (jnk lo hi J E)) : LQ P n ops C K l D E := by
  intro a ha
  rw [← List.take_append_drop k l]
  refine wpQuiet_app _ _ _ ?_
  have go : LQ P n ops C (fun E' => jeq lo hi E E' ∧ (b = want → E' y = .bool v0)) (l.take k) D E := by
    intro a ha
    by_cases hb : b = want
    · exact wpQuiet_mono (fun a' ⟨E', h1, h2, h3⟩ => ⟨E', h1, h2, fun _ => h3⟩) _ _ (hyes hb a ha)
    · exact wpQuiet_mono (fun a' ⟨E', h1, h2⟩ => ⟨E', h1, h2, fun h => absurd h hb⟩) _ _ (hno (by cases b <;> cases want <;> simp_all) a ha)
  refine wpQuiet_mono ?_ _ _ (go a ha)
  rintro a' ⟨E', h1, h2, h3⟩
  rw [h2.eq] at h1
  exact kont _ h3 a' h1
def Row {α : Type} (enc : α → Value) (w : World) (b o : Nat) (T : TypeId) (hd : List Value) (d : Array α) (tl : List Value) : Prop :=
  hd.length = o ∧ Box w b T (hd ++ d.toList.map enc ++ tl)
section
variable {α : Type} {enc : α → Value} {b o : Nat} {T : TypeId} {hd tl : List Value} {d : Array α}
theorem Row.carryR {R : Nat → Prop} {w w' : World} (h : Row enc w b o T hd d tl) (g : Gr R w w') (hn : ¬ R b) : Row enc w' b o T hd d tl := ⟨h.1, h.2.carryR g hn⟩
theorem Row.carry {w w' : World} (h : Row enc w b o T hd d tl) (g : Bel w w') : Row enc w' b o T hd d tl := ⟨h.1, h.2.carry g⟩
theorem Row.lt {w : World} (h : Row enc w b o T hd d tl) : b < w.heap.size := h.2.lt
theorem Row.at [Inhabited α] {w : World} (h : Row enc w b o T hd d tl) {i : Nat} (hi : i < d.size) : w.cell? ⟨b, o + i, none⟩ = some (enc d[i]!) := by
  refine h.2.cell ?_
  rw [List.append_assoc, List.getElem?_append_right (by have := h.1; omega), h.1, show o + i - o = i by omega, List.getElem?_append_left (by simpa using hi)]
  simp [hi]
theorem Row.set {w : World} (h : Row enc w b o T hd d tl) {i : Nat} (hi : i < d.size) (x : α) : Row enc (w.setCell ⟨b, o + i, none⟩ (enc x)) b o T hd (d.setIfInBounds i x) tl := by
  refine ⟨h.1, ?_⟩
  have := h.2.set (o + i) (enc x)
  have e : (hd ++ d.toList.map enc ++ tl).set (o + i) (enc x) = hd ++ (d.setIfInBounds i x).toList.map enc ++ tl := by
    rw [List.append_assoc, List.set_append_right _ _ (by have := h.1; omega), h.1, show o + i - o = i by omega, List.set_append_left _ _ (by simpa using hi), List.append_assoc]
    congr 2
    rw [Array.toList_setIfInBounds, List.map_set]
  rw [e] at this
  exact this
theorem Row.free {w : World} (h : Row enc w b o T hd d tl) (i : Nat) : w.frozen? ⟨b, i, none⟩ = false := h.2.free i
theorem L.setAt [Inhabited α] {ops : Array Oper} {r : List Oper} {x y : Operand} {s t : TypeId} {p : String} {af : Array Edge} {j : Nat} {v : α} (hs : (P.info? s).map (·.size) = some 1)
    (hx : ev E x = .pointer (some ⟨b, o + j, none⟩)) (hy : ev E y = enc v) (h1 : (enc v).oneCell' = true) (hb : Row enc w b o T hd d tl) (hi : j < d.size)
    (k : ∀ w1, Row enc w1 b o T hd (d.setIfInBounds j v) tl → (d.setIfInBounds j v).size = d.size → Gr (· = b) w w1 → w1.heap.size = w.heap.size → L P n ops Q r D E w1) : L P n ops Q (⟨none, .store s x y, t, p, af, none⟩ :: r) D E w :=
  L.skip (x_st hs hx hy h1 (hb.at hi) (hb.free _)) (k _ (hb.set hi v) (by simp) (gr_setCell w ⟨b, o + j, none⟩ _) (by simp))
end
end Go.Gx
