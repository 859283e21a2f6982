/- Slices that a call grows, and ranges over functions. Conditions: none. -/
import Derived.RangeFuncBox
import Derived.RangeFuncBound
import Derived.RangeFuncFrom
import Derived.RangeFuncLeaves
import Derived.TacticsIn
import Derived.OwnWalkIn
import Derived.Maps.AppendAt
import Derived.Lib.SliceRun
import Derived.Laws.MakeOwn
import Derived.Test.YteehllhldaopjaaGreatBtApp
namespace Go.Gx
variable {P : Program} {n : Nat} {Q : Post} {D : List Deferred} {E : Env} {w : World}
theorem gr_of_grown {a b : World} {row : Option Nat} (h : a.grownBy b row) : Gr (fun k => some k = row) a b := ⟨h.os, h.tape, h.output, h.size, fun k hk hn => h.block k hk hn⟩
def Own (w : World) (base : Nat) (e : TypeId) (sz : Nat) (v : Value) (k : Nat) (xs : List Value) : Prop := w.ownsRow base e sz v k xs
section
variable {base : Nat} {e : TypeId} {sz : Nat} {v : Value} {k : Nat} {xs : List Value}
theorem own_nil : Own w base e sz (.slice none 0 0) 0 [] := World.ownsRow_nil w base e sz
theorem Own.carryR {R : Nat → Prop} {w' : World} (h : Own w base e sz v k xs) (g : Gr R w w') (hR : ∀ j, some j = v.ownBlock → ¬ R j) : Own w' base e sz v k xs := by
  refine ⟨h.1, ?_⟩;rcases h.2 with hn | ⟨b, cap, cur, rfl, hb, hg, rest⟩
  · exact .inl hn
  · exact .inr ⟨b, cap, cur, rfl, hb, (g.block b (Array.getElem?_eq_some_iff.1 hg).1 (hR b rfl)).trans hg, rest⟩
theorem Own.carry {w' : World} (h : Own w base e sz v k xs) (g : Bel w w') : Own w' base e sz v k xs := h.carryR g fun _ _ f => f
theorem Own.weak {base' : Nat} (h : Own w base e sz v k xs) (hb : base' ≤ base) : Own w base' e sz v k xs := by
  refine ⟨h.1, ?_⟩;rcases h.2 with hn | ⟨b, cap, cur, hv, hbb, rest⟩
  · exact .inl hn
  · exact .inr ⟨b, cap, cur, hv, Nat.le_trans hb hbb, rest⟩
theorem Own.lt (h : Own w base e sz v k xs) {j : Nat} (hj : some j = v.ownBlock) : base ≤ j ∧ j < w.heap.size := by
  rcases h.2 with ⟨rfl, -⟩ | ⟨b, cap, cur, rfl, hb, hg, -⟩
  · simp [Value.ownBlock] at hj
  · simp [Value.ownBlock] at hj; subst hj; exact ⟨hb, (Array.getElem?_eq_some_iff.1 hg).1⟩
theorem Own.open (h : Own w base e sz v k xs) : (v = .slice none 0 0 ∧ k = 0 ∧ xs = []) ∨ ∃ b cap tl, v = .slice (some ⟨b, 0, none⟩) k cap ∧ base ≤ b ∧ k ≤ cap ∧ cap ≤ 9223372036854775807 ∧ Box w b e (xs ++ tl) := by
  rcases h.2 with ⟨rfl, rfl⟩ | ⟨b, cap, cur, rfl, hb, hg, h1, h2, h3, h4⟩
  · refine .inl ⟨rfl, rfl, List.eq_nil_of_length_eq_zero (by simpa using h.1)⟩
  · refine .inr ⟨b, cap, cur.toList.drop (k * sz), rfl, hb, h1, h2, ?_⟩;unfold Box;rw [← h4, List.take_append_drop, Array.toArray_toList]; exact hg
theorem append_run {t ty : TypeId} {a : Addr} {m : Nat} (c : Nat) {news : List Value} (ht : P.underlying t = some (.slice e)) (he : elT P e sz = true) (h : Own w base e sz v k xs)
    (hl : news.length = m * sz) (hn : ∀ j u, news[j]? = some u → w.cell? (a.add j) = some u) (h1 : ∀ u ∈ news, u.oneCell' = true) (hk : (k + m) * 200 ≤ 140737488355328) (hb : base ≤ w.heap.size) :
    ∃ v' w', (Builtin.append_ #[t, t] ty #[v, .slice (some a) m c]).run P w = .ok v' w' ∧ Own w' base e sz v' (k + m) (xs ++ news) ∧ Gr (fun j => some j = v.ownBlock) w w' ∧ (v' = .slice none 0 0 ↔ v = .slice none 0 0 ∧ m = 0) ∧ (v'.ownBlock = v.ownBlock ∨ v'.ownBlock = some w.heap.size) := by
  obtain ⟨i, z, hi, hz, hs, hzs, hpos, hby⟩ := elT_spec he;obtain ⟨v', w', a1, a2, a3, a4, a5⟩ := run_append_own_at (P := P) w base t ty e i z sz i.bytes ht hi hz hs rfl hzs hpos v k xs h a m c news hl hn h1 (by simp only [maxLen]; omega) (Nat.le_trans (Nat.mul_le_mul_left _ hby) hk) hb;exact ⟨v', w', a1, a2, gr_of_grown a3, a4, a5⟩
end
theorem Own.cells {base : Nat} {e : TypeId} {sz : Nat} {v : Value} {k : Nat} {xs : List Value} (h : Own w base e sz v k xs) {j : Nat} {o : Obj} (hj : some j = v.ownBlock) (ho : w.heap[j]? = some o) : o.isCells = true := by
  rcases h.2 with ⟨rfl, -⟩ | ⟨b, cap, cur, rfl, hb, hg, -⟩
  · simp [Value.ownBlock] at hj
  · simp [Value.ownBlock] at hj; subst hj; rw [hg] at ho; cases ho; rfl
theorem keeps_of_gr {R : Nat → Prop} {a b : World} (h : Gr R a b) (hR : ∀ k o, R k → a.heap[k]? = some o → o.isCells = true) : KeepsOthers a b :=
  ⟨h.size, fun k o hk ho => (h.block k (Array.getElem?_eq_some_iff.1 hk).1 (fun hr => by rw [hR k o hr hk] at ho; cases ho)).trans hk⟩
theorem Box.news {b : Nat} {t : TypeId} {cs : List Value} (h : Box w b t cs) : ∀ j u, cs[j]? = some u → w.cell? ((⟨b, 0, none⟩ : Addr).add j) = some u := fun j u hj => by
  have := h.cell hj;cases j <;> simpa [Addr.add] using this
theorem gr_putObj (w : World) (l : Nat) (o : Obj) : Gr (· = l) w (w.putObj l o) := ⟨rfl, rfl, rfl, by simp, fun k _ hn => World.putObj_heap_other hn⟩
theorem below_of_gr {n₀ : Nat} {a b : World} (h : Gr (fun k => n₀ ≤ k) a b) (hn : n₀ ≤ a.heap.size) : RowKit.Below n₀ a b := ⟨h.os, h.tape, h.output, h.size, fun k hk => h.block k om_ om_⟩
theorem x_append {x y : Operand} {T t : TypeId} {v u v' : Value} {w' : World} (hx : ev E x = v) (hy : ev E y = u) (hrun : (Builtin.append_ #[T, T] t #[v, u]).run P w = .ok v' w') :
    X P (.call ⟨.builtin .append, #[x, y], #[T, T]⟩) t E w v' w' := by
  unfold X;simp [execOp, resolve, invoke, builtin, hx, hy, hrun, Result.andThen]
theorem L.append {base : Nat} {e : TypeId} {sz : Nat} {v : Value} {k : Nat} {xs : List Value} {ops : Array Oper} {r : List Oper} {d : Nat} {x y : Operand} {T t : TypeId} {p : String} {af : Array Edge} {a : Addr} {m c : Nat} {news : List Value}
    (hu : P.underlying T = some (.slice e)) (he : elT P e sz = true) (hx : ev E x = v) (hy : ev E y = .slice (some a) m c) (hd : Nat.blt d n = true) (h : Own w base e sz v k xs)
    (hl : news.length = m * sz) (hn : ∀ j u, news[j]? = some u → w.cell? (a.add j) = some u) (h1 : ∀ u ∈ news, u.oneCell' = true) (hk : (k + m) * 200 ≤ 140737488355328) (hb : base ≤ w.heap.size)
    (kk : ∀ v' w', Own w' base e sz v' (k + m) (xs ++ news) → Gr (fun j => some j = v.ownBlock) w w' → (v' = .slice none 0 0 ↔ v = .slice none 0 0 ∧ m = 0) → (v'.ownBlock = v.ownBlock ∨ v'.ownBlock = some w.heap.size) → L P n ops Q r D (upd E d v') w') :
    L P n ops Q (⟨some d, .call ⟨.builtin .append, #[x, y], #[T, T]⟩, t, p, af, none⟩ :: r) D E w := by
  obtain ⟨v', w', hrun, a1, a2, a3, a4⟩ := append_run (ty := t) c hu he h hl hn h1 hk hb;exact L.val (x_append hx hy hrun) hd (kk v' w' a1 a2 a3 a4)
theorem x_slo {x y : Operand} {t s e : TypeId} {b o c m : Nat} {k : IntKind} {i : Int} {j sz : Nat} (hu : P.underlying s = some (.slice e)) (hs : (P.info? e).map (·.size) = some sz)
    (hx : ev E x = .slice (some ⟨b, o, none⟩) m c) (hy : ev E y = .int k i) (hi : i = (j : Nat)) (hj : j ≤ m) (hc : j < c) :
    X P (.slice s x (some y) none none) t E w (.slice (some ⟨b, o + j * sz, none⟩) (m - j) (c - j)) w := by
  unfold X;subst hi;have hne : ¬ c = j := by omega
  cases hi : P.info? e with
  | none => simp [hi] at hs
  | some inf =>
    simp only [hi, Option.map_some, Option.some.injEq] at hs;simp [execOp, hx, hy, Instr.sliceAt, Instr.slice, Instr.sliceBounds, Instr.sliceBound, asIntOf, run_underlying hu, sizeOf, typeInfo, hi, hs, Addr.add, hj, hne]
theorem x_shi {x y : Operand} {t s e : TypeId} {a : Option Addr} {c m : Nat} {k : IntKind} {i : Int} {j sz : Nat} (hu : P.underlying s = some (.slice e)) (hs : (P.info? e).map (·.size) = some sz)
    (hx : ev E x = .slice a m c) (hy : ev E y = .int k i) (hi : i = (j : Nat)) (hj : j ≤ c) :
    X P (.slice s x none (some y) none) t E w (.slice a j c) w := by
  unfold X;subst hi;cases hi : P.info? e with
  | none => simp [hi] at hs
  | some inf =>
    simp only [hi, Option.map_some, Option.some.injEq] at hs;simp [execOp, hx, hy, Instr.sliceAt, Instr.slice, Instr.sliceBounds, Instr.sliceBound, asIntOf, run_underlying hu, sizeOf, typeInfo, hi, Addr.add, hj]
theorem size_setCells' (b : Nat) : ∀ (vs : List Value) (o : Nat) (w : World), (w.setCells b o vs).heap.size = w.heap.size
  | [], _, _ => rfl
  | v :: r, o, w => by rw [World.setCells, size_setCells' b r (o + 1)]; simp
theorem gr_setCells (b : Nat) : ∀ (vs : List Value) (o : Nat) (w : World), Gr (· = b) w (w.setCells b o vs)
  | [], _, w => Gr.refl _ w
  | v :: r, o, w => by rw [World.setCells]; exact (gr_setCell w ⟨b, o, none⟩ v).trans (gr_setCells b r (o + 1) _)
theorem L.clear {ops : Array Oper} {r : List Oper} {x : Operand} {s e t : TypeId} {p : String} {af : Array Edge} {z : Value} {b o m c : Nat} (hu : P.underlying s = some (.slice e)) (hz : (P.info? e).bind (·.zero) = some z) (hzc : z.cells = #[z]) (h1 : z.oneCell' = true)
    (hx : ev E x = .slice (some ⟨b, o, none⟩) m c) (hm : 0 < m) (hc : ∀ j, j < m → (w.cell? ⟨b, o + j, none⟩).isSome = true) (hf : ∀ j, j < m → w.frozen? ⟨b, o + j, none⟩ = false)
    (k : ∀ w1, Gr (· = b) w w1 → w1.heap.size = w.heap.size → L P n ops Q r D E w1) : L P n ops Q (⟨none, .call ⟨.builtin .clear, #[x], #[s]⟩, t, p, af, none⟩ :: r) D E w := by
  have hv : ∀ w, (zeroValue e).run P w = .ok z w := fun w => by
    cases hi : P.info? e with
    | none => simp [hi] at hz
    | some i =>
      simp [hi] at hz;simp [zeroValue, typeInfo, hi, hz]
  have hrun := Lib.run_clear_slice (P := P) w s e t z hu hv hzc h1 b o m c hm hc hf;refine L.valn (v := .tuple #[]) (w' := w.setCells b o (List.replicate m z)) ?_ (k _ (gr_setCells _ _ _ _) (size_setCells' _ _ _ _));unfold X;simp [execOp, resolve, invoke, builtin, hx, hrun, Result.andThen]
theorem L.mk1 {ops : Array Oper} {r : List Oper} {d : Nat} {x : Operand} {s e t : TypeId} {p : String} {af : Array Edge} {z : Value} {k : IntKind} {i : Int} (c : Nat) (hu : P.underlying s = some (.slice e)) (he : elT P e 1 = true) (hz : (P.info? e).bind (·.zero) = some z) (hzc : z.cells = #[z])
    (hx : ev E x = .int k i) (hi : i = (c : Nat)) (hc : c ≤ 400000000000) (hd : Nat.blt d n = true)
    (kk : ∀ w1, Box w1 w.heap.size e (List.replicate c z) → Bel w w1 → w1.heap.size = w.heap.size + 1 → L P n ops Q r D (upd E d (.slice (some ⟨w.heap.size, 0, none⟩) c c)) w1) :
    L P n ops Q (⟨some d, .makeSlice s x x, t, p, af, none⟩ :: r) D E w := by
  obtain ⟨inf, z', hinf, hz', hs, hzs, hpos, hby⟩ := elT_spec he;have hzz : z' = z := by rw [hinf] at hz; simp only [Option.bind_some] at hz; rw [hz'] at hz; exact Option.some.inj hz
  subst hzz;subst hi;have hrun := run_make (P := P) w s e inf z' hu hinf hz' k k (c : Nat) (c : Nat) om_ om_ (by have : (inf.bytes : Int) * (c : Int) ≤ 200 * (c : Int) := Int.mul_le_mul_of_nonneg_right om_ om_; omega) om_;have hmade : madeCells z'.cells (((c : Nat) : Int).toNat * inf.size) = (List.replicate c z').toArray := by
    rw [hs, hzc];simp [madeCells];apply Array.ext';simp;apply List.ext_getElem
    · simp
    · intro i h1 h2; simp [Nat.mod_one]
  rw [hmade] at hrun;refine L.val (v := .slice (some ⟨w.heap.size, 0, none⟩) c c) (w' := w.alloc (.cells (List.replicate c z').toArray e)) ?_ hd (kk _ (box_alloc _ _ _) (bel_alloc _ _) (by simp));unfold X;simp only [execOp, Sem.run_bind, hx, hrun];simp [Result.andThen]
def LI (F : Fence) (m : Nat) (P : Program) (n : Nat) (ops : Array Oper) (Q : Post) (l : List Oper) (D : List Deferred) (E : Env) (w : World) : Prop := ∀ a, Fr D n a E → wpListIn F m P ops (lift n Q) l a w
def WI (F : Fence) (m : Nat) (P : Program) (n : Nat) (c : Code) (Q : Post) (D : List Deferred) (E : Env) (w : World) : Prop := ∀ a, Fr D n a E → c.wpIn F m P (lift n Q) a w
section
variable {F : Fence} {m : Nat}
theorem WI.region {id : Nat} {l : List Oper} (h : LI F m P n l.toArray Q l D E w) : WI F m P n (.region id l.toArray false) Q D E w :=
  fun a ha => wpIn_region_lit (h a ha)
theorem WI.block {id : Nat} {c : Code} (h : WI F m P n c (blk id Q) D E w) : WI F m P n (.block id c) Q D E w := by
  intro a ha;refine wpIn_block (wpIn_mono (h a ha) ?_);rintro e a' w' ⟨he, E', hE, hq⟩;cases e <;> simp only [blk, Exit.inBlock] at hq ⊢;case exit id' =>
    by_cases hid : id' = id
    · simp only [hid, if_true] at hq ⊢; exact ⟨by simp, E', hE, hq⟩
    · simp only [hid, if_false] at hq ⊢; exact ⟨by simp, E', hE, hq⟩
  case outgrown => exact (he rfl).elim
  all_goals exact ⟨by simp, E', hE, hq⟩
theorem LI.nil {ops : Array Oper} (h : Q .normal D E w) : LI F m P n ops Q [] D E w := fun _ ha => lift_mk (by simp) ha h
theorem LI.val {ops : Array Oper} {r : List Oper} {d : Nat} {op : Op} {t : TypeId} {p : String} {af : Array Edge} {v : Value} {w' : World} (hF : ∀ f, F.fn f) (hnd : ∀ c, op ≠ .defer c)
    (hx : X P op t E w v w') (hd : Nat.blt d n = true) (k : LI F m P n ops Q r D (upd E d v) w') : LI F m P n ops Q (⟨some d, op, t, p, af, none⟩ :: r) D E w := by
  intro a ha;unfold wpListIn;rw [if_pos (by simp [Region.wanted])];refine ⟨fun f _ => hF f, ?_⟩;rw [Oper.semAt_plain F _ _ (fun c h => hnd c h), execOp_bare, ha.eval];unfold X at hx;rw [hx];exact k _ (ha.put v hd)
theorem LI.skip {ops : Array Oper} {r : List Oper} {op : Op} {t : TypeId} {p : String} {af : Array Edge} {w' : World} (hF : ∀ f, F.fn f) (hnd : ∀ c, op ≠ .defer c)
    (hx : Xs P op t E w w') (k : LI F m P n ops Q r D E w') : LI F m P n ops Q (⟨none, op, t, p, af, none⟩ :: r) D E w := by
  intro a ha;unfold wpListIn;rw [if_pos (by simp [Region.wanted])];refine ⟨fun f _ => hF f, ?_⟩;rw [Oper.semAt_plain F _ _ (fun c h => hnd c h), execOp_bare, ha.eval];unfold Xs at hx;rw [hx];exact k _ (ha.putn _)
theorem LI.yield {ops : Array Oper} {r : List Oper} {d : Nat} {g x : Operand} {tys : Array TypeId} {t : TypeId} {p : String} {af : Array Edge} {l : Nat} {v : Value} {R : Ending → World → Prop} (hF : ∀ f, F.fn f) (hdep : F.depth = none)
    (hg : ev E g = .func (.yield l) #[] #[]) (hx : ev E x = v) (hd : Nat.blt d n = true) (hy : YieldAt F (m - 1) P l #[v] w R) (hr : ∀ e w', R e w' → ∃ u, e = .returned u)
    (k : ∀ u w', R (.returned u) w' → LI F m P n ops Q r D (upd E d u) w') : LI F m P n ops Q (⟨some d, .call ⟨.value g, #[x], tys⟩, t, p, af, none⟩ :: r) D E w := by
  intro a ha;obtain ⟨fn, tmps, assign, body, hrun, hR⟩ := hy;unfold wpListIn;rw [if_pos (by simp [Region.wanted])];refine ⟨fun f _ => hF f, ?_⟩;rw [Oper.semAt_plain F _ _ (fun c h => by cases h), ha.eval];have hrun2 : (execOp (ev E) ⟨some d, .call ⟨.value g, #[x], tys⟩, t, p, af, none⟩).run P w = .ok (.round l fn tmps assign body) w := by
    simp [execOp, resolve, invoke, hg, hx, hrun, go_sem]
  rw [hrun2, Oper.uponIn_round];refine ⟨fun h => (by rw [hdep] at h; cases h), RoundIn.mono hR ?_⟩;intro e w' hR';obtain ⟨u, rfl⟩ := hr e w' hR';exact k u w' hR' _ (ha.put u hd)
end
theorem W.wide {c : Code} {m : Nat} (h : WI Fence.wide m P n c Q D E w) : W P n c Q D E w := fun a ha => wpIn_wide.1 (h a ha)
theorem WI.wide {c : Code} {m : Nat} (h : W P n c Q D E w) : WI Fence.wide m P n c Q D E w := fun a ha => wpIn_wide.2 (h a ha)
def KpB (n₀ : Nat) (A B : World) : Prop := RowKit.Below n₀ A B ∧ KeepsWalks A B
theorem WI.rangeF {α : Type} {g : Operand} {p d id : Nat} {t : TypeId} {pos : String} {body : Code} {gf : Nat} {lb : Array Value} {enc : α → Value} {n₀ N : Nat} {So Sp : List α → Prop} {w0 : World} {m : Nat} (hm : 1 ≤ m)
    (hg : ev E g = .func (.func gf) #[] lb) (eg : Go.Proofs.Enters P gf) (hseq : SeqStopsK Fence.wide (m - 1) P gf lb (fun x => #[enc x]) (KpB n₀) So Sp N w0) (hb0 : RowKit.Below w0.heap.size w0 w) (hn0 : n₀ ≤ w.heap.size)
    (I : List α → World → Prop) (hI : OwnFrom w.heap.size I) (h0 : I [] w) (hp : Nat.blt p n = true) (hd : Nat.blt d n = true)
    (hbody : ∀ (l : Nat) (pre : List α) (x : α) (w' : World), I pre w' → pre.length < N → WI (Fence.wide.inRound l) (m - 1 - 1) P n body (fun e _ _ w'' => e = .normal ∧ KeepsOthers w' w'' ∧ KpB n₀ w' w'' ∧ I (pre ++ [x]) w'') [] (upd (upd E p (enc x)) d (enc x)) w')
    (hdone : ∀ (Db : Nat) (xs : List α) (w' : World), w.heap.size ≤ Db → So xs → I xs w' → w'.heap[Db]? = some (.deferred (some [])) → Q .normal ({ target := .collected Db, args := #[] } :: D) E w') :
    WI Fence.wide m P n (.rangeFunc g #[p] (.region id #[⟨some d, .assign (.tmp p), t, pos, #[], none⟩] false) body) Q D E w := by
  intro a ha;have hfr : ∀ x, Fr [] n ({ tmps := (a.tmps.setIfInBounds p (enc x)).setIfInBounds d (enc x), defers := [] } : Act) (upd (upd E p (enc x)) d (enc x)) := fun x => by
    have h1 : Fr [] n ({ tmps := a.tmps, defers := [] } : Act) E := ⟨rfl, ha.size, ha.get⟩;exact (h1.put (enc x) hp).put (enc x) hd
  refine wpIn_rangeFunc_ownF rfl hm (by rw [ha.eval]; exact hg) trivial eg hseq (fun h k => ⟨h.1.trans k.1, h.2.trans k.2⟩) (fun W l o o' hl h hc hk => ⟨belowK_b hn0 W l o o' hl h hc hk, walksK_b (w := w) W l o o' hl h hc hk⟩) hb0 (fun _ => rfl) I (fun _ _ _ => False) hI (fun _ _ _ _ _ hs _ _ => hs) h0
    (fun x => { tmps := (a.tmps.setIfInBounds p (enc x)).setIfInBounds d (enc x), defers := [] }) ?_ ?_ ?_ ?_
  · intro l x w' K hK;refine wpIn_region_lit (l := [⟨some d, .assign (.tmp p), t, pos, #[], none⟩]) ?_;unfold wpListIn;rw [if_pos (by simp [Region.wanted])];refine ⟨fun f _ => trivial, ?_⟩;rw [Oper.semAt_plain _ _ _ (fun c h => by cases h)];have hv : (Act.mk (a.tmps.setIfInBounds p (enc x)) []).eval (.tmp p) = enc x := by
      have h1 : Fr [] n ({ tmps := a.tmps, defers := [] } : Act) E := ⟨rfl, ha.size, ha.get⟩;have h2 := (h1.put (enc x) hp).get p;rw [upd_same] at h2;exact h2
    have hrun : (execOp (Act.mk (a.tmps.setIfInBounds p (enc x)) []).eval ⟨some d, .assign (.tmp p), t, pos, #[], none⟩).run P w' = .ok (.value (enc x)) w' := by
      simp only [execOp];rw [hv]; rfl
    simp only [List.zip_toArray, List.zip_cons_cons, List.zip_nil_right, List.foldl_toArray', List.foldl_cons, List.foldl_nil];rw [hrun, Oper.uponIn_value];exact hK
  · intro l pre x w' hi hl;refine wpIn_mono (hbody l pre x w' hi hl _ (hfr x)) ?_;rintro e a' w'' ⟨_, E', _, rfl, h1, h2, h3⟩;exact ⟨h1, h2, h3⟩
  · intro Db xs w' hD hS hi hK;exact lift_mk (by simp) ⟨by rw [← ha.defers], ha.size, ha.get⟩ (hdone Db xs w' hD hS hi hK)
  · intro Db c pre w' _ _ h _;exact h.elim
def finM (res : Env → Value) (Φ : Value → World → Prop) : Post := fun e D E w => (e = .normal ∨ e = .ret) ∧ ∃ Db, D = [{ target := .collected Db, args := #[] }] ∧ w.heap[Db]? = some (.deferred (some [])) ∧ Φ (res E) (w.putObj Db (.deferred none))
theorem finM_mk {res : Env → Value} {Φ : Value → World → Prop} {e : Exit} (he : e = .normal ∨ e = .ret) (h : ∃ Db, D = [{ target := .collected Db, args := #[] }] ∧ w.heap[Db]? = some (.deferred (some [])) ∧ Φ (res E) (w.putObj Db (.deferred none))) : finM res Φ e D E w := ⟨he, h⟩
theorem ret_of_W_marks {f : FuncId} {fn : Func} {c : Code} {args : Array Value} {Φ : Value → World → Prop} {res : Env → Value}
    (hf : P.funcs[f]? = some fn) (hb : fn.body = some c) (hn : args.size ≤ fn.ntmps)
    (hres : ∀ a E, (∀ t, a.getD t undef = E t) → ∀ w, (results fn a).run P w = .ok (res E) w)
    (h : W P fn.ntmps c (finM res Φ) [] (env0 args.toList) w) : Ret P f args w Φ := by
  refine callsIn_wide.1 (callsIn_of_wp_marks (n := 2) hf hb trivial (wpIn_wide.2 (wp_mono (h _ (fr0 hn)) ?_)));rintro e a' w' ⟨he, E', hE, h1, Db, hD, hK, hΦ⟩;have key : LeavesInM Fence.wide 2 P fn a'.tmps (fun e w' => ∃ v, e = .returned v ∧ Φ v w') a'.defers .returning w' := by
    rw [hD];exact ⟨by simp, .inl ⟨_, _, rfl, run_takeDeferred hK, ⟨_, hres _ _ hE.get _, _, rfl, hΦ⟩⟩⟩
  rcases h1 with rfl | rfl
  · exact key
  · exact key
end Go.Gx
