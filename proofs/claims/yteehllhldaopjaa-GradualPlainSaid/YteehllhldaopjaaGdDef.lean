/- Calls that may panic, deferred calls, recover; closures; whole stores. Conditions: none. -/
import Derived.Defers
import Derived.Recover
import Derived.Test.YteehllhldaopjaaGdApp
namespace Go.Gx
open Go.RowKit
section
variable {P : Program} {n : Nat} {Q : Post} {D : List Deferred} {E : Env} {w : World}
def finC (res : Env → Value) (R : Ending → World → Prop) : Post := fun e D E w =>
  match e with
  | .normal | .ret => D = [] ∧ R (.returned (res E)) w
  | .panic c => D = [] ∧ R (.panicked c) w
  | _ => False
theorem calls_of_W {f : FuncId} {fn : Func} {c : Code} {args : Array Value} {R : Ending → World → Prop} {res : Env → Value}
    (hf : P.funcs[f]? = some fn) (hb : fn.body = some c) (hn : args.size ≤ fn.ntmps)
    (hres : ∀ a E, (∀ t, a.getD t undef = E t) → ∀ w, (results fn a).run P w = .ok (res E) w)
    (h : W P fn.ntmps c (finC res R) [] (env0 args.toList) w) : Calls P f args w R := by
  refine calls_of_wp hf hb (wp_mono (h _ (fr0 hn)) ?_)
  rintro e a' w' ⟨he, E', hE, h1⟩
  cases e <;> simp only [finC] at h1
  · exact ⟨h1.1, _, hres _ _ hE.get _, h1.2⟩
  · exact ⟨h1.1, _, hres _ _ hE.get _, h1.2⟩
  · exact ⟨h1.1, h1.2⟩
theorem finC_ret {res : Env → Value} {R : Ending → World → Prop} (h : R (.returned (res E)) w) : finC res R .ret [] E w := ⟨rfl, h⟩
theorem finC_end {res : Env → Value} {R : Ending → World → Prop} (h : R (.returned (res E)) w) : finC res R .normal [] E w := ⟨rfl, h⟩
theorem finC_pan {res : Env → Value} {R : Ending → World → Prop} {c : List PanicEntry} (h : R (.panicked c) w) : finC res R (.panic c) [] E w := ⟨rfl, h⟩
def finD (fn : Func) (R : Ending → World → Prop) (P : Program) : Post := fun e D E w =>
  match e with
  | .normal | .ret => ∀ a, Fr D fn.ntmps a E → Leaves P fn a.tmps R D .returning w
  | .panic c => ∀ a, Fr D fn.ntmps a E → Leaves P fn a.tmps R D (.panicking c) w
  | _ => False
theorem calls_of_W_defers {f : FuncId} {fn : Func} {c : Code} {args : Array Value} {R : Ending → World → Prop}
    (hf : P.funcs[f]? = some fn) (hb : fn.body = some c) (hn : args.size ≤ fn.ntmps)
    (h : W P fn.ntmps c (finD fn R P) [] (env0 args.toList) w) : Calls P f args w R := by
  refine calls_of_wp_defers hf hb (wp_mono (h _ (fr0 hn)) ?_)
  rintro e a' w' ⟨he, E', hE, h1⟩
  cases e <;> simp only [finD] at h1
  · exact h1 a' hE
  · exact h1 a' hE
  · exact h1 a' hE
theorem callsD_of_W {f : FuncId} {fn : Func} {id : Nat} {ops : Array Oper} {c : Code} {args : Array Value} {u u' : FrameMode} {E1 : Env} {R : Ending → FrameMode → World → Prop}
    (hf : P.funcs[f]? = some fn) (hb : fn.body = some (.seq (.region id ops false) c))
    (hrec : ∀ (c₀ : Frame) (cs : List Frame) (Q : Exit → Act → List Frame → World → Prop), c₀.mode = u → (∀ a, Fr [] fn.ntmps a E1 → Q .normal a ({ c₀ with mode := u' } :: cs) w) →
      wpOpsS P ops Q (List.range ops.size) { tmps := args ++ Array.replicate (fn.ntmps - args.size) undef, defers := [] } (c₀ :: cs) w)
    (hres : fn.results = #[])
    (h : W P fn.ntmps c (finC (fun _ => .tuple #[]) (fun e w' => R e u' w')) [] E1 w) : CallsD P f args u w R := by
  refine callsD_of_wpS hf hb fun c₀ cs hu => wpS_seq (wpS_region ?_)
  refine hrec c₀ cs _ hu fun a hE => ?_
  simp only [Exit.thenS]
  refine wpS_of_wp (wp_mono (h a hE) ?_)
  rintro e a' w' ⟨he, E', hE', h1⟩
  cases e <;> simp only [finC] at h1
  · exact ⟨h1.1, u', rfl, .tuple #[], results_none hres _ _ _, h1.2⟩
  · exact ⟨h1.1, u', rfl, .tuple #[], results_none hres _ _ _, h1.2⟩
  · exact ⟨h1.1, u', rfl, h1.2⟩
theorem run_loadVar_one {s : TypeId} {a : Addr} {v : Value} (ht : oneCellT P s = true) (hc : w.cell? a = some v) : (loadVar s a).run P w = .ok v w := by
  have hb : ∀ w, (isAgg s).run P w = .ok false w := by
    unfold oneCellT at ht
    cases hu : P.underlying s with
    | none => simp [hu] at ht
    | some d =>
      intro w
      refine Go.Proofs.run_isAgg_plain hu ?_ w
      cases d <;> simp_all
  simp [loadVar, hb, hc]
theorem resc3 {fn : Func} {a b c : Tmp} {ta tb tc : TypeId} {tmps : Array Value} {A B C : Addr} {va vb vc : Value} (h : fn.results = #[.cell a ta, .cell b tb, .cell c tc])
    (oa : oneCellT P ta = true) (ob : oneCellT P tb = true) (oc : oneCellT P tc = true)
    (ga : tmps.getD a undef = .pointer (some A)) (gb : tmps.getD b undef = .pointer (some B)) (gc : tmps.getD c undef = .pointer (some C))
    (ca : w.cell? A = some va) (cb : w.cell? B = some vb) (cc : w.cell? C = some vc) : (results fn tmps).run P w = .ok (.tuple #[va, vb, vc]) w := by
  rw [Array.getD_eq_getD_getElem?] at ga gb gc
  simp [results, h, ga, gb, gc, asAddr, run_loadVar_one oa ca, run_loadVar_one ob cb, run_loadVar_one oc cc]
def LA (P : Program) (n : Nat) (ops : Array Oper) (Q : Post) (fuel : Nat) (listed : Array Bool) (D : List Deferred) (E : Env) (w : World) : Prop :=
  ∀ a, Fr D n a E → wpAny P .any ops (lift n Q) fuel listed a w
def LAs (P : Program) (n : Nat) (ops : Array Oper) (Q : Post) (fuel : Nat) (listed : Array Bool) (D : List Deferred) (E : Env) (w : World) : List Nat → Prop
  | [] => True
  | i :: r => (∃ o, ops[i]? = some o ∧ L P n ops (thn (LA P n ops Q fuel (listed.setIfInBounds i true)) Q) [o] D E w) ∧ LAs P n ops Q fuel listed D E w r
theorem W.drawA {id : Nat} {l : List Oper} (hm : P.follows .mixedOrders = true) (h : LA P n l.toArray Q l.length (Array.replicate l.length false) D E w.drew) : W P n (.region id l.toArray true) Q D E w := by
  intro a ha
  refine wp_region_any hm ?_
  have := h a ha
  simpa using this
theorem LA.done {ops : Array Oper} {listed : Array Bool} (hr : Region.ready .any ops listed = []) (h : Q .normal D E w) : LA P n ops Q 0 listed D E w :=
  fun _ ha => ⟨hr, lift_mk (by simp) ha h⟩
theorem LA.step {ops : Array Oper} {fuel : Nat} {listed : Array Bool} {rs : List Nat} (hr : Region.ready .any ops listed = rs) (hne : rs ≠ []) (h : LAs P n ops Q fuel listed D E w rs) : LA P n ops Q (fuel + 1) listed D E w := by
  intro a ha
  refine ⟨fun h0 => absurd (hr.symm.trans h0) hne, fun i hi => ?_⟩
  rw [hr] at hi
  have key : ∀ rs : List Nat, LAs P n ops Q fuel listed D E w rs → i ∈ rs → ∃ o, ops[i]? = some o ∧ L P n ops (thn (LA P n ops Q fuel (listed.setIfInBounds i true)) Q) [o] D E w := by
    intro rs
    induction rs with
    | nil => intro _ hi; cases hi
    | cons j r ih =>
      intro hL hi
      rcases List.mem_cons.1 hi with rfl | hi
      · exact hL.1
      · exact ih hL.2 hi
  obtain ⟨o, ho, hL⟩ := key rs h hi
  have h1 := hL a ha
  have hl : ∀ e a w, lift n (thn (LA P n ops Q fuel (listed.setIfInBounds i true)) Q) e a w → Exit.then (wpAny P .any ops (lift n Q) fuel (listed.setIfInBounds i true)) (lift n Q) e a w := by
    intro e a w ⟨h1, E', h2, h3⟩
    cases e <;> simp only [thn, Exit.then] at h3 ⊢
    case normal => exact h3 a h2
    case outgrown => exact absurd rfl h1
    all_goals exact ⟨by simp, E', h2, h3⟩
  unfold wpOp
  rw [ho]
  simp only
  unfold wpList at h1
  split
  · rename_i hw
    rw [if_pos hw] at h1
    rcases h1 with h1 | ⟨_, a', w', h1⟩
    · refine .inl ?_
      unfold Oper.wp at h1 ⊢
      generalize (execOp a.eval o).run P w = res at h1 ⊢
      cases res with
      | ok x w' =>
        cases x <;> simp only [Oper.upon, wpList] at h1 ⊢ <;> try exact hl _ _ _ h1
        · refine h1.mono fun e w'' h => ?_
          cases e with
          | returned v => exact hl _ _ _ h
          | panicked c => exact hl _ _ _ h
          | outgrown => obtain ⟨a', w', h⟩ := h; exact absurd rfl h.1
        · exact h1.mono fun v w'' h => hl _ _ _ h
      | halt x w' => cases x <;> simp only [Oper.upon] at h1 ⊢ <;> try exact hl _ _ _ h1
    · exact absurd rfl h1.1
  · rename_i hw; rw [if_neg hw] at h1; exact hl _ _ _ h1
theorem rec_region {Q : Exit → Act → List Frame → World → Prop} {d1 d2 : Nat} {ts : Array TypeId} {t t2 : TypeId} {p p2 : String} {af af2 : Array Edge} {a : Act} {cs cs' : List Frame} {v : Value}
    (hr : recoverD cs = some (v, cs') ∨ (recoverD cs = none ∧ cs' = cs ∧ v = .nilIface)) (ha : Fr [] n a E) (h1 : Nat.blt d1 n = true) (h2 : Nat.blt d2 n = true)
    (hQ : ∀ a', Fr [] n a' (upd (upd E d1 v) d2 v) → Q .normal a' cs' w) :
    wpOpsS P #[⟨some d1, .call ⟨.builtin .recover, #[], ts⟩, t, p, af, none⟩, ⟨some d2, .assign (.tmp d1), t2, p2, af2, none⟩] Q (List.range 2) a cs w := by
  have e : List.range 2 = [0, 1] := rfl
  rw [e]
  have hrun : (execOp a.eval ⟨some d1, .call ⟨.builtin .recover, #[], ts⟩, t, p, af, none⟩).run P w = .ok .recover w := rfl
  have f1 := ha.put v h1
  have f2 := f1.put v h2
  have hrun2 : (execOp (a.put (some d1) v).eval ⟨some d2, .assign (.tmp d1), t2, p2, af2, none⟩).run P w = .ok (.value v) w := by
    rw [f1.eval]
    simp only [execOp, ev, upd_same]
    rfl
  have key : wpOpsS P #[⟨some d1, .call ⟨.builtin .recover, #[], ts⟩, t, p, af, none⟩, ⟨some d2, .assign (.tmp d1), t2, p2, af2, none⟩] Q [1] (a.put (some d1) v) cs' w := by
    simp only [wpOpsS, List.getElem?_toArray, List.getElem?_cons_succ, List.getElem?_cons_zero, Region.wanted, if_true]
    rw [hrun2]
    exact hQ _ f2
  rw [wpOpsS]
  simp only [List.getElem?_toArray, List.getElem?_cons_zero, Region.wanted, if_true]
  rw [hrun]
  rcases hr with hr | ⟨hr, rfl, rfl⟩
  · simp only [hr]; exact key
  · simp only [hr]; exact key
theorem x_nei {x : Operand} {t u z : TypeId} {tt : TypeId} {v : Value} {ms : Array (String × TypeId)} (hu : P.underlying u = some (.interface ms)) (hx : ev E x = .iface tt v) : X P (.binOp .neq u x (.const .nilIface) z) t E w (.bool true) w := by
  unfold X
  have h (d : Nat) : (Op.equalIn (d + 1) u (.iface tt v) .nilIface).run P w = .ok false w := by
    simp [Op.equalIn, run_underlying hu]
  have h1 : (Op.equal u (.iface tt v) .nilIface).run P w = .ok false w := h 9999
  have hc : ev E (.const .nilIface) = .nilIface := rfl
  simp only [execOp, hx, hc, eqGuard_at_iface, binOp, Sem.run_bind, Sem.run_pure, Result.andThen_ok, h1]
  rfl
theorem x_nei0 {x : Operand} {t u z : TypeId} {ms : Array (String × TypeId)} (hu : P.underlying u = some (.interface ms)) (hx : ev E x = .nilIface) : X P (.binOp .neq u x (.const .nilIface) z) t E w (.bool false) w := by
  unfold X
  have h (d : Nat) : (Op.equalIn (d + 1) u .nilIface .nilIface).run P w = .ok true w := by
    simp [Op.equalIn, run_underlying hu]
  have h1 : (Op.equal u .nilIface .nilIface).run P w = .ok true w := h 9999
  have hc : ev E (.const .nilIface) = .nilIface := rfl
  simp only [execOp, hx, hc, eqGuard_nil_constR, binOp, Sem.run_bind, Sem.run_pure, Result.andThen_ok, h1]
  rfl
theorem x_tas {x : Operand} {t u s : TypeId} {v : Value} {d : TypeDesc} (hu : P.underlying s = some d) (hd : (match d with | .interface _ => false | _ => true) = true) (hx : ev E x = .iface s v) : X P (.typeAssert x u s true) t E w (.tuple #[v, .bool true]) w := by
  unfold X
  cases d <;> simp_all [execOp, Instr.typeAssert, run_underlying hu]
theorem L.defer {ops : Array Oper} {r : List Oper} {x : Operand} {xs : Array Operand} {ts : Array TypeId} {t : TypeId} {p : String} {af : Array Edge} {fn : Fn} {first cap vs : List Value}
    (hx : ev E x = .func fn first.toArray cap.toArray) (hv : first ++ xs.toList.map (ev E) = vs) (k : L P n ops Q r ({ target := .fn fn cap.toArray, args := vs.toArray } :: D) E w) :
    L P n ops Q (⟨none, .defer ⟨.value x, xs, ts⟩, t, p, af, none⟩ :: r) D E w := by
  intro a ha
  refine wpList_plain rfl fun K hK => ?_
  unfold Oper.wp
  have hv' : first.toArray ++ xs.map (ev E) = vs.toArray := by apply Array.ext'; simpa using hv
  have hrun : (execOp a.eval ⟨none, .defer ⟨.value x, xs, ts⟩, t, p, af, none⟩).run P w = .ok (.defer { target := .fn fn cap.toArray, args := vs.toArray }) w := by
    rw [ha.eval]
    simp only [execOp, resolve, hx, Deferred.ofValue, hv', Sem.run_bind]
    rfl
  rw [hrun, Oper.upon_defer]
  exact hK _ _ (k _ ⟨by rw [← ha.defers]; rfl, ha.size, ha.get⟩)
theorem L.panic {ops : Array Oper} {r : List Oper} {x : Operand} {t tt : TypeId} {p : String} {af : Array Edge} {v : Value}
    (hx : ev E x = .iface tt v) (k : Q (.panic [{ v := .iface tt v, recovered := false }]) D E w) :
    L P n ops Q (⟨none, .panic x, t, p, af, none⟩ :: r) D E w := by
  intro a ha
  refine wpList_plain rfl fun K hK => ?_
  unfold Oper.wp
  have hrun : (execOp a.eval ⟨none, .panic x, t, p, af, none⟩).run P w = .halt (.panic (.iface tt v)) w := by
    rw [ha.eval]
    simp only [execOp, hx, Sem.run_bind, run_panic_iface]
    rfl
  rw [hrun, Oper.upon_panic]
  exact lift_mk (by simp) ha k
theorem x_mkfn {fn : Fn} {first cap : Array Operand} {t : TypeId} {vs us : List Value} (h1 : first.toList.map (ev E) = vs) (h2 : cap.toList.map (ev E) = us) : X P (.makeFunc fn first cap) t E w (.func fn vs.toArray us.toArray) w := by
  unfold X
  have h1' : first.map (ev E) = vs.toArray := by apply Array.ext'; simpa using h1
  have h2' : cap.map (ev E) = us.toArray := by apply Array.ext'; simpa using h2
  simp only [execOp, h1', h2']
  rfl
theorem x_iface {x : Operand} {t s : TypeId} {v : Value} {d : TypeDesc} (hu : P.underlying s = some d) (hd : (match d with | .interface _ => false | _ => true) = true) (hx : ev E x = v) : X P (.makeInterface s x) t E w (.iface s v) w := by
  unfold X
  cases d <;> simp_all [execOp, Instr.makeInterface, run_underlying hu]
theorem x_max {x y : Operand} {ts : Array TypeId} {t : TypeId} {k : IntKind} {a b : Int} (hx : ev E x = .int k a) (hy : ev E y = .int k b) : X P (.call ⟨.builtin .max, #[x, y], ts⟩) t E w (.int k (max a b)) w := by
  unfold X
  have : (if b > a then b else a) = max a b := by split <;> omega
  simp [execOp, resolve, invoke, builtin, hx, hy, run_max_int2, this]
theorem L.setRow {ops : Array Oper} {r : List Oper} {x y : Operand} {s t : TypeId} {p : String} {af : Array Edge} {b k : Nat} {T : TypeId} {cs new : List Value} (hs : aggT P s k = true)
    (hx : ev E x = .pointer (some ⟨b, 0, none⟩)) (hy : ev E y = .agg new.toArray) (hb : Box w b T cs) (hl : cs.length = k) (hn : new.length = k) (h1 : ∀ v ∈ new, v.oneCell' = true)
    (kk : ∀ w1, Box w1 b T new → Gr (· = b) w w1 → w1.heap.size = w.heap.size → L P n ops Q r D E w1) : L P n ops Q (⟨none, .store s x y, t, p, af, none⟩ :: r) D E w := by
  unfold aggT at hs
  simp only [Bool.and_eq_true, beq_iff_eq] at hs
  have hrun := Go.run_storeVar_row (P := P) w b T s cs.toArray new.toArray hb (by rw [hs.2]; simp [hn]) (by simp [hl, hn]) (by rw [Array.all_eq_true_iff_forall_mem]; intro v hv; exact h1 v (by simpa using hv))
  refine L.skip (w' := w.setRow b new.toArray) ?_ (kk _ (setRow_heap w b cs.toArray new.toArray T (0, 0) hb) ⟨rfl, rfl, rfl, by simp [World.setRow], fun k _ hk => setRow_other w b k _ hk⟩ (by simp [World.setRow]))
  unfold Xs
  simp only [execOp, hx, hy, Instr.storeAt, Instr.sureAddr, Sem.run_bind, Sem.run_pure, Result.andThen_ok, hrun]
end
theorem StrsAt.one {A : Nat → Prop} {w : World} {v : Value} {l : List Str} (h : StrsAt A w v l) : v.oneCell' = true := by
  obtain ⟨p, cap, rfl, -⟩ := h; rfl
theorem ShC.one {A : Nat → Prop} {w : World} {cs : List Value} {s : Sh} (h : ShC A w cs s) : ∀ v ∈ cs, v.oneCell' = true := by
  obtain ⟨vn, vp, rfl, hn, hp, -⟩ := h.inv
  obtain ⟨p, cap, row, rfl, -⟩ := hp
  intro v hv
  simp only [List.mem_cons, List.not_mem_nil, or_false] at hv
  rcases hv with rfl | rfl | rfl | rfl | rfl
  · rfl
  · rfl
  · rfl
  · exact hn.one
  · rfl
end Go.Gx
