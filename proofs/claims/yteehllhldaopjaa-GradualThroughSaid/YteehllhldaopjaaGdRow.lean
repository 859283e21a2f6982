/- A law's row out of the law function's contract: the arguments read as before. Conditions: none. -/
import Derived.ProofKit
import Derived.Test.YteehllhldaopjaaGdOpen
namespace Go.Gx
open Go.ChangeShapes Go.WideShapes Go.Deep Go.RowKit
section
variable {H : Type} {enc : TypeId × Value → H} {P : Program}
theorem Gr.kept {W W' : World} (h : Bel W W') (may : MemPlace → Prop) : W.keptBut W' may := by
  refine ⟨h.os, h.output, fun i hi => ?_⟩
  rw [h.block i hi (fun f => f)]
  have hx := Array.getElem?_eq_getElem hi
  rw [hx]
  generalize W.heap[i] = o
  cases o <;> simp
theorem trodAll_stays {W W' : World} (hl : laidOutB P = true) (hB : Bel W W') {sp : Nat → Bool} : ∀ {ts : List TypeId} {vs : List Value} {ds : List (DataW H)} {ps : List MemPlace},
    (∀ t ∈ ts, P.readableRec t = true ∧ t < P.types.size) → DataW.TrodAll enc P W 0 (fun _ => true) true ts vs ds ps → (∀ p ∈ ps, sp p.block = true) → DataW.TrodAll enc P W' 0 sp true ts vs ds ps
  | [], [], [], _, _, h, _ => h
  | t :: ts, v :: vs, d :: ds, ps, hr, h, hs => by
    have hlt := h.lt
    obtain ⟨p, q, h1, h2, rfl⟩ := h
    exact ⟨p, q, WideElems.Trod_stays hl (hr t (by simp)).1 (hr t (by simp)).2 h1 (fun x hx => hB.below.same (hlt x (List.mem_append_left _ hx))) (fun x hx => hs x (List.mem_append_left _ hx)),
      trodAll_stays hl hB (fun t ht => hr t (by simp [ht])) h2 (fun x hx => hs x (List.mem_append_right _ hx)), rfl⟩
theorem post_of_bel {f : Func} {s : ChangeSpec} {apart fresh handsOn again : Bool} {W W' : World} {args : Array Value} {ds gs : List (DataW H)} {before : List MemPlace} {tb : TypeId}
    (hl : laidOutB P = true) (hr : ∀ t ∈ f.params.toList, P.readableRec t = true ∧ t < P.types.size) (hv : s.vars = []) (hres : f.resultTypes = #[tb]) (hb : P.underlying tb = some .bool)
    (hW : DataW.Whole enc P f.params.toList s.vars apart W args.toList ds gs before) (hs : s.fn H (ds ++ gs) = { results := [.lit (.bool true)], args := ds }) (hB : Bel W W') :
    s.post enc P f apart fresh handsOn again W args (.bool true) W' := by
  have hlt := hW.lt
  obtain ⟨p, q, hA, hV, rfl, hz, hn⟩ := id hW
  rw [hv] at hV
  obtain ⟨rfl, rfl⟩ := trodVars_none hV
  simp only [List.append_nil] at hlt hs hz hn
  have hA' : ∀ sp : Nat → Bool, (∀ x ∈ p, sp x.block = true) → DataW.TrodAll enc P W' 0 sp true f.params.toList args.toList ds p := fun sp h => trodAll_stays hl hB hr hA h
  have hR : ∀ (b : Nat) (sp : Nat → Bool) (hd : Bool), DataW.TrodAll enc P W' b sp hd f.resultTypes.toList ((Value.bool true).resultList f.resultTypes.size) [DataW.lit (.bool true)] [] := fun b sp hd => by
    rw [hres]
    exact trodAll_mk1 ⟨1, by simp [DataW.trod, hb, Value.cells]⟩
  refine ⟨ds, [], p ++ [], [], p, [], hW, ?_, ?_, ?_, hB.kept _, fun _ => ⟨?_, [DataW.lit (.bool true)] ++ ds, [], ([] ++ p) ++ [], ⟨[] ++ p, [], trodAll_append (hA' _ fun _ _ => rfl) (hR _ _ _), ?_, rfl, ?_, ?_⟩, ?_⟩⟩
  · rw [List.append_nil, hs]; exact hR _ _ _
  · rw [List.append_nil, hs]; exact hA' _ (fun x hx => by simpa using hlt x hx)
  · rw [List.append_nil, hs, hv]; exact rfl
  · intro j t r h1 h2
    rw [hres] at h1 h2
    match j, h1, h2 with
    | 0, h1, h2 =>
      simp [Value.resultList] at h1 h2
      subst h1; subst h2
      simp [Value.okWide, hb, Cell.okWide, Cell.ok]
  · rw [hv]; exact rfl
  · intro b off hp
    simp only [List.nil_append, List.append_nil] at hp
    have := hz b off hp
    have hb' := hlt _ hp
    unfold World.frozen? at this ⊢
    rw [hB.block b hb' (fun f => f)]; exact this
  · intro ha; simpa using hn ha
  · intro x hx _; simpa using hx
theorem sh_arg {tS eN : TypeId} {f0 f1 f2 f3 f4 : Field} (T : ShT P tS eN f0 f1 f2 f3 f4) {W : World} {base : Nat} {v : Value} {d : DataW H} {p : List MemPlace}
    (hv : Value.okWide P W .any base tS v) (h : DataW.Trod enc P W 0 (fun _ => true) true tS v d p) (hw : (d.weights P tS).all (· ≤ reachBytes) = true) : ∃ cs s, v = .agg cs.toArray ∧ ShC (fun _ => False) W cs s := by
  unfold Value.okWide at hv
  rw [T.hS] at hv
  obtain ⟨a, rfl, -⟩ := hv
  obtain ⟨fuel, h⟩ := h
  obtain ⟨s, hs⟩ := sh_open T _ _ _ h hw
  exact ⟨a.toList, s, rfl, hs⟩
theorem sh_args {tS eN : TypeId} {f0 f1 f2 f3 f4 : Field} (T : ShT P tS eN f0 f1 f2 f3 f4) {W : World} {base : Nat} : ∀ {n : Nat} {vs : List Value} {ds : List (DataW H)} {ps : List MemPlace},
    (∀ (j : Nat) v, vs[j]? = some v → Value.okWide P W .any base tS v) → DataW.TrodAll enc P W 0 (fun _ => true) true (List.replicate n tS) vs ds ps →
    (DataW.weightsEach P (List.replicate n tS) ds).all (· ≤ reachBytes) = true →
    ∃ l : List (List Value × Sh), l.length = n ∧ ds.length = n ∧ vs = l.map (fun x => .agg x.1.toArray) ∧ ∀ x ∈ l, ShC (fun _ => False) W x.1 x.2
  | 0, vs, ds, ps, _, h, _ => by
    obtain ⟨rfl, rfl, rfl⟩ := trodAll_nil h
    exact ⟨[], rfl, rfl, rfl, by simp⟩
  | n + 1, vs, ds, ps, hv, h, hw => by
    obtain ⟨v, vs, d, ds, a, b, rfl, rfl, rfl, h1, h2⟩ := trodAll_cons h
    rw [List.replicate_succ, DataW.weightsEach, List.all_append, Bool.and_eq_true] at hw
    obtain ⟨cs, s, rfl, hs⟩ := sh_arg T (hv 0 _ rfl) h1 hw.1
    obtain ⟨l, e1, e2, rfl, e3⟩ := sh_args T (n := n) (fun j v hj => hv (j + 1) v hj) h2 hw.2
    exact ⟨(cs, s) :: l, by simp [e1], by simp [e2], rfl, fun x hx => by
      rcases List.mem_cons.1 hx with rfl | hx
      · exact hs
      · exact e3 x hx⟩
theorem lifted_shapes {C : Checked} {os : Os} {f : FuncId} {fn : Func} {s : ChangeSpec} {conds : List PathCond} {apart fresh handsOn again : Bool} {n : Nat} {tS eN tb : TypeId} {f0 f1 f2 f3 f4 : Field}
    (T : ShT C.prog tS eN f0 f1 f2 f3 f4) (hps : fn.params.toList = List.replicate n tS) (hv : s.vars = []) (hres : fn.resultTypes = #[tb]) (hb : C.prog.underlying tb = some .bool)
    (hl : laidOutB C.prog = true) (hrd : C.prog.readableRec tS = true) (hlt : tS < C.prog.types.size)
    (hs : ∀ ds : List (DataW H), ds.length = n → s.fn H ds = { results := [.lit (.bool true)], args := ds })
    (own : ownKnob C.prog.godebug = none) (started : os.Started) (noInit : C.prog.inits.idxOf? f = none) (hfn : C.prog.funcs[f]? = some fn)
    (witness : ∃ (w : World) (tape : Tape) (i : Input), w.os = os ∧ (w.forCall tape i).Shaped C.prog ∧ i.vars = [] ∧ Input.okWide C.prog (w.forCall tape i) .any w.heap.size f i ∧
      s.pre6 enc C.prog fn conds apart (w.forCall tape i).memory i.args ∧ ({} : Assume).holds C.prog (lone (Frame.enter C.prog f i.args .normal) [] (w.forCall tape i)))
    (contract : ∀ (w : World) (l : List (List Value × Sh)), l.length = n → (∀ x ∈ l, ShC (fun _ => False) w x.1 x.2) → Ret C.prog f (l.map fun x => Value.agg x.1.toArray).toArray w fun v w' => v = .bool true ∧ Bel w w') :
    ReturnsInHanded {} C os f .any (s.pre6 enc C.prog fn conds apart) (s.post enc C.prog fn apart fresh handsOn again) := by
  refine returnsInHanded_of_change_sized own started noInit hfn witness ?_
  intro W base args ds gs before hval hW _ hwt _
  obtain ⟨p, q, hA, hV, rfl, hz, hn⟩ := id hW
  have hV' := hV
  rw [hv] at hV'
  obtain ⟨rfl, rfl⟩ := trodVars_none hV'
  rw [hps] at hA
  have hvt : s.plain.varTypes C.prog = [] := by
    have : s.plain.vars = [] := hv
    simp [DataSpec.varTypes, this]
  rw [hvt, List.append_nil, List.append_nil, hps] at hwt
  have hpj : ∀ j : Nat, j < n → fn.params[j]? = some tS := fun j hj => by
    have : fn.params.toList[j]? = some tS := by rw [hps]; simp [hj]
    simpa using this
  have hlen : ∀ {n : Nat} {vs : List Value} {ds : List (DataW H)} {ps : List MemPlace}, DataW.TrodAll enc C.prog W 0 (fun _ => true) true (List.replicate n tS) vs ds ps → vs.length = n := by
    intro n
    induction n with
    | zero => intro vs ds ps h; obtain ⟨rfl, -, -⟩ := trodAll_nil h; rfl
    | succ n ih => intro vs ds ps h; obtain ⟨v, vs, d, ds, a, b, rfl, rfl, rfl, h1, h2⟩ := trodAll_cons h; simp [ih h2]
  obtain ⟨l, e1, e2, e3, e4⟩ := sh_args T (base := base) (fun j v hj => hval j tS v (hpj j (by have := (List.getElem?_eq_some_iff.1 hj).1; rw [hlen hA] at this; exact this)) (by simpa using hj)) hA hwt
  have ea : args = (l.map fun x => Value.agg x.1.toArray).toArray := by rw [← e3]
  have hr := contract W l e1 e4
  rw [← ea] at hr
  refine Calls.mono hr fun e w' ⟨v, he, hv', hB⟩ => ⟨v, he, ?_⟩
  subst hv'
  exact post_of_bel hl (fun t ht => by rw [hps, List.mem_replicate] at ht; rw [ht.2]; exact ⟨hrd, hlt⟩) hv hres hb hW (by rw [List.append_nil]; exact hs ds e2) hB
end
end Go.Gx
