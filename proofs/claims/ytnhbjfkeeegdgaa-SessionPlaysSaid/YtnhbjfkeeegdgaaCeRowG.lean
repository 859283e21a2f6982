/- A law's row where the arguments are of several types; slices of things opened as they are read. Conditions: none. -/
import Derived.Sort.Defs
import Derived.Laws.OwnMore
import Derived.Sort.Walk0
import Derived.Sort.AssemblyPlain
import Derived.Sort.LotD3
import Derived.Test.YtnhbjfkeeegdgaaProg
import Derived.Shelf.Sort.Plain
import Derived.Shelf.Slices.In.SortNone
import Derived.Test.YtnhbjfkeeegdgaaCeRep
import Derived.Test.YtnhbjfkeeegdgaaCeDef
namespace Go.Gx
open Go.ChangeShapes Go.WideShapes Go.Deep Go.RowKit
section
variable {H : Type} {enc : TypeId × Value → H} {P : Program}
def OAll (O : TypeId → World → Value → Prop) (W : World) : List TypeId → List Value → Prop
  | [], [] => True
  | t :: ts, v :: vs => O t W v ∧ OAll O W ts vs
  | _, _ => False
theorem o_args {O : TypeId → World → Value → Prop} {W : World} {base : Nat} : ∀ {ts : List TypeId} {vs : List Value} {ds : List (DataW H)} {ps : List MemPlace},
    (∀ t ∈ ts, ∀ (v : Value) (d : DataW H) (p : List MemPlace), Value.okWide P W .any base t v → DataW.Trod enc P W 0 (fun _ => true) true t v d p → (d.weights P t).all (· ≤ reachBytes) = true → O t W v) →
    (∀ (j : Nat) v t, vs[j]? = some v → ts[j]? = some t → Value.okWide P W .any base t v) → DataW.TrodAll enc P W 0 (fun _ => true) true ts vs ds ps →
    (DataW.weightsEach P ts ds).all (· ≤ reachBytes) = true → OAll O W ts vs ∧ ds.length = ts.length
  | [], vs, ds, ps, _, _, h, _ => by
    obtain ⟨rfl, rfl, rfl⟩ := trodAll_nil h
    exact ⟨trivial, rfl⟩
  | t :: ts, vs, ds, ps, hO, hv, h, hw => by
    obtain ⟨v, vs, d, ds, a, b, rfl, rfl, rfl, h1, h2⟩ := trodAll_cons h
    rw [DataW.weightsEach, List.all_append, Bool.and_eq_true] at hw
    obtain ⟨e1, e2⟩ := o_args (fun t ht => hO t (by simp [ht])) (fun j v t hj ht => hv (j + 1) v t hj ht) h2 hw.2
    exact ⟨⟨hO t (by simp) v d a (hv 0 v t rfl rfl) h1 hw.1, e1⟩, by simp [e2]⟩
theorem lifted_of {C : Checked} {os : Os} {f : FuncId} {fn : Func} {s : ChangeSpec} {conds : List PathCond} {apart fresh handsOn again : Bool} {ts : List TypeId} {tb : TypeId} (O : TypeId → World → Value → Prop)
    (hps : fn.params.toList = ts) (hv : s.vars = []) (hres : fn.resultTypes = #[tb]) (hb : C.prog.underlying tb = some .bool)
    (hl : laidOutB C.prog = true) (hrd : ∀ t ∈ ts, C.prog.readableRec t = true ∧ t < C.prog.types.size)
    (hs : ∀ ds : List (DataW H), ds.length = ts.length → s.fn H ds = { results := [.lit (.bool true)], args := ds })
    (own : ownKnob C.prog.godebug = none) (started : os.Started) (noInit : C.prog.inits.idxOf? f = none) (hfn : C.prog.funcs[f]? = some fn)
    (witness : ∃ (w : World) (tape : Tape) (i : Input), w.os = os ∧ (w.forCall tape i).Shaped C.prog ∧ i.vars = [] ∧ Input.okWide C.prog (w.forCall tape i) .any w.heap.size f i ∧
      s.pre6 enc C.prog fn conds apart (w.forCall tape i).memory i.args ∧ ({} : Assume).holds C.prog (lone (Frame.enter C.prog f i.args .normal) [] (w.forCall tape i)))
    (hO : ∀ t ∈ ts, ∀ (W : World) (base : Nat) (v : Value) (d : DataW H) (p : List MemPlace), Value.okWide C.prog W .any base t v → DataW.Trod enc C.prog W 0 (fun _ => true) true t v d p → (d.weights C.prog t).all (· ≤ reachBytes) = true → O t W v)
    (contract : ∀ (w : World) (vs : List Value), OAll O w ts vs → Ret C.prog f vs.toArray w fun v w' => v = .bool true ∧ Bel w w') :
    ReturnsInHanded {} C os f .any (s.pre6 enc C.prog fn conds apart) (s.post enc C.prog fn apart fresh handsOn again) := by
  refine returnsInHanded_of_change_sized own started noInit hfn witness ?_
  intro W base args ds gs before hval hW _ hwt _
  obtain ⟨p, q, hA, hV, rfl, hz, hn⟩ := id hW
  have hV' := hV
  rw [hv] at hV'
  obtain ⟨rfl, rfl⟩ := trodVars_none hV'
  rw [hps] at hA
  have hvt : s.plain.varTypes C.prog = [] := by
    have : s.plain.vars = [] := hv
    simp [DataSpec.varTypes, this]
  rw [hvt, List.append_nil, List.append_nil, hps] at hwt
  obtain ⟨e1, e2⟩ := o_args (O := O) (base := base) (fun t ht v d p => hO t ht W base v d p) (fun j v t hj ht => hval j t v (by rw [← hps] at ht; simpa using ht) (by simpa using hj)) hA hwt
  have hr := contract W args.toList e1
  rw [Array.toArray_toList] at hr
  refine Calls.mono hr fun e w' ⟨v, he, hv', hB⟩ => ⟨v, he, ?_⟩
  subst hv'
  exact post_of_bel hl (fun t ht => by rw [hps] at ht; exact hrd t ht) hv hres hb hW (by rw [List.append_nil]; exact hs ds e2) hB
variable {w : World} {base : Nat} {spare : Nat → Bool} {held : Bool}
theorem recs_open {α : Type} [Inhabited α] {Cc : Thing α} {k : Nat} {tS tE : TypeId} (ht : P.underlying tS = some (.slice tE)) (hc : P.cellsOf tE = k) (hk : 0 < k) (hb : 2 ≤ P.bytesOf tE)
    (hopen : ∀ (fuel : Nat) (cs : List Value) (x : DataW H × List MemPlace), DataW.trod enc P w base spare held fuel tE cs = some x → (x.1.weights P tE).all (· ≤ reachBytes) = true → ∃ s, Cc (fun _ => False) w cs s)
    {fuel : Nat} {v : Value} {x : DataW H × List MemPlace} (h : DataW.trod enc P w base spare held fuel tS [v] = some x) (hw : (x.1.weights P tS).all (· ≤ reachBytes) = true) : ∃ l : List α, RecsAt Cc k (fun _ => False) w v l := by
  rcases DataW.trod_slice ht (x := x) h with ⟨h1, rfl⟩ | ⟨a, len, cap, elems, rest, n', hn', h1, rfl, -, hl, hm, hel, hx, -, -⟩
  · simp at h1
    exact ⟨[], h1 ▸ RecsAt.nil (by simp)⟩
  · simp at h1
    subst h1
    obtain ⟨hby, hwd⟩ := weights_slice ht hw
    have hlen : len ≤ 70368744177664 := by
      have h1 : len * P.bytesOf tE ≤ reachBytes := Nat.le_trans (Nat.mul_le_mul_right _ (by simp [hel])) hby
      have h2 : len * 2 ≤ len * P.bytesOf tE := Nat.mul_le_mul_left _ hb
      have h3 := reachBytes_lt
      omega
    have each : ∀ i, i < len → ∃ p : List Value × α, p.1.length = k ∧ (∀ j, j < k → w.cell? ((a.add (i * k)).add j) = p.1[j]?) ∧ Cc (fun _ => False) w p.1 p.2 := fun i hi => by
      have h0 := hx i hi
      rw [List.getElem?_eq_getElem (by omega)] at h0
      obtain ⟨cs', h1, h2⟩ := Option.bind_eq_some_iff.1 h0
      rw [hc] at h1
      obtain ⟨-, h3, h4⟩ := World.cells?_some h1
      obtain ⟨s, hs⟩ := hopen n' cs' _ h2 (hwd _ (List.mem_map_of_mem (List.getElem_mem _)))
      exact ⟨(cs', s), h3, h4, hs⟩
    obtain ⟨F, hF⟩ := choose_lt (α := List Value × α) each
    have e0 : ((List.range len).map fun i => (F i).2).length = len := by simp
    refine ⟨(List.range len).map fun i => (F i).2, some a, cap, fun i => (F i).1, by rw [e0], by rw [e0]; exact hl, hm, by rw [e0]; exact hlen, ?_⟩
    refine ⟨fun hne => ?_, fun i hi => (hF i (by rw [e0] at hi; exact hi)).1, fun i hi => ?_⟩
    · have h0 : 0 < len := by rcases Nat.eq_zero_or_pos len with h | h; exact absurd (by rw [h]; rfl) hne; exact h
      obtain ⟨q1, q2, -⟩ := hF 0 h0
      have hc0 := q2 0 hk
      rw [List.getElem?_eq_getElem (by omega)] at hc0
      obtain ⟨b, o, spot⟩ := a
      have hspot : spot = none := by simpa [Addr.add] using World.cell?_spot hc0
      subst hspot
      refine ⟨b, o, rfl, fun f => f, fun i j hi hj => ?_⟩
      rw [e0] at hi
      have := (hF i hi).2.1 j hj
      rw [add_plain, add_plain] at this
      exact this
    · rw [e0] at hi
      have := (hF i hi).2.2
      simpa [hi] using this
theorem recs_arg {α : Type} [Inhabited α] {Cc : Thing α} {k : Nat} {tS tE : TypeId} (ht : P.underlying tS = some (.slice tE)) (hc : P.cellsOf tE = k) (hk : 0 < k) (hb : 2 ≤ P.bytesOf tE)
    (hopen : ∀ (fuel : Nat) (cs : List Value) (x : DataW H × List MemPlace), DataW.trod enc P w 0 (fun _ => true) true fuel tE cs = some x → (x.1.weights P tE).all (· ≤ reachBytes) = true → ∃ s, Cc (fun _ => False) w cs s)
    {b : Nat} {v : Value} {d : DataW H} {p : List MemPlace} (hv : Value.okWide P w .any b tS v) (h : DataW.Trod enc P w 0 (fun _ => true) true tS v d p) (hw : (d.weights P tS).all (· ≤ reachBytes) = true) : ∃ l : List α, RecsAt Cc k (fun _ => False) w v l := by
  obtain ⟨fuel, h⟩ := h
  have hcells : v.cells.toList = [v] := by
    unfold Value.okWide at hv
    rw [ht] at hv
    cases v <;> simp_all [Value.cells, Cell.okWide, Cell.ok]
  rw [hcells] at h
  exact recs_open ht hc hk hb hopen h hw
end
end Go.Gx
namespace Go.Gx
open Go.Sort
theorem lt_irr (x : Str) : ltStr x x = false := by
  unfold ltStr; exact decide_eq_false (List.lt_irrefl x)
theorem lt_tr {x y z : Str} (h1 : ltStr x y = true) (h2 : ltStr y z = true) : ltStr x z = true := by
  unfold ltStr at *
  exact decide_eq_true (List.lt_trans (of_decide_eq_true h1) (of_decide_eq_true h2))
theorem lt_as {x y : Str} (h1 : ltStr x y = true) : ltStr y x = false := by
  unfold ltStr at *
  exact decide_eq_false (List.lt_asymm (of_decide_eq_true h1))
theorem lt_tot {x y : Str} (h1 : ltStr x y = false) (h2 : x ≠ y) : ltStr y x = true := by
  unfold ltStr at *
  have h := of_decide_eq_false h1
  rcases Decidable.em (y < x) with h3 | h3
  · exact decide_eq_true h3
  · exact absurd (List.le_antisymm (List.not_lt.1 h3) (List.not_lt.1 h)) h2
structure Ed where
  key : Str
  val : Str
  gone : Bool
deriving DecidableEq
instance : Inhabited Ed := ⟨⟨[], [], false⟩⟩
def lastE : List Ed → Str → Option Ed
  | [], _ => none
  | e :: l, k => (lastE l k).or (if e.key = k then some e else none)
theorem lastE_append {l m : List Ed} {k : Str} : lastE (l ++ m) k = (lastE m k).or (lastE l k) := by
  induction l with
  | nil => simp [lastE]
  | cons e l ih => rw [List.cons_append, lastE, lastE, ih, Option.or_assoc]
theorem lastE_one {e : Ed} {k : Str} : lastE [e] k = if e.key = k then some e else none := by simp [lastE]
theorem lastE_key {l : List Ed} {k : Str} {e : Ed} (h : lastE l k = some e) : e.key = k ∧ e ∈ l := by
  induction l with
  | nil => cases h
  | cons x l ih =>
    rw [lastE] at h
    cases h1 : lastE l k with
    | none =>
      rw [h1, Option.none_or] at h
      split at h
      · cases h; exact ⟨by assumption, by simp⟩
      · cases h
    | some y =>
      rw [h1, Option.some_or] at h
      cases h
      exact ⟨(ih h1).1, List.mem_cons_of_mem _ (ih h1).2⟩
theorem lastE_none {l : List Ed} {k : Str} : lastE l k = none ↔ ∀ e ∈ l, e.key ≠ k := by
  induction l with
  | nil => simp [lastE]
  | cons x l ih =>
    rw [lastE, Option.or_eq_none_iff, ih]
    by_cases h : x.key = k
    · simp [h]
    · simp [h]
def live (e : Option Ed) : Option Str := e.bind fun e => if e.gone then none else some e.val
def valE (l : List Ed) (k : Str) : Option Str := live (lastE l k)
def come1 : List Ed → Ed → List Ed
  | [], e => if e.gone then [] else [e]
  | x :: l, e => if ltStr x.key e.key then x :: come1 l e else (if e.gone then [] else [e]) ++ (if x.key = e.key then l else x :: l)
def comes (h l : List Ed) : List Ed := l.foldl come1 h
theorem comes_append {h l m : List Ed} : comes h (l ++ m) = comes (comes h l) m := List.foldl_append
def Rises (l : List Ed) : Prop := l.Pairwise (fun a b => ltStr a.key b.key = true) ∧ ∀ e ∈ l, e.gone = false
theorem come1_mem {h : List Ed} {e x : Ed} (hx : x ∈ come1 h e) : x = e ∨ x ∈ h := by
  induction h with
  | nil =>
    rw [come1] at hx
    split at hx
    · cases hx
    · exact .inl (by simpa using hx)
  | cons y l ih =>
    rw [come1] at hx
    split at hx
    · rcases List.mem_cons.1 hx with rfl | hx
      · exact .inr (by simp)
      · exact (ih hx).imp id (fun h => List.mem_cons_of_mem _ h)
    · rcases List.mem_append.1 hx with hx | hx
      · split at hx
        · cases hx
        · exact .inl (by simpa using hx)
      · split at hx
        · exact .inr (List.mem_cons_of_mem _ hx)
        · exact .inr hx
theorem come1_rises {h : List Ed} {e : Ed} (hr : Rises h) : Rises (come1 h e) := by
  induction h with
  | nil =>
    rw [come1]
    split
    · exact ⟨List.Pairwise.nil, by simp⟩
    · next hg => exact ⟨by simp, by simpa using hg⟩
  | cons y l ih =>
    obtain ⟨h1, h2⟩ := hr
    rw [List.pairwise_cons] at h1
    have hl : Rises l := ⟨h1.2, fun x hx => h2 x (List.mem_cons_of_mem _ hx)⟩
    rw [come1]
    split
    · next hlt =>
      refine ⟨List.pairwise_cons.2 ⟨fun x hx => ?_, (ih hl).1⟩, fun x hx => ?_⟩
      · rcases come1_mem hx with rfl | hx
        · exact hlt
        · exact h1.1 x hx
      · rcases List.mem_cons.1 hx with rfl | hx
        · exact h2 _ (by simp)
        · exact (ih hl).2 x hx
    · next hge =>
      have hge : ltStr y.key e.key = false := by simpa using hge
      have hrest : Rises (if y.key = e.key then l else y :: l) := by
        split
        · exact hl
        · exact ⟨List.pairwise_cons.2 h1, h2⟩
      split
      · simpa using hrest
      · next hg =>
        refine ⟨List.pairwise_cons.2 ⟨fun x hx => ?_, hrest.1⟩, fun x hx => ?_⟩
        · split at hx
          · next hk => rw [← hk]; exact h1.1 x hx
          · next hk =>
            have h3 := lt_tot hge hk
            rcases List.mem_cons.1 hx with rfl | hx
            · exact h3
            · exact lt_tr h3 (h1.1 x hx)
        · rcases List.mem_cons.1 hx with rfl | hx
          · simpa using hg
          · exact hrest.2 x hx
theorem comes_rises {h l : List Ed} (hr : Rises h) : Rises (comes h l) := by
  induction l generalizing h with
  | nil => exact hr
  | cons e l ih => exact ih (come1_rises hr)
theorem rises_nil : Rises [] := ⟨List.Pairwise.nil, by simp⟩
theorem come1_val {h : List Ed} {e : Ed} {k : Str} (hr : Rises h) : valE (come1 h e) k = if e.key = k then live (some e) else valE h k := by
  induction h with
  | nil =>
    rw [come1]
    unfold valE live
    by_cases hk : e.key = k <;> cases hg : e.gone <;> simp [lastE, hk, hg]
  | cons y l ih =>
    obtain ⟨h1, h2⟩ := hr
    rw [List.pairwise_cons] at h1
    have hl : Rises l := ⟨h1.2, fun x hx => h2 x (List.mem_cons_of_mem _ hx)⟩
    have hstep : ∀ (m : List Ed), valE (y :: m) k = ((lastE m k).or (if y.key = k then some y else none) |> live) := fun m => rfl
    rw [come1]
    split
    · next hlt =>
      have hne : y.key ≠ e.key := fun h => by rw [h, lt_irr] at hlt; cases hlt
      by_cases hyk : y.key = k
      · have hek : e.key ≠ k := fun h => hne (by rw [hyk, h])
        have n1 : lastE l k = none := lastE_none.2 fun x hx h => by have := h1.1 x hx; rw [h, hyk, lt_irr] at this; cases this
        have n2 : lastE (come1 l e) k = none := lastE_none.2 fun x hx h => by
          rcases come1_mem hx with rfl | hx
          · exact hek h
          · have := h1.1 x hx; rw [h, hyk, lt_irr] at this; cases this
        rw [hstep, hstep, n1, n2, if_neg hek]
      · rw [hstep, hstep, if_neg hyk, Option.or_none, Option.or_none]
        exact ih hl
    · next hge =>
      have hge : ltStr y.key e.key = false := by simpa using hge
      by_cases hek : e.key = k
      · rw [if_pos hek]
        have hrest : lastE (if y.key = e.key then l else y :: l) k = none := by
          refine lastE_none.2 fun x hx h => ?_
          split at hx
          · next hy => have := h1.1 x hx; rw [h, hy, hek, lt_irr] at this; cases this
          · next hy =>
            have h3 := lt_tot hge hy
            rcases List.mem_cons.1 hx with rfl | hx
            · exact hy (h.trans hek.symm)
            · have := lt_tr h3 (h1.1 x hx); rw [h, hek, lt_irr] at this; cases this
        unfold valE
        rw [lastE_append, hrest, Option.none_or]
        cases hg : e.gone <;> simp [lastE, hek, live, hg]
      · rw [if_neg hek]
        have hh : lastE (if e.gone = true then [] else [e]) k = none := by split <;> simp [lastE, hek]
        unfold valE
        rw [lastE_append, hh, Option.or_none]
        split
        · next hy => rw [lastE, if_neg (fun h => hek (hy ▸ h)), Option.or_none]
        · rfl
theorem valE_snoc {l : List Ed} {e : Ed} {k : Str} : valE (l ++ [e]) k = if e.key = k then live (some e) else valE l k := by
  unfold valE
  rw [lastE_append, lastE_one]
  split <;> simp
theorem comes_val {h l : List Ed} {k : Str} (hr : Rises h) : valE (comes h l) k = valE (h ++ l) k := by
  induction l generalizing h with
  | nil => rw [List.append_nil]; rfl
  | cons e l ih =>
    show valE (comes (come1 h e) l) k = _
    rw [ih (come1_rises hr)]
    have e1 : h ++ e :: l = (h ++ [e]) ++ l := by simp
    rw [e1]
    have h1 : ∀ m : List Ed, valE (m ++ l) k = if lastE l k = none then valE m k else valE l k := fun m => by
      unfold valE
      rw [lastE_append]
      cases lastE l k <;> simp
    rw [h1, h1, come1_val hr, valE_snoc]
theorem rises_find {l : List Ed} (hr : Rises l) {e : Ed} : e ∈ l ↔ e.gone = false ∧ valE l e.key = some e.val := by
  induction l with
  | nil => simp [valE, lastE, live]
  | cons x l ih =>
    obtain ⟨h1, h2⟩ := hr
    rw [List.pairwise_cons] at h1
    have hl : Rises l := ⟨h1.2, fun y hy => h2 y (List.mem_cons_of_mem _ hy)⟩
    have hx0 := h2 x (by simp)
    by_cases hk : x.key = e.key
    · have hn : lastE l e.key = none := lastE_none.2 fun y hy h => by have := h1.1 y hy; rw [hk, h, lt_irr] at this; cases this
      have hv : valE (x :: l) e.key = some x.val := by unfold valE; rw [lastE, hn, Option.none_or, if_pos hk]; simp [live, hx0]
      rw [hv, List.mem_cons]
      constructor
      · rintro (rfl | he)
        · exact ⟨hx0, rfl⟩
        · exact absurd rfl (lastE_none.1 hn e he)
      · rintro ⟨hg, hv⟩
        refine .inl ?_
        cases x; cases e
        simp_all
    · have hv : valE (x :: l) e.key = valE l e.key := by unfold valE; rw [lastE, if_neg hk, Option.or_none]
      rw [hv, List.mem_cons, ← ih hl]
      exact ⟨fun h => h.resolve_left (fun h => hk (by rw [h])), .inr⟩
def vers (n : Nat) : List (List Ed) → Str → List (Nat × Ed)
  | [], _ => []
  | l :: g, k => ((lastE l k).map fun e => (n, e)).toList ++ vers (n + 1) g k
theorem vers_append {n : Nat} {g h : List (List Ed)} {k : Str} : vers n (g ++ h) k = vers n g k ++ vers (n + g.length) h k := by
  induction g generalizing n with
  | nil => simp [vers]
  | cons l g ih => rw [List.cons_append, vers, vers, ih, List.append_assoc, List.length_cons, show n + 1 + g.length = n + (g.length + 1) by omega]
theorem vers_from {n : Nat} {g : List (List Ed)} {k : Str} : ∀ x ∈ vers n g k, n ≤ x.1 ∧ x.1 < n + g.length ∧ x.2.key = k := by
  induction g generalizing n with
  | nil => intro x hx; cases hx
  | cons l g ih =>
    intro x hx
    rcases List.mem_append.1 hx with hx | hx
    · cases h : lastE l k with
      | none => rw [h] at hx; cases hx
      | some e =>
        rw [h] at hx
        simp only [Option.map_some, Option.toList_some, List.mem_singleton] at hx
        subst hx
        exact ⟨Nat.le_refl _, by simp, (lastE_key h).1⟩
    · have := ih x hx
      simp only [List.length_cons]
      exact ⟨by omega, by omega, this.2.2⟩
theorem vers_seen {n at_ : Nat} {g : List (List Ed)} {k : Str} : ((vers n g k).reverse.find? fun x => decide (x.1 ≤ at_)).map (·.2) = lastE (g.take (at_ + 1 - n)).flatten k := by
  induction g generalizing n with
  | nil => simp [vers, lastE]
  | cons l g ih =>
    rw [vers, List.reverse_append, List.find?_append]
    by_cases hn : n ≤ at_
    · rw [show at_ + 1 - n = (at_ + 1 - (n + 1)) + 1 by omega, List.take_succ_cons, List.flatten_cons, lastE_append, ← ih]
      cases h : (vers (n + 1) g k).reverse.find? fun x => decide (x.1 ≤ at_) with
      | some x => simp
      | none =>
        cases h2 : lastE l k with
        | none => simp
        | some e => simp [hn]
    · rw [show at_ + 1 - n = 0 by omega, List.take_zero]
      have h0 : (vers (n + 1) g k).reverse.find? (fun x => decide (x.1 ≤ at_)) = none := by
        rw [List.find?_eq_none]
        intro x hx
        have := vers_from x (List.mem_reverse.1 hx)
        simp; omega
      rw [h0]
      cases h2 : lastE l k with
      | none => simp [lastE]
      | some e => simp [lastE, hn]
theorem vers_more {g : List (List Ed)} {l : List Ed} {e : Ed} {k : Str} : vers 0 (g ++ [l ++ [e]]) k = if e.key = k then vers 0 g k ++ [(g.length, e)] else vers 0 (g ++ [l]) k := by
  rw [vers_append, vers_append, vers, vers, lastE_append, lastE_one, Nat.zero_add]
  by_cases h : e.key = k
  · simp [h]
  · simp [h, vers]
theorem vers_len {n : Nat} {g : List (List Ed)} {k : Str} : (vers n g k).length ≤ g.length := by
  induction g generalizing n with
  | nil => simp [vers]
  | cons l g ih =>
    have := ih (n := n + 1)
    rw [vers, List.length_append, List.length_cons]
    have : ((lastE l k).map fun e => (n, e)).toList.length ≤ 1 := by cases lastE l k <;> simp
    omega
theorem vers_mem {n : Nat} {g : List (List Ed)} {k : Str} {x : Nat × Ed} (h : x ∈ vers n g k) : x.2 ∈ g.flatten := by
  induction g generalizing n with
  | nil => cases h
  | cons l g ih =>
    rw [List.flatten_cons, List.mem_append]
    rcases List.mem_append.1 h with h | h
    · cases h1 : lastE l k with
      | none => rw [h1] at h; cases h
      | some e =>
        rw [h1] at h
        simp only [Option.map_some, Option.toList_some, List.mem_singleton] at h
        subst h
        exact .inl (lastE_key h1).2
    · exact .inr (ih h)
structure Sx where
  opn : Bool
  at_ : Nat
  eds : List Ed
  gets : List Str
  heads : List Str
instance : Inhabited Sx := ⟨⟨false, 0, [], [], []⟩⟩
structure Bs where
  first : List Ed
  log : List (List Ed)
  all : List Sx
def Bs.hist (b : Bs) (n : Nat) : List Ed := (b.first :: b.log.take n).flatten
def Bs.isOpen (b : Bs) (id : Int) : Prop := 1 ≤ id ∧ id ≤ b.all.length ∧ (b.all.getD (id.toNat - 1) default).opn = true
instance {b : Bs} {id : Int} : Decidable (b.isOpen id) := by unfold Bs.isOpen; infer_instance
def Bs.ses (b : Bs) (id : Int) : Sx := b.all.getD (id.toNat - 1) default
def Bs.upd (b : Bs) (id : Int) (s : Sx) : Bs := { b with all := b.all.set (id.toNat - 1) s }
def Bs.seesE (b : Bs) (s : Sx) : List Ed := b.hist s.at_ ++ s.eds
def Bs.begin_ (b : Bs) : Bs := { b with all := b.all ++ [⟨true, b.log.length, [], [], []⟩] }
def Bs.getA (b : Bs) (id : Int) (k : Str) : Str × Bool :=
  match valE (b.seesE (b.ses id)) k with
  | some v => (v, true)
  | none => ([], false)
def Bs.getS (b : Bs) (id : Int) (k : Str) : Bs :=
  if lastE (b.ses id).eds k = none then b.upd id { b.ses id with gets := (b.ses id).gets ++ [k] } else b
def Bs.keysA (b : Bs) (id : Int) (h : Str) : List Str := ((comes [] (b.seesE (b.ses id))).map (·.key)).filter fun k => h.isPrefixOf k
def Bs.keysS (b : Bs) (id : Int) (h : Str) : Bs := b.upd id { b.ses id with heads := (b.ses id).heads ++ [h] }
def okEd (e : Ed) : Bool := decide (e.key ≠ []) && (!e.gone || decide (e.val = []))
def Bs.putS (b : Bs) (id : Int) (e : Ed) : Bs := b.upd id { b.ses id with eds := (b.ses id).eds ++ [e] }
def Bs.changed (b : Bs) (s : Sx) : Bool := (b.log.drop s.at_).flatten.any fun e => s.gets.contains e.key || s.heads.any fun h => h.isPrefixOf e.key
def Bs.shut (b : Bs) (id : Int) : Bs := b.upd id { b.ses id with opn := false }
def Bs.commitA (b : Bs) (id : Int) : Int := if (b.ses id).eds ≠ [] ∧ b.changed (b.ses id) = true then 401 else 0
def Bs.commitS (b : Bs) (id : Int) : Bs :=
  if (b.ses id).eds = [] ∨ b.changed (b.ses id) = true then b.shut id else { b.shut id with log := b.log ++ [(b.ses id).eds] }
def Bs.state (b : Bs) : List Ed := comes [] (b.hist b.log.length)
end Go.Gx
namespace Go.Gx
variable {P : Program} {ops : Array Oper} {Q : Exit → Act → World → Prop} {C : World → Prop}
def YC (P : Program) (ops : Array Oper) (C : World → Prop) (o : Oper) (v : Value) (a : Act) : Prop :=
  Region.wanted o (yielded ops a.tmps) = true ∧ ∀ w, C w → (execOp a.eval o).run P w = .ok (.value v) w
theorem YC.same {o : Oper} {v : Value} {a a' : Act} (hy : YC P ops C o v a) (he : execOp a'.eval o = execOp a.eval o) (hw : Region.wanted o (yielded ops a'.tmps) = Region.wanted o (yielded ops a.tmps)) : YC P ops C o v a' := by
  unfold YC at *
  rw [he, hw]
  exact hy
theorem YC.take {i : Nat} {o : Oper} {v : Value} {a : Act} (hi : ops[i]? = some o) (hy : YC P ops C o v a) {K : Act → World → Prop} {w : World} (hC : C w) (h : K (a.put o.dst v) w) : wpOp P ops Q i K a w := by
  unfold wpOp
  simp only [hi, hy.1, if_true, Oper.wp, hy.2 w hC, Oper.upon]
  exact .inl h
theorem wpOp_late {j : Nat} {oi oj : Oper} {v : Value} (hj : ops[j]? = some oj) (hap : oi.apart ops oj = true)
    (hsi : ∀ cs b, oi.op ≠ .select cs b) (hsj : ∀ cs b, oj.op ≠ .select cs b)
    (hQ : ∀ c a w, Q (.panic c) (a.put oi.dst v) w → Q (.panic c) a w) {K : Act → World → Prop} {a : Act} {w : World}
    (hy : YC P ops C oi v a) (h : wpOp P ops Q j K (a.put oi.dst v) w) :
    wpOp P ops Q j (fun a' w' => YC P ops C oi v a' ∧ K (a'.put oi.dst v) w') a w := by
  obtain ⟨h1, h2, h3⟩ := Oper.apart_spec hap
  have keep : ∀ u, YC P ops C oi v (a.put oj.dst u) := fun u => hy.same (execOp_put oi hsi a oj.dst u h3) (wanted_put oi a oj.dst u h3)
  have hw1 := wanted_put oj a oi.dst v h1
  have he1 := execOp_put oj hsj a oi.dst v h1
  unfold wpOp at h ⊢
  simp only [hj] at h ⊢
  rw [hw1] at h
  by_cases hw : Region.wanted oj (yielded ops a.tmps) = true
  · rw [if_pos hw] at h ⊢
    rcases h with h | ⟨ha, hl⟩
    · left
      unfold Oper.wp at h ⊢
      rw [he1] at h
      generalize (execOp a.eval oj).run P w = r at h ⊢
      cases r with
      | halt x w' =>
        cases x with
        | panic u => exact hQ _ _ _ h
        | _ => exact h
      | ok x w' =>
        cases x with
        | value u => exact ⟨keep u, by rw [← Act.put_comm a v u h2]; exact h⟩
        | skip => exact ⟨keep _, by rw [← Act.put_comm a v undef h2]; exact h⟩
        | defer d =>
          refine ⟨(hy.same (a' := { a with defers := d :: a.defers }) rfl rfl).same (execOp_put oi hsi _ oj.dst _ h3) (wanted_put oi _ oj.dst _ h3), ?_⟩
          rw [← Act.put_comm _ v undef h2, ← Act.put_defers]
          exact h
        | enter f args =>
          refine Calls.mono h fun e w'' he => ?_
          cases e with
          | returned u => exact ⟨keep u, by rw [← Act.put_comm a v u h2]; exact he⟩
          | panicked c => exact hQ _ _ _ he
          | outgrown => exact he
        | row row args => exact Rows.mono h fun u w'' he => ⟨keep u, by rw [← Act.put_comm a v u h2]; exact he⟩
        | _ => exact h
    · exact .inr ⟨by unfold Oper.asks at *; rw [he1] at ha; exact ha, hl⟩
  · rw [if_neg hw] at h ⊢
    exact ⟨keep _, by rw [← Act.put_comm a v undef h2]; exact h⟩
def wpAnyC (P : Program) (ops : Array Oper) (C : World → Prop) (st : Nat) (Q : Exit → Act → World → Prop) : Nat → Array Bool → Act → World → Prop
  | 0, listed, a, w => (listed.getD st false = false → C w) ∧ Region.ready .any ops listed = [] ∧ Q .normal a w
  | f + 1, listed, a, w => (listed.getD st false = false → C w) ∧ (Region.ready .any ops listed = [] → Q .normal a w) ∧ ∀ i ∈ Region.ready .any ops listed, wpOp P ops Q i (wpAnyC P ops C st Q f (listed.setIfInBounds i true)) a w
theorem wpAnyC.any {st : Nat} : ∀ (f : Nat) (listed : Array Bool) (a : Act) (w : World), wpAnyC P ops C st Q f listed a w → wpAny P .any ops Q f listed a w
  | 0, _, _, _, h => h.2
  | f + 1, _, _, _, h => ⟨h.2.1, fun i hi => wpOp_mono (fun _ _ h' => wpAnyC.any f _ _ _ h') (h.2.2 i hi)⟩
theorem wpAnyC.here {st f : Nat} {listed : Array Bool} {a : Act} {w : World} (h : wpAnyC P ops C st Q f listed a w) : listed.getD st false = false → C w := by
  cases f <;> exact h.1
theorem unlisted {listed : Array Bool} {i : Nat} (h : listed.getD i true = false) : listed.getD i false = false := by
  rcases Nat.lt_or_ge i listed.size with h' | h'
  · simp [h'] at h ⊢; exact h
  · simp [Array.getElem?_eq_none h'] at h
theorem wpAnyC.take {i st : Nat} {oi ost : Oper} {v : Value} (hi : ops[i]? = some oi) (hsel : ∀ (j : Nat) (o : Oper) cs b, ops[j]? = some o → o.op ≠ .select cs b)
    (hQ : ∀ c a w, Q (.panic c) (a.put oi.dst v) w → Q (.panic c) a w) (hst : ops[st]? = some ost) (hdep : ∃ e ∈ ost.after, Region.binds .any e = true ∧ e.on = i) (hne : st ≠ i) :
    ∀ (fuel : Nat) (listed : Array Bool) (a : Act) (w : World),
      (listed.getD st false = true → listed.getD i false = true) →
      (∀ j oj, ops[j]? = some oj → j ≠ i → listed.getD j true = false → (∀ e ∈ oj.after, Region.binds .any e = true → e.on ≠ i) → oi.apart ops oj = true) →
      i ∈ Region.ready .any ops listed → YC P ops C oi v a →
      wpAnyC P ops C st Q fuel (listed.setIfInBounds i true) (a.put oi.dst v) w → wpAnyC P ops C st Q (fuel + 1) listed a w := by
  intro fuel
  induction fuel with
  | zero =>
    intro listed a w hcl _ hr hy H
    have hun := (mem_ready.1 hr).1
    have hst0 : listed.getD st false = false := by
      cases hh : listed.getD st false
      · rfl
      · have := hcl hh; rw [unlisted hun] at this; cases this
    have hC : C w := H.1 (by rw [getD_set_ne false hne.symm]; exact hst0)
    refine ⟨fun _ => hC, fun h => (by rw [h] at hr; cases hr), fun j hj => ?_⟩
    by_cases hji : j = i
    · subst hji; exact hy.take hi hC H
    · have := ready_mono hj hji
      rw [H.2.1] at this
      cases this
  | succ fuel ih =>
    intro listed a w hcl hfree hr hy H
    have hun := (mem_ready.1 hr).1
    have hst0 : listed.getD st false = false := by
      cases hh : listed.getD st false
      · rfl
      · have := hcl hh; rw [unlisted hun] at this; cases this
    have hC : C w := H.here (by rw [getD_set_ne false hne.symm]; exact hst0)
    refine ⟨fun _ => hC, fun h => (by rw [h] at hr; cases hr), fun j hj => ?_⟩
    by_cases hji : j = i
    · subst hji; exact hy.take hi hC H
    · have h1 := H.2.2 j (ready_mono hj hji)
      obtain ⟨hjun, oj, hoj, hall⟩ := mem_ready.1 hj
      have hnot : ∀ e ∈ oj.after, Region.binds .any e = true → e.on ≠ i := fun e he hb heq => by
        have h1 := hall e he hb
        rw [heq, unlisted hun] at h1; cases h1
      have hjst : j ≠ st := fun e => by
        subst e
        rw [hst] at hoj; cases hoj
        obtain ⟨e, he, hb, hon⟩ := hdep
        exact hnot e he hb hon
      have h2 := wpOp_late hoj (hfree j oj hoj hji hjun hnot) (fun cs b => hsel i oi cs b hi) (fun cs b => hsel j oj cs b hoj) hQ hy h1
      refine wpOp_mono (fun a' w' h3 => ih (listed.setIfInBounds j true) a' w' (fun h => ?_) (fun k ok hk hki hu hno => ?_) (ready_mono hr (Ne.symm hji)) h3.1 ?_) h2
      · rw [getD_set_ne false hjst, hst0] at h; cases h
      · refine hfree k ok hk hki ?_ hno
        by_cases hjk : j = k
        · subst hjk; exact hjun
        · rw [getD_set_ne true hjk] at hu; exact hu
      · rw [Array.setIfInBounds_comm _ _ hji]
        exact h3.2
section
variable {n st : Nat} {K : List Deferred → Env → World → Prop} {D : List Deferred} {E : Env} {w : World}
def LAC (P : Program) (n : Nat) (ops : Array Oper) (C : World → Prop) (st : Nat) (K : List Deferred → Env → World → Prop) (fuel : Nat) (listed : Array Bool) (D : List Deferred) (E : Env) (w : World) : Prop :=
  ∀ a, Fr D n a E → wpAnyC P ops C st (lift n (nrm K)) fuel listed a w
theorem W.drawT {id : Nat} {l : List Oper} {Q : Post} (C : World → Prop) (st : Nat) (hm : P.follows .mixedOrders = true) (h : LAC P n l.toArray C st (Q .normal) l.length (Array.replicate l.length false) D E w.drew) : W P n (.region id l.toArray true) Q D E w := by
  intro a ha
  refine wp_mono (wp_region_any (Q := lift n (nrm (Q .normal))) hm ?_) ?_
  · have := (h a ha).any
    simpa using this
  · rintro e a' w' ⟨he, E', hE, rfl, hq⟩
    exact ⟨he, E', hE, hq⟩
theorem LAC.take {fuel : Nat} {listed : Array Bool} {i d : Nat} {op : Op} {t : TypeId} {p : String} {af : Array Edge} {v : Value}
    (ho : ops[i]? = some ⟨some d, op, t, p, af, none⟩) (hs : Region.noSelect ops = true) (hf : Region.free .any ops listed i = true) (hr : (Region.ready .any ops listed).contains i = true)
    (hst : (ops[st]?).map (fun o => o.after.any fun e => Region.binds .any e && Nat.beq e.on i) = some true) (hne : Nat.beq st i = false) (hl : listed.getD st true = false)
    (hx : ∀ w, C w → X P op t E w v w) (hd : Nat.blt d n = true) (k : LAC P n ops C st K fuel (listed.setIfInBounds i true) D (upd E d v) w) : LAC P n ops C st K (fuel + 1) listed D E w := by
  intro a ha
  cases hos : ops[st]? with
  | none => rw [hos] at hst; cases hst
  | some ost =>
    rw [hos] at hst
    simp only [Option.map_some, Option.some.injEq] at hst
    obtain ⟨e, he, hb⟩ := Array.any_eq_true'.1 hst
    simp only [Bool.and_eq_true] at hb
    refine wpAnyC.take ho (Region.noSelect_spec hs) ?_ hos ⟨e, he, hb.1, Nat.eq_of_beq_eq_true hb.2⟩ (fun h => by subst h; simp at hne) fuel listed a w (fun h => by rw [unlisted hl] at h; cases h) (Region.free_spec ho hf) (by simpa using hr)
      ⟨by simp [Region.wanted], fun w hw => ?_⟩ (k _ (ha.put v hd))
    · rintro c a w ⟨_, E, _, h, _⟩; cases h
    · have := hx w hw
      unfold X at this
      rw [execOp_bare, ha.eval]; exact this
theorem LAC.done {listed : Array Bool} (hr : Region.ready .any ops listed = []) (hl : listed.getD st false = true) (h : K D E w) : LAC P n ops C st K 0 listed D E w :=
  fun _ ha => ⟨fun h0 => (by rw [hl] at h0; cases h0), hr, lift_mk (by simp) ha ⟨rfl, h⟩⟩
def LACs (P : Program) (n : Nat) (ops : Array Oper) (C : World → Prop) (st : Nat) (K : List Deferred → Env → World → Prop) (fuel : Nat) (listed : Array Bool) (D : List Deferred) (E : Env) (w : World) : List Nat → Prop
  | [] => True
  | i :: r => (∃ o, ops[i]? = some o ∧ L P n ops (thn (LAC P n ops C st K fuel (listed.setIfInBounds i true)) (nrm K)) [o] D E w) ∧ LACs P n ops C st K fuel listed D E w r
theorem LAC.step {fuel : Nat} {listed : Array Bool} {rs : List Nat} (hC : listed.getD st false = false → C w) (hr : Region.ready .any ops listed = rs) (hne : rs ≠ [])
    (h : LACs P n ops C st K fuel listed D E w rs) : LAC P n ops C st K (fuel + 1) listed D E w := by
  intro a ha
  refine ⟨hC, fun h0 => absurd (hr.symm.trans h0) hne, fun j hj => ?_⟩
  rw [hr] at hj
  have key : ∀ rs : List Nat, LACs P n ops C st K fuel listed D E w rs → j ∈ rs → ∃ o, ops[j]? = some o ∧ L P n ops (thn (LAC P n ops C st K fuel (listed.setIfInBounds j true)) (nrm K)) [o] D E w := by
    intro rs
    induction rs with
    | nil => intro _ hi; cases hi
    | cons k r ih =>
      intro hL hi
      rcases List.mem_cons.1 hi with rfl | hi
      · exact hL.1
      · exact ih hL.2 hi
  obtain ⟨o, ho, hLo⟩ := key rs h hj
  have h1 := hLo a ha
  have hl : ∀ e a w, lift n (thn (LAC P n ops C st K fuel (listed.setIfInBounds j true)) (nrm K)) e a w → Exit.then (wpAnyC P ops C st (lift n (nrm K)) fuel (listed.setIfInBounds j true)) (lift n (nrm K)) e a w := by
    intro e a w ⟨h1, E', h2, h3⟩
    cases e <;> simp only [thn, Exit.then] at h3 ⊢
    case normal => exact h3 a h2
    case outgrown => exact absurd rfl h1
    all_goals exact ⟨by simp, E', h2, h3⟩
  unfold wpOp
  rw [ho]
  simp only
  unfold wpList at h1
  split
  · rename_i hw
    rw [if_pos hw] at h1
    rcases h1 with h1 | ⟨_, a', w', h1⟩
    · refine .inl ?_
      unfold Oper.wp at h1 ⊢
      generalize (execOp a.eval o).run P w = res at h1 ⊢
      cases res with
      | ok x w' =>
        cases x <;> simp only [Oper.upon, wpList] at h1 ⊢ <;> try exact hl _ _ _ h1
        · refine h1.mono fun e w'' h => ?_
          cases e with
          | returned v => exact hl _ _ _ h
          | panicked c => exact hl _ _ _ h
          | outgrown => obtain ⟨a', w', h⟩ := h; exact absurd rfl h.1
        · exact h1.mono fun v w'' h => hl _ _ _ h
      | halt x w' => cases x <;> simp only [Oper.upon] at h1 ⊢ <;> try exact hl _ _ _ h1
    · exact absurd rfl h1.1
  · rename_i hw; rw [if_neg hw] at h1; exact hl _ _ _ h1
end
theorem L.bs0 {n : Nat} {Q : Post} {D : List Deferred} {E : Env} {w : World} {ops : Array Oper} {r : List Oper} {d : Nat} {T e : TypeId} {sz : Nat} {t : TypeId} {p : String} {af : Array Edge} (hu : P.underlying T = some (.slice e)) (he : elT P e sz = true) (hd : Nat.blt d n = true)
    (k : ∀ w1, Own w1 w.heap.size e sz (.slice (some ⟨w.heap.size, 0, none⟩) 0 0) 0 [] → Bel w w1 → w1.heap.size = w.heap.size + 1 → L P n ops Q r D (upd E d (.slice (some ⟨w.heap.size, 0, none⟩) 0 0)) w1) :
    L P n ops Q (⟨some d, .buildSlice T 0 #[], t, p, af, none⟩ :: r) D E w := by
  obtain ⟨i, z, hi, hz, hs, hzs, hpos, -⟩ := elT_spec he
  have e0 : Array.range 0 = #[] := by simp
  have hrun : (Instr.buildSlice T 0 ((#[] : Array (Nat × Operand)).map fun x => (x.1, ev E x.2))).run P w = .ok (.slice (some ⟨w.heap.size, 0, none⟩) 0 0) (w.alloc (.cells #[] e)) := by
    simp [Instr.buildSlice, run_underlying hu, sizeOf, typeInfo, hi, Instr.fill, newRow, e0]
  refine L.val (v := .slice (some ⟨w.heap.size, 0, none⟩) 0 0) (w' := w.alloc (.cells #[] e)) ?_ hd (k _ ⟨by simp, .inr ⟨w.heap.size, 0, #[], rfl, Nat.le_refl _, World.alloc_heap_new w _, Nat.le_refl _, by simp [maxLen], by simp, by simp⟩⟩ (bel_alloc _ _) (by simp))
  unfold X
  simp only [execOp, Sem.run_bind, hrun]
  rfl
def Holds (w : World) (u : Value) (m : Nat) (news : List Value) : Prop :=
  (∃ a c, u = .slice (some a) m c ∧ ∀ j x, news[j]? = some x → w.cell? (a.add j) = some x) ∨ (u = .slice none 0 0 ∧ m = 0 ∧ news = [])
theorem x_slog {E : Env} {w : World} {x y : Operand} {t s e : TypeId} {a : Option Addr} {c m : Nat} {k : IntKind} {i : Int} {j sz : Nat} (hu : P.underlying s = some (.slice e)) (hs : (P.info? e).map (·.size) = some sz)
    (hx : ev E x = .slice a m c) (hy : ev E y = .int k i) (hi : i = (j : Nat)) (hj : j ≤ m) :
    X P (.slice s x (some y) none none) t E w (.slice (if c = j then a else a.map (·.add (j * sz))) (m - j) (c - j)) w := by
  unfold X
  subst hi
  cases hi : P.info? e with
  | none => simp [hi] at hs
  | some inf =>
    simp only [hi, Option.map_some, Option.some.injEq] at hs
    simp [execOp, hx, hy, Instr.sliceAt, Instr.slice, Instr.sliceBounds, Instr.sliceBound, asIntOf, run_underlying hu, sizeOf, typeInfo, hi, hs, hj]
end Go.Gx
namespace Go.Gx
open Go.Proofs Go.Sort
-- Srt
-- Srt2
-- Srt3
section
variable {α : Type} [Inhabited α] {lt : α → α → Bool} {p : α → Bool} {d : Array α} {a i j : Nat}
end
section
variable {α : Type} [Inhabited α] {lt : α → α → Bool} {d : Array α} {a b i j s : Nat}
end
-- Srt4
-- Srt5
structure PS {α : Type} [Inhabited α] (lt : α → α → Bool) (enc : α → Value) (b o n : Nat) (T : TypeId) (hd tl : List Value) (a e : Nat) (d : Array α) (w0 : World) (a1 z1 : Nat) (c : Array α) (w : World) : Prop where
  gr : Gr (· = b) w0 w
  row : Row enc w b o T hd c tl
  size : c.size = n
  lo : a ≤ a1
  mid : a1 ≤ z1
  hi : z1 ≤ e
  below : Go.Sort.Below lt a1 z1 c
  fin : ∀ c', PermIn a1 z1 c c' → SortedIn lt a1 z1 c' → PermIn a e d c' ∧ SortedIn lt a e c'
section
variable {α : Type} [Inhabited α] {lt : α → α → Bool} {enc : α → Value} {b o n : Nat} {T : TypeId} {hd tl : List Value} {a e : Nat} {d : Array α} {w0 : World} {a1 z1 : Nat} {c : Array α} {w : World}
theorem PS.carry {w' : World} (h : PS lt enc b o n T hd tl a e d w0 a1 z1 c w) (g : Bel w w') : PS lt enc b o n T hd tl a e d w0 a1 z1 c w' :=
  ⟨h.gr.carry g, h.row.carry g, h.size, h.lo, h.mid, h.hi, h.below, h.fin⟩
end
-- Srt6
end Go.Gx
namespace Go.Gx
open Go.Proofs
mutual
def Sh.size : Sh → Nat | .mk _ _ _ _ ps => 1 + sizeL ps
def sizeL : List Sh → Nat | [] => 0 | p :: ps => p.size + sizeL ps
end
def nodup : List Str → Bool
  | [] => true
  | x :: l => !l.contains x && nodup l
theorem take_snoc {α : Type} [Inhabited α] {l : List α} {k : Nat} {d : α} (hk : k < l.length) : l.take (k + 1) = l.take k ++ [l.getD k d] := by
  rw [List.take_succ_eq_append_getElem hk, List.getD_eq_getElem?_getD, List.getElem?_eq_getElem hk, Option.getD_some]
end Go.Gx
namespace Go.Gx
open Go.Proofs
theorem kcoll_el9 : elT Try.prog 9 1 = true := by kernel_rfl
theorem kcoll_oc37 : oneCellT Try.prog 37 = true := by kernel_rfl
theorem kcoll_sz37 : (Try.prog.info? 37).map (·.size) = some 1 := by kernel_rfl
theorem gr_of_below {n₀ : Nat} {a b : World} (h : RowKit.Below n₀ a b) : Gr (fun k => n₀ ≤ k) a b := ⟨h.os, h.tape, h.output, h.size, fun k _ hn => h.block k (by omega)⟩
theorem seq_ok (gf : Nat) (lb : Array Value) (ss : List Str) (w : World) (eg : Go.Proofs.Enters Try.prog gf) (hl : ss.length ≤ 100000000000) {Φ : List Str → Prop} (hΦ : ∀ xs, Φ xs → xs.Perm ss)
    (hseq : SeqStopsK Fence.wide 1 Try.prog gf lb (fun x : Str => #[S x]) (KpB w.heap.size) Φ (fun _ => True) ss.length w) :
    Ret Try.prog 101 #[.slice none 0 0, .func (.func gf) #[] lb] w fun v w' => (∃ xs : List Str, xs.Perm ss ∧ Own w' (w.heap.size + 1) 9 1 v xs.length (xs.map S) ∧ (xs = [] → v = .slice none 0 0)) ∧ Bel w w' := by
  refine ret_of_W_marks Try.func101 rfl (Nat.le_of_ble_eq_true rfl) (res1 rfl) ?_
  have hB := Gr.refl (fun _ => False) w
  refine W.seq ?_
  refine W.region ?_
  refine L.box (cs := _) rfl rfl (fun w2 bx2 hw hz2 => ?_)
  have hB := hB.carry hw
  refine L.val (x_as (v := _) rfl) rfl ?_
  refine L.nil ?_
  refine thn_n ?_
  refine W.seq ?_
  refine W.seq ?_
  refine W.region ?_
  refine L.val (x_mv (v := _) rfl) rfl ?_
  refine L.nil ?_
  refine thn_n ?_
  refine W.block ?_
  refine W.wide (m := 2) (WI.rangeF (by decide) rfl eg hseq (Bel.below hB) (by omega)
    (fun pre w' => ∃ v, Box w' w.heap.size 37 [v] ∧ Own w' (w.heap.size + 1) 9 1 v pre.length (pre.map S) ∧ RowKit.Below w.heap.size w w' ∧ (pre = [] → v = .slice none 0 0)) ?_ ⟨_, bx2, own_nil, Bel.below hB, fun _ => rfl⟩ rfl rfl ?_ ?_)
  · rintro pre a b row ⟨v, h1, h2, h3, h4⟩ hg hr
    have hg' := gr_of_grown hg
    refine ⟨v, h1.carryR hg' (fun e => ?_), h2.carryR hg' (fun j hj e => ?_), h3.grown hg h3.size (fun k e => by have := (hr k e).1; omega), h4⟩
    · have := (hr _ e.symm).1; omega
    · obtain ⟨_, o, ho, hn⟩ := hr _ e.symm
      rw [h2.cells hj ho] at hn; cases hn
  · rintro l pre x w5 ⟨v, h1, h2, h3, -⟩ hlen
    refine WI.block (WI.region ?_)
    refine LI.val (fun _ => trivial) (fun _ h => by cases h) (x_ld (v := v) kcoll_oc37 rfl (h1.cell (i := 0) rfl)) rfl ?_
    refine LI.val (fun _ => trivial) (fun _ h => by cases h) (x_mv (v := S x) rfl) rfl ?_
    refine LI.val (fun _ => trivial) (fun _ h => by cases h) (x_bs (sz := 1) (cells := [S x]) Try.underlying37 kcoll_el9 rfl rfl rfl) rfl ?_
    have b5 := bel_alloc w5 (.cells [S x].toArray 9)
    have h1 := h1.carry b5
    have h2 := h2.carry b5
    have bx := box_alloc w5 9 [S x]
    obtain ⟨v', w6, hrun, a1, a2, a3, a4⟩ := append_run (ty := 37) (a := ⟨w5.heap.size, 0, none⟩) (m := 1) 1 (news := [S x]) Try.underlying37 kcoll_el9 h2 rfl bx.news (by simp [Value.oneCell', S]) (by omega) (by have := h3.size; simp; omega)
    refine LI.val (fun _ => trivial) (fun _ h => by cases h) (x_append rfl rfl hrun) rfl ?_
    have hbl := h1.lt
    have hne : ∀ j, some j = v.ownBlock → w.heap.size + 1 ≤ j := fun j hj => (h2.lt hj).1
    have h1 := h1.carryR a2 (fun e => by have := hne _ e; omega)
    refine LI.skip (fun _ => trivial) (fun _ h => by cases h) (x_st (v := v') kcoll_sz37 rfl rfl (by rcases a1.open with ⟨rfl, _⟩ | ⟨_, _, _, rfl, _⟩ <;> rfl) (h1.cell (i := 0) rfl) (h1.free 0)) ?_
    have g7 : Gr (fun k => w.heap.size ≤ k) w5 (w6.setCell ⟨w.heap.size, 0, none⟩ v') := ((b5.mono fun _ _ f => f.elim).trans (a2.mono fun k _ hk => by have := hne k hk; omega)).trans ((gr_setCell w6 ⟨w.heap.size, 0, none⟩ v').mono fun k _ hk => by have : k = w.heap.size := hk; omega)
    have hB7 := below_of_gr g7 h3.size
    have ko := ((KeepsOthers.alloc w5 (.cells [S x].toArray 9)).trans (keeps_of_gr a2 fun k o hk ho => h2.cells hk ho)).trans (KeepsOthers.setCell w6 ⟨w.heap.size, 0, none⟩ v')
    refine LI.nil ⟨rfl, ko, ⟨hB7, ko.walks⟩, _, h1.set 0 v', ?_, h3.trans hB7, fun h => by simp at h⟩
    · have := Own.carryR a1 (gr_setCell w6 ⟨w.heap.size, 0, none⟩ v') (fun j hj e => by have := (a1.lt hj).1; have e : j = w.heap.size := e; omega)
      simpa using this
  rintro Db xs w5 hD hx ⟨v, h1, h2, h3, h4⟩ hK
  refine blk_n ?_
  refine thn_n ?_
  refine W.seq ?_
  refine W.region ?_
  refine L.val (x_ld (v := v) kcoll_oc37 rfl (h1.cell (i := 0) rfl)) rfl ?_
  refine L.val (x_as (v := _) rfl) rfl ?_
  refine L.nil ?_
  refine thn_n ?_
  refine W.ret (finM_mk (.inr rfl) ?_)
  exact ⟨Db, rfl, hK, ⟨xs, hΦ xs hx, Own.carryR h2 (gr_putObj _ _ _) (fun j hj e => by have e : j = Db := e; subst e; have := h2.cells hj hK; cases this), h4⟩, (bel_of h3).set (gr_putObj _ _ _) (by omega)⟩
end Go.Gx
namespace Go.Proofs
open Go.Shelf
def Try.lays190_ren : Go.Shelf.Ren := ⟨fun | 190 => 85 | 125 => 103 | 258 => 102 | 128 => 125 | 129 => 126 | 302 => 116 | 303 => 117 | 304 => 118 | 305 => 119 | 306 => 120 | 307 => 121 | 308 => 122 | 309 => 123 | 310 => 124 | 333 => 135 | 329 => 136 | 330 => 137 | 334 => 138 | 335 => 139 | 336 => 140 | 344 => 144 | n => n, fun | 31 => 37 | 9 => 9 | 3 => 3 | 46 => 176 | 0 => 0 | 51 => 177 | 53 => 53 | 4 => 4 | 183 => 192 | 182 => 191 | 131 => 196 | 5 => 5 | 218 => 206 | 222 => 210 | 228 => 216 | 229 => 217 | n => n, fun | n => n⟩
theorem Try.lays190 : Go.Proofs.Lays.n190 Try.prog Try.lays190_ren := {
  mixed := by kernel_rfl
  f125 := Try.func103.trans (congrArg some (by kernel_rfl))
  f128 := Try.func125.trans (congrArg some (by kernel_rfl))
  f129 := Try.func126.trans (congrArg some (by kernel_rfl))
  f190 := Try.func85.trans (congrArg some (by kernel_rfl))
  f258 := Try.func102.trans (congrArg some (by kernel_rfl))
  f302 := Try.func116.trans (congrArg some (by kernel_rfl))
  f303 := Try.func117.trans (congrArg some (by kernel_rfl))
  f304 := Try.func118.trans (congrArg some (by kernel_rfl))
  f305 := Try.func119.trans (congrArg some (by kernel_rfl))
  f306 := Try.func120.trans (congrArg some (by kernel_rfl))
  f307 := Try.func121.trans (congrArg some (by kernel_rfl))
  f308 := Try.func122.trans (congrArg some (by kernel_rfl))
  f309 := Try.func123.trans (congrArg some (by kernel_rfl))
  f310 := Try.func124.trans (congrArg some (by kernel_rfl))
  f329 := Try.func136.trans (congrArg some (by kernel_rfl))
  f330 := Try.func137.trans (congrArg some (by kernel_rfl))
  f333 := Try.func135.trans (congrArg some (by kernel_rfl))
  f334 := Try.func138.trans (congrArg some (by kernel_rfl))
  f335 := Try.func139.trans (congrArg some (by kernel_rfl))
  f336 := Try.func140.trans (congrArg some (by kernel_rfl))
  f344 := Try.func144.trans (congrArg some (by kernel_rfl))
  t0 := Try.underlying0
  a0 := Try.isAgg0
  z0 := Try.sizeOf0
  v0 := Try.zeroValue0
  t3 := Try.underlying3
  a3 := Try.isAgg3
  z3 := Try.sizeOf3
  v3 := Try.zeroValue3
  t4 := Try.underlying4
  a4 := Try.isAgg4
  z4 := Try.sizeOf4
  v4 := Try.zeroValue4
  t5 := Try.underlying5
  a5 := Try.isAgg5
  z5 := Try.sizeOf5
  v5 := Try.zeroValue5
  t9 := Try.underlying9
  a9 := Try.isAgg9
  z9 := Try.sizeOf9
  v9 := Try.zeroValue9
  t31 := Try.underlying37
  a31 := Try.isAgg37
  z31 := Try.sizeOf37
  v31 := Try.zeroValue37
  t46 := Try.underlying176
  a46 := Try.isAgg176
  z46 := Try.sizeOf176
  v46 := Try.zeroValue176
  t51 := Try.underlying177
  a51 := Try.isAgg177
  z51 := Try.sizeOf177
  v51 := Try.zeroValue177
  t53 := Try.underlying53
  a53 := Try.isAgg53
  z53 := Try.sizeOf53
  v53 := Try.zeroValue53
  t131 := Try.underlying196
  a131 := Try.isAgg196
  z131 := Try.sizeOf196
  v131 := Try.zeroValue196
  t182 := Try.underlying191
  a182 := Try.isAgg191
  z182 := Try.sizeOf191
  v182 := Try.zeroValue191
  t183 := Try.underlying192
  a183 := Try.isAgg192
  z183 := Try.sizeOf192
  v183 := Try.zeroValue192
  t218 := Try.underlying206
  a218 := Try.isAgg206
  z218 := Try.sizeOf206
  v218 := Try.zeroValue206
  t222 := Try.underlying210
  a222 := Try.isAgg210
  z222 := Try.sizeOf210
  v222 := Try.zeroValue210
  t228 := Try.underlying216
  a228 := Try.isAgg216
  z228 := Try.sizeOf216
  v228 := Try.zeroValue216
  t229 := Try.underlying217
  a229 := Try.isAgg217
  z229 := Try.sizeOf217
  v229 := Try.zeroValue217 }
open Go.Sort Go.RowKit in
theorem Try.slices_Sort_string (blk off cap : Nat) (ss : List (List UInt8)) (w : World) (hH : Holds encStr w blk off ss.toArray) (hblk : blk < w.heap.size) (hsz : ss.length < 4611686018427387904) :
    Calls Try.prog 85 #[.slice (some ⟨blk, off, none⟩) ss.length cap] w fun e w' =>
      e = .returned (.tuple #[]) ∧ ∃ n os, w' = grow (putRow encStr (Sort.ahead w n) blk off (ss.mergeSort fun x y => decide (x ≤ y)).toArray) os := Any.slices_Sort_string Try.lays190 blk off cap ss w hH hblk hsz
open Go.RowKit Go.Sort in
theorem Try.slices_Sort_string_none (p : Option Addr) (cap : Nat) (w : World) :
    Calls Try.prog 85 #[.slice p 0 cap] w fun e w' => e = .returned (.tuple #[]) ∧ w' = w := Any.slices_Sort_string_none Try.lays190 p cap w
end Go.Proofs
