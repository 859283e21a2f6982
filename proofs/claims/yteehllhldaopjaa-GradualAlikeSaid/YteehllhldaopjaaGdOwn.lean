/- Slices of types and of strings that a call grows. Conditions: none. -/
import Derived.Test.YteehllhldaopjaaGdSeq
namespace Go.Gx
variable {n0 base k : Nat} {w w' : World} {e : TypeId} {v v' v1 v2 : Value}
def Av (n0 : Nat) (w : World) (v1 v2 : Value) (k : Nat) : Prop := k < n0 ∨ some k = v1.ownBlock ∨ some k = v2.ownBlock ∨ w.heap.size ≤ k
def ShsOwn (A : Nat → Prop) (w : World) (base : Nat) (e : TypeId) (v : Value) (l : List Sh) : Prop :=
  ∃ rows : List (List Value), rows.length = l.length ∧ Own w base e 5 v l.length rows.flatten ∧ (∀ i, i < l.length → (rows.getD i []).length = 5) ∧ ∀ i, i < l.length → ShC A w (rows.getD i []) (l.getD i default)
theorem ShsOwn.nil {A : Nat → Prop} : ShsOwn A w base e (.slice none 0 0) [] := ⟨[], rfl, own_nil, fun i h => absurd h (by simp), fun i h => absurd h (by simp)⟩
theorem ShsOwn.own {A : Nat → Prop} {l : List Sh} (h : ShsOwn A w base e v l) : ∃ xs, Own w base e 5 v l.length xs := by
  obtain ⟨rows, -, ho, -⟩ := h; exact ⟨_, ho⟩
theorem ShsOwn.lt {A : Nat → Prop} {l : List Sh} (h : ShsOwn A w base e v l) {j : Nat} (hj : some j = v.ownBlock) : base ≤ j ∧ j < w.heap.size := by
  obtain ⟨xs, ho⟩ := h.own; exact ho.lt hj
theorem ShsOwn.carryA {A A' R : Nat → Prop} {l : List Sh} (h : ShsOwn A w base e v l) (g : Gr R w w') (hR : ∀ j, some j = v.ownBlock → ¬ R j) (hRA : ∀ j, R j → A j) (hA : ∀ j, A' j → A j ) : ShsOwn A' w' base e v l := by
  obtain ⟨rows, h1, h2, h3, h4⟩ := h
  exact ⟨rows, h1, h2.carryR g hR, h3, fun i hi => ((h4 i hi).carryR g hRA).mono fun j _ hj => hA j hj⟩
theorem ShsOwn.carry {A : Nat → Prop} {l : List Sh} (h : ShsOwn A w base e v l) (g : Bel w w') : ShsOwn A w' base e v l := h.carryA g (fun _ _ f => f) (fun _ f => f.elim) (fun _ h => h)
theorem getD_snoc {α : Type} {l : List α} {x d : α} {i : Nat} (hi : i < (l ++ [x]).length) : (l ++ [x]).getD i d = if i < l.length then l.getD i d else x := by
  simp only [List.length_append, List.length_cons, List.length_nil] at hi
  simp only [List.getD_eq_getElem?_getD]
  split
  · rw [List.getElem?_append_left (by assumption)]
  · rw [List.getElem?_append_right (by omega), show i - l.length = 0 by omega]; rfl
theorem ShsOwn.snoc {A A' : Nat → Prop} {l : List Sh} {rows : List (List Value)} {cs : List Value} {t : Sh} (h1 : rows.length = l.length) (h3 : ∀ i, i < l.length → (rows.getD i []).length = 5) (h4 : ∀ i, i < l.length → ShC A w (rows.getD i []) (l.getD i default))
    (ht : ShC A w cs t) (ho : Own w' base e 5 v' (l.length + 1) (rows.flatten ++ cs)) (g : Gr (fun j => some j = v.ownBlock) w w') (hv : ∀ j, some j = v.ownBlock → A j) (hA : ∀ j, A' j → A j) : ShsOwn A' w' base e v' (l ++ [t]) := by
  refine ⟨rows ++ [cs], by simp [h1], ?_, fun i hi => ?_, fun i hi => ?_⟩
  · have e1 : (rows ++ [cs]).flatten = rows.flatten ++ cs := by simp
    rw [e1, List.length_append]; exact ho
  · rw [getD_snoc (by simpa [h1] using hi)]
    split
    · exact h3 i (by omega)
    · exact ht.len
  · rw [getD_snoc (by simpa [h1] using hi), getD_snoc hi]
    by_cases hlt : i < l.length
    · rw [if_pos (by omega), if_pos hlt]; exact ((h4 i hlt).carryR g hv).mono fun j _ hj => hA j hj
    · rw [if_neg (by omega), if_neg hlt]; exact (ht.carryR g hv).mono fun j _ hj => hA j hj
theorem flat5 {rows : List (List Value)} (h : ∀ r ∈ rows, r.length = 5) {i j : Nat} (hj : j < 5) (hi : i < rows.length) : rows.flatten[i * 5 + j]? = (rows.getD i [])[j]? := by
  induction rows generalizing i with
  | nil => simp at hi
  | cons r rows ih =>
    have hr := h r (by simp)
    cases i with
    | zero => simp [List.getElem?_append_left, hr, hj]
    | succ i =>
      rw [List.flatten_cons, List.getElem?_append_right (by rw [hr]; omega), hr, show (i + 1) * 5 + j - 5 = i * 5 + j by omega, ih (fun r' h' => h r' (by simp [h'])) (by simpa using hi)]
      simp
theorem ShsOwn.done {A A' : Nat → Prop} {l : List Sh} (h : ShsOwn A w base e v l) (hl : l.length ≤ 70368744177664) (hA : ∀ j, A' j → A j) (hb : ∀ j, base ≤ j → ¬ A' j) : ShsAt A' w v l := by
  obtain ⟨rows, h1, h2, h3, h4⟩ := h
  rcases h2.open with ⟨rfl, hk, -⟩ | ⟨b, cap, tl, rfl, hbb, hcap, hcm, hbx⟩
  · have hn : l = [] := List.eq_nil_of_length_eq_zero hk
    subst hn
    exact ShsAt.nil _ _ _ _ (by simp)
  · refine ⟨some ⟨b, 0, none⟩, cap, fun i => rows.getD i [], rfl, hcap, hcm, hl, ⟨fun _ => ⟨b, 0, rfl, hb b hbb, fun i j hi hj => ?_⟩, h3, fun i hi => (h4 i hi).mono fun k _ hk => hA k hk⟩⟩
    have hr : ∀ r ∈ rows, r.length = 5 := fun r hr => by
      obtain ⟨i, hi, rfl⟩ := List.getElem_of_mem hr
      have := h3 i (by omega)
      rwa [List.getD_eq_getElem?_getD, List.getElem?_eq_getElem hi] at this
    have hf := flat5 hr hj (by omega : i < rows.length)
    have h5 : (rows.getD i []).length = 5 := h3 i hi
    have hv : (rows.getD i [])[j]? = some ((rows.getD i [])[j]'(by omega)) := List.getElem?_eq_getElem (by omega)
    show w.cell? ⟨b, 0 + i * 5 + j, none⟩ = (rows.getD i [])[j]?
    rw [hv] at hf ⊢
    have hlt : i * 5 + j < rows.flatten.length := (List.getElem?_eq_some_iff.1 hf).1
    rw [show 0 + i * 5 + j = i * 5 + j by omega]
    exact hbx.cell (by rw [List.getElem?_append_left hlt]; exact hf)
theorem strs_done {A : Nat → Prop} {l : List Str} (h : Own w base e 1 v l.length (l.map S)) (hl : l.length ≤ 70368744177664) (hx : ∀ x ∈ l, x.length ≤ 9223372036854775807) (hb : ∀ j, base ≤ j → ¬ A j) : StrsAt A w v l := by
  rcases h.open with ⟨rfl, hk, -⟩ | ⟨b, cap, tl, rfl, hbb, hcap, hcm, hbx⟩
  · have hn : l = [] := List.eq_nil_of_length_eq_zero hk
    subst hn
    exact StrsAt.nil _ _ _ _ (by simp)
  · refine ⟨_, cap, rfl, hcap, hcm, hl, hx, fun _ => ⟨b, 0, rfl, hb b hbb, fun i hi => hbx.cell0 ?_⟩⟩
    rw [List.getElem?_append_left (by simpa using hi)]
    simp [hi]
theorem av_step {w2 : World} (hs : w.heap.size ≤ w2.heap.size) (h1 : v1.ownBlock = v.ownBlock ∨ v1.ownBlock = some w.heap.size) (h2 : v2.ownBlock = v'.ownBlock ∨ v2.ownBlock = some w.heap.size) {j : Nat} (h : Av n0 w2 v1 v2 j) : Av n0 w v v' j := by
  rcases h with h | h | h | h
  · exact .inl h
  · rcases h1 with e | e
    · exact .inr (.inl (h.trans e))
    · rw [e] at h; exact .inr (.inr (.inr (by simp at h; omega)))
  · rcases h2 with e | e
    · exact .inr (.inr (.inl (h.trans e)))
    · rw [e] at h; exact .inr (.inr (.inr (by simp at h; omega)))
  · exact .inr (.inr (.inr (by omega)))
theorem av_mono {w2 : World} (hs : w.heap.size ≤ w2.heap.size) {j : Nat} (h : Av n0 w2 v1 v2 j) : Av n0 w v1 v2 j := av_step hs (.inl rfl) (.inl rfl) h
def Ge (b : Nat) (w : World) : Prop := b ≤ w.heap.size
theorem Ge.carryR {R : Nat → Prop} {b : Nat} (h : Ge b w) (g : Gr R w w') : Ge b w' := Nat.le_trans h g.size
theorem Ge.carry {b : Nat} (h : Ge b w) (g : Bel w w') : Ge b w' := h.carryR g
theorem own_ne {base base' k k' sz sz' : Nat} {e e' : TypeId} {xs xs' : List Value} (h : Own w base e sz v k xs) (h' : Own w base' e' sz' v' k' xs') (hne : Nat.beq e e' = false) {j : Nat} (hj : some j = v.ownBlock) : ¬ some j = v'.ownBlock := by
  intro hj'
  rcases h.2 with ⟨rfl, -⟩ | ⟨b, cap, cur, rfl, -, hg, -⟩
  · simp [Value.ownBlock] at hj
  · rcases h'.2 with ⟨rfl, -⟩ | ⟨b', cap', cur', rfl, -, hg', -⟩
    · simp [Value.ownBlock] at hj'
    · simp [Value.ownBlock] at hj hj'
      subst hj; subst hj'
      rw [hg] at hg'
      have : e = e' := by simp at hg'; exact hg'.2
      subst this; simp at hne
theorem own_form {base sz k : Nat} {e : TypeId} {xs : List Value} (h : Own w base e sz v (k + 1) xs) : ∃ b cap, v = .slice (some ⟨b, 0, none⟩) (k + 1) cap := by
  rcases h.open with ⟨-, h, -⟩ | ⟨b, cap, tl, rfl, -⟩
  · omega
  · exact ⟨b, cap, rfl⟩
theorem own_one {base sz k : Nat} {e : TypeId} {xs : List Value} (h : Own w base e sz v k xs) : v.oneCell' = true := by
  rcases h.open with ⟨rfl, -⟩ | ⟨_, _, _, rfl, -⟩ <;> rfl
theorem ShRow.elemAt {A : Nat → Prop} {b o : Nat} {row : Nat → List Value} {l : List Sh} (h : ShRow A w (some ⟨b, o, none⟩) row l) {i : Nat} (hi : i < l.length) : ∀ j, j < 5 → w.cell? ⟨b, o + i * 5 + j, none⟩ = (row i)[j]? := by
  obtain ⟨b', o', e, hc⟩ := h.elem hi
  simp only [Option.some.injEq, Addr.mk.injEq] at e
  intro j hj
  rw [e.1, e.2.1]; exact hc j hj
theorem own_shape {w : World} {base sz k : Nat} {e : TypeId} {v : Value} {xs : List Value} (h : Own w base e sz v k xs) : ∃ a c, v = .slice a k c ∧ k ≤ c := by
  rcases h.open with ⟨rfl, rfl, -⟩ | ⟨b, cap, tl, rfl, -, h1, -⟩
  · exact ⟨none, 0, rfl, Nat.le_refl _⟩
  · exact ⟨_, cap, rfl, h1⟩
section
variable {P : Program}
def finR (P : Program) (fn : Func) (Φ : Value → World → Prop) : Post := fun e D E w => (e = .normal ∨ e = .ret) ∧ D = [] ∧ ∃ v, (∀ a : Array Value, (∀ t, a.getD t undef = E t) → (results fn a).run P w = .ok v w) ∧ Φ v w
theorem finR_mk {fn : Func} {Φ : Value → World → Prop} {e : Exit} {E : Env} {w : World} (he : e = .normal ∨ e = .ret) (h : ∃ v, (∀ a : Array Value, (∀ t, a.getD t undef = E t) → (results fn a).run P w = .ok v w) ∧ Φ v w) : finR P fn Φ e [] E w := ⟨he, rfl, h⟩
theorem ret_of_W_R {f : FuncId} {fn : Func} {c : Code} {args : Array Value} {Φ : Value → World → Prop}
    (hf : P.funcs[f]? = some fn) (hb : fn.body = some c) (hn : args.size ≤ fn.ntmps) (h : W P fn.ntmps c (finR P fn Φ) [] (env0 args.toList) w) : Ret P f args w Φ := by
  refine calls_of_wp hf hb (wp_mono (h _ (fr0 hn)) ?_)
  rintro e a' w' ⟨he, E', hE, h1, hD, v, hv, hΦ⟩
  rcases h1 with rfl | rfl
  · exact ⟨hD, v, hv _ hE.get, _, rfl, hΦ⟩
  · exact ⟨hD, v, hv _ hE.get, _, rfl, hΦ⟩
theorem resS {fn : Func} {t : Tmp} {T : TypeId} {E : Env} {b n : Nat} {T' : TypeId} {cs : List Value} (hr : fn.results = #[.cell t T]) (ht : aggT P T n = true) (hE : E t = .pointer (some ⟨b, 0, none⟩)) (hb : Box w b T' cs) (hl : cs.length = n) :
    ∀ a : Array Value, (∀ t, a.getD t undef = E t) → (results fn a).run P w = .ok (.agg cs.toArray) w := by
  intro a ha
  have hg : a.getD t undef = .pointer (some ⟨b, 0, none⟩) := by rw [ha, hE]
  have hload : (loadVar T ⟨b, 0, none⟩).run P w = .ok (.agg cs.toArray) w := by
    unfold aggT at ht
    simp only [Bool.and_eq_true, beq_iff_eq] at ht
    obtain ⟨h1, h2⟩ := ht
    cases hu : P.underlying T with
    | none => simp [hu] at h1
    | some d =>
      rw [hu] at h1
      exact run_loadVar_row w b T' T cs.toArray (0, 0) d hb hu (by cases d <;> simp_all) (by rw [h2]; simp [hl])
  rw [Array.getD_eq_getD_getElem?] at hg
  simp [results, hr, hg, asAddr, hload]
end
end Go.Gx
