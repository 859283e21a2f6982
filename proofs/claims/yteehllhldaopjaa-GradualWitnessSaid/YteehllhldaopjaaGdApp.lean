/- Slices that a call makes itself: literals, append. Conditions: none. -/
import Derived.Great.BuildSlice
import Derived.Test.YteehllhldaopjaaGdRep
namespace Go.Gx
open Go.RowKit
def elT (P : Program) (e : TypeId) (sz : Nat) : Bool :=
  match P.info? e with
  | some i => match i.zero with
    | some z => i.size == sz && z.cells.size == sz && decide (0 < sz) && decide (i.bytes ≤ 200)
    | none => false
  | none => false
theorem elT_spec {P : Program} {e : TypeId} {sz : Nat} (h : elT P e sz = true) : ∃ i z, P.info? e = some i ∧ i.zero = some z ∧ i.size = sz ∧ z.cells.size = sz ∧ 0 < sz ∧ i.bytes ≤ 200 := by
  unfold elT at h
  cases hi : P.info? e with
  | none => simp [hi] at h
  | some i =>
    cases hz : i.zero with
    | none => simp [hi, hz] at h
    | some z =>
      simp only [hi, hz, Bool.and_eq_true, beq_iff_eq, decide_eq_true_eq] at h
      exact ⟨i, z, rfl, hz, h.1.1.1, h.1.1.2, h.1.2, h.2⟩
section
variable {P : Program} {n : Nat} {Q : Post} {D : List Deferred} {E : Env} {w : World}
def partsOk (sz : Nat) : Nat → List (Nat × Value) → Bool
  | _, [] => true
  | k, (i, v) :: r => i == k && v.cells.size == sz && partsOk sz (k + 1) r
theorem fill_parts (sz : Nat) : ∀ (vs : List (Nat × Value)) (k : Nat) (pre post : List Value), partsOk sz k vs = true → pre.length = k * sz → post.length = vs.length * sz →
    Instr.fill (fun i => some (i * sz, sz)) (pre ++ post).toArray vs = some (pre ++ (vs.map fun x => x.2.cells.toList).flatten).toArray := by
  intro vs
  induction vs with
  | nil =>
    intro k pre post _ _ hpost
    have : post = [] := by simpa using hpost
    simp [Instr.fill, this]
  | cons x vs ih =>
    obtain ⟨i, v⟩ := x
    intro k pre post hok hpre hpost
    simp only [partsOk, Bool.and_eq_true, beq_iff_eq] at hok
    obtain ⟨⟨hik, hv⟩, hr⟩ := hok
    subst hik
    have hlen : (pre ++ post).length = i * sz + (vs.length + 1) * sz := by rw [List.length_append, hpre, hpost]; simp
    have hsz : sz ≤ (vs.length + 1) * sz := Nat.le_mul_of_pos_left _ (by omega)
    have hfold : ∀ (cs : List Value) (a b : List Value), cs.length ≤ b.length →
        (cs.zipIdx).foldl (fun (acc : Array Value) (x : Value × Nat) => acc.setIfInBounds (a.length + x.2) x.1) (a ++ b).toArray = (a ++ cs ++ b.drop cs.length).toArray := by
      intro cs
      suffices H : ∀ (cs : List Value) (j : Nat) (a b : List Value), cs.length ≤ b.length →
          (cs.zipIdx j).foldl (fun (acc : Array Value) (x : Value × Nat) => acc.setIfInBounds (a.length + x.2 - j) x.1) (a ++ b).toArray = (a ++ cs ++ b.drop cs.length).toArray from
        fun a b h => by simpa using H cs 0 a b h
      intro cs
      induction cs with
      | nil => intro j a b _; simp
      | cons c cs ihc =>
        intro j a b hb
        cases b with
        | nil => simp at hb
        | cons b0 b =>
          have h1 := ihc (j + 1) (a ++ [c]) b (by simpa using hb)
          simp only [List.zipIdx_cons, List.foldl_cons]
          have e1 : (a ++ b0 :: b).toArray.setIfInBounds (a.length + j - j) c = (a ++ [c] ++ b).toArray := by
            simp
          rw [e1]
          have e2 : (fun (acc : Array Value) (x : Value × Nat) => acc.setIfInBounds (a.length + x.2 - j) x.1) = (fun (acc : Array Value) (x : Value × Nat) => acc.setIfInBounds ((a ++ [c]).length + x.2 - (j + 1)) x.1) := by
            funext acc x; congr 1; simp; omega
          rw [e2, h1]; simp
    simp only [Instr.fill]
    have hno : ¬ (v.cells.size ≠ sz || decide (i * sz + v.cells.size > (pre ++ post).toArray.size)) = true := by
      simp only [hv, List.size_toArray, hlen]
      simp; omega
    rw [if_neg hno]
    have h2 := hfold v.cells.toList pre post (by simp [hv, hpost]; omega)
    rw [hpre] at h2
    have e3 : (Array.foldl (fun (cs : Array Value) (x : Value × Nat) => cs.setIfInBounds (i * sz + x.2) x.1) (pre ++ post).toArray v.cells.zipIdx) = (pre ++ v.cells.toList ++ post.drop v.cells.toList.length).toArray := by
      rw [← h2, ← Array.foldl_toList, Array.toList_zipIdx]
    have e4 := ih (i + 1) (pre ++ v.cells.toList) (post.drop v.cells.toList.length) hr (by simp [hpre, hv, Nat.add_mul]) (by simp [hpost, hv, Nat.add_mul])
    simp only [List.map_cons, List.flatten_cons, ← List.append_assoc]
    rw [← e4]
    exact congrArg (fun a => Instr.fill (fun i => some (i * sz, sz)) a vs) e3
theorem x_bs {T e : TypeId} {len sz : Nat} {ps : Array (Nat × Operand)} {t : TypeId} {vs : List (Nat × Value)} {cells : List Value}
    (hu : P.underlying T = some (.slice e)) (he : elT P e sz = true) (hp : ps.toList.map (fun x => (x.1, ev E x.2)) = vs) (hok : (partsOk sz 0 vs && decide (vs.length = len) && decide (0 < len) && decide (len * sz ≤ 16777216)) = true)
    (hc : (vs.map fun x => x.2.cells.toList).flatten = cells) : X P (.buildSlice T len ps) t E w (.slice (some ⟨w.heap.size, 0, none⟩) len len) (w.alloc (.cells cells.toArray e)) := by
  obtain ⟨i, z, hi, hz, hs, hzs, hpos, -⟩ := elT_spec he
  simp only [Bool.and_eq_true, decide_eq_true_eq] at hok
  obtain ⟨⟨⟨hok, hlen⟩, hl0⟩, hbig⟩ := hok
  have hrun := Go.run_buildSlice (P := P) w T e len (ps.map fun x => (x.1, ev E x.2)) cells.toArray i z hu hi hz (by rw [hs]; omega) (by rw [hs]; have := Nat.mul_pos hl0 hpos; omega) (by
    have := fill_parts sz vs 0 [] ((Array.range (len * sz)).map (z.cells[· % z.cells.size]!)).toList hok (by simp) (by simp [hlen])
    rw [hs, Array.toList_map, hp]
    rw [List.nil_append, Array.toArray_toList, hc] at this
    exact this)
  unfold X
  simp only [execOp, Sem.run_bind, hrun]
  rfl
theorem L.bs {ops : Array Oper} {r : List Oper} {d : Nat} {T e : TypeId} {len sz : Nat} {ps : Array (Nat × Operand)} {t : TypeId} {p : String} {af : Array Edge} {vs : List (Nat × Value)} {cells : List Value}
    (hu : P.underlying T = some (.slice e)) (he : elT P e sz = true) (hp : ps.toList.map (fun x => (x.1, ev E x.2)) = vs) (hok : (partsOk sz 0 vs && decide (vs.length = len) && decide (0 < len) && decide (len * sz ≤ 16777216)) = true)
    (hc : (vs.map fun x => x.2.cells.toList).flatten = cells) (hd : Nat.blt d n = true)
    (k : ∀ w1, Box w1 w.heap.size e cells → Bel w w1 → w1.heap.size = w.heap.size + 1 → L P n ops Q r D (upd E d (.slice (some ⟨w.heap.size, 0, none⟩) len len)) w1) :
    L P n ops Q (⟨some d, .buildSlice T len ps, t, p, af, none⟩ :: r) D E w :=
  L.val (x_bs hu he hp hok hc) hd (k _ (box_alloc _ _ _) (bel_alloc _ _) (by simp))
def fillS (places : List (Nat × Nat)) : List Value → List (Nat × Value) → Option (List Value)
  | zero, [] => some zero
  | zero, (i, v) :: r => match places[i]? with
    | none => none
    | some (off, size) => if v.cells.size = size ∧ off + size ≤ zero.length then fillS places (zero.take off ++ v.cells.toList ++ zero.drop (off + size)) r else none
theorem fill_S (places : List (Nat × Nat)) : ∀ (vs : List (Nat × Value)) (zero cells : List Value), fillS places zero vs = some cells → Instr.fill (places.toArray[·]?) zero.toArray vs = some cells.toArray := by
  intro vs
  induction vs with
  | nil => intro zero cells h; simp only [fillS, Option.some.injEq] at h; simp [Instr.fill, h]
  | cons x vs ih =>
    obtain ⟨i, v⟩ := x
    intro zero cells h
    simp only [fillS] at h
    simp only [Instr.fill, List.getElem?_toArray]
    cases hp : places[i]? with
    | none => simp [hp] at h
    | some y =>
      obtain ⟨off, size⟩ := y
      simp only [hp] at h
      split at h
      · rename_i hc
        obtain ⟨h1, h2⟩ := hc
        have hno : ¬ (v.cells.size ≠ size || decide (off + v.cells.size > zero.toArray.size)) = true := by simp [h1]; omega
        simp only
        rw [if_neg hno, ← ih _ _ h]
        have hfold : ∀ (cs : List Value) (j : Nat) (a b : List Value), cs.length ≤ b.length →
            (cs.zipIdx j).foldl (fun (acc : Array Value) (x : Value × Nat) => acc.setIfInBounds (a.length + x.2 - j) x.1) (a ++ b).toArray = (a ++ cs ++ b.drop cs.length).toArray := by
          intro cs
          induction cs with
          | nil => intro j a b _; simp
          | cons c cs ihc =>
            intro j a b hb
            cases b with
            | nil => simp at hb
            | cons b0 b =>
              have h1 := ihc (j + 1) (a ++ [c]) b (by simpa using hb)
              simp only [List.zipIdx_cons, List.foldl_cons]
              have e1 : (a ++ b0 :: b).toArray.setIfInBounds (a.length + j - j) c = (a ++ [c] ++ b).toArray := by
                simp
              rw [e1]
              have e2 : (fun (acc : Array Value) (x : Value × Nat) => acc.setIfInBounds (a.length + x.2 - j) x.1) = (fun (acc : Array Value) (x : Value × Nat) => acc.setIfInBounds ((a ++ [c]).length + x.2 - (j + 1)) x.1) := by
                funext acc x; congr 1; simp; omega
              rw [e2, h1]; simp
        have h3 := hfold v.cells.toList 0 (zero.take off) (zero.drop off) (by simp [h1]; omega)
        have e0 : (zero.take off).length = off := by simp; omega
        rw [List.take_append_drop, e0, Array.length_toList, h1, List.drop_drop] at h3
        have e3 : (Array.foldl (fun (cs : Array Value) (x : Value × Nat) => cs.setIfInBounds (off + x.2) x.1) zero.toArray v.cells.zipIdx) = (zero.take off ++ v.cells.toList ++ zero.drop (off + size)).toArray := by
          rw [← h3, ← Array.foldl_toList, Array.toList_zipIdx]; rfl
        have e5 := congrArg (fun a => Instr.fill (places.toArray[·]?) a vs) e3
        simp only [List.getElem?_toArray] at e5 ⊢
        exact e5
      · cases h
def structInfo (P : Program) (s : TypeId) : Option (List (Nat × Nat) × List Value) :=
  match P.underlying s with
  | some (.struct fs) => match (fs.toList.mapM fun f => (P.info? f.type).map fun i => (f.offset, i.size)), (P.info? s).bind (·.zero) with
    | some ps, some z => some (ps, z.cells.toList)
    | _, _ => none
  | _ => none
theorem mapM_places (P : Program) (w : World) : ∀ (fs : List Field) (ps : List (Nat × Nat)), (fs.mapM fun f => (P.info? f.type).map fun i => (f.offset, i.size)) = some ps →
    ((fs.mapM fun f => do pure (f.offset, ← sizeOf f.type) : Sem (List (Nat × Nat)))).run P w = .ok ps w := by
  intro fs
  induction fs with
  | nil => intro ps h; simp only [List.mapM_nil, Option.pure_def, Option.some.injEq] at h; subst h; simp
  | cons f fs ih =>
    intro ps h
    simp only [List.mapM_cons, Option.bind_eq_bind, Option.pure_def] at h
    cases hi : P.info? f.type with
    | none => simp [hi] at h
    | some i =>
      simp only [hi, Option.map_some, Option.bind_some] at h
      cases hm : (fs.mapM fun f => (P.info? f.type).map fun i => (f.offset, i.size)) with
      | none => simp [hm] at h
      | some qs =>
        simp only [hm, Option.bind_some, Option.some.injEq] at h
        have h2 := ih _ hm
        subst h
        simp only [List.mapM_cons, sizeOf, typeInfo, Sem.run_bind, Sem.run_pure, Result.andThen_ok, run_program, hi] at h2 ⊢
        rw [h2]
        rfl
theorem x_build {ps : Array (Nat × Operand)} {t s : TypeId} {vs : List (Nat × Value)} {places : List (Nat × Nat)} {zero cells : List Value} (hs : structInfo P s = some (places, zero))
    (hp : ps.toList.map (fun x => (x.1, ev E x.2)) = vs) (hf : fillS places zero vs = some cells) : X P (.build s ps) t E w (.agg cells.toArray) w := by
  unfold X
  unfold structInfo at hs
  cases hu : P.underlying s with
  | none => simp [hu] at hs
  | some ud =>
    cases ud <;> simp only [hu] at hs <;> try cases hs
    rename_i fs
    cases hz : (P.info? s).bind (·.zero) with
    | none => simp [hz] at hs
    | some z =>
      cases hm : (fs.toList.mapM fun f => (P.info? f.type).map fun i => (f.offset, i.size)) with
      | none => simp [hz, hm] at hs
      | some qs =>
        simp only [hz, hm, Option.some.injEq, Prod.mk.injEq] at hs
        obtain ⟨rfl, rfl⟩ := hs
        cases hi : P.info? s with
        | none => simp [hi] at hz
        | some i =>
          simp only [hi, Option.bind_some] at hz
          have hpl := mapM_places P w fs.toList _ hm
          have hpl' : ((fs.mapM fun f => do pure (f.offset, ← sizeOf f.type) : Sem (Array (Nat × Nat)))).run P w = .ok qs.toArray w := by
            rw [← Array.toArray_toList (xs := fs), List.mapM_toArray]
            show Sem.run P ((fs.toList.mapM fun f => do pure (f.offset, ← sizeOf f.type) : Sem (List (Nat × Nat))) >>= fun x => pure x.toArray) w = _
            rw [Sem.run_bind, hpl]
            rfl
          have hfl := fill_S qs vs _ _ hf
          have hv' : (ps.map fun x => (x.1, ev E x.2)).toList = vs := by rw [Array.toList_map]; exact hp
          rw [Array.toArray_toList] at hfl
          simp only [execOp, Instr.build, zeroValue, typeInfo, Sem.run_bind, run_program, Result.andThen_ok, hi, hz, Sem.run_pure, run_underlying hu, hpl', hv', hfl]
end
theorem strs_of_box {A : Nat → Prop} {w : World} {b : Nat} {t : TypeId} (l : List Str) (h : Box w b t (l.map S)) (hA : ¬ A b) (hl : l.length ≤ 70368744177664) (hx : ∀ x ∈ l, x.length ≤ 9223372036854775807) : StrsAt A w (.slice (some ⟨b, 0, none⟩) l.length l.length) l :=
  ⟨_, _, rfl, Nat.le_refl _, by omega, hl, hx, fun _ => ⟨b, 0, rfl, hA, fun i hi => h.cell0 (by simp [hi])⟩⟩
end Go.Gx
