/- An argument that is a type, or a row of strings, opened as it is read. Conditions: none. -/
import Derived.SizedLaws
import Derived.Deep.Slices
import Derived.Test.YteehllhldaopjaaGdRep
namespace Go.Gx
open Go.ChangeShapes Go.WideShapes Go.Deep
section
variable {H : Type} {enc : TypeId × Value → H} {P : Program} {w : World} {base : Nat} {spare : Nat → Bool} {held : Bool}
theorem weights_at {t : TypeId} {fs : Array Field} {ds : List (DataW H)} {N : Nat} (ht : P.underlying t = some (.struct fs)) (h : ((DataW.agg ds).weights P t).all (· ≤ N) = true) {i : Nat} {f : Field} {d : DataW H} (hf : fs[i]? = some f) (hd : ds[i]? = some d) : (d.weights P f.type).all (· ≤ N) = true := by
  have h0 : (DataW.agg ds).weights P t = DataW.weightsEach P (fs.toList.map (·.type)) ds := by simp [DataW.weights, ht]
  rw [h0] at h
  rw [List.all_eq_true] at h ⊢
  intro n hn
  exact h n (DataW.weights_mem_each (t := f.type) (by simp [hf]) hd n hn)
theorem weightsAll_mem {e : TypeId} : ∀ {l : List (DataW H)} {d : DataW H}, d ∈ l → ∀ n ∈ d.weights P e, n ∈ DataW.weightsAll P e l
  | x :: l, d, hd, n, hn => by
    rcases List.mem_cons.1 hd with rfl | hd
    · simp only [DataW.weightsAll, List.mem_append]; exact .inl hn
    · simp only [DataW.weightsAll, List.mem_append]; exact .inr (weightsAll_mem hd n hn)
theorem weights_slice {t e : TypeId} {l r : List (DataW H)} {N : Nat} (ht : P.underlying t = some (.slice e)) (h : ((DataW.slice l r).weights P t).all (· ≤ N) = true) : (l.length + r.length) * P.bytesOf e ≤ N ∧ ∀ d ∈ l, (d.weights P e).all (· ≤ N) = true := by
  have h0 : (DataW.slice l r).weights P t = (l.length + r.length) * P.bytesOf e :: (DataW.weightsAll P e l ++ DataW.weightsAll P e r) := by simp [DataW.weights, ht]
  rw [h0, List.all_eq_true] at h
  refine ⟨by simpa using h _ (List.mem_cons_self ..), fun d hd => List.all_eq_true.2 fun n hn => h n (List.mem_cons_of_mem _ (List.mem_append_left _ (weightsAll_mem hd n hn)))⟩
theorem max_le {s : ByteArray} (h : s.size ≤ maxLen) : s.data.toList.length ≤ 9223372036854775807 := by
  have h1 : s.data.toList.length = s.size := Array.length_toList
  have h2 : maxLen = 9223372036854775807 := rfl
  omega
theorem strs_open {t e : TypeId} {fuel : Nat} {v : Value} {x : DataW H × List MemPlace} (ht : P.underlying t = some (.slice e)) (he : P.underlying e = some .string) (hc : P.cellsOf e = 1) (hb : 2 ≤ P.bytesOf e)
    (h : DataW.trod enc P w base spare held fuel t [v] = some x) (hw : (x.1.weights P t).all (· ≤ reachBytes) = true) : ∃ l, StrsAt (fun _ => False) w v l := by
  rcases open_slice1 ht hc h with ⟨h1, rfl⟩ | ⟨a, len, cap, m, n, V, D, Pl, h1, -, hl, hm, hmm, rfl, hx⟩
  · simp only [List.cons.injEq, and_true] at h1
    exact ⟨[], h1 ▸ StrsAt.nil _ _ _ _ (by simp)⟩
  · simp only [List.cons.injEq, and_true] at h1
    subst h1
    have hlm : len ≤ m := by rw [hmm]; split <;> omega
    have hs : ∀ i, i < len → ∃ s : Str, V i = S s ∧ s.length ≤ 9223372036854775807 := fun i hi => by
      obtain ⟨s, h1, -, h2⟩ := DataW.trod_string he (hx i (by omega)).2
      simp only [List.cons.injEq, and_true] at h1
      exact ⟨s.data.toList, by rw [h1]; simp [S], max_le h2⟩
    obtain ⟨f, hf⟩ := choose_lt (α := Str) hs
    have hby := (weights_slice ht hw).1
    have hlen : len ≤ 70368744177664 := by
      have h1 : len * P.bytesOf e ≤ reachBytes := Nat.le_trans (Nat.mul_le_mul_right _ (by simp)) hby
      have h2 : len * 2 ≤ len * P.bytesOf e := Nat.mul_le_mul_left _ hb
      have h3 := reachBytes_lt
      omega
    have e0 : ((List.range len).map f).length = len := by simp
    refine ⟨(List.range len).map f, some a, cap, by rw [e0], by rw [e0]; exact hl, hm, by rw [e0]; exact hlen, ?_, fun hne => ?_⟩
    · intro x hx
      obtain ⟨i, hi, rfl⟩ := List.mem_map.1 hx
      exact (hf i (by simpa using hi)).2
    · have h0 : 0 < len := by rcases Nat.eq_zero_or_pos len with h | h; exact absurd (by rw [h]; rfl) hne; exact h
      have hc0 := (hx 0 (by omega)).1
      obtain ⟨b, o, spot⟩ := a
      have hspot : spot = none := by simpa [Addr.add] using World.cell?_spot hc0
      subst hspot
      refine ⟨b, o, rfl, fun f => f, fun i hi => ?_⟩
      rw [e0] at hi
      have hci := (hx i (by omega)).1
      rw [add_plain] at hci
      rw [hci, (hf i hi).1]
      simp [hi]
structure ShT (P : Program) (tS eN : TypeId) (f0 f1 f2 f3 f4 : Field) : Prop where
  hS : P.underlying tS = some (.struct #[f0, f1, f2, f3, f4])
  h0 : P.underlying f0.type = some (.int .i64)
  h1 : P.underlying f1.type = some .string
  h2 : P.underlying f2.type = some .string
  h3 : P.underlying f3.type = some (.slice eN)
  hN : P.underlying eN = some .string
  h4 : P.underlying f4.type = some (.slice tS)
  o : f0.offset = 0 ∧ f1.offset = 1 ∧ f2.offset = 2 ∧ f3.offset = 3 ∧ f4.offset = 4
  c : P.cellsOf f0.type = 1 ∧ P.cellsOf f1.type = 1 ∧ P.cellsOf f2.type = 1 ∧ P.cellsOf f3.type = 1 ∧ P.cellsOf f4.type = 1
  cS : P.cellsOf tS = 5
  cN : P.cellsOf eN = 1
  bS : 2 ≤ P.bytesOf tS
  bN : 2 ≤ P.bytesOf eN
theorem sh_open {tS eN : TypeId} {f0 f1 f2 f3 f4 : Field} (T : ShT P tS eN f0 f1 f2 f3 f4) : ∀ (fuel : Nat) (cs : List Value) (x : DataW H × List MemPlace), DataW.trod enc P w base spare held fuel tS cs = some x →
    (x.1.weights P tS).all (· ≤ reachBytes) = true → ∃ s, ShC (fun _ => False) w cs s := by
  intro fuel
  induction fuel using Nat.strongRecOn with
  | _ fuel ih =>
    intro cs x h hw
    obtain ⟨xs, n, rfl, rfl, hlen, hxl, hf⟩ := DataW.trod_struct T.hS h
    rw [T.cS] at hlen
    obtain ⟨o0, o1, o2, o3, o4⟩ := T.o
    obtain ⟨c0, c1, c2, c3, c4⟩ := T.c
    match cs, hlen with
    | [v0, v1, v2, v3, v4], _ =>
      match xs, hxl with
      | [x0, x1, x2, x3, x4], _ =>
        have g0 := hf 0 f0 rfl
        have g1 := hf 1 f1 rfl
        have g2 := hf 2 f2 rfl
        have g3 := hf 3 f3 rfl
        have g4 := hf 4 f4 rfl
        rw [o0, c0] at g0; rw [o1, c1] at g1; rw [o2, c2] at g2; rw [o3, c3] at g3; rw [o4, c4] at g4
        have w3 := weights_at T.hS hw (i := 3) (f := f3) (d := x3.1) rfl rfl
        have w4 := weights_at T.hS hw (i := 4) (f := f4) (d := x4.1) rfl rfl
        obtain ⟨k, e0, -, -⟩ := DataW.trod_int T.h0 (x := x0) g0
        obtain ⟨s1, e1, -, l1⟩ := DataW.trod_string T.h1 (x := x1) g1
        obtain ⟨s2, e2, -, l2⟩ := DataW.trod_string T.h2 (x := x2) g2
        obtain ⟨ns, hns⟩ := strs_open T.h3 T.hN T.cN T.bN (x := x3) g3 w3
        simp at e0 e1 e2
        have hps : ∃ ps, ShsAt (fun _ => False) w v4 ps := by
          rcases DataW.trod_slice T.h4 (x := x4) g4 with ⟨h1, rfl⟩ | ⟨a, len, cap, elems, rest, n', hn', h1, rfl, -, hl, hm, hel, hx, -, -⟩
          · simp at h1
            exact ⟨[], h1 ▸ ShsAt.nil _ _ _ _ (by simp)⟩
          · simp at h1
            subst h1
            obtain ⟨hby, hwd⟩ := weights_slice T.h4 w4
            have hlen : len ≤ 70368744177664 := by
              have h1 : len * P.bytesOf tS ≤ reachBytes := Nat.le_trans (Nat.mul_le_mul_right _ (by simp [hel])) hby
              have h2 : len * 2 ≤ len * P.bytesOf tS := Nat.mul_le_mul_left _ T.bS
              have h3 := reachBytes_lt
              omega
            have each : ∀ i, i < len → ∃ p : List Value × Sh, p.1.length = 5 ∧ (∀ j, j < 5 → w.cell? ((a.add (i * 5)).add j) = p.1[j]?) ∧ ShC (fun _ => False) w p.1 p.2 := fun i hi => by
              have h0 := hx i hi
              rw [List.getElem?_eq_getElem (by omega)] at h0
              obtain ⟨cs', h1, h2⟩ := Option.bind_eq_some_iff.1 h0
              rw [T.cS] at h1
              obtain ⟨-, h3, h4⟩ := World.cells?_some h1
              obtain ⟨s, hs⟩ := ih n' (by omega) cs' _ h2 (hwd _ (List.mem_map_of_mem (List.getElem_mem _)))
              exact ⟨(cs', s), h3, h4, hs⟩
            obtain ⟨F, hF⟩ := choose_lt (α := List Value × Sh) each
            have e0 : ((List.range len).map fun i => (F i).2).length = len := by simp
            refine ⟨(List.range len).map fun i => (F i).2, some a, cap, fun i => (F i).1, by rw [e0], by rw [e0]; exact hl, hm, by rw [e0]; exact hlen, ?_⟩
            refine ⟨fun hne => ?_, fun i hi => (hF i (by rw [e0] at hi; exact hi)).1, fun i hi => ?_⟩
            · have h0 : 0 < len := by rcases Nat.eq_zero_or_pos len with h | h; exact absurd (by rw [h]; rfl) hne; exact h
              obtain ⟨q1, q2, -⟩ := hF 0 h0
              have hc0 := q2 0 (by omega)
              rw [List.getElem?_eq_getElem (by omega)] at hc0
              obtain ⟨b, o, spot⟩ := a
              have hspot : spot = none := by simpa [Addr.add] using World.cell?_spot hc0
              subst hspot
              refine ⟨b, o, rfl, fun f => f, fun i j hi hj => ?_⟩
              rw [e0] at hi
              have := (hF i hi).2.1 j hj
              rw [add_plain, add_plain] at this
              exact this
            · rw [e0] at hi
              have := (hF i hi).2.2
              simpa [hi] using this
        obtain ⟨ps, hps⟩ := hps
        refine ⟨.mk k s1.data.toList s2.data.toList ns ps, ?_⟩
        rw [e0, e1, e2]
        have := ShC.intro (k := k) (of := s1.data.toList) (nm := s2.data.toList) hns hps (max_le l1) (max_le l2)
        simpa [S] using this
end
end Go.Gx
