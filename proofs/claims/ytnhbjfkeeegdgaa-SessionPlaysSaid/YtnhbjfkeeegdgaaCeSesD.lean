/- Sessions: what a session did, as it lies in memory. Conditions: none. -/
import Derived.Laws.StructEq
import Derived.Test.YtnhbjfkeeegdgaaCeSesW
namespace Go.Gx
open Go.Proofs
structure Dd where
  acts : List Ac
  values : List Str
  there : List Bool
  keys : List (List Str)
  at_ : Nat
  end_ : Int
  writes : Bool
  clashed : Bool
instance : Inhabited Dd := ⟨⟨[], [], [], [], 0, 0, false, false⟩⟩
def Dd.add (d : Dd) (a : Ac) (v : Str) (t : Bool) (k : List Str) : Dd := { d with acts := d.acts ++ [a], values := d.values ++ [v], there := d.there ++ [t], keys := d.keys ++ [k] }
theorem StrsAt.move {A A' : Nat → Prop} {w w' : World} (hc : ∀ (a : Addr) v, ¬ A a.block → w.cell? a = some v → w'.cell? a = some v ∧ ¬ A' a.block) {v : Value} {l : List Str} (h : StrsAt A w v l) : StrsAt A' w' v l := by
  have h1 : ShC A w [.int .i64 0, S [], S [], v, .slice none 0 0] (.mk 0 [] [] l []) := ShC.intro h (ShsAt.nil _ _ _ _ (by simp)) (by simp) (by simp)
  obtain ⟨vn, vp, e, h2, -⟩ := (h1.move hc).inv
  simp only [List.cons.injEq, and_true] at e
  rw [e.2.2.2.1]; exact h2
def StC (A : Nat → Prop) (w : World) (cs : List Value) (l : List Str) : Prop := ∃ v, cs = [v] ∧ StrsAt A w v l
instance car_stc : Car StC 1 where
  pos := by omega
  len := fun h => by obtain ⟨v, rfl, -⟩ := h; rfl
  one := fun h => by
    obtain ⟨v, rfl, h⟩ := h
    intro u hu
    rw [List.mem_singleton.1 hu]
    obtain ⟨_, _, rfl, -⟩ := h; rfl
  move := fun hc h => by obtain ⟨v, e, h⟩ := h; exact ⟨v, e, h.move hc⟩
def didV (va vv vt vk : Value) (d : Dd) : List Value := [va, vv, vt, vk, .int .i64 (d.at_ : Nat), .int .i64 d.end_, .bool d.writes, .bool d.clashed]
def DidAt (ow : Labels) (t : Nat) (w : World) (i : Nat) (cs : List Value) (d : Dd) : Prop :=
  ∃ va vv vt vk krows, cs = didV va vv vt vk d ∧ OwnP ow t (.eds i) w 36 5 va d.acts.length (d.acts.map acV).flatten ∧ OwnP ow t (.own i) w 9 1 vv d.values.length (d.values.map S) ∧
    OwnP ow t (.asked i) w 4 1 vt d.there.length (d.there.map Value.bool) ∧ OwnP ow t (.heads i) w 37 1 vk d.keys.length (List.flatten krows) ∧ RowsC StC (fun k => ow k ≠ none) w krows d.keys ∧
    (∀ a ∈ d.acts, EdOk a.ed) ∧ d.values.length = d.acts.length ∧ d.there.length = d.acts.length ∧ d.keys.length = d.acts.length
def DidsAt (ow : Labels) (t : Nat) (w : World) (v : Value) (ds : List Dd) : Prop :=
  ∃ rows, OwnP ow t .log w 41 8 v ds.length (List.flatten rows) ∧ rows.length = ds.length ∧ ∀ i, i < ds.length → DidAt ow t w i (rows.getD i []) (ds.getD i default)
theorem rows_goes {α : Type} [Inhabited α] {Th : Thing α} {k t' : Nat} [Car Th k] {r : List (List Value)} {l : List α} {ow ow' : Labels} {w w' : World} (h : RowsC Th (fun k => ow k ≠ none) w r l) (g : Goes t' w w' ow ow') : RowsC Th (fun k => ow' k ≠ none) w' r l := by
  refine ((h.mono (A' := fun k => ow k ≠ none ∨ w.heap.size ≤ k) fun k hk hn => hn.resolve_right (by omega)).carryR g.gr (fun j ⟨p, hp⟩ => .inl (by rw [hp]; simp))).mono fun k _ hn => ?_
  by_cases hlt : k < w.heap.size
  · rcases g.old k hlt with e | ⟨-, e⟩
    · exact .inl (by rw [← e]; exact hn)
    · exact absurd e hn
  · exact .inr (by omega)
theorem DidAt.goes {ow ow' : Labels} {t t' i : Nat} {w w' : World} {cs : List Value} {d : Dd} (h : DidAt ow t w i cs d) (g : Goes t' w w' ow ow') (hne : t ≠ t') : DidAt ow' t w' i cs d := by
  obtain ⟨va, vv, vt, vk, kr, h1, h2, h3, h4, h5, h6, h7⟩ := h
  exact ⟨va, vv, vt, vk, kr, h1, h2.goes g hne, h3.goes g hne, h4.goes g hne, h5.goes g hne, rows_goes h6 g, h7⟩
theorem DidsAt.goes {ow ow' : Labels} {t t' : Nat} {w w' : World} {v : Value} {ds : List Dd} (h : DidsAt ow t w v ds) (g : Goes t' w w' ow ow') (hne : t ≠ t') : DidsAt ow' t w' v ds := by
  obtain ⟨rows, h1, h2, h3⟩ := h
  exact ⟨rows, h1.goes g hne, h2, fun i hi => (h3 i hi).goes g hne⟩
theorem DidAt.keep {ow ow' : Labels} {t i : Nat} {C : Part → Prop} {w w' : World} {cs : List Value} {d : Dd} (h : DidAt ow t w i cs d) (g : Keeps t C w w' ow ow') (hne : ¬ C (.eds i) ∧ ¬ C (.own i) ∧ ¬ C (.asked i) ∧ ¬ C (.heads i)) : DidAt ow' t w' i cs d := by
  obtain ⟨n1, n2, n3, n4⟩ := hne
  obtain ⟨va, vv, vt, vk, kr, h1, h2, h3, h4, h5, h6, h7⟩ := h
  exact ⟨va, vv, vt, vk, kr, h1, h2.keep g n1, h3.keep g n2, h4.keep g n3, h5.keep g n4, rows_keep h6 g, h7⟩
theorem DidsAt.bel {ow : Labels} {t : Nat} {w w' : World} {v : Value} {ds : List Dd} (h : DidsAt ow t w v ds) (g : Bel w w') (hf : ∀ k, w.heap.size ≤ k → ow k = none) : DidsAt ow t w' v ds := by
  have hK : Keeps t (fun _ => False) w w' ow ow := Keeps.bel hf g
  obtain ⟨rows, h1, h2, h3⟩ := h
  exact ⟨rows, h1.keep hK (fun f => f), h2, fun i hi => (h3 i hi).keep hK ⟨fun f => f, fun f => f, fun f => f, fun f => f⟩⟩
structure Goes2 (tb td : Nat) (w w' : World) (ow ow' : Labels) : Prop where
  old : ∀ k, k < w.heap.size → ow' k = ow k ∨ ((Mine ow tb k ∨ Mine ow td k) ∧ ow' k = none)
  new : ∀ k, w.heap.size ≤ k → ow' k = none ∨ Mine ow' tb k ∨ Mine ow' td k
  gr : Gr (fun k => Mine ow tb k ∨ Mine ow td k) w w'
  end_ : ∀ k, w'.heap.size ≤ k → ow' k = none
theorem Goes.two {tb td : Nat} {w w' : World} {ow ow' : Labels} (h : Goes tb w w' ow ow') : Goes2 tb td w w' ow ow' :=
  ⟨fun k hk => (h.old k hk).imp id (fun ⟨m, e⟩ => ⟨.inl m, e⟩), fun k hk => (h.new k hk).imp id .inl, h.gr.mono (fun _ _ m => .inl m), h.end_⟩
theorem Goes.two' {tb td : Nat} {w w' : World} {ow ow' : Labels} (h : Goes td w w' ow ow') : Goes2 tb td w w' ow ow' :=
  ⟨fun k hk => (h.old k hk).imp id (fun ⟨m, e⟩ => ⟨.inr m, e⟩), fun k hk => (h.new k hk).imp id .inr, h.gr.mono (fun _ _ m => .inr m), h.end_⟩
theorem Goes2.back {tb td : Nat} {w w' : World} {ow ow' : Labels} (h : Goes2 tb td w w' ow ow') {k : Nat} (hk : k < w.heap.size) (m : Mine ow' tb k ∨ Mine ow' td k) : Mine ow tb k ∨ Mine ow td k := by
  rcases h.old k hk with e | ⟨-, e⟩
  · rcases m with ⟨p, m⟩ | ⟨p, m⟩
    · exact .inl ⟨p, by rw [← e]; exact m⟩
    · exact .inr ⟨p, by rw [← e]; exact m⟩
  · rcases m with ⟨p, m⟩ | ⟨p, m⟩ <;> (rw [e] at m; cases m)
theorem Goes2.trans {tb td : Nat} {w w' w'' : World} {ow ow' ow'' : Labels} (h : Goes2 tb td w w' ow ow') (h2 : Goes2 tb td w' w'' ow' ow'') : Goes2 tb td w w'' ow ow'' := by
  have hs := h.gr.size
  refine ⟨fun k hk => ?_, fun k hk => ?_, ?_, h2.end_⟩
  · rcases h2.old k (by omega) with e2 | ⟨m2, e2⟩
    · rcases h.old k hk with e | ⟨m, e⟩
      · exact .inl (e2.trans e)
      · exact .inr ⟨m, e2.trans e⟩
    · exact .inr ⟨h.back hk m2, e2⟩
  · by_cases hlt : k < w'.heap.size
    · rcases h2.old k hlt with e | ⟨-, e⟩
      · rcases h.new k hk with e1 | ⟨p, m⟩ | ⟨p, m⟩
        · exact .inl (e.trans e1)
        · exact .inr (.inl ⟨p, e.trans m⟩)
        · exact .inr (.inr ⟨p, e.trans m⟩)
      · exact .inl e
    · exact h2.new k (by omega)
  · exact ⟨h2.gr.os.trans h.gr.os, h2.gr.tape.trans h.gr.tape, h2.gr.output.trans h.gr.output, Nat.le_trans hs h2.gr.size, fun k hk hn => (h2.gr.block k (by omega) (fun m => hn (h.back hk m))).trans (h.gr.block k hk hn)⟩
theorem flat_set {k : Nat} {rows : List (List Value)} (h : ∀ r ∈ rows, r.length = k) {i j : Nat} (hi : i < rows.length) (hj : j < k) (x : Value) : rows.flatten.set (i * k + j) x = (rows.set i ((rows.getD i []).set j x)).flatten := by
  induction rows generalizing i with
  | nil => simp at hi
  | cons r rows ih =>
    have hr := h r (by simp)
    cases i with
    | zero =>
      rw [List.flatten_cons, List.set_append, if_pos (by rw [hr]; omega)]
      simp
    | succ i =>
      have e : (i + 1) * k + j - k = i * k + j := by rw [Nat.add_mul, Nat.one_mul]; omega
      rw [List.flatten_cons, List.set_append, if_neg (by rw [hr, Nat.add_mul, Nat.one_mul]; omega), hr, e, ih (fun q hq => h q (by simp [hq])) (by simpa using hi)]
      simp
theorem Own.reset {w w' : World} {base sz k cap b : Nat} {e : TypeId} {xs xs' cs cs' : List Value} (h : Own w base e sz (.slice (some ⟨b, 0, none⟩) k cap) k xs) (h0 : Box w b e cs) (h1 : Box w' b e cs') (hl : cs'.length = cs.length) (ht : cs'.take (k * sz) = xs') (hx : xs'.length = k * sz) :
    Own w' base e sz (.slice (some ⟨b, 0, none⟩) k cap) k xs' := by
  refine ⟨hx, ?_⟩
  rcases h.2 with ⟨e1, -⟩ | ⟨b', c, cur, e1, hb, hg, a1, a2, a3, a4⟩
  · cases e1
  · simp only [Value.slice.injEq, Option.some.injEq, Addr.mk.injEq, and_true, true_and] at e1
    obtain ⟨e1, e2⟩ := e1
    subst e1; subst e2
    unfold Box at h0 h1
    rw [h0] at hg
    simp only [Option.some.injEq, Obj.cells.injEq] at hg
    refine .inr ⟨b, cap, cs'.toArray, rfl, hb, h1, a1, a2, ?_, by simpa using ht⟩
    rw [← a3, ← hg.1]; simpa using hl
theorem set_append_left {α : Type} {a b : List α} {i : Nat} {x : α} (h : i < a.length) : (a ++ b).set i x = a.set i x ++ b := by rw [List.set_append, if_pos h]
end Go.Gx
namespace Go.Gx
open Go.Proofs
structure Bnd (N : Nat) (s : Bs) : Prop where
  al : s.all.length ≤ N
  lg : s.log.length ≤ N
  fi : s.first.length ≤ 40
  ll : ∀ l ∈ s.log, l.length ≤ N
  se : ∀ x ∈ s.all, x.at_ ≤ s.log.length ∧ x.eds.length ≤ N ∧ x.gets.length ≤ N ∧ x.heads.length ≤ N
theorem flat_le {l : List (List Ed)} {N : Nat} (h : ∀ x ∈ l, x.length ≤ N) : l.flatten.length ≤ l.length * N := by
  induction l with
  | nil => simp
  | cons a l ih =>
    rw [List.flatten_cons, List.length_append, List.length_cons, Nat.add_mul, Nat.one_mul, Nat.add_comm]
    have := h a (by simp)
    have := ih fun x hx => h x (by simp [hx])
    omega
theorem Bnd.flat {N : Nat} {s : Bs} (h : Bnd N s) (hN : N ≤ 900) : (s.first :: s.log).flatten.length ≤ 1000000 := by
  rw [List.flatten_cons, List.length_append]
  have h1 := flat_le h.ll
  have h2 : s.log.length * N ≤ 900 * 900 := Nat.mul_le_mul (Nat.le_trans h.lg hN) hN
  have := h.fi
  omega
theorem Bnd.mono {N M : Nat} {s : Bs} (h : Bnd N s) (hM : N ≤ M) : Bnd M s :=
  ⟨Nat.le_trans h.al hM, Nat.le_trans h.lg hM, h.fi, fun l hl => Nat.le_trans (h.ll l hl) hM, fun x hx => let ⟨a, b, c, d⟩ := h.se x hx; ⟨a, Nat.le_trans b hM, Nat.le_trans c hM, Nat.le_trans d hM⟩⟩
theorem Bnd.begin_ {N : Nat} {s : Bs} (h : Bnd N s) : Bnd (N + 1) s.begin_ := by
  refine ⟨by simp [Bs.begin_]; exact h.al, Nat.le_trans h.lg (by omega), h.fi, fun l hl => Nat.le_trans (h.ll l hl) (by omega), fun x hx => ?_⟩
  rcases List.mem_append.1 hx with hx | hx
  · exact (h.mono (Nat.le_succ N)).se x hx
  · rw [List.mem_singleton.1 hx]; exact ⟨Nat.le_refl _, by simp, by simp, by simp⟩
theorem Bnd.upd {N : Nat} {s : Bs} (h : Bnd N s) (id : Int) {x : Sx} (hx : x.at_ ≤ s.log.length ∧ x.eds.length ≤ N + 1 ∧ x.gets.length ≤ N + 1 ∧ x.heads.length ≤ N + 1) : Bnd (N + 1) (s.upd id x) := by
  refine ⟨by simp [Bs.upd]; exact Nat.le_trans h.al (by omega), Nat.le_trans h.lg (by omega), h.fi, fun l hl => Nat.le_trans (h.ll l hl) (by omega), fun y hy => ?_⟩
  rcases List.mem_or_eq_of_mem_set hy with hy | rfl
  · exact (h.mono (Nat.le_succ N)).se y hy
  · exact hx
theorem Bnd.ses {N : Nat} {s : Bs} (h : Bnd N s) (id : Int) : (s.ses id).at_ ≤ s.log.length ∧ (s.ses id).eds.length ≤ N ∧ (s.ses id).gets.length ≤ N ∧ (s.ses id).heads.length ≤ N := by
  unfold Bs.ses
  by_cases hi : id.toNat - 1 < s.all.length
  · rw [List.getD_eq_getElem?_getD, List.getElem?_eq_getElem hi]; exact h.se _ (List.getElem_mem hi)
  · rw [List.getD_eq_getElem?_getD, List.getElem?_eq_none (by omega)]; exact ⟨by simp [default], by simp [default], by simp [default], by simp [default]⟩
theorem Bnd.getS {N : Nat} {s : Bs} (h : Bnd N s) (id : Int) (k : Str) : Bnd (N + 1) (s.getS id k) := by
  unfold Bs.getS
  have := h.ses id
  split
  · exact h.upd id ⟨this.1, Nat.le_succ_of_le this.2.1, by simp; omega, Nat.le_succ_of_le this.2.2.2⟩
  · exact h.mono (Nat.le_succ N)
theorem Bnd.keysS {N : Nat} {s : Bs} (h : Bnd N s) (id : Int) (k : Str) : Bnd (N + 1) (s.keysS id k) := by
  have := h.ses id
  exact h.upd id ⟨this.1, Nat.le_succ_of_le this.2.1, Nat.le_succ_of_le this.2.2.1, by simp; omega⟩
theorem Bnd.putS {N : Nat} {s : Bs} (h : Bnd N s) (id : Int) (e : Ed) : Bnd (N + 1) (s.putS id e) := by
  have := h.ses id
  exact h.upd id ⟨this.1, by simp; omega, Nat.le_succ_of_le this.2.2.1, Nat.le_succ_of_le this.2.2.2⟩
theorem Bnd.shut {N : Nat} {s : Bs} (h : Bnd N s) (id : Int) : Bnd (N + 1) (s.shut id) := by
  have := h.ses id
  exact h.upd id ⟨this.1, Nat.le_succ_of_le this.2.1, Nat.le_succ_of_le this.2.2.1, Nat.le_succ_of_le this.2.2.2⟩
theorem Bnd.commitS {N : Nat} {s : Bs} (h : Bnd N s) (id : Int) : Bnd (N + 1) (s.commitS id) := by
  unfold Bs.commitS
  have h1 := h.shut id
  have h2 := h.ses id
  split
  · exact h1
  · refine ⟨h1.al, by simp; exact h.lg, h1.fi, fun l hl => ?_, fun x hx => ?_⟩
    · rcases List.mem_append.1 hl with hl | hl
      · exact Nat.le_trans (h.ll l hl) (by omega)
      · rw [List.mem_singleton.1 hl]; omega
    · obtain ⟨a, b⟩ := h1.se x hx
      have a : x.at_ ≤ s.log.length := a
      exact ⟨by simp; omega, b⟩
def stepS (s : Bs) (ds : List Dd) (a : Ac) : Bs × List Dd :=
  if a.kind < 1 ∨ 5 < a.kind then (s.begin_, ds ++ [⟨[], [], [], [], s.log.length, -1, false, false⟩])
  else if a.id < 1 ∨ (ds.length : Int) < a.id then (s, ds)
  else
    let i := a.id.toNat - 1
    let d := ds.getD i default
    if a.kind = 1 then (if s.isOpen a.id then (s.getS a.id a.ed.key, ds.set i (d.add a (s.getA a.id a.ed.key).1 (s.getA a.id a.ed.key).2 [])) else (s, ds))
    else if a.kind = 2 then (if s.isOpen a.id then (s.keysS a.id a.ed.key, ds.set i (d.add a [] false (s.keysA a.id a.ed.key))) else (s, ds))
    else if a.kind = 3 then (if s.isOpen a.id ∧ okEd a.ed = true then (s.putS a.id a.ed, ds.set i { d.add a [] false [] with writes := true }) else (s, ds))
    else if a.kind = 4 then (if s.isOpen a.id then (s.commitS a.id, if s.commitA a.id = 0 then ds.set i { d with end_ := (s.log.length : Nat) } else ds.set i { d with clashed := true }) else (s, ds))
    else (if s.isOpen a.id then s.shut a.id else s, ds)
theorem Bnd.step {N : Nat} {s : Bs} (h : Bnd N s) (ds : List Dd) (a : Ac) : Bnd (N + 1) (stepS s ds a).1 := by
  have hm := h.mono (Nat.le_succ N)
  unfold stepS
  split
  · exact h.begin_
  · split
    · exact hm
    · dsimp only
      split
      · split
        · exact h.getS _ _
        · exact hm
      · split
        · split
          · exact h.keysS _ _
          · exact hm
        · split
          · split
            · exact h.putS _ _
            · exact hm
          · split
            · split
              · exact h.commitS _
              · exact hm
            · dsimp only; split
              · exact h.shut _
              · exact hm
theorem add_len {d : Dd} {a : Ac} {v : Str} {t : Bool} {k : List Str} : (d.add a v t k).acts.length = d.acts.length + 1 := by simp [Dd.add]
def DBnd (N : Nat) (ds : List Dd) : Prop := ds.length ≤ N ∧ ∀ d ∈ ds, d.acts.length ≤ N
theorem DBnd.step {N : Nat} {ds : List Dd} (h : DBnd N ds) (s : Bs) (a : Ac) : DBnd (N + 1) (stepS s ds a).2 := by
  have hm : DBnd (N + 1) ds := ⟨Nat.le_trans h.1 (by omega), fun d hd => Nat.le_trans (h.2 d hd) (by omega)⟩
  have hg : (ds.getD (a.id.toNat - 1) default).acts.length ≤ N := by
    by_cases hi : a.id.toNat - 1 < ds.length
    · rw [List.getD_eq_getElem?_getD, List.getElem?_eq_getElem hi]; exact h.2 _ (List.getElem_mem hi)
    · rw [List.getD_eq_getElem?_getD, List.getElem?_eq_none (by omega)]; simp [default]
  have hset : ∀ d' : Dd, d'.acts.length ≤ N + 1 → DBnd (N + 1) (ds.set (a.id.toNat - 1) d') := fun d' hd => ⟨by rw [List.length_set]; exact hm.1, fun d hd' => by
    rcases List.mem_or_eq_of_mem_set hd' with h1 | rfl
    · exact hm.2 d h1
    · exact hd⟩
  unfold stepS
  split
  · refine ⟨by simp; exact h.1, fun d hd => ?_⟩
    rcases List.mem_append.1 hd with hd | hd
    · exact hm.2 d hd
    · rw [List.mem_singleton.1 hd]; simp
  · split
    · exact hm
    · dsimp only
      split
      · split
        · exact hset _ (by first | (rw [add_len]; omega) | (show (Dd.add _ _ _ _ _).acts.length ≤ _; rw [add_len]; omega))
        · exact hm
      · split
        · split
          · exact hset _ (by first | (rw [add_len]; omega) | (show (Dd.add _ _ _ _ _).acts.length ≤ _; rw [add_len]; omega))
          · exact hm
        · split
          · split
            · exact hset _ (by first | (rw [add_len]; omega) | (show (Dd.add _ _ _ _ _).acts.length ≤ _; rw [add_len]; omega))
            · exact hm
          · split
            · split
              · dsimp only; split
                · exact hset _ (by dsimp only; omega)
                · exact hset _ (by dsimp only; omega)
              · exact hm
            · exact hm
end Go.Gx
namespace Go.Gx
open Go.Proofs
theorem dids_lens {ow : Labels} {td : Nat} {w : World} {ds : List Dd} {rows : List (List Value)} (hrl : rows.length = ds.length) (hrow : ∀ i, i < ds.length → DidAt ow td w i (rows.getD i []) (ds.getD i default)) : ∀ r ∈ rows, r.length = 8 := fun r hr => by
  obtain ⟨i, hi, rfl⟩ := List.getElem_of_mem hr
  obtain ⟨va, vv, vt, vk, kr, h1, -⟩ := hrow i (by omega)
  rw [List.getD_eq_getElem?_getD, List.getElem?_eq_getElem hi] at h1
  simp only [Option.getD_some] at h1
  rw [h1]; rfl
theorem row_cell {rows : List (List Value)} {tl : List Value} {i j : Nat} {x : Value} (h8 : ∀ r ∈ rows, r.length = 8) (hi : i < rows.length) (hj : j < 8) (hx : (rows.getD i [])[j]? = some x) : (rows.flatten ++ tl)[i * 8 + j]? = some x := by
  have hf := flatk h8 hj hi
  have hlt : i * 8 + j < rows.flatten.length := by rw [flat_len h8]; omega
  rw [List.getElem?_append_left hlt, hf, hx]
theorem getD_set_same {α : Type} {l : List α} {i : Nat} {x d : α} (hi : i < l.length) : (l.set i x).getD i d = x := by rw [getD_set hi, if_pos rfl]
end Go.Gx
namespace Go.Gx
open Go.Proofs
def Rel (s : Bs) (ds : List Dd) : Prop := ds.length = s.all.length ∧ ∀ i, i < ds.length → (ds.getD i default).at_ = (s.all.getD i default).at_ ∧ ((ds.getD i default).writes = true ↔ (s.all.getD i default).eds ≠ [])
theorem upd_at {s : Bs} {id : Int} {x : Sx} {j : Nat} (h1 : 1 ≤ id) (h2 : id ≤ s.all.length) : (s.upd id x).all.getD j default = if j = id.toNat - 1 then x else s.all.getD j default := getD_set (by omega)
theorem upd_len {s : Bs} {id : Int} {x : Sx} : (s.upd id x).all.length = s.all.length := by simp [Bs.upd]
theorem Rel.upd {s : Bs} {ds : List Dd} {id : Int} {x : Sx} {d' : Dd} (h : Rel s ds) (h1 : 1 ≤ id) (h2 : id ≤ s.all.length) (ha : d'.at_ = x.at_) (hw : d'.writes = true ↔ x.eds ≠ []) : Rel (s.upd id x) (ds.set (id.toNat - 1) d') := by
  have hl := h.1
  refine ⟨by rw [List.length_set, upd_len]; exact hl, fun i hi => ?_⟩
  rw [List.length_set] at hi
  rw [upd_at h1 h2, getD_set (by omega)]
  by_cases hi2 : i = id.toNat - 1
  · rw [if_pos hi2, if_pos hi2]; exact ⟨ha, hw⟩
  · rw [if_neg hi2, if_neg hi2]; exact h.2 i hi
theorem Rel.shut {s : Bs} {ds : List Dd} {id : Int} (h : Rel s ds) (h1 : 1 ≤ id) (h2 : id ≤ s.all.length) {d' : Dd} (hd : d'.at_ = (ds.getD (id.toNat - 1) default).at_ ∧ d'.writes = (ds.getD (id.toNat - 1) default).writes) : Rel (s.shut id) (ds.set (id.toNat - 1) d') := by
  have hl := h.1
  obtain ⟨r1, r2⟩ := h.2 (id.toNat - 1) (by omega)
  exact h.upd h1 h2 (hd.1.trans r1) (by rw [hd.2]; exact r2)
theorem eds_ok {A : Nat → Prop} {w : World} {v : Value} {l : List Ed} (h : EdsAt A w v l) : ∀ e ∈ l, EdOk e := fun e he => by
  obtain ⟨p, c, row, -, -, -, -, hR⟩ := h
  obtain ⟨i, hi, rfl⟩ := List.getElem_of_mem he
  have := (hR.each i hi).2
  rwa [List.getD_eq_getElem?_getD, List.getElem?_eq_getElem hi] at this
theorem low_goes {ow ow' : Labels} {w0 w w' : World} (hl : ∀ j, j < w0.heap.size → ow j = none) (hs : w0.heap.size ≤ w.heap.size) (g : Goes2 0 1 w w' ow ow') : (∀ j, j < w0.heap.size → ow' j = none) ∧ ∀ j, j < w0.heap.size → ¬ (Mine ow 0 j ∨ Mine ow 1 j) :=
  ⟨fun j hj => (g.old j (by omega)).elim (fun e => e.trans (hl j hj)) (fun e => e.2), fun j hj m => by rcases m with ⟨p, m⟩ | ⟨p, m⟩ <;> (rw [hl j hj] at m; cases m)⟩
theorem Dids.row {ow : Labels} {t : Nat} {w : World} {v : Value} {ds : List Dd} (h : DidsAt ow t w v ds) : ∃ pa ca, v = .slice pa ds.length ca ∧ ∀ i, i < ds.length → ∃ ba, pa = some ⟨ba, 0, none⟩ ∧ ba < w.heap.size ∧ ∃ va vv vt vk, (va.oneCell' = true ∧ vv.oneCell' = true ∧ vt.oneCell' = true ∧ vk.oneCell' = true) ∧ ∀ j, j < 8 → w.cell? ⟨ba, 0 + i * 8 + j, none⟩ = (didV va vv vt vk (ds.getD i default))[j]? := by
  obtain ⟨rows, hO, hrl, hrow⟩ := h
  obtain ⟨pa, ca, rfl, -⟩ := own_shape hO.1
  refine ⟨pa, ca, rfl, fun i hi => ?_⟩
  obtain ⟨ba, rfl⟩ := own_pos hO.1 (by omega)
  have h8 := dids_lens hrl hrow
  obtain ⟨va, vv, vt, vk, kr, hr, d2, d3, d4, d5, -⟩ := hrow i hi
  rcases Own.open hO.1 with ⟨e, -⟩ | ⟨b', c', tl, e, -, -, -, hbx⟩
  · cases e
  · simp only [Value.slice.injEq, Option.some.injEq, Addr.mk.injEq, and_true, true_and] at e
    obtain ⟨e, -⟩ := e
    subst e
    refine ⟨ba, rfl, hbx.lt, va, vv, vt, vk, ⟨own_one d2.1, own_one d3.1, own_one d4.1, own_one d5.1⟩, fun j hj => ?_⟩
    have hx : (didV va vv vt vk (ds.getD i default))[j]? = some ((didV va vv vt vk (ds.getD i default))[j]'(by simp [didV]; omega)) := List.getElem?_eq_getElem _
    rw [hx]
    rw [Nat.zero_add]
    exact hbx.cell (row_cell h8 (by omega) hj (by rw [hr]; exact hx))
theorem getD_mem {α : Type} {l : List α} {i : Nat} {d : α} (h : i < l.length) : l.getD i d ∈ l := by rw [List.getD_eq_getElem?_getD, List.getElem?_eq_getElem h]; exact List.getElem_mem h
end Go.Gx
namespace Go.Gx
open Go.Proofs
structure St (first : List Ed) (s : Bs) : Prop where
  fi : s.first = first
  le : 1 ≤ s.all.length
  op : (s.all.getD 0 default).opn = true
  at_ : (s.all.getD 0 default).at_ = 0
  ed : (s.all.getD 0 default).eds = []
theorem St.sees {first : List Ed} {s : Bs} (h : St first s) : s.seesE (s.ses 1) = first := by
  have e : s.ses 1 = s.all.getD 0 default := rfl
  unfold Bs.seesE Bs.hist
  rw [e, h.at_, h.ed, h.fi]; simp
theorem St.open {first : List Ed} {s : Bs} (h : St first s) : s.isOpen 1 := ⟨by decide, by have := h.le; omega, h.op⟩
def stA (first : List Ed) (k : Str) : Str × Bool := match valE first k with
  | some v => (v, true)
  | none => ([], false)
theorem St.getA {first : List Ed} {s : Bs} (h : St first s) (k : Str) : s.getA 1 k = stA first k := by unfold Bs.getA; rw [h.sees]; rfl
theorem St.keysA {first : List Ed} {s : Bs} (h : St first s) : s.keysA 1 [] = ((comes [] first).map (·.key)).filter fun k => List.isPrefixOf [] k := by unfold Bs.keysA; rw [h.sees]
theorem St.upd {first : List Ed} {s : Bs} (h : St first s) {id : Int} {x : Sx} (hid : id.toNat - 1 ≠ 0) : St first (s.upd id x) := by
  have e : (s.upd id x).all.getD 0 default = s.all.getD 0 default := by
    by_cases hi : id.toNat - 1 < s.all.length
    · unfold Bs.upd; dsimp only; rw [getD_set hi, if_neg (fun e => hid e.symm)]
    · unfold Bs.upd; dsimp only; rw [List.set_eq_of_length_le (by omega)]
  exact ⟨h.fi, by rw [upd_len]; exact h.le, by rw [e]; exact h.op, by rw [e]; exact h.at_, by rw [e]; exact h.ed⟩
theorem St.one {first : List Ed} {s : Bs} (h : St first s) {x : Sx} (h1 : x.opn = true) (h2 : x.at_ = 0) (h3 : x.eds = []) : St first (s.upd 1 x) := by
  have e : (s.upd 1 x).all.getD 0 default = x := by
    unfold Bs.upd; dsimp only
    exact getD_set_same (by have := h.le; omega)
  exact ⟨h.fi, by rw [upd_len]; exact h.le, by rw [e]; exact h1, by rw [e]; exact h2, by rw [e]; exact h3⟩
theorem St.getS {first : List Ed} {s : Bs} (h : St first s) (k : Str) : St first (s.getS 1 k) := by
  unfold Bs.getS
  split
  · exact h.one h.op h.at_ h.ed
  · exact h
theorem St.keysS {first : List Ed} {s : Bs} (h : St first s) (k : Str) : St first (s.keysS 1 k) := h.one h.op h.at_ h.ed
theorem St.step {first : List Ed} {s : Bs} (h : St first s) (ds : List Dd) {a : Ac} (ha : ¬ (1 ≤ a.kind ∧ a.kind ≤ 5 ∧ a.id = 1)) : St first (stepS s ds a).1 := by
  unfold stepS
  split
  · refine ⟨h.fi, by simp [Bs.begin_], ?_, ?_, ?_⟩ <;>
    · have e : (s.begin_).all.getD 0 default = s.all.getD 0 default := by
        show (s.all ++ [_]).getD 0 default = _
        rw [getD_append_one, if_neg (by have := h.le; omega)]
      rw [e]
      first | exact h.op | exact h.at_ | exact h.ed
  · next hk =>
    split
    · exact h
    · next hid =>
      have hne : a.id.toNat - 1 ≠ 0 := by omega
      dsimp only
      split
      · split
        · dsimp only; unfold Bs.getS; split
          · exact h.upd hne
          · exact h
        · exact h
      · split
        · split
          · exact h.upd hne
          · exact h
        · split
          · split
            · exact h.upd hne
            · exact h
          · split
            · split
              · dsimp only; unfold Bs.commitS; split
                · exact h.upd hne
                · have := h.upd (x := { s.ses a.id with opn := false }) hne
                  exact ⟨this.fi, this.le, this.op, this.at_, this.ed⟩
              · exact h
            · dsimp only; split
              · exact h.upd hne
              · exact h
theorem DBnd.mono {N M : Nat} {ds : List Dd} (h : DBnd N ds) (hM : N ≤ M) : DBnd M ds := ⟨Nat.le_trans h.1 hM, fun d hd => Nat.le_trans (h.2 d hd) hM⟩
end Go.Gx
namespace Go.Gx
open Go.Proofs
def ansOf (h : List Ed) (a : Ac) : Str × Bool × List Str :=
  if a.kind = 1 then ((stA h a.ed.key).1, (stA h a.ed.key).2, []) else if a.kind = 2 then ([], false, ((comes [] h).map (·.key)).filter fun k => a.ed.key.isPrefixOf k) else ([], false, [])
def eff (a : Ac) : List Ed := if a.kind = 3 then [a.ed] else []
def wrote (l : List Ac) : List Ed := l.flatMap eff
def plays (h : List Ed) : List Ac → List (Str × Bool × List Str)
  | [] => []
  | a :: l => ansOf h a :: plays (h ++ eff a) l
structure DidRel (s : Bs) (x : Sx) (d : Dd) : Prop where
  at_ : d.at_ = x.at_
  le : x.at_ ≤ s.log.length
  wr : d.writes = true ↔ x.eds ≠ []
  eds : x.eds = wrote d.acts
  ans : d.values = (plays (s.hist x.at_) d.acts).map (·.1) ∧ d.there = (plays (s.hist x.at_) d.acts).map (·.2.1) ∧ d.keys = (plays (s.hist x.at_) d.acts).map (·.2.2)
  kinds : ∀ a ∈ d.acts, 1 ≤ a.kind ∧ a.kind ≤ 3 ∧ (a.kind = 3 → okEd a.ed = true)
  asked : ∀ l a m, d.acts = l ++ a :: m → (a.kind = 1 → lastE (wrote l) a.ed.key = none → a.ed.key ∈ x.gets) ∧ (a.kind = 2 → a.ed.key ∈ x.heads)
  fin : d.end_ = -1 ∨ (x.opn = false ∧ ∃ n : Nat, d.end_ = (n : Nat) ∧ n ≤ s.log.length ∧ x.at_ ≤ n ∧ (x.eds ≠ [] → ∀ e ∈ ((s.log.take n).drop x.at_).flatten, hitE x e = false))
def Rel3 (s : Bs) (ds : List Dd) : Prop := ds.length = s.all.length ∧ ∀ i, i < ds.length → DidRel s (s.all.getD i default) (ds.getD i default)
theorem DidRel.grow {s s' : Bs} {x : Sx} {d : Dd} (h : DidRel s x d) (hf : s'.first = s.first) (hl : ∃ m, s'.log = s.log ++ m) : DidRel s' x d := by
  obtain ⟨m, hm⟩ := hl
  have hle := h.le
  have e : ∀ n, n ≤ s.log.length → s'.hist n = s.hist n := fun n hn => by
    unfold Bs.hist
    rw [hf, hm, List.take_append_of_le_length hn]
  refine ⟨h.at_, by rw [hm]; simp; omega, h.wr, h.eds, by rw [e _ hle]; exact h.ans, h.kinds, h.asked, h.fin.imp id fun ⟨h1, n, h2, h3, h4, h5⟩ => ⟨h1, n, h2, by rw [hm]; simp; omega, h4, by rw [hm, List.take_append_of_le_length h3]; exact h5⟩⟩
theorem Rel3.set {s s' : Bs} {ds : List Dd} {i : Nat} {x' : Sx} {d' : Dd} (h : Rel3 s ds) (hf : s'.first = s.first) (hl : ∃ m, s'.log = s.log ++ m) (ha : s'.all = s.all.set i x') (hi : i < s.all.length) (hd : DidRel s' x' d') : Rel3 s' (ds.set i d') := by
  have h1 := h.1
  refine ⟨by rw [List.length_set, ha, List.length_set]; exact h1, fun j hj => ?_⟩
  rw [List.length_set] at hj
  rw [ha, getD_set hi, getD_set (by omega)]
  by_cases hji : j = i
  · rw [if_pos hji, if_pos hji]; exact hd
  · rw [if_neg hji, if_neg hji]; exact (h.2 j hj).grow hf hl
theorem DidRel.shut {s s' : Bs} {x : Sx} {d d' : Dd} (h : DidRel s x d) (hf : s'.first = s.first) (hl : ∃ m, s'.log = s.log ++ m) (hd : d' = { d with end_ := d'.end_, clashed := d'.clashed })
    (he : d'.end_ = -1 ∨ (∃ n : Nat, d'.end_ = (n : Nat) ∧ n ≤ s'.log.length ∧ x.at_ ≤ n ∧ (x.eds ≠ [] → ∀ e ∈ ((s'.log.take n).drop x.at_).flatten, hitE x e = false))) : DidRel s' { x with opn := false } d' := by
  have g := h.grow hf hl
  have e1 : d'.acts = d.acts := by rw [hd]
  have e2 : d'.values = d.values := by rw [hd]
  have e3 : d'.there = d.there := by rw [hd]
  have e4 : d'.keys = d.keys := by rw [hd]
  have e5 : d'.at_ = d.at_ := by rw [hd]
  have e6 : d'.writes = d.writes := by rw [hd]
  exact ⟨by rw [e5]; exact g.at_, g.le, by rw [e6]; exact g.wr, by rw [e1]; exact g.eds, by rw [e1, e2, e3, e4]; exact g.ans, by rw [e1]; exact g.kinds, by rw [e1]; exact g.asked, he.imp id fun ⟨n, h2⟩ => ⟨rfl, n, h2⟩⟩
end Go.Gx
namespace Go.Gx
open Go.Proofs
theorem ksesq_ag34 : aggT Try.prog 34 3 = true := by kernel_rfl
theorem ksesq_mixed : Try.prog.follows .mixedOrders = true := by kernel_rfl
theorem ksesq_sz34 : (Try.prog.info? 34).map (·.size) = some 3 := by kernel_rfl
theorem hS_ed : (Try.prog).underlying 34 = some (.struct ((Try.prog).fieldsOf 34)) := by kernel_rfl
theorem hp_ed : (Try.prog).stoodInHeld 34 = false := by kernel_rfl
theorem hm_ed : (Try.prog).eqGuardType (Try.prog).depth 34 = false := by kernel_rfl
theorem eq_ed (a b : Ed) (w : World) : (Op.equalIn 10000 34 (.agg (edV a).toArray) (.agg (edV b).toArray)).run (Try.prog) w = .ok (decide (a = b)) w := by
  have us := Try.underlying9
  have ub := Try.underlying4
  have is := Try.isAgg9
  have ib := Try.isAgg4
  rw [show (10000 : Nat) = 9999 + 1 from rfl, run_equalIn_agg w 9999 34 _ _ hS_ed hp_ed]
  simp only [Program.fieldsOf, Try.underlying34, edV, S]
  go_simp
  obtain ⟨k1, v1, g1⟩ := a
  obtain ⟨k2, v2, g2⟩ := b
  by_cases h1 : k1 = k2 <;> by_cases h2 : v1 = v2 <;> by_cases h3 : g1 = g2 <;> simp [h1, h2, h3]
theorem x_neEd {x y : Operand} {t z : TypeId} {E : Env} {w : World} {a b : Ed} (hx : ev E x = .agg (edV a).toArray) (hy : ev E y = .agg (edV b).toArray) : X (Try.prog) (.binOp .neq 34 x y z) t E w (.bool (decide (a ≠ b))) w := by
  unfold X
  have h2 : (binOp .neq 34 (.agg (edV a).toArray) (.agg (edV b).toArray)).run (Try.prog) w = .ok (.bool (decide (a ≠ b))) w := by
    rw [run_neq_struct, eq_ed]; simp [Result.andThen]
  simp [execOp, hx, hy, run_eqGuard_agg w .neq 34 x y _ _ hm_ed, h2]
theorem same_eds (A B : Nat → Prop) (v u : Value) (l m : List Ed) (w : World) (h : EdsAt A w v l) (h' : EdsAt B w u m) :
    Ret Try.prog 46 #[v, u] w fun r w' => r = .bool (decide (l = m)) ∧ Bel w w' := by
  obtain ⟨pl, cl, rowl, rfl, a1, a2, a3, hR⟩ := h
  obtain ⟨pm, cm, rowm, rfl, b1, b2, b3, hS⟩ := h'
  refine ret_of_W Try.func46 rfl (Nat.le_of_ble_eq_true rfl) (res1 rfl) ?_
  have hB := Gr.refl (fun _ => False) w
  refine W.seq ?_
  refine W.region ?_
  refine L.val (x_as (v := .bool _) rfl) rfl ?_
  refine L.nil ?_
  refine thn_n ?_
  refine W.seq ?_
  refine W.seq ?_
  refine W.region ?_
  refine L.val (x_mv (v := .slice _ _ _) rfl) rfl ?_
  refine L.val (x_len_slice Try.underlying22 rfl) rfl ?_
  refine L.val (x_mv (v := .slice _ _ _) rfl) rfl ?_
  refine L.val (x_len_slice Try.underlying22 rfl) rfl ?_
  refine L.val (x_neq rfl rfl) rfl ?_
  refine L.nil ?_
  refine thn_n ?_
  refine W.cond (b := _) rfl (fun g10 => ?_) (fun g10 => ?_)
  ·have h10 := dne_t g10
   have hne : ¬ l = m := fun e => by rw [e] at h10; exact h10 rfl
   refine W.seq ?_
   refine W.region ?_
   refine L.val (x_as (v := .bool _) rfl) rfl ?_
   refine L.nil ?_
   refine thn_n ?_
   refine W.ret (thn_r (fin_mk (.inr rfl) ?_))
   rw [decide_eq_false hne]; exact ⟨rfl, hB⟩
  ·have h10 := dne_f g10
   have hlm : l.length = m.length := by omega
   refine W.skip ?_
   refine thn_n ?_
   refine W.seq ?_
   refine W.seq ?_
   refine W.region ?_
   refine L.val (x_as (v := .int _ _) rfl) rfl ?_
   refine L.nil ?_
   refine thn_n ?_
   refine W.block ?_
   refine W.loop (fun m' E w' => ∃ (k : Nat), m' = l.length - k ∧ E 0 = .slice pl l.length cl ∧ E 1 = .slice pm m.length cm ∧ E 5 = .int .i64 (k : Nat) ∧ (k ≤ l.length) ∧ (Bel w w') ∧ (l.take k = m.take k)) (l.length) ?_ ?_
   ·exact ⟨0, by omega, by first | rfl | exact vi (by omega), by first | rfl | exact vi (by omega), by first | rfl | exact vi (by omega), (by first | assumption | omega | rfl), (by first | assumption | omega | rfl), (by rfl)⟩
   ·rintro _ E wL11 ⟨k, em, e0, e1, e5, hk, hB, heq⟩
    rw [upd_self e0, upd_self e1, upd_self e5]
    refine W.seq ?_
    refine W.seq ?_
    refine W.region ?_
    refine L.val (x_mv (v := .int _ _) rfl) rfl ?_
    refine L.val (x_mv (v := .slice _ _ _) rfl) rfl ?_
    refine L.val (x_len_slice Try.underlying22 rfl) rfl ?_
    refine L.val (x_lss rfl rfl) rfl ?_
    refine L.nil ?_
    refine thn_n ?_
    refine W.cond (b := _) rfl (fun g14 => ?_) (fun g14 => ?_)
    ·have h14 := of_decide_eq_true g14
     have hlt : k < l.length := by omega
     have hlt2 : k < m.length := by omega
     obtain ⟨bl, ol, rfl, -, hca⟩ := (hR.carry hB).elem hlt
     obtain ⟨bm, om, rfl, -, hcb⟩ := (hS.carry hB).elem hlt2
     rw [(hR.each k hlt).1] at hca
     rw [(hS.each k hlt2).1] at hcb
     refine W.skip ?_
     refine thn_n ?_
     refine W.seq ?_
     refine W.block ?_
     refine W.seq ?_
     refine W.drawB ksesq_mixed (by kernel_rfl) ?_
     refine LQ.val (fun w hw => x_mv (v := .slice _ _ _) rfl) rfl ?_
     refine LQ.val (fun w hw => x_mv (v := .int _ _) rfl) rfl ?_
     refine LQ.val (fun w hw => x_ia (j := k) Try.underlying22 ksesq_sz34 rfl rfl (by omega) (by omega)) rfl ?_
     refine LQ.val (fun w hw => x_ldn (vs := edV (l.getD k default)) ksesq_ag34 rfl rfl (hw.keepRow rfl hca)) rfl ?_
     refine LQ.val (fun w hw => x_mv (v := .slice _ _ _) rfl) rfl ?_
     refine LQ.val (fun w hw => x_mv (v := .int _ _) rfl) rfl ?_
     refine LQ.val (fun w hw => x_ia (j := k) Try.underlying22 ksesq_sz34 rfl rfl (by omega) (by omega)) rfl ?_
     refine LQ.val (fun w hw => x_ldn (vs := edV (m.getD k default)) ksesq_ag34 rfl rfl (hw.keepRow rfl hcb)) rfl ?_
     refine LQ.val (fun w hw => x_neEd rfl rfl) rfl ?_
     refine LQ.nil ?_
     intro w17 hw
     have hB := hB.carry hw
     refine thn_n ?_
     refine W.cond (b := _) rfl (fun g25 => ?_) (fun g25 => ?_)
     ·have h25 := g25
      have hne : ¬ l = m := fun e => by rw [e] at g25; simp at g25
      refine W.seq ?_
      refine W.region ?_
      refine L.val (x_as (v := .bool _) rfl) rfl ?_
      refine L.nil ?_
      refine thn_n ?_
      refine W.ret (blk_r (thn_r (thn_r (blk_r (thn_r (fin_mk (.inr rfl) ?_))))))
      rw [decide_eq_false hne]; exact ⟨rfl, hB⟩
     ·have h25 := g25
      have he25 : l.getD k default = m.getD k default := by simpa using g25
      refine W.skip ?_
      refine blk_n ?_
      refine thn_n ?_
      refine W.region ?_
      refine L.val (x_mv (v := .int _ _) rfl) rfl ?_
      refine L.val (x_add rfl rfl (wr64 (by omega))) rfl ?_
      refine L.val (x_as (v := .int _ _) rfl) rfl ?_
      refine L.nil ?_
      refine thn_n ⟨rfl, ?_⟩
      refine ⟨_, ?_, k + 1, rfl, by first | rfl | exact vi (by omega), by first | rfl | exact vi (by omega), by first | rfl | exact vi (by omega), (by first | assumption | omega | rfl), (by first | assumption | omega | rfl), (by rw [take_snoc (d := default) hlt, take_snoc (d := default) hlt2, heq, he25])⟩
      omega
    ·have h14 := dlt_f g14
     refine W.exit (thn_x (thn_x (blk_hit ?_)))
     refine thn_n ?_
     refine W.seq ?_
     refine W.region ?_
     refine L.val (x_as (v := .bool _) rfl) rfl ?_
     refine L.nil ?_
     refine thn_n ?_
     refine W.ret (fin_mk (.inr rfl) ?_)
     have hh : l = m := by
       have e1 : l.take k = l := by rw [show k = l.length by omega, List.take_length]
       have e2 : m.take k = m := by rw [show k = m.length by omega, List.take_length]
       rw [← e1, heq, e2]
     rw [decide_eq_true hh]; exact ⟨rfl, hB⟩
end Go.Gx
namespace Go.Gx
open Go.Proofs
def ValC (_ : Nat → Prop) (_ : World) (cs : List Value) (x : Str) : Prop := cs = [S x]
def BolC (_ : Nat → Prop) (_ : World) (cs : List Value) (x : Bool) : Prop := cs = [.bool x]
instance car_valc : Car ValC 1 where
  pos := by omega
  len := fun h => by rw [h]; rfl
  one := fun h => by
    rw [h]; intro u hu
    rw [List.mem_singleton.1 hu]; rfl
  move := fun _ h => h
instance car_bolc : Car BolC 1 where
  pos := by omega
  len := fun h => by rw [h]; rfl
  one := fun h => by
    rw [h]; intro u hu
    rw [List.mem_singleton.1 hu]; rfl
  move := fun _ h => h
def DidRd (w : World) (cs : List Value) (d : Dd) : Prop :=
  ∃ va vv vt vk, cs = didV va vv vt vk d ∧ RecsAt AcC 5 (fun _ => False) w va d.acts ∧ RecsAt ValC 1 (fun _ => False) w vv d.values ∧ RecsAt BolC 1 (fun _ => False) w vt d.there ∧ RecsAt StC 1 (fun _ => False) w vk d.keys ∧ d.values.length = d.acts.length ∧ d.there.length = d.acts.length ∧ d.keys.length = d.acts.length
theorem DidRd.carry {w w' : World} {cs : List Value} {d : Dd} (h : DidRd w cs d) (g : Bel w w') : DidRd w' cs d := by
  obtain ⟨va, vv, vt, vk, h1, h2, h3, h4, h5, h6⟩ := h
  exact ⟨va, vv, vt, vk, h1, h2.carry g, h3.carry g, h4.carry g, h5.carry g, h6⟩
theorem flat_one {α : Type} (f : α → Value) (l : List α) : (l.map fun x => [f x]).flatten = l.map f := by
  induction l with
  | nil => rfl
  | cons a l ih => simp [ih]
theorem DidAt.rd {ow : Labels} {t i : Nat} {w : World} {cs : List Value} {d : Dd} (h : DidAt ow t w i cs d) (hl : d.acts.length ≤ 1000000) : DidRd w cs d := by
  obtain ⟨va, vv, vt, vk, kr, h1, h2, h3, h4, h5, h6, h7, h8, h9, h10⟩ := h
  refine ⟨va, vv, vt, vk, h1, ?_, ?_, ?_, ?_, h8, h9, h10⟩
  · have hr : RowsC AcC (fun _ => False) w (d.acts.map acV) d.acts := rows_pure _ fun x hx => ⟨rfl, h7 x hx⟩
    exact hr.doneB (e := 36) h2.1 (by omega) (fun _ f => f) (fun _ _ f => f)
  · have hr : RowsC ValC (fun _ => False) w (d.values.map fun x => [S x]) d.values := rows_pure _ fun x hx => rfl
    exact hr.doneB (e := 9) (by rw [flat_one]; exact h3.1) (by omega) (fun _ f => f) (fun _ _ f => f)
  · have hr : RowsC BolC (fun _ => False) w (d.there.map fun x => [.bool x]) d.there := rows_pure _ fun x hx => rfl
    exact hr.doneB (e := 4) (by rw [flat_one]; exact h4.1) (by omega) (fun _ f => f) (fun _ _ f => f)
  · exact (h6.mono (A' := fun _ => False) (fun _ _ f => f.elim)).doneB (e := 37) h5.1 (by omega) (fun _ f => f) (fun _ _ f => f)
structure Ag (h e : List Ed) (n : Nat) (s : Bs) : Prop where
  fi : s.first = h
  lg : s.log = []
  all : ∃ g q, s.all = [⟨true, 0, e, g, q⟩] ∧ g.length ≤ n ∧ q.length ≤ n
section
variable {h e : List Ed} {n : Nat} {s : Bs}
theorem Ag.ses (a : Ag h e n s) : ∃ g q, s.ses 1 = ⟨true, 0, e, g, q⟩ ∧ s.all = [s.ses 1] ∧ g.length ≤ n ∧ q.length ≤ n := by
  obtain ⟨g, q, h1, h2, h3⟩ := a.all
  have e1 : s.ses 1 = ⟨true, 0, e, g, q⟩ := by unfold Bs.ses; rw [h1]; rfl
  exact ⟨g, q, e1, by rw [e1]; exact h1, h2, h3⟩
theorem Ag.upd (a : Ag h e n s) (x : Sx) : (s.upd 1 x).all = [x] := by
  obtain ⟨g, q, -, h1, -⟩ := a.ses
  unfold Bs.upd; rw [h1]; rfl
theorem Ag.open (a : Ag h e n s) : s.isOpen 1 := by
  obtain ⟨g, q, h1, h2, -⟩ := a.ses
  refine ⟨by decide, by rw [h2]; simp, ?_⟩
  have : s.all.getD ((1 : Int).toNat - 1) default = s.ses 1 := rfl
  rw [this, h1]
theorem Ag.sees (a : Ag h e n s) : s.seesE (s.ses 1) = h ++ e := by
  obtain ⟨g, q, h1, -⟩ := a.ses
  unfold Bs.seesE Bs.hist
  rw [h1, a.fi]; simp
theorem Ag.getA (a : Ag h e n s) (k : Str) : s.getA 1 k = stA (h ++ e) k := by unfold Bs.getA; rw [a.sees]; rfl
theorem Ag.keysA (a : Ag h e n s) (k : Str) : s.keysA 1 k = ((comes [] (h ++ e)).map (·.key)).filter fun x => k.isPrefixOf x := by unfold Bs.keysA; rw [a.sees]
theorem Ag.mono (a : Ag h e n s) : Ag h e (n + 1) s := by
  obtain ⟨g, q, h1, h2, h3⟩ := a.all
  exact ⟨a.fi, a.lg, g, q, h1, by omega, by omega⟩
theorem Ag.getS (a : Ag h e n s) (k : Str) : Ag h e (n + 1) (s.getS 1 k) := by
  unfold Bs.getS
  split
  · obtain ⟨g, q, h1, -, h2, h3⟩ := a.ses
    exact ⟨a.fi, a.lg, g ++ [k], q, by rw [a.upd, h1], by simp; omega, by omega⟩
  · exact a.mono
theorem Ag.keysS (a : Ag h e n s) (k : Str) : Ag h e (n + 1) (s.keysS 1 k) := by
  obtain ⟨g, q, h1, -, h2, h3⟩ := a.ses
  exact ⟨a.fi, a.lg, g, q ++ [k], by unfold Bs.keysS; rw [a.upd, h1], by omega, by simp; omega⟩
theorem Ag.putS (a : Ag h e n s) (x : Ed) : Ag h (e ++ [x]) (n + 1) (s.putS 1 x) := by
  obtain ⟨g, q, h1, -, h2, h3⟩ := a.ses
  exact ⟨a.fi, a.lg, g, q, by unfold Bs.putS; rw [a.upd, h1], by omega, by omega⟩
end
end Go.Gx
namespace Go.Gx
open Go.Proofs
theorem come1_len {h : List Ed} {e : Ed} : (come1 h e).length ≤ h.length + 1 := by
  induction h with
  | nil => rw [come1]; split <;> simp
  | cons a h ih =>
    rw [come1]
    repeat' split
    all_goals simp
    all_goals omega
theorem comes_len0 {g h : List Ed} : (comes g h).length ≤ g.length + h.length := by
  induction h generalizing g with
  | nil => exact Nat.le_refl _
  | cons a h ih =>
    have h1 := ih (g := come1 g a)
    have h2 := come1_len (h := g) (e := a)
    have e : comes g (a :: h) = comes (come1 g a) h := rfl
    rw [e, List.length_cons]; omega
theorem comes_len {h : List Ed} : (comes [] h).length ≤ h.length := by
  have := comes_len0 (g := []) (h := h)
  simpa using this
theorem Dids.rd {ow : Labels} {t : Nat} {w : World} {pa : Option Addr} {n ca : Nat} {ds : List Dd} (h : DidsAt ow t w (.slice pa n ca) ds) (hl : ∀ d ∈ ds, d.acts.length ≤ 1000000) {i : Nat} (hi : i < ds.length) :
    ∃ ba va vv vt vk, pa = some ⟨ba, 0, none⟩ ∧ DidRd w (didV va vv vt vk (ds.getD i default)) (ds.getD i default) ∧ ∀ j, j < 8 → w.cell? ⟨ba, 0 + i * 8 + j, none⟩ = (didV va vv vt vk (ds.getD i default))[j]? := by
  obtain ⟨rows, hO, hrl, hrow⟩ := h
  have h8 := dids_lens hrl hrow
  obtain ⟨va, vv, vt, vk, kr, hr, hrest⟩ := id (hrow i hi)
  have hrd := (hrow i hi).rd (hl _ (getD_mem hi))
  rcases Own.open hO.1 with ⟨e, e2, -⟩ | ⟨b', c', tl, e, -, -, -, hbx⟩
  · omega
  · simp only [Value.slice.injEq] at e
    refine ⟨b', va, vv, vt, vk, e.1, hr ▸ hrd, fun j hj => ?_⟩
    have hx : (didV va vv vt vk (ds.getD i default))[j]? = some ((didV va vv vt vk (ds.getD i default))[j]'(by simp [didV]; omega)) := List.getElem?_eq_getElem _
    rw [hx, Nat.zero_add]
    exact hbx.cell (row_cell h8 (by omega) hj (by rw [hr]; exact hx))
end Go.Gx
