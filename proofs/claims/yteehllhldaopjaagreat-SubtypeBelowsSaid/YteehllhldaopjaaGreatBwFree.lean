/- In a region that draws, and does not store: what reads alone, and what is not asked, is taken first. Conditions: none. -/
import Derived.Test.YteehllhldaopjaaGreatBwSeq
import Derived.Test.YteehllhldaopjaaGreatBwSort3
import Derived.Test.YteehllhldaopjaaGreatBwCheck
namespace Go.Gx
variable {P : Program} {ops : Array Oper} {Q : Exit → Act → World → Prop} {C : World → Prop}
def YF (P : Program) (ops : Array Oper) (C : World → Prop) (o : Oper) (v : Value) (a : Act) : Prop :=
  (Region.wanted o (yielded ops a.tmps) = true ∧ ∀ w, C w → (execOp a.eval o).run P w = .ok (.value v) w) ∨ (Region.wanted o (yielded ops a.tmps) = false ∧ v = undef)
theorem YF.same {o : Oper} {v : Value} {a a' : Act} (hy : YF P ops C o v a) (he : execOp a'.eval o = execOp a.eval o) (hw : Region.wanted o (yielded ops a'.tmps) = Region.wanted o (yielded ops a.tmps)) : YF P ops C o v a' := by
  unfold YF at *
  rw [he, hw]
  exact hy
theorem YF.take {i : Nat} {o : Oper} {v : Value} {a : Act} (hi : ops[i]? = some o) (hy : YF P ops C o v a) {K : Act → World → Prop} {w : World} (hC : C w) (h : K (a.put o.dst v) w) : wpOp P ops Q i K a w := by
  unfold wpOp
  rcases hy with ⟨h1, h2⟩ | ⟨h1, rfl⟩
  · simp only [hi, h1, if_true, Oper.wp, h2 w hC, Oper.upon]
    exact .inl h
  · simp only [hi]
    rw [if_neg (by rw [h1]; simp)]
    exact h
theorem wpOp_lateF {j : Nat} {oi oj : Oper} {v : Value} (hj : ops[j]? = some oj) (hap : oi.apart ops oj = true)
    (hsi : ∀ cs b, oi.op ≠ .select cs b) (hsj : ∀ cs b, oj.op ≠ .select cs b)
    (hQ : ∀ c a w, Q (.panic c) (a.put oi.dst v) w → Q (.panic c) a w) {K : Act → World → Prop} {a : Act} {w : World}
    (hy : YF P ops C oi v a) (h : wpOp P ops Q j K (a.put oi.dst v) w) :
    wpOp P ops Q j (fun a' w' => YF P ops C oi v a' ∧ K (a'.put oi.dst v) w') a w := by
  obtain ⟨h1, h2, h3⟩ := Oper.apart_spec hap
  have keep : ∀ u, YF P ops C oi v (a.put oj.dst u) := fun u => hy.same (execOp_put oi hsi a oj.dst u h3) (wanted_put oi a oj.dst u h3)
  have hw1 := wanted_put oj a oi.dst v h1
  have he1 := execOp_put oj hsj a oi.dst v h1
  unfold wpOp at h ⊢
  simp only [hj] at h ⊢
  rw [hw1] at h
  by_cases hw : Region.wanted oj (yielded ops a.tmps) = true
  · rw [if_pos hw] at h ⊢
    rcases h with h | ⟨ha, hl⟩
    · left
      unfold Oper.wp at h ⊢
      rw [he1] at h
      generalize (execOp a.eval oj).run P w = r at h ⊢
      cases r with
      | halt x w' =>
        cases x with
        | panic u => exact hQ _ _ _ h
        | _ => exact h
      | ok x w' =>
        cases x with
        | value u => exact ⟨keep u, by rw [← Act.put_comm a v u h2]; exact h⟩
        | skip => exact ⟨keep _, by rw [← Act.put_comm a v undef h2]; exact h⟩
        | defer d =>
          refine ⟨(hy.same (a' := { a with defers := d :: a.defers }) rfl rfl).same (execOp_put oi hsi _ oj.dst _ h3) (wanted_put oi _ oj.dst _ h3), ?_⟩
          rw [← Act.put_comm _ v undef h2, ← Act.put_defers]
          exact h
        | enter f args =>
          refine Calls.mono h fun e w'' he => ?_
          cases e with
          | returned u => exact ⟨keep u, by rw [← Act.put_comm a v u h2]; exact he⟩
          | panicked c => exact hQ _ _ _ he
          | outgrown => exact he
        | row row args => exact Rows.mono h fun u w'' he => ⟨keep u, by rw [← Act.put_comm a v u h2]; exact he⟩
        | _ => exact h
    · exact .inr ⟨by unfold Oper.asks at *; rw [he1] at ha; exact ha, hl⟩
  · rw [if_neg hw] at h ⊢
    exact ⟨keep _, by rw [← Act.put_comm a v undef h2]; exact h⟩
theorem getD_out {listed : Array Bool} {st : Nat} (h : listed.size ≤ st) : listed.getD st false = false := by
  simp [Array.getElem?_eq_none h]
theorem wpAnyC.takeF {i st : Nat} {oi : Oper} {v : Value} (hi : ops[i]? = some oi) (hsel : ∀ (j : Nat) (o : Oper) cs b, ops[j]? = some o → o.op ≠ .select cs b)
    (hQ : ∀ c a w, Q (.panic c) (a.put oi.dst v) w → Q (.panic c) a w) :
    ∀ (fuel : Nat) (listed : Array Bool) (a : Act) (w : World), listed.size ≤ st →
      (∀ j oj, ops[j]? = some oj → j ≠ i → listed.getD j true = false → (∀ e ∈ oj.after, Region.binds .any e = true → e.on ≠ i) → oi.apart ops oj = true) →
      i ∈ Region.ready .any ops listed → YF P ops C oi v a →
      wpAnyC P ops C st Q fuel (listed.setIfInBounds i true) (a.put oi.dst v) w → wpAnyC P ops C st Q (fuel + 1) listed a w := by
  intro fuel
  induction fuel with
  | zero =>
    intro listed a w hsz _ hr hy H
    have hC : C w := H.1 (getD_out (by simpa using hsz))
    refine ⟨fun _ => hC, fun h => (by rw [h] at hr; cases hr), fun j hj => ?_⟩
    by_cases hji : j = i
    · subst hji; exact hy.take hi hC H
    · have := ready_mono hj hji
      rw [H.2.1] at this
      cases this
  | succ fuel ih =>
    intro listed a w hsz hfree hr hy H
    have hun := (mem_ready.1 hr).1
    have hC : C w := H.here (getD_out (by simpa using hsz))
    refine ⟨fun _ => hC, fun h => (by rw [h] at hr; cases hr), fun j hj => ?_⟩
    by_cases hji : j = i
    · subst hji; exact hy.take hi hC H
    · have h1 := H.2.2 j (ready_mono hj hji)
      obtain ⟨hjun, oj, hoj, hall⟩ := mem_ready.1 hj
      have hnot : ∀ e ∈ oj.after, Region.binds .any e = true → e.on ≠ i := fun e he hb heq => by
        have h1 := hall e he hb
        rw [heq, unlisted hun] at h1; cases h1
      have h2 := wpOp_lateF hoj (hfree j oj hoj hji hjun hnot) (fun cs b => hsel i oi cs b hi) (fun cs b => hsel j oj cs b hoj) hQ hy h1
      refine wpOp_mono (fun a' w' h3 => ih (listed.setIfInBounds j true) a' w' (by simpa using hsz) (fun k ok hk hki hu hno => ?_) (ready_mono hr (Ne.symm hji)) h3.1 ?_) h2
      · refine hfree k ok hk hki ?_ hno
        by_cases hjk : j = k
        · subst hjk; exact hjun
        · rw [getD_set_ne true hjk] at hu; exact hu
      · rw [Array.setIfInBounds_comm _ _ hji]
        exact h3.2
section
variable {n st : Nat} {K : List Deferred → Env → World → Prop} {D : List Deferred} {E : Env} {w : World}
theorem LAC.takeY {fuel : Nat} {listed : Array Bool} {i d : Nat} {o : Oper} {v : Value}
    (ho : ops[i]? = some o) (hod : o.dst = some d) (hs : Region.noSelect ops = true) (hf : Region.free .any ops listed i = true) (hr : (Region.ready .any ops listed).contains i = true) (hz : Nat.ble listed.size st = true)
    (hx : ∀ a, Fr D n a E → YF P ops C o v a) (hd : Nat.blt d n = true) (k : LAC P n ops C st K fuel (listed.setIfInBounds i true) D (upd E d v) w) : LAC P n ops C st K (fuel + 1) listed D E w := by
  intro a ha
  refine wpAnyC.takeF ho (Region.noSelect_spec hs) ?_ fuel listed a w (Nat.le_of_ble_eq_true hz) (Region.free_spec ho hf) (by simpa using hr) (hx a ha) ?_
  · rintro c a w ⟨_, E, _, h, _⟩; cases h
  · rw [hod]; exact k _ (ha.put v hd)
theorem LAC.takeN {fuel : Nat} {listed : Array Bool} {i d : Nat} {op : Op} {t : TypeId} {p : String} {af : Array Edge} {v : Value}
    (ho : ops[i]? = some ⟨some d, op, t, p, af, none⟩) (hs : Region.noSelect ops = true) (hf : Region.free .any ops listed i = true) (hr : (Region.ready .any ops listed).contains i = true) (hz : Nat.ble listed.size st = true)
    (hx : ∀ w, C w → X P op t E w v w) (hd : Nat.blt d n = true) (k : LAC P n ops C st K fuel (listed.setIfInBounds i true) D (upd E d v) w) : LAC P n ops C st K (fuel + 1) listed D E w :=
  LAC.takeY ho rfl hs hf hr hz (fun a ha => .inl ⟨by simp [Region.wanted], fun w hw => by
    have := hx w hw
    unfold X at this
    rw [execOp_bare, ha.eval]; exact this⟩) hd k
theorem LAC.takeG {fuel : Nat} {listed : Array Bool} {i d j dj : Nat} {op : Op} {t : TypeId} {p : String} {af : Array Edge} {v : Value} {want b : Bool}
    (ho : ops[i]? = some ⟨some d, op, t, p, af, some (j, want)⟩) (hs : Region.noSelect ops = true) (hf : Region.free .any ops listed i = true) (hr : (Region.ready .any ops listed).contains i = true) (hz : Nat.ble listed.size st = true)
    (hj : (ops[j]?).bind (·.dst) = some dj) (hE : E dj = .bool b) (hb : b = want)
    (hx : ∀ w, C w → X P op t E w v w) (hd : Nat.blt d n = true) (k : LAC P n ops C st K fuel (listed.setIfInBounds i true) D (upd E d v) w) : LAC P n ops C st K (fuel + 1) listed D E w :=
  LAC.takeY ho rfl hs hf hr hz (fun a ha => .inl ⟨wanted_yes rfl hj ha (hb ▸ hE), fun w hw => by
    have := hx w hw
    unfold X at this
    rw [execOp_bare, ha.eval]; exact this⟩) hd k
theorem LAC.takeU {fuel : Nat} {listed : Array Bool} {i d j dj : Nat} {op : Op} {t : TypeId} {p : String} {af : Array Edge} {want b : Bool}
    (ho : ops[i]? = some ⟨some d, op, t, p, af, some (j, want)⟩) (hs : Region.noSelect ops = true) (hf : Region.free .any ops listed i = true) (hr : (Region.ready .any ops listed).contains i = true) (hz : Nat.ble listed.size st = true)
    (hj : (ops[j]?).bind (·.dst) = some dj) (hE : E dj = .bool b) (hb : b = !want)
    (hd : Nat.blt d n = true) (k : LAC P n ops C st K fuel (listed.setIfInBounds i true) D (upd E d undef) w) : LAC P n ops C st K (fuel + 1) listed D E w :=
  LAC.takeY ho rfl hs hf hr hz (fun _ ha => .inr ⟨wanted_no rfl hj ha hE hb, rfl⟩) hd k
theorem LAC.split {fuel : Nat} {listed : Array Bool} {dj : Nat} {b : Bool} (_hE : E dj = .bool b) (ht : b = true → LAC P n ops C st K fuel listed D E w) (hf : b = false → LAC P n ops C st K fuel listed D E w) : LAC P n ops C st K fuel listed D E w := by
  cases b
  · exact hf rfl
  · exact ht rfl
theorem LAC.doneF {listed : Array Bool} (hr : Region.ready .any ops listed = []) (hC : C w) (h : K D E w) : LAC P n ops C st K 0 listed D E w :=
  fun _ ha => ⟨fun _ => hC, hr, lift_mk (by simp) ha ⟨rfl, h⟩⟩
theorem W.drawF {id : Nat} {l : List Oper} {Q : Post} (st : Nat) (hm : P.follows .mixedOrders = true) (h : ∀ w1, Bel w w1 → LAC P n l.toArray (Bel w) st (Q .normal) l.length (Array.replicate l.length false) D E w1) : W P n (.region id l.toArray true) Q D E w :=
  W.drawT (Bel w) st hm (h _ (bel_drew _))
end
end Go.Gx
namespace Go.Gx
open Go.Proofs
def lacksS (L : Bool) (s : Sh) (first : Bool) : Bool := L && (first == decide (s.kind = 6))
def recF (L : Bool) (F : Sh → Sh → Bool) (a b : Sh) (i : Nat) : Bool := if idxS (a.names.getD i []) b.names < b.names.length then F (a.parts.getD i default) (b.parts.getD (idxS (a.names.getD i []) b.names) default) else lacksS L a true
def funF (F : Sh → Sh → Bool) (a b : Sh) (i : Nat) : Bool := if a.kind = 8 ∧ i + 1 < a.parts.length then F (b.parts.getD i default) (a.parts.getD i default) else F (a.parts.getD i default) (b.parts.getD i default)
def restF (a b : Sh) : Bool := !(List.range b.names.length).any fun i => !decide (idxS (b.names.getD i []) a.names < a.names.length)
theorem all_succ {q : Nat → Bool} {k : Nat} : (List.range (k + 1)).all q = ((List.range k).all q && q k) := by
  rw [List.range_succ, List.all_append]; simp
theorem all_missR {q : Nat → Bool} {k n : Nat} (h : k < n) (hk : q k = false) : (List.range n).all q = false := by
  rw [List.all_eq_false]; exact ⟨k, List.mem_range.2 h, by rw [hk]; simp⟩
section
variable {P : Program} {E : Env} {w : World}
end
theorem rec_len {s : Sh} (h : fitsS s = true) (hk : s.kind = 6 ∨ s.kind = 7) : s.names.length = s.parts.length := by
  rw [fits_rec hk] at h
  simp only [Bool.and_eq_true, namesOk, decide_eq_true_eq] at h
  omega
theorem allB_fit {s : Sh} (h : s.allB fitsS = true) : fitsS s = true := by rw [Sh.allB_eq] at h; simp at h; exact h.1
end Go.Gx
namespace Go.Gx
theorem idxS_nodup : ∀ {l : List Str} {i : Nat}, l.Nodup → i < l.length → idxS (l.getD i []) l = i
  | [], _, _, h => absurd h (by simp)
  | y :: l, 0, _, _ => by simp [idxS]
  | y :: l, i + 1, h, hi => by
    rw [List.nodup_cons] at h
    have hi : i < l.length := by simpa using hi
    have ih := idxS_nodup (i := i) h.2 hi
    have hg : (y :: l).getD (i + 1) [] = l.getD i [] := by simp
    have hne : ¬ y = l.getD i [] := fun e => h.1 (by rw [e, List.getD_eq_getElem?_getD, List.getElem?_eq_getElem hi]; exact List.getElem_mem _)
    rw [hg, idxS, if_neg hne, ih]
def AvC (M : Nat → Prop) (n1 n0 : Nat) (w : World) (v1 v2 : Value) (k : Nat) : Prop := (k < n1 ∧ M k) ∨ (n1 ≤ k ∧ k < n0) ∨ some k = v1.ownBlock ∨ some k = v2.ownBlock ∨ w.heap.size ≤ k
theorem avc_step {M : Nat → Prop} {n1 n0 : Nat} {w w2 : World} {v v' v1 v2 : Value} (hs : w.heap.size ≤ w2.heap.size) (h1 : v1.ownBlock = v.ownBlock ∨ ∀ k, some k = v1.ownBlock → w.heap.size ≤ k) (h2 : v2.ownBlock = v'.ownBlock ∨ ∀ k, some k = v2.ownBlock → w.heap.size ≤ k) {j : Nat} (h : AvC M n1 n0 w2 v1 v2 j) : AvC M n1 n0 w v v' j := by
  rcases h with h | h | h | h | h
  · exact .inl h
  · exact .inr (.inl h)
  · rcases h1 with e | e
    · exact .inr (.inr (.inl (h.trans e)))
    · exact .inr (.inr (.inr (.inr (e j h))))
  · rcases h2 with e | e
    · exact .inr (.inr (.inr (.inl (h.trans e))))
    · exact .inr (.inr (.inr (.inr (e j h))))
  · exact .inr (.inr (.inr (.inr (by omega))))
theorem avc_mono {M : Nat → Prop} {n1 n0 : Nat} {w w2 : World} {v1 v2 : Value} (hs : w.heap.size ≤ w2.heap.size) {j : Nat} (h : AvC M n1 n0 w2 v1 v2 j) : AvC M n1 n0 w v1 v2 j := avc_step hs (.inl rfl) (.inl rfl) h
theorem ShsOwn.snocW {A A' R : Nat → Prop} {w w' : World} {base : Nat} {e : TypeId} {v' : Value} {l : List Sh} {rows : List (List Value)} {cs : List Value} {t : Sh} (h1 : rows.length = l.length) (h3 : ∀ i, i < l.length → (rows.getD i []).length = 5) (h4 : ∀ i, i < l.length → ShC A w (rows.getD i []) (l.getD i default))
    (ht : ShC A' w' cs t) (ho : Own w' base e 5 v' (l.length + 1) (rows.flatten ++ cs)) (g : Gr R w w') (hR : ∀ j, R j → A j) (hA : ∀ j, A' j → A j) : ShsOwn A' w' base e v' (l ++ [t]) := by
  refine ⟨rows ++ [cs], by simp [h1], ?_, fun i hi => ?_, fun i hi => ?_⟩
  · have e1 : (rows ++ [cs]).flatten = rows.flatten ++ cs := by simp
    rw [e1, List.length_append]; exact ho
  · rw [getD_snoc (by simpa [h1] using hi)]
    split
    · exact h3 i (by omega)
    · exact ht.len
  · rw [getD_snoc (by simpa [h1] using hi), getD_snoc hi]
    by_cases hlt : i < l.length
    · rw [if_pos (by omega), if_pos hlt]; exact ((h4 i hlt).carryR g hR).mono fun j _ hj => hA j hj
    · rw [if_neg (by omega), if_neg hlt]; exact ht
theorem map_range_succ {α : Type} {f : Nat → α} {i : Nat} : (List.range (i + 1)).map f = (List.range i).map f ++ [f i] := by
  rw [List.range_succ, List.map_append]; rfl
end Go.Gx
namespace Go.Gx
def nrA (F : Sh → Sh → Bool) (a b : Sh) (i : Nat) : Bool := if idxS (b.names.getD i []) a.names < a.names.length then F (a.parts.getD (idxS (b.names.getD i []) a.names) default) (b.parts.getD i default) else false
def nrV (F : Sh → Sh → Bool) (a b : Sh) (i : Nat) : Bool := if idxS (a.names.getD i []) b.names < b.names.length then F (a.parts.getD i default) (b.parts.getD (idxS (a.names.getD i []) b.names) default) else false
theorem all_iff {q : Nat → Bool} {n : Nat} : (List.range n).all q = true ↔ ∀ i, i < n → q i = true := by
  rw [List.all_eq_true]; simp
theorem restF_iff {a b : Sh} : restF a b = true ↔ ∀ i, i < b.names.length → idxS (b.names.getD i []) a.names < a.names.length := by
  unfold restF
  rw [Bool.not_eq_true', List.any_eq_false]
  simp
theorem rec_nodup {s : Sh} (h : fitsS s = true) (_hk : s.kind = 6 ∨ s.kind = 7) : s.names.Nodup := by
  by_cases hn : s.names = []
  · rw [hn]; exact List.nodup_nil
  · exact nodup_iff.1 ((fits_names h).resolve_left hn).2
theorem mem_getD {l : List Str} {i : Nat} (h : i < l.length) : l.getD i [] ∈ l := by rw [List.getD_eq_getElem?_getD, List.getElem?_eq_getElem h]; exact List.getElem_mem _
theorem mem_at {l : List Str} {x : Str} (h : x ∈ l) : ∃ i, i < l.length ∧ l.getD i [] = x := ⟨idxS x l, idxS_lt.2 h, idxS_get (idxS_lt.2 h)⟩
theorem part_fit {s : Sh} (h : s.allB fitsS = true) {i : Nat} (hi : i < s.parts.length) : (s.parts.getD i default).allB fitsS = true := by
  rw [Sh.allB_eq] at h; simp at h; exact allL_getD h.2 hi
theorem fits8 {s : Sh} (h : fitsS s = true) (hk : s.kind = 8) : 1 ≤ s.parts.length := by
  unfold fitsS at h
  simp [hk] at h
  omega
theorem fits5 {s : Sh} (h : fitsS s = true) (hk : s.kind = 5) : s.parts.length = 1 := by
  unfold fitsS at h
  simp [hk] at h
  omega
theorem fits0 {s : Sh} (h : fitsS s = true) (h6 : s.kind ≠ 6) (h7 : s.kind ≠ 7) (h8 : s.kind ≠ 8) (h5 : s.kind ≠ 5) : s.parts.length = 0 := by
  unfold fitsS at h
  simp only [h6, h7, h8, h5, decide_false, Bool.or_self, Bool.false_eq_true, if_false] at h
  repeat' split at h
  all_goals first | (simp only [Bool.and_eq_true, decide_eq_true_eq] at h; omega) | cases h
end Go.Gx
namespace Go.Gx
open Go.Sort
theorem pairUp_perm {ns : List Str} {qs : List Sh} : (pairUp ns qs).Perm (ns.zip qs) := by
  have := foldP_perm (ns.zip qs) []
  rw [List.append_nil] at this; exact this
theorem pairUp_sorted {ns : List Str} {qs : List Sh} : (pairUp ns qs).Pairwise LeP := foldP_sorted _ _ .nil
theorem pairUp_names {ns : List Str} {qs : List Sh} (h : ns.length = qs.length) : ((pairUp ns qs).map (·.1)).Perm ns := by
  have := (pairUp_perm (ns := ns) (qs := qs)).map (·.1)
  rwa [List.map_fst_zip (by omega)] at this
end Go.Gx
namespace Go.Gx
def relB (any L : Bool) (F : Sh → Sh → Bool) (a b : Sh) : Bool :=
  if any = true ∧ (a.kind = 4 ∨ b.kind = 4) then true
  else if a.kind ≠ b.kind ∨ a.of ≠ b.of ∨ a.name ≠ b.name then false
  else if a.kind = 6 ∨ a.kind = 7 then (List.range a.names.length).all (recF L F a b) && (lacksS L b false || restF a b)
  else if a.parts.length ≠ b.parts.length then false
  else (List.range a.parts.length).all (funF F a b)
def relN (any L : Bool) : Nat → Sh → Sh → Bool
  | 0 => fun _ _ => false
  | N + 1 => relB any L (relN any L N)
theorem all_congr' {n : Nat} {p q : Nat → Bool} (h : ∀ i, i < n → p i = q i) : (List.range n).all p = (List.range n).all q := by
  rw [Bool.eq_iff_iff, all_iff, all_iff]
  exact ⟨fun hp i hi => by rw [← h i hi]; exact hp i hi, fun hq i hi => by rw [h i hi]; exact hq i hi⟩
theorem relB_congr {any L : Bool} {F G : Sh → Sh → Bool} {a b : Sh} (fa : fitsS a = true) (fb : fitsS b = true)
    (h : ∀ i j, i < a.parts.length → j < b.parts.length → F (a.parts.getD i default) (b.parts.getD j default) = G (a.parts.getD i default) (b.parts.getD j default) ∧ F (b.parts.getD j default) (a.parts.getD i default) = G (b.parts.getD j default) (a.parts.getD i default)) :
    relB any L F a b = relB any L G a b := by
  unfold relB
  split
  · rfl
  · split
    · rfl
    · next h2 =>
      split
      · next h6 =>
        have hk : a.kind = b.kind := Decidable.byContradiction fun e => h2 (.inl e)
        have la := rec_len fa h6
        have lb := rec_len fb (by rw [← hk]; exact h6)
        congr 1
        refine all_congr' fun i hi => ?_
        unfold recF
        split
        · next hx => exact (h i _ (by omega) (by omega)).1
        · rfl
      · split
        · rfl
        · next hl =>
          have hl : a.parts.length = b.parts.length := Decidable.byContradiction hl
          refine all_congr' fun i hi => ?_
          unfold funF
          split
          · exact (h i i hi (by omega)).2
          · exact (h i i hi (by omega)).1
theorem relN_fuel {any L : Bool} : ∀ (N M : Nat) (a b : Sh), SizeOf.sizeOf a + SizeOf.sizeOf b < N → SizeOf.sizeOf a + SizeOf.sizeOf b < M → a.allB fitsS = true → b.allB fitsS = true → relN any L N a b = relN any L M a b
  | 0, _, _, _, h, _, _, _ => by omega
  | _ + 1, 0, _, _, _, h, _, _ => by omega
  | N + 1, M + 1, a, b, hN, hM, fa, fb => by
    show relB any L (relN any L N) a b = relB any L (relN any L M) a b
    refine relB_congr (allB_fit fa) (allB_fit fb) fun i j hi hj => ?_
    have s1 := Sh.part_lt hi
    have s2 := Sh.part_lt hj
    exact ⟨relN_fuel N M _ _ (by omega) (by omega) (part_fit fa hi) (part_fit fb hj), relN_fuel N M _ _ (by omega) (by omega) (part_fit fb hj) (part_fit fa hi)⟩
def Rel (any L : Bool) (a b : Sh) : Prop := relN any L (SizeOf.sizeOf a + SizeOf.sizeOf b + 1) a b = true
noncomputable instance (any L : Bool) (a b : Sh) : Decidable (Rel any L a b) := inferInstanceAs (Decidable (_ = true))
theorem rel_fuel {any L : Bool} {N : Nat} {a b : Sh} (h : SizeOf.sizeOf a + SizeOf.sizeOf b < N) (fa : a.allB fitsS = true) (fb : b.allB fitsS = true) : relN any L N a b = true ↔ Rel any L a b := by
  unfold Rel; rw [relN_fuel N _ a b h (Nat.lt_succ_self _) fa fb]
theorem partS_some {s : Sh} {x : Str} {p : Sh} : partS s x = some p ↔ idxS x s.names < s.names.length ∧ s.parts.getD (idxS x s.names) default = p := by
  unfold partS
  split
  · next h => simp [h]
  · next h => simp [h]
theorem partS_at {s : Sh} {i : Nat} (hd : s.names.Nodup) (hi : i < s.names.length) : partS s (s.names.getD i []) = some (s.parts.getD i default) := by
  rw [partS_some, idxS_nodup hd hi]; exact ⟨hi, rfl⟩
theorem partS_idx {s : Sh} {x : Str} {p : Sh} (fs : fitsS s = true) (h : partS s x = some p) : idxS x s.names < s.parts.length ∧ s.parts.getD (idxS x s.names) default = p := by
  obtain ⟨h1, h2⟩ := partS_some.1 h
  rcases fits_names fs with e | e
  · rw [e] at h1; simp at h1
  · exact ⟨by omega, h2⟩
structure RelC (any L : Bool) (a b : Sh) : Prop where
  kind : a.kind = b.kind
  of : a.of = b.of
  name : a.name = b.name
  both : (a.kind = 6 ∨ a.kind = 7) → ∀ x p q, partS a x = some p → partS b x = some q → Rel any L p q
  left : (a.kind = 6 ∨ a.kind = 7) → ¬ (L = true ∧ a.kind = 6) → ∀ x, x ∈ a.names → x ∈ b.names
  right : (a.kind = 6 ∨ a.kind = 7) → ¬ (L = true ∧ a.kind = 7) → ∀ x, x ∈ b.names → x ∈ a.names
  len : ¬ (a.kind = 6 ∨ a.kind = 7) → a.parts.length = b.parts.length
  part : ¬ (a.kind = 6 ∨ a.kind = 7) → ∀ i, i < a.parts.length → ¬ (a.kind = 8 ∧ i + 1 < a.parts.length) → Rel any L (a.parts.getD i default) (b.parts.getD i default)
  arg : a.kind = 8 → ∀ i, i + 1 < a.parts.length → Rel any L (b.parts.getD i default) (a.parts.getD i default)
theorem lacks1 {L : Bool} {s : Sh} : lacksS L s true = true ↔ L = true ∧ s.kind = 6 := by
  unfold lacksS; simp
theorem lacks2 {L : Bool} {s : Sh} : lacksS L s false = true ↔ L = true ∧ s.kind ≠ 6 := by
  unfold lacksS; simp
theorem rel_iff {any L : Bool} {a b : Sh} (fa : a.allB fitsS = true) (fb : b.allB fitsS = true) : Rel any L a b ↔ (any = true ∧ (a.kind = 4 ∨ b.kind = 4)) ∨ RelC any L a b := by
  show relB any L (relN any L (SizeOf.sizeOf a + SizeOf.sizeOf b)) a b = true ↔ _
  have hF : ∀ i j, i < a.parts.length → j < b.parts.length → (relN any L (SizeOf.sizeOf a + SizeOf.sizeOf b) (a.parts.getD i default) (b.parts.getD j default) = true ↔ Rel any L (a.parts.getD i default) (b.parts.getD j default)) := fun i j hi hj => by
    have s1 := Sh.part_lt hi
    have s2 := Sh.part_lt hj
    exact rel_fuel (by omega) (part_fit fa hi) (part_fit fb hj)
  have hG : ∀ i j, i < a.parts.length → j < b.parts.length → (relN any L (SizeOf.sizeOf a + SizeOf.sizeOf b) (b.parts.getD j default) (a.parts.getD i default) = true ↔ Rel any L (b.parts.getD j default) (a.parts.getD i default)) := fun i j hi hj => by
    have s1 := Sh.part_lt hi
    have s2 := Sh.part_lt hj
    exact rel_fuel (by omega) (part_fit fb hj) (part_fit fa hi)
  unfold relB
  split
  · next h => exact ⟨fun _ => .inl h, fun _ => rfl⟩
  · next h1 =>
    split
    · next h2 =>
      constructor
      · intro h; cases h
      · rintro (h | h)
        · exact absurd h h1
        · rcases h2 with e | e | e
          · exact absurd h.kind e
          · exact absurd h.of e
          · exact absurd h.name e
    · next h2 =>
      have e1 : a.kind = b.kind := Decidable.byContradiction fun e => h2 (.inl e)
      have e2 : a.of = b.of := Decidable.byContradiction fun e => h2 (.inr (.inl e))
      have e3 : a.name = b.name := Decidable.byContradiction fun e => h2 (.inr (.inr e))
      split
      · next h6 =>
        have h6b : b.kind = 6 ∨ b.kind = 7 := by rw [← e1]; exact h6
        have la := rec_len (allB_fit fa) h6
        have lb := rec_len (allB_fit fb) h6b
        have na := rec_nodup (allB_fit fa) h6
        rw [Bool.and_eq_true, all_iff, Bool.or_eq_true, restF_iff]
        constructor
        · rintro ⟨hr, ht⟩
          refine .inr ⟨e1, e2, e3, fun _ x p q hp hq => ?_, fun _ hL x hx => ?_, fun _ hL x hx => ?_, fun hn => absurd h6 hn, fun hn => absurd h6 hn, fun h8 => absurd h6 (by omega)⟩
          · obtain ⟨hp1, rfl⟩ := partS_some.1 hp
            obtain ⟨hq1, rfl⟩ := partS_some.1 hq
            have := hr _ hp1
            unfold recF at this
            rw [idxS_get hp1, if_pos hq1] at this
            exact (hF _ _ (by omega) (by omega)).1 this
          · have hx' := idxS_lt.2 hx
            have := hr _ hx'
            unfold recF at this
            rw [idxS_get hx'] at this
            split at this
            · next h => exact idxS_lt.1 h
            · exact absurd (lacks1.1 this) hL
          · rcases ht with ht | ht
            · have := lacks2.1 ht
              exact absurd ⟨this.1, by omega⟩ hL
            · obtain ⟨j, hj, rfl⟩ := mem_at hx
              exact idxS_lt.1 (ht j hj)
        · rintro (h | h)
          · exact absurd h h1
          · refine ⟨fun i hi => ?_, ?_⟩
            · unfold recF
              split
              · next hx => exact (hF i _ (by omega) (by omega)).2 (h.both h6 _ _ _ (partS_at na hi) (partS_some.2 ⟨hx, rfl⟩))
              · next hx =>
                by_cases hL : L = true ∧ a.kind = 6
                · exact lacks1.2 hL
                · exact absurd (idxS_lt.2 (h.left h6 hL _ (mem_getD hi))) hx
            · by_cases hL : L = true ∧ a.kind = 7
              · exact .inl (lacks2.2 ⟨hL.1, by omega⟩)
              · exact .inr fun j hj => idxS_lt.2 (h.right h6 hL _ (mem_getD hj))
      · next h6 =>
        split
        · next hl =>
          constructor
          · intro h; cases h
          · rintro (h | h)
            · exact absurd h h1
            · exact absurd (h.len h6) hl
        · next hl =>
          have hl : a.parts.length = b.parts.length := Decidable.byContradiction hl
          rw [all_iff]
          constructor
          · intro hq
            refine .inr ⟨e1, e2, e3, fun hn => absurd hn h6, fun hn => absurd hn h6, fun hn => absurd hn h6, fun _ => hl, fun _ i hi hn => ?_, fun h8 i hi => ?_⟩
            · have := hq i hi
              unfold funF at this
              rw [if_neg hn] at this
              exact (hF i i hi (by omega)).1 this
            · have := hq i (by omega)
              unfold funF at this
              rw [if_pos ⟨h8, hi⟩] at this
              exact (hG i i (by omega) (by omega)).1 this
          · rintro (h | h)
            · exact absurd h h1
            · intro i hi
              unfold funF
              split
              · next h8 => exact (hG i i hi (by omega)).2 (h.arg h8.1 i h8.2)
              · next h8 => exact (hF i i hi (by omega)).2 (h.part h6 i hi h8)
noncomputable def goesR (any L : Bool) (a b : Sh) : Bool := (decide (checkS a = 0) && decide (checkS b = 0)) && decide (Rel any L a b)
end Go.Gx
namespace Go.Gx
theorem deep_eq (s : Sh) : s.deep = 1 + deepL s.parts := by cases s; rfl
theorem fits67 {s : Sh} (h : fitsS s = true) (hk : s.kind = 6 ∨ s.kind = 7) : s.of = [] ∧ s.name = [] := by
  rw [fits_rec hk] at h
  simp only [Bool.and_eq_true, beq_iff_eq] at h
  exact h.1
end Go.Gx
namespace Go.Gx
def allK (up : Bool) (k : Int) : Bool := if k = 6 then !up else up
def pickB (F : Bool → Sh → Sh → Option Sh) (up all : Bool) (a b : Sh) (x : Str) : Option Sh :=
  match partS a x, partS b x with
  | some p, some q => F up p q
  | some p, none => if all = true then some p else none
  | none, some q => if all = true then some q else none
  | none, none => none
def failB (F : Bool → Sh → Sh → Option Sh) (up : Bool) (a b : Sh) (x : Str) : Bool := (partS a x).isSome && (partS b x).isSome && (pickB F up true a b x).isNone
def selB (U : Sh → Sh → List Str) (F : Bool → Sh → Sh → Option Sh) (up all : Bool) (a b : Sh) : List (Str × Sh) := (U a b).filterMap fun x => (pickB F up all a b x).map fun r => (x, r)
def nmdB (U : Sh → Sh → List Str) (F : Bool → Sh → Sh → Option Sh) (up all : Bool) (a b : Sh) : Option Sh :=
  if all = true ∧ (U a b).any (failB F up a b) = true then none else some (.mk a.kind [] [] ((selB U F up all a b).map (·.1)) ((selB U F up all a b).map (·.2)))
def funG (F : Bool → Sh → Sh → Option Sh) (up : Bool) (a b : Sh) (i : Nat) : Option Sh := F (up == decide (i + 1 = a.parts.length)) (a.parts.getD i default) (b.parts.getD i default)
def funB (F : Bool → Sh → Sh → Option Sh) (up : Bool) (a b : Sh) : Option Sh :=
  if a.parts.length ≠ b.parts.length then none
  else if (List.range a.parts.length).all (fun i => (funG F up a b i).isSome) = true then some (.mk 8 [] [] [] ((List.range a.parts.length).map fun i => (funG F up a b i).getD default)) else none
def bndF (U : Sh → Sh → List Str) (F : Bool → Sh → Sh → Option Sh) (up : Bool) (a b : Sh) : Option Sh :=
  if a.kind ≠ b.kind then none
  else if a.kind = 5 then (F up (a.parts.getD 0 default) (b.parts.getD 0 default)).map fun p => .mk 5 [] [] [] [p]
  else if a.kind = 6 ∨ a.kind = 7 then nmdB U F up (allK up a.kind) a b
  else if a.kind = 8 then funB F up a b
  else if a.of = b.of ∧ a.name = b.name then some a else none
def bndN (U : Sh → Sh → List Str) : Nat → Bool → Sh → Sh → Option Sh
  | 0 => fun _ _ _ => none
  | N + 1 => bndF U (bndN U N)
def UOk (U : Sh → Sh → List Str) : Prop := ∀ a b : Sh, a.names.Nodup → b.names.Nodup → (U a b).Nodup ∧ ∀ x, x ∈ U a b ↔ x ∈ a.names ∨ x ∈ b.names
end Go.Gx
namespace Go.Gx
def lastB (F : Sh → Sh → Bool) (a b : Sh) : Bool :=
  if a.parts.length ≠ b.parts.length then false
  else if F (a.parts.getD (a.parts.length - 1) default) (b.parts.getD (a.parts.length - 1) default) = false then false
  else (List.range (a.parts.length - 1)).all fun i => F (b.parts.getD i default) (a.parts.getD i default)
def belB (F : Sh → Sh → Bool) (a b : Sh) : Bool :=
  if a.kind ≠ b.kind then false
  else if a.kind = 9 ∨ a.kind = 10 then decide (a.of = b.of) && decide (a.name = b.name)
  else if a.kind = 5 then F (a.parts.getD 0 default) (b.parts.getD 0 default)
  else if a.kind = 6 then (List.range b.names.length).all (nrA F a b)
  else if a.kind = 7 then (List.range a.names.length).all (nrV F a b)
  else if a.kind = 8 then lastB F a b
  else true
def belN : Nat → Sh → Sh → Bool
  | 0 => fun _ _ => false
  | N + 1 => belB (belN N)
def undP (F : Sh → Sh → Bool) (a b : Sh) (i : Nat) : Bool := if i + 1 = a.parts.length then F (a.parts.getD i default) (b.parts.getD i default) else F (b.parts.getD i default) (a.parts.getD i default)
def undB (F : Sh → Sh → Bool) (a b : Sh) : Bool :=
  if a.kind ≠ b.kind ∨ a.of ≠ b.of ∨ a.name ≠ b.name then false
  else if a.kind = 6 then (List.range b.names.length).all (nrA F a b)
  else if a.kind = 7 then (List.range a.names.length).all (nrV F a b)
  else if a.parts.length ≠ b.parts.length then false
  else (List.range a.parts.length).all (undP F a b)
def undN : Nat → Sh → Sh → Bool
  | 0 => fun _ _ => false
  | N + 1 => undB (undN N)
theorem allA_iff {F : Sh → Sh → Bool} {a b : Sh} (nb : b.names.Nodup) : (List.range b.names.length).all (nrA F a b) = true ↔ (∀ x, x ∈ b.names → x ∈ a.names) ∧ ∀ x p q, partS a x = some p → partS b x = some q → F p q = true := by
  rw [all_iff]
  constructor
  · intro h
    refine ⟨fun x hx => ?_, fun x p q hp hq => ?_⟩
    · obtain ⟨i, hi, rfl⟩ := mem_at hx
      have := h i hi
      unfold nrA at this
      split at this
      · next hx => exact idxS_lt.1 hx
      · cases this
    · obtain ⟨hq1, rfl⟩ := partS_some.1 hq
      obtain ⟨hp1, rfl⟩ := partS_some.1 hp
      have := h _ hq1
      unfold nrA at this
      rw [idxS_get hq1, if_pos hp1] at this
      exact this
  · rintro ⟨h1, h2⟩ i hi
    have hm := idxS_lt.2 (h1 _ (mem_getD hi))
    unfold nrA
    rw [if_pos hm]
    exact h2 _ _ _ (partS_some.2 ⟨hm, rfl⟩) (partS_at nb hi)
theorem allV_iff {F : Sh → Sh → Bool} {a b : Sh} (na : a.names.Nodup) : (List.range a.names.length).all (nrV F a b) = true ↔ (∀ x, x ∈ a.names → x ∈ b.names) ∧ ∀ x p q, partS a x = some p → partS b x = some q → F p q = true := by
  rw [all_iff]
  constructor
  · intro h
    refine ⟨fun x hx => ?_, fun x p q hp hq => ?_⟩
    · obtain ⟨i, hi, rfl⟩ := mem_at hx
      have := h i hi
      unfold nrV at this
      split at this
      · next hx => exact idxS_lt.1 hx
      · cases this
    · obtain ⟨hq1, rfl⟩ := partS_some.1 hq
      obtain ⟨hp1, rfl⟩ := partS_some.1 hp
      have := h _ hp1
      unfold nrV at this
      rw [idxS_get hp1, if_pos hq1] at this
      exact this
  · rintro ⟨h1, h2⟩ i hi
    have hm := idxS_lt.2 (h1 _ (mem_getD hi))
    unfold nrV
    rw [if_pos hm]
    exact h2 _ _ _ (partS_at na hi) (partS_some.2 ⟨hm, rfl⟩)
theorem relC_flat {any L : Bool} {a b : Sh} (hk : ¬ (a.kind = 6 ∨ a.kind = 7)) (e1 : a.kind = b.kind) (e2 : a.of = b.of) (e3 : a.name = b.name) (hl : a.parts.length = b.parts.length)
    (hp : ∀ i, i < a.parts.length → ¬ (a.kind = 8 ∧ i + 1 < a.parts.length) → Rel any L (a.parts.getD i default) (b.parts.getD i default)) (hq : a.kind = 8 → ∀ i, i + 1 < a.parts.length → Rel any L (b.parts.getD i default) (a.parts.getD i default)) : RelC any L a b :=
  ⟨e1, e2, e3, fun h => absurd h hk, fun h => absurd h hk, fun h => absurd h hk, fun _ => hl, fun _ => hp, hq⟩
theorem fits58 {s : Sh} (h : fitsS s = true) (hk : s.kind = 5 ∨ s.kind = 8) : s.of = [] ∧ s.name = [] := by
  rcases hk with hk | hk
  · rw [fits_list hk] at h
    simp only [Bool.and_eq_true, beq_iff_eq] at h
    exact h.1.1
  · rw [fits_tup hk] at h
    simp only [Bool.and_eq_true, beq_iff_eq] at h
    exact h.1.1
theorem fits14 {s : Sh} (h : fitsS s = true) (h5 : s.kind ≠ 5) (h6 : s.kind ≠ 6) (h7 : s.kind ≠ 7) (h8 : s.kind ≠ 8) (h9 : ¬ (s.kind = 9 ∨ s.kind = 10)) : s.of = [] ∧ s.name = [] := by
  by_cases hr : 1 ≤ s.kind ∧ s.kind ≤ 4
  · rw [fits_bare hr] at h
    simp only [Bool.and_eq_true, beq_iff_eq] at h
    exact h.1.1
  · rw [fits_none (by omega)] at h; cases h
theorem last_iff {F : Sh → Sh → Bool} {a b : Sh} (hl : 1 ≤ a.parts.length) : lastB F a b = true ↔ a.parts.length = b.parts.length ∧ F (a.parts.getD (a.parts.length - 1) default) (b.parts.getD (a.parts.length - 1) default) = true ∧ ∀ i, i + 1 < a.parts.length → F (b.parts.getD i default) (a.parts.getD i default) = true := by
  unfold lastB
  split
  · next h => exact ⟨fun h => (by cases h), fun h2 => absurd h2.1 h⟩
  · next h =>
    have h : a.parts.length = b.parts.length := Decidable.byContradiction h
    split
    · next h1 => exact ⟨fun h => (by cases h), fun h2 => by rw [h2.2.1] at h1; cases h1⟩
    · next h1 =>
      rw [all_iff]
      exact ⟨fun hq => ⟨h, by simpa using h1, fun i hi => hq i (by omega)⟩, fun hq i hi => hq.2.2 i (by omega)⟩
theorem bel_eq : ∀ (N : Nat) (a b : Sh), SizeOf.sizeOf a + SizeOf.sizeOf b < N → a.allB fitsS = true → b.allB fitsS = true → belN N a b = decide (Rel false true a b)
  | 0, _, _, h, _, _ => by omega
  | N + 1, a, b, hN, fa, fb => by
    have hF : ∀ i j, i < a.parts.length → j < b.parts.length → (belN N (a.parts.getD i default) (b.parts.getD j default) = true ↔ Rel false true (a.parts.getD i default) (b.parts.getD j default)) := fun i j hi hj => by
      have s1 := Sh.part_lt hi
      have s2 := Sh.part_lt hj
      rw [bel_eq N _ _ (by omega) (part_fit fa hi) (part_fit fb hj), decide_eq_true_eq]
    have hG : ∀ i j, i < a.parts.length → j < b.parts.length → (belN N (b.parts.getD j default) (a.parts.getD i default) = true ↔ Rel false true (b.parts.getD j default) (a.parts.getD i default)) := fun i j hi hj => by
      have s1 := Sh.part_lt hi
      have s2 := Sh.part_lt hj
      rw [bel_eq N _ _ (by omega) (part_fit fb hj) (part_fit fa hi), decide_eq_true_eq]
    have hP : ∀ x p q, partS a x = some p → partS b x = some q → (belN N p q = true ↔ Rel false true p q) := fun x p q hp hq => by
      obtain ⟨i1, rfl⟩ := partS_idx (allB_fit fa) hp
      obtain ⟨i2, rfl⟩ := partS_idx (allB_fit fb) hq
      exact hF _ _ i1 i2
    rw [Bool.eq_iff_iff, decide_eq_true_eq, rel_iff fa fb, or_iff_right (by simp)]
    show belB (belN N) a b = true ↔ _
    unfold belB
    split
    · next h => exact ⟨fun h => (by cases h), fun h2 => absurd h2.kind h⟩
    next h =>
    have e1 : a.kind = b.kind := Decidable.byContradiction h
    split
    · next h9 =>
      have p0 := fits0 (allB_fit fa) (by omega) (by omega) (by omega) (by omega)
      have q0 := fits0 (allB_fit fb) (by omega) (by omega) (by omega) (by omega)
      simp only [Bool.and_eq_true, decide_eq_true_eq]
      exact ⟨fun h => relC_flat (by omega) e1 h.1 h.2 (by omega) (fun i hi => by omega) (fun h8 => by omega), fun h => ⟨h.of, h.name⟩⟩
    next h9 =>
    split
    · next h5 =>
      have l1 := fits5 (allB_fit fa) h5
      have l2 := fits5 (allB_fit fb) (by rw [← e1]; exact h5)
      have o1 := fits58 (allB_fit fa) (.inl h5)
      have o2 := fits58 (allB_fit fb) (.inl (by rw [← e1]; exact h5))
      rw [hF 0 0 (by omega) (by omega)]
      exact ⟨fun h => relC_flat (by omega) e1 (by rw [o1.1, o2.1]) (by rw [o1.2, o2.2]) (by omega) (fun i hi _ => (by obtain rfl : i = 0 := (by omega); exact h)) (fun h8 => by omega), fun h => h.part (by omega) 0 (by omega) (by omega)⟩
    next h5 =>
    split
    · next h6 =>
      have nb := rec_nodup (allB_fit fb) (by rw [← e1]; exact .inl h6)
      have o1 := fits67 (allB_fit fa) (.inl h6)
      have o2 := fits67 (allB_fit fb) (by rw [← e1]; exact .inl h6)
      rw [allA_iff nb]
      exact ⟨fun h => ⟨e1, by rw [o1.1, o2.1], by rw [o1.2, o2.2], fun _ x p q hp hq => (hP x p q hp hq).1 (h.2 x p q hp hq), fun _ hL => absurd ⟨rfl, h6⟩ hL, fun _ _ => h.1, fun hn => absurd (.inl h6) hn, fun hn => absurd (.inl h6) hn, fun h8 => by omega⟩,
        fun h => ⟨h.right (.inl h6) (by omega), fun x p q hp hq => (hP x p q hp hq).2 (h.both (.inl h6) x p q hp hq)⟩⟩
    next h6 =>
    split
    · next h7 =>
      have na := rec_nodup (allB_fit fa) (.inr h7)
      have o1 := fits67 (allB_fit fa) (.inr h7)
      have o2 := fits67 (allB_fit fb) (by rw [← e1]; exact .inr h7)
      rw [allV_iff na]
      exact ⟨fun h => ⟨e1, by rw [o1.1, o2.1], by rw [o1.2, o2.2], fun _ x p q hp hq => (hP x p q hp hq).1 (h.2 x p q hp hq), fun _ _ => h.1, fun _ hL => absurd ⟨rfl, h7⟩ hL, fun hn => absurd (.inr h7) hn, fun hn => absurd (.inr h7) hn, fun h8 => by omega⟩,
        fun h => ⟨h.left (.inr h7) (by omega), fun x p q hp hq => (hP x p q hp hq).2 (h.both (.inr h7) x p q hp hq)⟩⟩
    next h7 =>
    split
    · next h8 =>
      have l1 := fits8 (allB_fit fa) h8
      have o1 := fits58 (allB_fit fa) (.inr h8)
      have o2 := fits58 (allB_fit fb) (.inr (by rw [← e1]; exact h8))
      rw [last_iff l1]
      constructor
      · rintro ⟨hl, h1, h2⟩
        refine relC_flat (by omega) e1 (by rw [o1.1, o2.1]) (by rw [o1.2, o2.2]) hl (fun i hi hn => ?_) (fun _ i hi => ?_)
        · obtain rfl : i = a.parts.length - 1 := by omega
          exact (hF _ _ (by omega) (by omega)).1 h1
        · exact (hG i i (by omega) (by omega)).1 (h2 i hi)
      · intro h
        have hl := h.len (by omega)
        exact ⟨hl, (hF _ _ (by omega) (by omega)).2 (h.part (by omega) _ (by omega) (by omega)), fun i hi => (hG i i (by omega) (by omega)).2 (h.arg h8 i hi)⟩
    next h8 =>
      have p0 := fits0 (allB_fit fa) h6 h7 h8 h5
      have q0 := fits0 (allB_fit fb) (by omega) (by omega) (by omega) (by omega)
      have o1 := fits14 (allB_fit fa) h5 h6 h7 h8 h9
      have o2 := fits14 (allB_fit fb) (by omega) (by omega) (by omega) (by omega) (by omega)
      exact ⟨fun _ => relC_flat (by omega) e1 (by rw [o1.1, o2.1]) (by rw [o1.2, o2.2]) (by omega) (fun i hi => by omega) (fun h => absurd h h8), fun _ => rfl⟩
theorem und_eq : ∀ (N : Nat) (a b : Sh), SizeOf.sizeOf a + SizeOf.sizeOf b < N → a.allB fitsS = true → b.allB fitsS = true → undN N a b = decide (Rel false true a b)
  | 0, _, _, h, _, _ => by omega
  | N + 1, a, b, hN, fa, fb => by
    have hF : ∀ i j, i < a.parts.length → j < b.parts.length → (undN N (a.parts.getD i default) (b.parts.getD j default) = true ↔ Rel false true (a.parts.getD i default) (b.parts.getD j default)) := fun i j hi hj => by
      have s1 := Sh.part_lt hi
      have s2 := Sh.part_lt hj
      rw [und_eq N _ _ (by omega) (part_fit fa hi) (part_fit fb hj), decide_eq_true_eq]
    have hG : ∀ i j, i < a.parts.length → j < b.parts.length → (undN N (b.parts.getD j default) (a.parts.getD i default) = true ↔ Rel false true (b.parts.getD j default) (a.parts.getD i default)) := fun i j hi hj => by
      have s1 := Sh.part_lt hi
      have s2 := Sh.part_lt hj
      rw [und_eq N _ _ (by omega) (part_fit fb hj) (part_fit fa hi), decide_eq_true_eq]
    have hP : ∀ x p q, partS a x = some p → partS b x = some q → (undN N p q = true ↔ Rel false true p q) := fun x p q hp hq => by
      obtain ⟨i1, rfl⟩ := partS_idx (allB_fit fa) hp
      obtain ⟨i2, rfl⟩ := partS_idx (allB_fit fb) hq
      exact hF _ _ i1 i2
    rw [Bool.eq_iff_iff, decide_eq_true_eq, rel_iff fa fb, or_iff_right (by simp)]
    show undB (undN N) a b = true ↔ _
    unfold undB
    split
    · next h =>
      refine ⟨fun h => (by cases h), fun h2 => ?_⟩
      rcases h with h | h | h
      · exact absurd h2.kind h
      · exact absurd h2.of h
      · exact absurd h2.name h
    next h =>
    have e1 : a.kind = b.kind := Decidable.byContradiction fun e => h (.inl e)
    have e2 : a.of = b.of := Decidable.byContradiction fun e => h (.inr (.inl e))
    have e3 : a.name = b.name := Decidable.byContradiction fun e => h (.inr (.inr e))
    split
    · next h6 =>
      have nb := rec_nodup (allB_fit fb) (by rw [← e1]; exact .inl h6)
      rw [allA_iff nb]
      exact ⟨fun h => ⟨e1, e2, e3, fun _ x p q hp hq => (hP x p q hp hq).1 (h.2 x p q hp hq), fun _ hL => absurd ⟨rfl, h6⟩ hL, fun _ _ => h.1, fun hn => absurd (.inl h6) hn, fun hn => absurd (.inl h6) hn, fun h8 => by omega⟩,
        fun h => ⟨h.right (.inl h6) (by omega), fun x p q hp hq => (hP x p q hp hq).2 (h.both (.inl h6) x p q hp hq)⟩⟩
    next h6 =>
    split
    · next h7 =>
      have na := rec_nodup (allB_fit fa) (.inr h7)
      rw [allV_iff na]
      exact ⟨fun h => ⟨e1, e2, e3, fun _ x p q hp hq => (hP x p q hp hq).1 (h.2 x p q hp hq), fun _ _ => h.1, fun _ hL => absurd ⟨rfl, h7⟩ hL, fun hn => absurd (.inr h7) hn, fun hn => absurd (.inr h7) hn, fun h8 => by omega⟩,
        fun h => ⟨h.left (.inr h7) (by omega), fun x p q hp hq => (hP x p q hp hq).2 (h.both (.inr h7) x p q hp hq)⟩⟩
    next h7 =>
    split
    · next hl => exact ⟨fun h => (by cases h), fun h2 => absurd (h2.len (by omega)) hl⟩
    next hl =>
    have hl : a.parts.length = b.parts.length := Decidable.byContradiction hl
    rw [all_iff]
    by_cases h8 : a.kind = 8
    · constructor
      · intro hq
        refine relC_flat (by omega) e1 e2 e3 hl (fun i hi hn => ?_) (fun _ i hi => ?_)
        · have := hq i hi
          unfold undP at this
          rw [if_pos (by omega)] at this
          exact (hF i i hi (by omega)).1 this
        · have := hq i (by omega)
          unfold undP at this
          rw [if_neg (by omega)] at this
          exact (hG i i (by omega) (by omega)).1 this
      · intro h i hi
        unfold undP
        split
        · next he => exact (hF i i hi (by omega)).2 (h.part (by omega) i hi (by omega))
        · next he => exact (hG i i hi (by omega)).2 (h.arg h8 i (by omega))
    · have hle : a.parts.length ≤ 1 := by
        by_cases h5 : a.kind = 5
        · rw [fits5 (allB_fit fa) h5]; exact Nat.le_refl _
        · rw [fits0 (allB_fit fa) h6 h7 h8 h5]; omega
      constructor
      · intro hq
        refine relC_flat (by omega) e1 e2 e3 hl (fun i hi hn => ?_) (fun h => absurd h h8)
        have := hq i hi
        unfold undP at this
        rw [if_pos (by omega)] at this
        exact (hF i i hi (by omega)).1 this
      · intro h i hi
        unfold undP
        rw [if_pos (by omega)]
        exact (hF i i hi (by omega)).2 (h.part (by omega) i hi (by omega))
noncomputable def belowR (a b : Sh) : Bool := goesR false true a b
theorem below_bel {a b : Sh} : ((decide (checkS a = 0) && decide (checkS b = 0)) && belN (SizeOf.sizeOf a + SizeOf.sizeOf b + 1) a b) = belowR a b := by
  unfold belowR goesR
  by_cases ha : checkS a = 0
  · by_cases hb : checkS b = 0
    · rw [bel_eq _ a b (Nat.lt_succ_self _) (check_zero ha).2.2 (check_zero hb).2.2]
    · simp [hb]
  · simp [ha]
theorem below_und {a b : Sh} : ((decide (checkS a = 0) && decide (checkS b = 0)) && undN (SizeOf.sizeOf a + SizeOf.sizeOf b + 1) a b) = belowR a b := by
  unfold belowR goesR
  by_cases ha : checkS a = 0
  · by_cases hb : checkS b = 0
    · rw [und_eq _ a b (Nat.lt_succ_self _) (check_zero ha).2.2 (check_zero hb).2.2]
    · simp [hb]
  · simp [ha]
end Go.Gx
