/- In a region that draws, and does not store: what reads alone, and what is not asked, is taken first. Conditions: none. -/
import Derived.Test.YteehllhldaopjaaScSeq
import Derived.Test.YteehllhldaopjaaScSort3
import Derived.Test.YteehllhldaopjaaScCheck
namespace Go.Gx
variable {P : Program} {ops : Array Oper} {Q : Exit → Act → World → Prop} {C : World → Prop}
def YF (P : Program) (ops : Array Oper) (C : World → Prop) (o : Oper) (v : Value) (a : Act) : Prop :=
  (Region.wanted o (yielded ops a.tmps) = true ∧ ∀ w, C w → (execOp a.eval o).run P w = .ok (.value v) w) ∨ (Region.wanted o (yielded ops a.tmps) = false ∧ v = undef)
theorem YF.same {o : Oper} {v : Value} {a a' : Act} (hy : YF P ops C o v a) (he : execOp a'.eval o = execOp a.eval o) (hw : Region.wanted o (yielded ops a'.tmps) = Region.wanted o (yielded ops a.tmps)) : YF P ops C o v a' := by
  unfold YF at *
  rw [he, hw]
  exact hy
theorem YF.take {i : Nat} {o : Oper} {v : Value} {a : Act} (hi : ops[i]? = some o) (hy : YF P ops C o v a) {K : Act → World → Prop} {w : World} (hC : C w) (h : K (a.put o.dst v) w) : wpOp P ops Q i K a w := by
  unfold wpOp
  rcases hy with ⟨h1, h2⟩ | ⟨h1, rfl⟩
  · simp only [hi, h1, if_true, Oper.wp, h2 w hC, Oper.upon]
    exact .inl h
  · simp only [hi]
    rw [if_neg (by rw [h1]; simp)]
    exact h
theorem wpOp_lateF {j : Nat} {oi oj : Oper} {v : Value} (hj : ops[j]? = some oj) (hap : oi.apart ops oj = true)
    (hsi : ∀ cs b, oi.op ≠ .select cs b) (hsj : ∀ cs b, oj.op ≠ .select cs b)
    (hQ : ∀ c a w, Q (.panic c) (a.put oi.dst v) w → Q (.panic c) a w) {K : Act → World → Prop} {a : Act} {w : World}
    (hy : YF P ops C oi v a) (h : wpOp P ops Q j K (a.put oi.dst v) w) :
    wpOp P ops Q j (fun a' w' => YF P ops C oi v a' ∧ K (a'.put oi.dst v) w') a w := by
  obtain ⟨h1, h2, h3⟩ := Oper.apart_spec hap
  have keep : ∀ u, YF P ops C oi v (a.put oj.dst u) := fun u => hy.same (execOp_put oi hsi a oj.dst u h3) (wanted_put oi a oj.dst u h3)
  have hw1 := wanted_put oj a oi.dst v h1
  have he1 := execOp_put oj hsj a oi.dst v h1
  unfold wpOp at h ⊢
  simp only [hj] at h ⊢
  rw [hw1] at h
  by_cases hw : Region.wanted oj (yielded ops a.tmps) = true
  · rw [if_pos hw] at h ⊢
    rcases h with h | ⟨ha, hl⟩
    · left
      unfold Oper.wp at h ⊢
      rw [he1] at h
      generalize (execOp a.eval oj).run P w = r at h ⊢
      cases r with
      | halt x w' =>
        cases x with
        | panic u => exact hQ _ _ _ h
        | _ => exact h
      | ok x w' =>
        cases x with
        | value u => exact ⟨keep u, by rw [← Act.put_comm a v u h2]; exact h⟩
        | skip => exact ⟨keep _, by rw [← Act.put_comm a v undef h2]; exact h⟩
        | defer d =>
          refine ⟨(hy.same (a' := { a with defers := d :: a.defers }) rfl rfl).same (execOp_put oi hsi _ oj.dst _ h3) (wanted_put oi _ oj.dst _ h3), ?_⟩
          rw [← Act.put_comm _ v undef h2, ← Act.put_defers]
          exact h
        | enter f args =>
          refine Calls.mono h fun e w'' he => ?_
          cases e with
          | returned u => exact ⟨keep u, by rw [← Act.put_comm a v u h2]; exact he⟩
          | panicked c => exact hQ _ _ _ he
          | outgrown => exact he
        | row row args => exact Rows.mono h fun u w'' he => ⟨keep u, by rw [← Act.put_comm a v u h2]; exact he⟩
        | _ => exact h
    · exact .inr ⟨by unfold Oper.asks at *; rw [he1] at ha; exact ha, hl⟩
  · rw [if_neg hw] at h ⊢
    exact ⟨keep _, by rw [← Act.put_comm a v undef h2]; exact h⟩
theorem getD_out {listed : Array Bool} {st : Nat} (h : listed.size ≤ st) : listed.getD st false = false := by
  simp [Array.getElem?_eq_none h]
theorem wpAnyC.takeF {i st : Nat} {oi : Oper} {v : Value} (hi : ops[i]? = some oi) (hsel : ∀ (j : Nat) (o : Oper) cs b, ops[j]? = some o → o.op ≠ .select cs b)
    (hQ : ∀ c a w, Q (.panic c) (a.put oi.dst v) w → Q (.panic c) a w) :
    ∀ (fuel : Nat) (listed : Array Bool) (a : Act) (w : World), listed.size ≤ st →
      (∀ j oj, ops[j]? = some oj → j ≠ i → listed.getD j true = false → (∀ e ∈ oj.after, Region.binds .any e = true → e.on ≠ i) → oi.apart ops oj = true) →
      i ∈ Region.ready .any ops listed → YF P ops C oi v a →
      wpAnyC P ops C st Q fuel (listed.setIfInBounds i true) (a.put oi.dst v) w → wpAnyC P ops C st Q (fuel + 1) listed a w := by
  intro fuel
  induction fuel with
  | zero =>
    intro listed a w hsz _ hr hy H
    have hC : C w := H.1 (getD_out (by simpa using hsz))
    refine ⟨fun _ => hC, fun h => (by rw [h] at hr; cases hr), fun j hj => ?_⟩
    by_cases hji : j = i
    · subst hji; exact hy.take hi hC H
    · have := ready_mono hj hji
      rw [H.2.1] at this
      cases this
  | succ fuel ih =>
    intro listed a w hsz hfree hr hy H
    have hun := (mem_ready.1 hr).1
    have hC : C w := H.here (getD_out (by simpa using hsz))
    refine ⟨fun _ => hC, fun h => (by rw [h] at hr; cases hr), fun j hj => ?_⟩
    by_cases hji : j = i
    · subst hji; exact hy.take hi hC H
    · have h1 := H.2.2 j (ready_mono hj hji)
      obtain ⟨hjun, oj, hoj, hall⟩ := mem_ready.1 hj
      have hnot : ∀ e ∈ oj.after, Region.binds .any e = true → e.on ≠ i := fun e he hb heq => by
        have h1 := hall e he hb
        rw [heq, unlisted hun] at h1; cases h1
      have h2 := wpOp_lateF hoj (hfree j oj hoj hji hjun hnot) (fun cs b => hsel i oi cs b hi) (fun cs b => hsel j oj cs b hoj) hQ hy h1
      refine wpOp_mono (fun a' w' h3 => ih (listed.setIfInBounds j true) a' w' (by simpa using hsz) (fun k ok hk hki hu hno => ?_) (ready_mono hr (Ne.symm hji)) h3.1 ?_) h2
      · refine hfree k ok hk hki ?_ hno
        by_cases hjk : j = k
        · subst hjk; exact hjun
        · rw [getD_set_ne true hjk] at hu; exact hu
      · rw [Array.setIfInBounds_comm _ _ hji]
        exact h3.2
section
variable {n st : Nat} {K : List Deferred → Env → World → Prop} {D : List Deferred} {E : Env} {w : World}
theorem LAC.takeY {fuel : Nat} {listed : Array Bool} {i d : Nat} {o : Oper} {v : Value}
    (ho : ops[i]? = some o) (hod : o.dst = some d) (hs : Region.noSelect ops = true) (hf : Region.free .any ops listed i = true) (hr : (Region.ready .any ops listed).contains i = true) (hz : Nat.ble listed.size st = true)
    (hx : ∀ a, Fr D n a E → YF P ops C o v a) (hd : Nat.blt d n = true) (k : LAC P n ops C st K fuel (listed.setIfInBounds i true) D (upd E d v) w) : LAC P n ops C st K (fuel + 1) listed D E w := by
  intro a ha
  refine wpAnyC.takeF ho (Region.noSelect_spec hs) ?_ fuel listed a w (Nat.le_of_ble_eq_true hz) (Region.free_spec ho hf) (by simpa using hr) (hx a ha) ?_
  · rintro c a w ⟨_, E, _, h, _⟩; cases h
  · rw [hod]; exact k _ (ha.put v hd)
theorem LAC.takeN {fuel : Nat} {listed : Array Bool} {i d : Nat} {op : Op} {t : TypeId} {p : String} {af : Array Edge} {v : Value}
    (ho : ops[i]? = some ⟨some d, op, t, p, af, none⟩) (hs : Region.noSelect ops = true) (hf : Region.free .any ops listed i = true) (hr : (Region.ready .any ops listed).contains i = true) (hz : Nat.ble listed.size st = true)
    (hx : ∀ w, C w → X P op t E w v w) (hd : Nat.blt d n = true) (k : LAC P n ops C st K fuel (listed.setIfInBounds i true) D (upd E d v) w) : LAC P n ops C st K (fuel + 1) listed D E w :=
  LAC.takeY ho rfl hs hf hr hz (fun a ha => .inl ⟨by simp [Region.wanted], fun w hw => by
    have := hx w hw
    unfold X at this
    rw [execOp_bare, ha.eval]; exact this⟩) hd k
theorem LAC.takeG {fuel : Nat} {listed : Array Bool} {i d j dj : Nat} {op : Op} {t : TypeId} {p : String} {af : Array Edge} {v : Value} {want b : Bool}
    (ho : ops[i]? = some ⟨some d, op, t, p, af, some (j, want)⟩) (hs : Region.noSelect ops = true) (hf : Region.free .any ops listed i = true) (hr : (Region.ready .any ops listed).contains i = true) (hz : Nat.ble listed.size st = true)
    (hj : (ops[j]?).bind (·.dst) = some dj) (hE : E dj = .bool b) (hb : b = want)
    (hx : ∀ w, C w → X P op t E w v w) (hd : Nat.blt d n = true) (k : LAC P n ops C st K fuel (listed.setIfInBounds i true) D (upd E d v) w) : LAC P n ops C st K (fuel + 1) listed D E w :=
  LAC.takeY ho rfl hs hf hr hz (fun a ha => .inl ⟨wanted_yes rfl hj ha (hb ▸ hE), fun w hw => by
    have := hx w hw
    unfold X at this
    rw [execOp_bare, ha.eval]; exact this⟩) hd k
theorem LAC.takeU {fuel : Nat} {listed : Array Bool} {i d j dj : Nat} {op : Op} {t : TypeId} {p : String} {af : Array Edge} {want b : Bool}
    (ho : ops[i]? = some ⟨some d, op, t, p, af, some (j, want)⟩) (hs : Region.noSelect ops = true) (hf : Region.free .any ops listed i = true) (hr : (Region.ready .any ops listed).contains i = true) (hz : Nat.ble listed.size st = true)
    (hj : (ops[j]?).bind (·.dst) = some dj) (hE : E dj = .bool b) (hb : b = !want)
    (hd : Nat.blt d n = true) (k : LAC P n ops C st K fuel (listed.setIfInBounds i true) D (upd E d undef) w) : LAC P n ops C st K (fuel + 1) listed D E w :=
  LAC.takeY ho rfl hs hf hr hz (fun _ ha => .inr ⟨wanted_no rfl hj ha hE hb, rfl⟩) hd k
theorem LAC.split {fuel : Nat} {listed : Array Bool} {dj : Nat} {b : Bool} (_hE : E dj = .bool b) (ht : b = true → LAC P n ops C st K fuel listed D E w) (hf : b = false → LAC P n ops C st K fuel listed D E w) : LAC P n ops C st K fuel listed D E w := by
  cases b
  · exact hf rfl
  · exact ht rfl
theorem LAC.doneF {listed : Array Bool} (hr : Region.ready .any ops listed = []) (hC : C w) (h : K D E w) : LAC P n ops C st K 0 listed D E w :=
  fun _ ha => ⟨fun _ => hC, hr, lift_mk (by simp) ha ⟨rfl, h⟩⟩
theorem W.drawF {id : Nat} {l : List Oper} {Q : Post} (st : Nat) (hm : P.follows .mixedOrders = true) (h : ∀ w1, Bel w w1 → LAC P n l.toArray (Bel w) st (Q .normal) l.length (Array.replicate l.length false) D E w1) : W P n (.region id l.toArray true) Q D E w :=
  W.drawT (Bel w) st hm (h _ (bel_drew _))
end
end Go.Gx
namespace Go.Gx
open Go.Proofs
def lacksS (L : Bool) (s : Sh) (first : Bool) : Bool := L && (first == decide (s.kind = 6))
def recF (L : Bool) (F : Sh → Sh → Bool) (a b : Sh) (i : Nat) : Bool := if idxS (a.names.getD i []) b.names < b.names.length then F (a.parts.getD i default) (b.parts.getD (idxS (a.names.getD i []) b.names) default) else lacksS L a true
def funF (F : Sh → Sh → Bool) (a b : Sh) (i : Nat) : Bool := if a.kind = 8 ∧ i + 1 < a.parts.length then F (b.parts.getD i default) (a.parts.getD i default) else F (a.parts.getD i default) (b.parts.getD i default)
def restF (a b : Sh) : Bool := !(List.range b.names.length).any fun i => !decide (idxS (b.names.getD i []) a.names < a.names.length)
theorem all_succ {q : Nat → Bool} {k : Nat} : (List.range (k + 1)).all q = ((List.range k).all q && q k) := by
  rw [List.range_succ, List.all_append]; simp
theorem all_missR {q : Nat → Bool} {k n : Nat} (h : k < n) (hk : q k = false) : (List.range n).all q = false := by
  rw [List.all_eq_false]; exact ⟨k, List.mem_range.2 h, by rw [hk]; simp⟩
section
variable {P : Program} {E : Env} {w : World}
end
theorem rec_len {s : Sh} (h : fitsS s = true) (hk : s.kind = 6 ∨ s.kind = 7) : s.names.length = s.parts.length := by
  rw [fits_rec hk] at h
  simp only [Bool.and_eq_true, namesOk, decide_eq_true_eq] at h
  omega
theorem allB_fit {s : Sh} (h : s.allB fitsS = true) : fitsS s = true := by rw [Sh.allB_eq] at h; simp at h; exact h.1
end Go.Gx
namespace Go.Gx
def keepS (up : Bool) (a b : Sh) : Sh := if up = true then a else b
def otherS (up : Bool) (a b : Sh) : Sh := if up = true then b else a
theorem idxS_nodup : ∀ {l : List Str} {i : Nat}, l.Nodup → i < l.length → idxS (l.getD i []) l = i
  | [], _, _, h => absurd h (by simp)
  | y :: l, 0, _, _ => by simp [idxS]
  | y :: l, i + 1, h, hi => by
    rw [List.nodup_cons] at h
    have hi : i < l.length := by simpa using hi
    have ih := idxS_nodup (i := i) h.2 hi
    have hg : (y :: l).getD (i + 1) [] = l.getD i [] := by simp
    have hne : ¬ y = l.getD i [] := fun e => h.1 (by rw [e, List.getD_eq_getElem?_getD, List.getElem?_eq_getElem hi]; exact List.getElem_mem _)
    rw [hg, idxS, if_neg hne, ih]
theorem names_kind {s : Sh} (h : fitsS s = true) (hn : s.names ≠ []) : s.kind = 6 ∨ s.kind = 7 := by
  have hl : 0 < s.names.length := List.length_pos_iff.2 hn
  unfold fitsS at h
  split at h
  · simp at h; exact absurd h.1.2 hn
  · split at h
    · cases h
    · split at h
      · next h6 => simpa using h6
      · rw [if_pos (by omega)] at h; cases h
def AvC (M : Nat → Prop) (n1 n0 : Nat) (w : World) (v1 v2 : Value) (k : Nat) : Prop := (k < n1 ∧ M k) ∨ (n1 ≤ k ∧ k < n0) ∨ some k = v1.ownBlock ∨ some k = v2.ownBlock ∨ w.heap.size ≤ k
theorem avc_step {M : Nat → Prop} {n1 n0 : Nat} {w w2 : World} {v v' v1 v2 : Value} (hs : w.heap.size ≤ w2.heap.size) (h1 : v1.ownBlock = v.ownBlock ∨ ∀ k, some k = v1.ownBlock → w.heap.size ≤ k) (h2 : v2.ownBlock = v'.ownBlock ∨ ∀ k, some k = v2.ownBlock → w.heap.size ≤ k) {j : Nat} (h : AvC M n1 n0 w2 v1 v2 j) : AvC M n1 n0 w v v' j := by
  rcases h with h | h | h | h | h
  · exact .inl h
  · exact .inr (.inl h)
  · rcases h1 with e | e
    · exact .inr (.inr (.inl (h.trans e)))
    · exact .inr (.inr (.inr (.inr (e j h))))
  · rcases h2 with e | e
    · exact .inr (.inr (.inr (.inl (h.trans e))))
    · exact .inr (.inr (.inr (.inr (e j h))))
  · exact .inr (.inr (.inr (.inr (by omega))))
theorem avc_mono {M : Nat → Prop} {n1 n0 : Nat} {w w2 : World} {v1 v2 : Value} (hs : w.heap.size ≤ w2.heap.size) {j : Nat} (h : AvC M n1 n0 w2 v1 v2 j) : AvC M n1 n0 w v1 v2 j := avc_step hs (.inl rfl) (.inl rfl) h
theorem ShsOwn.snocW {A A' R : Nat → Prop} {w w' : World} {base : Nat} {e : TypeId} {v' : Value} {l : List Sh} {rows : List (List Value)} {cs : List Value} {t : Sh} (h1 : rows.length = l.length) (h3 : ∀ i, i < l.length → (rows.getD i []).length = 5) (h4 : ∀ i, i < l.length → ShC A w (rows.getD i []) (l.getD i default))
    (ht : ShC A' w' cs t) (ho : Own w' base e 5 v' (l.length + 1) (rows.flatten ++ cs)) (g : Gr R w w') (hR : ∀ j, R j → A j) (hA : ∀ j, A' j → A j) : ShsOwn A' w' base e v' (l ++ [t]) := by
  refine ⟨rows ++ [cs], by simp [h1], ?_, fun i hi => ?_, fun i hi => ?_⟩
  · have e1 : (rows ++ [cs]).flatten = rows.flatten ++ cs := by simp
    rw [e1, List.length_append]; exact ho
  · rw [getD_snoc (by simpa [h1] using hi)]
    split
    · exact h3 i (by omega)
    · exact ht.len
  · rw [getD_snoc (by simpa [h1] using hi), getD_snoc hi]
    by_cases hlt : i < l.length
    · rw [if_pos (by omega), if_pos hlt]; exact ((h4 i hlt).carryR g hR).mono fun j _ hj => hA j hj
    · rw [if_neg (by omega), if_neg hlt]; exact ht
theorem map_range_succ {α : Type} {f : Nat → α} {i : Nat} : (List.range (i + 1)).map f = (List.range i).map f ++ [f i] := by
  rw [List.range_succ, List.map_append]; rfl
end Go.Gx
namespace Go.Gx
def nrA (F : Sh → Sh → Bool) (a b : Sh) (i : Nat) : Bool := if idxS (b.names.getD i []) a.names < a.names.length then F (a.parts.getD (idxS (b.names.getD i []) a.names) default) (b.parts.getD i default) else false
def nrV (F : Sh → Sh → Bool) (a b : Sh) (i : Nat) : Bool := if idxS (a.names.getD i []) b.names < b.names.length then F (a.parts.getD i default) (b.parts.getD (idxS (a.names.getD i []) b.names) default) else false
theorem all_iff {q : Nat → Bool} {n : Nat} : (List.range n).all q = true ↔ ∀ i, i < n → q i = true := by
  rw [List.all_eq_true]; simp
theorem restF_iff {a b : Sh} : restF a b = true ↔ ∀ i, i < b.names.length → idxS (b.names.getD i []) a.names < a.names.length := by
  unfold restF
  rw [Bool.not_eq_true', List.any_eq_false]
  simp
theorem rec_nodup {s : Sh} (h : fitsS s = true) (_hk : s.kind = 6 ∨ s.kind = 7) : s.names.Nodup := by
  by_cases hn : s.names = []
  · rw [hn]; exact List.nodup_nil
  · exact nodup_iff.1 ((fits_names h).resolve_left hn).2
theorem mem_getD {l : List Str} {i : Nat} (h : i < l.length) : l.getD i [] ∈ l := by rw [List.getD_eq_getElem?_getD, List.getElem?_eq_getElem h]; exact List.getElem_mem _
theorem mem_at {l : List Str} {x : Str} (h : x ∈ l) : ∃ i, i < l.length ∧ l.getD i [] = x := ⟨idxS x l, idxS_lt.2 h, idxS_get (idxS_lt.2 h)⟩
theorem part_fit {s : Sh} (h : s.allB fitsS = true) {i : Nat} (hi : i < s.parts.length) : (s.parts.getD i default).allB fitsS = true := by
  rw [Sh.allB_eq] at h; simp at h; exact allL_getD h.2 hi
theorem fits8 {s : Sh} (h : fitsS s = true) (hk : s.kind = 8) : 1 ≤ s.parts.length := by
  unfold fitsS at h
  simp [hk] at h
  omega
theorem fits5 {s : Sh} (h : fitsS s = true) (hk : s.kind = 5) : s.parts.length = 1 := by
  unfold fitsS at h
  simp [hk] at h
  omega
theorem fits0 {s : Sh} (h : fitsS s = true) (h6 : s.kind ≠ 6) (h7 : s.kind ≠ 7) (h8 : s.kind ≠ 8) (h5 : s.kind ≠ 5) : s.parts.length = 0 := by
  unfold fitsS at h
  simp only [h6, h7, h8, h5, decide_false, Bool.or_self, Bool.false_eq_true, if_false] at h
  repeat' split at h
  all_goals first | (simp only [Bool.and_eq_true, decide_eq_true_eq] at h; omega) | cases h
end Go.Gx
namespace Go.Gx
open Go.Sort
theorem sizeL_perm {l l' : List Sh} (h : l.Perm l') : sizeL l = sizeL l' := by
  induction h with
  | nil => rfl
  | cons x _ ih => simp only [sizeL, ih]
  | swap x y l => simp only [sizeL]; omega
  | trans _ _ h1 h2 => exact h1.trans h2
theorem deepL_perm {l l' : List Sh} (h : l.Perm l') : deepL l = deepL l' := by
  induction h with
  | nil => rfl
  | cons x _ ih => simp only [deepL, ih]
  | swap x y l => simp only [deepL]; omega
  | trans _ _ h1 h2 => exact h1.trans h2
theorem allL_iff {p : Sh → Bool} : ∀ {l : List Sh}, allL p l = true ↔ ∀ x ∈ l, x.allB p = true
  | [] => by simp [allL]
  | x :: l => by rw [allL, Bool.and_eq_true, allL_iff (l := l)]; simp
theorem namesOk_perm {l l' : List Str} (h : l.Perm l') (n : Int) : namesOk l n = namesOk l' n := by
  unfold namesOk
  have h1 : l.all nameS = l'.all nameS := by
    rw [Bool.eq_iff_iff, List.all_eq_true, List.all_eq_true]
    exact ⟨fun g x hx => g x (h.mem_iff.2 hx), fun g x hx => g x (h.mem_iff.1 hx)⟩
  have h2 : nodup l = nodup l' := by
    rw [Bool.eq_iff_iff, nodup_iff, nodup_iff]
    exact h.nodup_iff
  rw [h1, h2, h.length_eq]
def fitsF (k : Int) (o n : Str) (b : Bool) (x y : Int) : Bool :=
  if (decide (k = 9) || decide (k = 10)) = true then upperS n && (nameS o || (o == [] && decide (k = 9) && !plainS n)) && decide (x = 0) && decide (y = 0)
  else if (!(o == []) || !(n == [])) = true then false
  else if (decide (k = 6) || decide (k = 7)) = true then b
  else if (0 : Int) < x then false
  else if k = 8 then decide ((1 : Int) ≤ y)
  else if k = 5 then decide (y = 1)
  else decide (1 ≤ k) && decide (k ≤ 4) && decide (y = 0)
theorem fits_perm {k : Int} {o n : Str} {ns ns' : List Str} {ps ps' : List Sh} (h : ns.Perm ns') (hl : ps.length = ps'.length) : fitsS (.mk k o n ns ps) = fitsS (.mk k o n ns' ps') := by
  have e : ∀ ns ps, fitsS (.mk k o n ns ps) = fitsF k o n (namesOk ns (ps.length : Nat)) (ns.length : Nat) (ps.length : Nat) := fun _ _ => rfl
  rw [e, e, namesOk_perm h, hl, h.length_eq]
theorem pairUp_perm {ns : List Str} {qs : List Sh} : (pairUp ns qs).Perm (ns.zip qs) := by
  have := foldP_perm (ns.zip qs) []
  rw [List.append_nil] at this; exact this
theorem pairUp_sorted {ns : List Str} {qs : List Sh} : (pairUp ns qs).Pairwise LeP := foldP_sorted _ _ .nil
theorem pairUp_names {ns : List Str} {qs : List Sh} (h : ns.length = qs.length) : ((pairUp ns qs).map (·.1)).Perm ns := by
  have := (pairUp_perm (ns := ns) (qs := qs)).map (·.1)
  rwa [List.map_fst_zip (by omega)] at this
theorem pairUp_parts {ns : List Str} {qs : List Sh} (h : ns.length = qs.length) : ((pairUp ns qs).map (·.2)).Perm qs := by
  have := (pairUp_perm (ns := ns) (qs := qs)).map (·.2)
  rwa [List.map_snd_zip (by omega)] at this
theorem pairs_one {l l' : List (Str × Sh)} (hn : (l.map (·.1)).Nodup) (hp : l.Perm l') (h : l.Pairwise LeP) (h' : l'.Pairwise LeP) : l = l' :=
  List.Perm.eq_of_pairwise (le := LeP) (fun _ _ ha hb h1 h2 => eq_of_fst hn ha (hp.mem_iff.2 hb) (ltStr_anti h2 h1)) h h' hp
theorem pairUp_of {ns ns' : List Str} {qs qs' : List Sh} (hp : (ns.zip qs).Perm (ns'.zip qs')) (hl : ns.length = qs.length) (hn : ns.Nodup) : pairUp ns qs = pairUp ns' qs' :=
  pairs_one ((pairUp_names hl).nodup_iff.2 hn) (pairUp_perm.trans (hp.trans pairUp_perm.symm)) pairUp_sorted pairUp_sorted
theorem zip_unzip (l : List (Str × Sh)) : (l.map (·.1)).zip (l.map (·.2)) = l := by
  induction l with
  | nil => rfl
  | cons x l ih => simp [ih]
theorem pairUp_self {ns : List Str} {qs : List Sh} (hl : ns.length = qs.length) (hn : ns.Nodup) : pairUp ((pairUp ns qs).map (·.1)) ((pairUp ns qs).map (·.2)) = pairUp ns qs := by
  refine (pairUp_of (ns := ns) (qs := qs) ?_ hl hn).symm
  rw [zip_unzip]; exact pairUp_perm.symm
theorem map_len {ns : List Str} {qs : List Sh} (h : ns.length = qs.length) : ((pairUp ns qs).map (·.2)).length = qs.length := (pairUp_parts h).length_eq
mutual
theorem Sh.sort_size : ∀ s : Sh, s.allB fitsS = true → s.sort.size = s.size
  | .mk k o n ns ps, h => by
    have hf := h
    rw [Sh.allB, Bool.and_eq_true] at h
    have ih := sortL_size ps h.2
    rw [Sh.sort]
    split
    · rw [Sh.size, Sh.size, ih]
    · next hne =>
      have hl := ((fits_names h.1).resolve_left hne).1
      have hl : ns.length = (sortL ps).length := by rw [sortL_eq]; simpa [Sh.names, Sh.parts] using hl
      rw [Sh.size, Sh.size, sizeL_perm (pairUp_parts hl), ih]
theorem sortL_size : ∀ l : List Sh, allL fitsS l = true → sizeL (sortL l) = sizeL l
  | [], _ => rfl
  | x :: xs, h => by
    rw [allL, Bool.and_eq_true] at h
    simp only [sortL, sizeL]; rw [Sh.sort_size x h.1, sortL_size xs h.2]
end
mutual
theorem Sh.sort_deep : ∀ s : Sh, s.allB fitsS = true → s.sort.deep = s.deep
  | .mk k o n ns ps, h => by
    rw [Sh.allB, Bool.and_eq_true] at h
    have ih := sortL_deep ps h.2
    rw [Sh.sort]
    split
    · rw [Sh.deep, Sh.deep, ih]
    · next hne =>
      have hl := ((fits_names h.1).resolve_left hne).1
      have hl : ns.length = (sortL ps).length := by rw [sortL_eq]; simpa [Sh.names, Sh.parts] using hl
      rw [Sh.deep, Sh.deep, deepL_perm (pairUp_parts hl), ih]
theorem sortL_deep : ∀ l : List Sh, allL fitsS l = true → deepL (sortL l) = deepL l
  | [], _ => rfl
  | x :: xs, h => by
    rw [allL, Bool.and_eq_true] at h
    simp only [sortL, deepL]; rw [Sh.sort_deep x h.1, sortL_deep xs h.2]
end
mutual
theorem Sh.sort_fits : ∀ s : Sh, s.allB fitsS = true → s.sort.allB fitsS = true
  | .mk k o n ns ps, h => by
    rw [Sh.allB, Bool.and_eq_true] at h
    have ih := sortL_fits ps h.2
    have hsl : (sortL ps).length = ps.length := by rw [sortL_eq]; simp
    rw [Sh.sort]
    split
    · next hne =>
      subst hne
      rw [Sh.allB, Bool.and_eq_true]
      exact ⟨by rw [fits_perm (.refl []) hsl]; exact h.1, ih⟩
    · next hne =>
      have hl := ((fits_names h.1).resolve_left hne).1
      have hl : ns.length = (sortL ps).length := by rw [hsl]; simpa [Sh.names, Sh.parts] using hl
      rw [Sh.allB, Bool.and_eq_true]
      refine ⟨?_, ?_⟩
      · rw [fits_perm (pairUp_names hl) ((map_len hl).trans hsl)]; exact h.1
      · rw [allL_iff] at ih ⊢
        exact fun x hx => ih x ((pairUp_parts hl).mem_iff.1 hx)
theorem sortL_fits : ∀ l : List Sh, allL fitsS l = true → allL fitsS (sortL l) = true
  | [], _ => rfl
  | x :: xs, h => by
    rw [allL, Bool.and_eq_true] at h
    simp only [sortL, allL, Bool.and_eq_true]; exact ⟨Sh.sort_fits x h.1, sortL_fits xs h.2⟩
end
mutual
theorem Sh.sort_sort : ∀ s : Sh, s.allB fitsS = true → s.sort.sort = s.sort
  | .mk k o n ns ps, h => by
    rw [Sh.allB, Bool.and_eq_true] at h
    have ih := sortL_sort ps h.2
    by_cases hne : ns = []
    · subst hne
      rw [Sh.sort, if_pos rfl, Sh.sort, if_pos rfl, ih]
    · obtain ⟨hl, hd⟩ := (fits_names h.1).resolve_left hne
      have hl : ns.length = (sortL ps).length := by rw [sortL_eq]; simpa [Sh.names, Sh.parts] using hl
      have hnn : (pairUp ns (sortL ps)).map (·.1) ≠ [] := fun e => by
        have := (pairUp_names hl).length_eq
        rw [e] at this
        exact hne (List.eq_nil_of_length_eq_zero this.symm)
      have hs : sortL ((pairUp ns (sortL ps)).map (·.2)) = (pairUp ns (sortL ps)).map (·.2) := by
        rw [sortL_eq]
        conv => rhs; rw [← List.map_id ((pairUp ns (sortL ps)).map (·.2))]
        refine List.map_congr_left fun x hx => ?_
        have hx := (pairUp_parts hl).mem_iff.1 hx
        have : ∀ x ∈ sortL ps, x.sort = x := by
          have e := ih
          rw [sortL_eq (sortL ps)] at e
          intro x hx
          obtain ⟨i, hi, rfl⟩ := List.getElem_of_mem hx
          have := congrArg (fun l => l[i]?) e
          simpa [hi] using this
        exact this x hx
      rw [Sh.sort, if_neg hne, Sh.sort, if_neg hnn, hs, pairUp_self hl (nodup_iff.1 hd)]
theorem sortL_sort : ∀ l : List Sh, allL fitsS l = true → sortL (sortL l) = sortL l
  | [], _ => rfl
  | x :: xs, h => by
    rw [allL, Bool.and_eq_true] at h
    simp only [sortL]; rw [Sh.sort_sort x h.1, sortL_sort xs h.2]
end
theorem check_intro {s : Sh} (h1 : s.size ≤ 400) (h2 : s.deep ≤ 40) (h3 : s.allB fitsS = true) : checkS s = 0 := by
  unfold checkS; rw [if_neg (by omega), if_neg (by omega), if_neg (by rw [h3]; simp)]
theorem check_sort {s : Sh} (h : checkS s = 0) : checkS s.sort = 0 := by
  obtain ⟨h1, h2, h3⟩ := check_zero h
  exact check_intro (by rw [Sh.sort_size s h3]; exact h1) (by rw [Sh.sort_deep s h3]; exact h2) (Sh.sort_fits s h3)
end Go.Gx
