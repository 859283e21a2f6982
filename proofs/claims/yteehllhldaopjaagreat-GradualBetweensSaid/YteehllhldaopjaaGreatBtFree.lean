/- In a region that draws, and does not store: what reads alone, and what is not asked, is taken first. Conditions: none. -/
import Derived.Test.YteehllhldaopjaaGreatBtSort3
namespace Go.Gx
variable {P : Program} {ops : Array Oper} {Q : Exit → Act → World → Prop} {C : World → Prop}
def YF (P : Program) (ops : Array Oper) (C : World → Prop) (o : Oper) (v : Value) (a : Act) : Prop :=
  (Region.wanted o (yielded ops a.tmps) = true ∧ ∀ w, C w → (execOp a.eval o).run P w = .ok (.value v) w) ∨ (Region.wanted o (yielded ops a.tmps) = false ∧ v = undef)
theorem YF.same {o : Oper} {v : Value} {a a' : Act} (hy : YF P ops C o v a) (he : execOp a'.eval o = execOp a.eval o) (hw : Region.wanted o (yielded ops a'.tmps) = Region.wanted o (yielded ops a.tmps)) : YF P ops C o v a' := by
  unfold YF at *;rw [he, hw];exact hy
theorem YF.take {i : Nat} {o : Oper} {v : Value} {a : Act} (hi : ops[i]? = some o) (hy : YF P ops C o v a) {K : Act → World → Prop} {w : World} (hC : C w) (h : K (a.put o.dst v) w) : wpOp P ops Q i K a w := by
  unfold wpOp;rcases hy with ⟨h1, h2⟩ | ⟨h1, rfl⟩
  · simp only [hi, h1, if_true, Oper.wp, h2 w hC, Oper.upon];exact .inl h
  · simp only [hi];rw [if_neg (by rw [h1]; simp)];exact h
theorem wpOp_lateF {j : Nat} {oi oj : Oper} {v : Value} (hj : ops[j]? = some oj) (hap : oi.apart ops oj = true)
    (hsi : ∀ cs b, oi.op ≠ .select cs b) (hsj : ∀ cs b, oj.op ≠ .select cs b)
    (hQ : ∀ c a w, Q (.panic c) (a.put oi.dst v) w → Q (.panic c) a w) {K : Act → World → Prop} {a : Act} {w : World}
    (hy : YF P ops C oi v a) (h : wpOp P ops Q j K (a.put oi.dst v) w) :
    wpOp P ops Q j (fun a' w' => YF P ops C oi v a' ∧ K (a'.put oi.dst v) w') a w := by
  obtain ⟨h1, h2, h3⟩ := Oper.apart_spec hap;have keep : ∀ u, YF P ops C oi v (a.put oj.dst u) := fun u => hy.same (execOp_put oi hsi a oj.dst u h3) (wanted_put oi a oj.dst u h3)
  have hw1 := wanted_put oj a oi.dst v h1;have he1 := execOp_put oj hsj a oi.dst v h1;unfold wpOp at h ⊢;simp only [hj] at h ⊢;rw [hw1] at h;by_cases hw : Region.wanted oj (yielded ops a.tmps) = true
  · rw [if_pos hw] at h ⊢;rcases h with h | ⟨ha, hl⟩
    · left;unfold Oper.wp at h ⊢;rw [he1] at h;generalize (execOp a.eval oj).run P w = r at h ⊢;cases r with
      | halt x w' =>
        cases x with
        | panic u => exact hQ _ _ _ h
        | _ => exact h
      | ok x w' =>
        cases x with
        | value u => exact ⟨keep u, by rw [← Act.put_comm a v u h2]; exact h⟩
        | skip => exact ⟨keep _, by rw [← Act.put_comm a v undef h2]; exact h⟩
        | defer d =>
          refine ⟨(hy.same (a' := { a with defers := d :: a.defers }) rfl rfl).same (execOp_put oi hsi _ oj.dst _ h3) (wanted_put oi _ oj.dst _ h3), ?_⟩;rw [← Act.put_comm _ v undef h2, ← Act.put_defers];exact h
        | enter f args =>
          refine Calls.mono h fun e w'' he => ?_
          cases e with
          | returned u => exact ⟨keep u, by rw [← Act.put_comm a v u h2]; exact he⟩
          | panicked c => exact hQ _ _ _ he
          | outgrown => exact he
        | row row args => exact Rows.mono h fun u w'' he => ⟨keep u, by rw [← Act.put_comm a v u h2]; exact he⟩
        | _ => exact h
    · exact .inr ⟨by unfold Oper.asks at *; rw [he1] at ha; exact ha, hl⟩
  · rw [if_neg hw] at h ⊢;exact ⟨keep _, by rw [← Act.put_comm a v undef h2]; exact h⟩
theorem getD_out {listed : Array Bool} {st : Nat} (h : listed.size ≤ st) : listed.getD st false = false := by
  simp [Array.getElem?_eq_none h]
theorem wpAnyC.takeF {i st : Nat} {oi : Oper} {v : Value} (hi : ops[i]? = some oi) (hsel : ∀ (j : Nat) (o : Oper) cs b, ops[j]? = some o → o.op ≠ .select cs b)
    (hQ : ∀ c a w, Q (.panic c) (a.put oi.dst v) w → Q (.panic c) a w) :
    ∀ (fuel : Nat) (listed : Array Bool) (a : Act) (w : World), listed.size ≤ st →
      (∀ j oj, ops[j]? = some oj → j ≠ i → listed.getD j true = false → (∀ e ∈ oj.after, Region.binds .any e = true → e.on ≠ i) → oi.apart ops oj = true) →
      i ∈ Region.ready .any ops listed → YF P ops C oi v a →
      wpAnyC P ops C st Q fuel (listed.setIfInBounds i true) (a.put oi.dst v) w → wpAnyC P ops C st Q (fuel + 1) listed a w := by
  intro fuel;induction fuel with
  | zero =>
    intro listed a w hsz _ hr hy H;have hC : C w := H.1 (getD_out (by simpa using hsz));refine ⟨fun _ => hC, fun h => (by rw [h] at hr; cases hr), fun j hj => ?_⟩;by_cases hji : j = i
    · subst hji; exact hy.take hi hC H
    · have := ready_mono hj hji;rw [H.2.1] at this;cases this
  | succ fuel ih =>
    intro listed a w hsz hfree hr hy H;have hun := (mem_ready.1 hr).1;have hC : C w := H.here (getD_out (by simpa using hsz));refine ⟨fun _ => hC, fun h => (by rw [h] at hr; cases hr), fun j hj => ?_⟩;by_cases hji : j = i
    · subst hji; exact hy.take hi hC H
    · have h1 := H.2.2 j (ready_mono hj hji);obtain ⟨hjun, oj, hoj, hall⟩ := mem_ready.1 hj;have hnot : ∀ e ∈ oj.after, Region.binds .any e = true → e.on ≠ i := fun e he hb heq => by
        have h1 := hall e he hb;rw [heq, unlisted hun] at h1; cases h1
      have h2 := wpOp_lateF hoj (hfree j oj hoj hji hjun hnot) (fun cs b => hsel i oi cs b hi) (fun cs b => hsel j oj cs b hoj) hQ hy h1;refine wpOp_mono (fun a' w' h3 => ih (listed.setIfInBounds j true) a' w' (by simpa using hsz) (fun k ok hk hki hu hno => ?_) (ready_mono hr (Ne.symm hji)) h3.1 ?_) h2
      · refine hfree k ok hk hki ?_ hno;by_cases hjk : j = k
        · subst hjk; exact hjun
        · rw [getD_set_ne true hjk] at hu; exact hu
      · rw [Array.setIfInBounds_comm _ _ hji];exact h3.2
section
variable {n st : Nat} {K : List Deferred → Env → World → Prop} {D : List Deferred} {E : Env} {w : World}
theorem LAC.takeY {fuel : Nat} {listed : Array Bool} {i d : Nat} {o : Oper} {v : Value}
    (ho : ops[i]? = some o) (hod : o.dst = some d) (hs : Region.noSelect ops = true) (hf : Region.free .any ops listed i = true) (hr : (Region.ready .any ops listed).contains i = true) (hz : Nat.ble listed.size st = true)
    (hx : ∀ a, Fr D n a E → YF P ops C o v a) (hd : Nat.blt d n = true) (k : LAC P n ops C st K fuel (listed.setIfInBounds i true) D (upd E d v) w) : LAC P n ops C st K (fuel + 1) listed D E w := by
  intro a ha;refine wpAnyC.takeF ho (Region.noSelect_spec hs) ?_ fuel listed a w (Nat.le_of_ble_eq_true hz) (Region.free_spec ho hf) (by simpa using hr) (hx a ha) ?_
  · rintro c a w ⟨_, E, _, h, _⟩; cases h
  · rw [hod]; exact k _ (ha.put v hd)
theorem LAC.takeN {fuel : Nat} {listed : Array Bool} {i d : Nat} {op : Op} {t : TypeId} {p : String} {af : Array Edge} {v : Value}
    (ho : ops[i]? = some ⟨some d, op, t, p, af, none⟩) (hs : Region.noSelect ops = true) (hf : Region.free .any ops listed i = true) (hr : (Region.ready .any ops listed).contains i = true) (hz : Nat.ble listed.size st = true)
    (hx : ∀ w, C w → X P op t E w v w) (hd : Nat.blt d n = true) (k : LAC P n ops C st K fuel (listed.setIfInBounds i true) D (upd E d v) w) : LAC P n ops C st K (fuel + 1) listed D E w :=
  LAC.takeY ho rfl hs hf hr hz (fun a ha => .inl ⟨by simp [Region.wanted], fun w hw => by
    have := hx w hw;unfold X at this;rw [execOp_bare, ha.eval]; exact this⟩) hd k
theorem LAC.takeG {fuel : Nat} {listed : Array Bool} {i d j dj : Nat} {op : Op} {t : TypeId} {p : String} {af : Array Edge} {v : Value} {want b : Bool}
    (ho : ops[i]? = some ⟨some d, op, t, p, af, some (j, want)⟩) (hs : Region.noSelect ops = true) (hf : Region.free .any ops listed i = true) (hr : (Region.ready .any ops listed).contains i = true) (hz : Nat.ble listed.size st = true)
    (hj : (ops[j]?).bind (·.dst) = some dj) (hE : E dj = .bool b) (hb : b = want)
    (hx : ∀ w, C w → X P op t E w v w) (hd : Nat.blt d n = true) (k : LAC P n ops C st K fuel (listed.setIfInBounds i true) D (upd E d v) w) : LAC P n ops C st K (fuel + 1) listed D E w :=
  LAC.takeY ho rfl hs hf hr hz (fun a ha => .inl ⟨wanted_yes rfl hj ha (hb ▸ hE), fun w hw => by
    have := hx w hw;unfold X at this;rw [execOp_bare, ha.eval]; exact this⟩) hd k
theorem LAC.takeU {fuel : Nat} {listed : Array Bool} {i d j dj : Nat} {op : Op} {t : TypeId} {p : String} {af : Array Edge} {want b : Bool}
    (ho : ops[i]? = some ⟨some d, op, t, p, af, some (j, want)⟩) (hs : Region.noSelect ops = true) (hf : Region.free .any ops listed i = true) (hr : (Region.ready .any ops listed).contains i = true) (hz : Nat.ble listed.size st = true)
    (hj : (ops[j]?).bind (·.dst) = some dj) (hE : E dj = .bool b) (hb : b = !want)
    (hd : Nat.blt d n = true) (k : LAC P n ops C st K fuel (listed.setIfInBounds i true) D (upd E d undef) w) : LAC P n ops C st K (fuel + 1) listed D E w :=
  LAC.takeY ho rfl hs hf hr hz (fun _ ha => .inr ⟨wanted_no rfl hj ha hE hb, rfl⟩) hd k
theorem LAC.takeUU {fuel : Nat} {listed : Array Bool} {i d j dj : Nat} {op : Op} {t : TypeId} {p : String} {af : Array Edge} {want : Bool}
    (ho : ops[i]? = some ⟨some d, op, t, p, af, some (j, want)⟩) (hs : Region.noSelect ops = true) (hf : Region.free .any ops listed i = true) (hr : (Region.ready .any ops listed).contains i = true) (hz : Nat.ble listed.size st = true)
    (hj : (ops[j]?).bind (·.dst) = some dj) (hE : E dj = undef)
    (hd : Nat.blt d n = true) (k : LAC P n ops C st K fuel (listed.setIfInBounds i true) D (upd E d undef) w) : LAC P n ops C st K (fuel + 1) listed D E w :=
  LAC.takeY ho rfl hs hf hr hz (fun _ ha => .inr ⟨wanted_undef rfl hj ha hE, rfl⟩) hd k
theorem LAC.split {fuel : Nat} {listed : Array Bool} {dj : Nat} {b : Bool} (_hE : E dj = .bool b) (ht : b = true → LAC P n ops C st K fuel listed D E w) (hf : b = false → LAC P n ops C st K fuel listed D E w) : LAC P n ops C st K fuel listed D E w := by
  cases b
  · exact hf rfl
  · exact ht rfl
theorem LAC.doneF {listed : Array Bool} (hr : Region.ready .any ops listed = []) (hC : C w) (h : K D E w) : LAC P n ops C st K 0 listed D E w :=
  fun _ ha => ⟨fun _ => hC, hr, lift_mk (by simp) ha ⟨rfl, h⟩⟩
theorem W.drawF {id : Nat} {l : List Oper} {Q : Post} (st : Nat) (hm : P.follows .mixedOrders = true) (h : ∀ w1, Bel w w1 → LAC P n l.toArray (Bel w) st (Q .normal) l.length (Array.replicate l.length false) D E w1) : W P n (.region id l.toArray true) Q D E w :=
  W.drawT (Bel w) st hm (h _ (bel_drew _))
end
end Go.Gx
