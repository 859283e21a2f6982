/- Sessions: what stays where one part of a base is changed; Abort. Conditions: none. -/
import Derived.Test.YtnhbjfkeeegdgaaCeMapS
import Derived.Test.YtnhbjfkeeegdgaaCeRowG
namespace Go.Gx
open Go.Proofs
theorem kses2_en55 : Go.Proofs.Enters Try.prog 55 := Go.Proofs.enters_of Try.func55 (by kernel_rfl) rfl
theorem kses2_fo97_2 : fieldOff Try.prog 97 2 = some 2 := by kernel_rfl
theorem kses2_oc95 : oneCellT Try.prog 95 = true := by kernel_rfl
section
variable {ow : Labels} {t : Nat} {p q : Part} {w w' : World}
theorem lab_part {b : Nat} (h : ow b = some (t, q)) (hne : q ≠ p) : ¬ ow b = some (t, p) := fun e => by
  rw [h] at e
  simp only [Option.some.injEq, Prod.mk.injEq, true_and] at e
  exact hne e
theorem OwnP.part {e : TypeId} {sz k : Nat} {v : Value} {xs : List Value} (h : OwnP ow t q w e sz v k xs) (g : Gr (fun k => ow k = some (t, p)) w w') (hne : q ≠ p) : OwnP ow t q w' e sz v k xs :=
  ⟨h.1.carryR g fun j hj => lab_part (h.2 j hj) hne, h.2⟩
theorem SesAt.part {i bs : Nat} {s : Sx} (h : SesAt ow t w i bs s) (g : Gr (fun k => ow k = some (t, p)) w w') (hne : Part.ses i ≠ p ∧ Part.eds i ≠ p ∧ Part.own i ≠ p ∧ Part.asked i ≠ p ∧ Part.heads i ≠ p) : SesAt ow t w' i bs s := by
  obtain ⟨n1, n2, n3, n4, n5⟩ := hne
  obtain ⟨ve, bw, ba, bh, lw, la, lh, l1, h1, h2, h3, l4, h4, h5, l6, h6, h7, l8, h8, h9⟩ := h
  exact ⟨ve, bw, ba, bh, lw, la, lh, l1, h1.carryR g (lab_part l1 n1), h2.part g n2, h3, l4, h4.carryR g (lab_part l4 n3), h5, l6, h6.carryR g (lab_part l6 n4), h7, l8, h8.carryR g (lab_part l8 n5), h9⟩
theorem HeldAt.part {lh : List (Str × Value)} {gs : List (List Ed)} (h : HeldAt ow t w lh gs) (g : Gr (fun k => ow k = some (t, p)) w w') (hne : ∀ k, Part.ver k ≠ p) : HeldAt ow t w' lh gs := fun k => by
  rcases h k with h1 | ⟨h1, v, h2, h3⟩
  · exact .inl h1
  · exact .inr ⟨h1, v, h2, h3.part g (hne k)⟩
theorem OpensAt.shut {lo : List (Int × Value)} {s : Bs} {i : Nat} (h : OpensAt ow t w lo s.all) (hn : (lo.map (·.1)).Nodup) (g : Gr (fun k => ow k = some (t, .opens)) w w') (hi : i < s.all.length) :
    OpensAt ow t w' (delK lo ((i + 1 : Nat) : Int)) (s.shut ((i + 1 : Nat) : Int)).all := fun id => by
  have hlen : (s.shut ((i + 1 : Nat) : Int)).all.length = s.all.length := by simp [Bs.shut, Bs.upd]
  have hat : ∀ j, (s.shut ((i + 1 : Nat) : Int)).all.getD j default = if j = i then { s.all.getD i default with opn := false } else s.all.getD j default := fun j => by
    simp only [Bs.shut, Bs.upd, Bs.ses, List.getD_eq_getElem?_getD, List.getElem?_set, Int.toNat_natCast, Nat.add_sub_cancel]
    by_cases hj : j = i
    · subst hj; simp [hi]
    · rw [if_neg (fun e => hj e.symm), if_neg hj]
  rw [getK_del hn, hlen]
  by_cases hid : id = ((i + 1 : Nat) : Int)
  · refine .inl ⟨by rw [if_pos hid], fun ⟨_, _, h3⟩ => ?_⟩
    have e : id.toNat - 1 = i := by omega
    rw [e, hat, if_pos rfl] at h3
    cases h3
  · rw [if_neg hid]
    rcases h id with ⟨h1, h2⟩ | ⟨j, bs, h1, h2, h3, h4, h5⟩
    · refine .inl ⟨h1, fun ⟨a, b, c⟩ => h2 ⟨a, b, ?_⟩⟩
      rw [hat, if_neg (by omega)] at c
      exact c
    · have hj : j ≠ i := fun e => hid (by rw [h1, e])
      refine .inr ⟨j, bs, h1, h2, ?_, h4, ?_⟩
      · rw [hat, if_neg hj]; exact h3
      · rw [hat, if_neg hj]
        exact h5.part g ⟨by simp, by simp, by simp, by simp, by simp⟩
end
theorem abort_ok (ow : Labels) (t b bh bo : Nat) (s : Bs) (vl : Value) (lh : List (Str × Value)) (lo : List (Int × Value)) (rows : List (List Value)) (id : Int) (w : World) (h : BaseAt ow t w b s bh bo vl lh lo rows) :
    Ret Try.prog 22 #[.pointer (some ⟨b, 0, none⟩), .int .i64 id] w fun v w' => v = .int .i64 (if s.isOpen id then 0 else 400) ∧ Goes t w w' ow ow ∧ ∃ lo', BaseAt ow t w' b (if s.isOpen id then s.shut id else s) bh bo vl lh lo' rows := by
  have hb := h.box
  by_cases ho : s.isOpen id
  · rw [if_pos ho, if_pos ho]
    refine ret_of_W Try.func22 rfl (Nat.le_of_ble_eq_true rfl) (res1 rfl) ?_
    refine W.seq ?_
    refine W.region ?_
    refine L.val (x_as (v := .int _ _) rfl) rfl ?_
    refine L.nil ?_
    refine thn_n ?_
    refine W.seq ?_
    refine W.region ?_
    refine L.val (x_mv (v := .pointer _) rfl) rfl ?_
    refine L.val (x_mv (v := .int _ _) rfl) rfl ?_
    refine L.ret (x_call kses2_en55 rfl) rfl (find_ok ow t b bh bo s vl lh lo rows id _ h) ?_
    rintro v10 w10 ⟨hq, hf⟩
    rw [hq]
    obtain ⟨i, bs, e1, e2, e3, e4, e5, rfl⟩ := hf.resolve_left (fun hh => hh.1 ho)
    subst e1
    refine L.val (x_mv (v := _) rfl) rfl ?_
    refine L.val (x_ext (v := .pointer _) rfl rfl) rfl ?_
    refine L.val (x_ext (v := .int _ _) rfl rfl) rfl ?_
    refine L.val (x_as (v := .pointer _) rfl) rfl ?_
    refine L.val (x_as (v := .int _ _) rfl) rfl ?_
    refine L.nil ?_
    refine thn_n ?_
    refine W.seq ?_
    refine W.seq ?_
    refine W.region ?_
    refine L.val (x_mv (v := .int _ _) rfl) rfl ?_
    refine L.val (x_eql rfl rfl) rfl ?_
    refine L.nil ?_
    refine thn_n ?_
    refine W.cond (b := _) rfl (fun g14 => ?_) (fun g14 => ?_)
    ·have h14 := of_decide_eq_true g14
     refine W.region ?_
     refine L.val (x_mv (v := .pointer _) rfl) rfl ?_
     refine L.val (x_nil rfl) rfl ?_
     refine L.val (x_fa kses2_fo97_2 rfl) rfl ?_
     refine L.val (x_ld (v := .map _) kses2_oc95 rfl (hb.cell (i := 2) rfl)) rfl ?_
     refine L.val (x_mv (v := .int _ _) rfl) rfl ?_
     refine L.mapdelK Try.underlying95 (klawI Try.underlying3) rfl rfl trivial h.mapO (fun w17 mo hw hz17 => ?_)
     have hp : Gr (fun k => ow k = some (t, .opens)) w w17 := hw.mono (fun k _ e => by have e : k = bo := e; rw [e]; exact h.labO)
     have hm : Gr (Mine ow t) w w17 := hp.mono (fun k _ e => ⟨_, e⟩)
     have hG : Goes t w w17 ow ow := ⟨fun _ _ => .inl rfl, fun k hk => .inl (h.free k hk), hm, fun k hk => h.free k (by omega)⟩
     have hN : BaseAt ow t w17 b (s.shut ((i + 1 : Nat) : Int)) bh bo vl lh (delK lo ((i + 1 : Nat) : Int)) rows := by
       refine ⟨h.lab, ?_, h.labH, h.mapH.carryR hp (lab_part h.labH (by simp)), h.held.part hp (by simp), h.labO, mo, OpensAt.shut h.opens h.mapO.nodup hp e2, h.log.part hp (by simp), h.rows.carryR hp (fun k e => by rw [e]; simp), h.ok, fun k hk => h.free k (by omega)⟩
       have : (s.shut ((i + 1 : Nat) : Int)).all.length = s.all.length := by simp [Bs.shut, Bs.upd]
       rw [this]
       exact h.box.carryR hp (lab_part h.lab (by simp))
     refine L.nil ?_
     refine thn_n ?_
     refine W.seq ?_
     refine W.region ?_
     refine L.val (x_mv (v := .int _ _) rfl) rfl ?_
     refine L.val (x_as (v := .int _ _) rfl) rfl ?_
     refine L.nil ?_
     refine thn_n ?_
     refine W.ret (fin_mk (.inr rfl) ?_)
     exact ⟨rfl, hG, _, hN⟩
    ·have h14 := of_decide_eq_false g14
     cases g14
  · rw [if_neg ho, if_neg ho]
    refine ret_of_W Try.func22 rfl (Nat.le_of_ble_eq_true rfl) (res1 rfl) ?_
    refine W.seq ?_
    refine W.region ?_
    refine L.val (x_as (v := .int _ _) rfl) rfl ?_
    refine L.nil ?_
    refine thn_n ?_
    refine W.seq ?_
    refine W.region ?_
    refine L.val (x_mv (v := .pointer _) rfl) rfl ?_
    refine L.val (x_mv (v := .int _ _) rfl) rfl ?_
    refine L.ret (x_call kses2_en55 rfl) rfl (find_ok ow t b bh bo s vl lh lo rows id _ h) ?_
    rintro v10 w10 ⟨hq, hf⟩
    rw [hq]
    obtain ⟨-, rfl⟩ := hf.resolve_right (fun ⟨i, bs, e1, e2, e3, _⟩ => ho ⟨by omega, by omega, by rw [show id.toNat - 1 = i by omega]; exact e3⟩)
    refine L.val (x_mv (v := _) rfl) rfl ?_
    refine L.val (x_ext (v := .pointer _) rfl rfl) rfl ?_
    refine L.val (x_ext (v := .int _ _) rfl rfl) rfl ?_
    refine L.val (x_as (v := .pointer _) rfl) rfl ?_
    refine L.val (x_as (v := .int _ _) rfl) rfl ?_
    refine L.nil ?_
    refine thn_n ?_
    refine W.seq ?_
    refine W.seq ?_
    refine W.region ?_
    refine L.val (x_mv (v := .int _ _) rfl) rfl ?_
    refine L.val (x_eql rfl rfl) rfl ?_
    refine L.nil ?_
    refine thn_n ?_
    refine W.cond (b := _) rfl (fun g14 => ?_) (fun g14 => ?_)
    ·have h14 := of_decide_eq_true g14
     cases g14
    ·have h14 := of_decide_eq_false g14
     refine W.skip ?_
     refine thn_n ?_
     refine W.seq ?_
     refine W.region ?_
     refine L.val (x_mv (v := .int _ _) rfl) rfl ?_
     refine L.val (x_as (v := .int _ _) rfl) rfl ?_
     refine L.nil ?_
     refine thn_n ?_
     refine W.ret (fin_mk (.inr rfl) ?_)
     exact ⟨rfl, Goes.refl h.free, _, h⟩
end Go.Gx
namespace Go.Gx
variable {P : Program} {ops : Array Oper} {Q : Exit → Act → World → Prop} {C : World → Prop}
def YF (P : Program) (ops : Array Oper) (C : World → Prop) (o : Oper) (v : Value) (a : Act) : Prop :=
  (Region.wanted o (yielded ops a.tmps) = true ∧ ∀ w, C w → (execOp a.eval o).run P w = .ok (.value v) w) ∨ (Region.wanted o (yielded ops a.tmps) = false ∧ v = undef)
theorem YF.same {o : Oper} {v : Value} {a a' : Act} (hy : YF P ops C o v a) (he : execOp a'.eval o = execOp a.eval o) (hw : Region.wanted o (yielded ops a'.tmps) = Region.wanted o (yielded ops a.tmps)) : YF P ops C o v a' := by
  unfold YF at *
  rw [he, hw]
  exact hy
theorem YF.take {i : Nat} {o : Oper} {v : Value} {a : Act} (hi : ops[i]? = some o) (hy : YF P ops C o v a) {K : Act → World → Prop} {w : World} (hC : C w) (h : K (a.put o.dst v) w) : wpOp P ops Q i K a w := by
  unfold wpOp
  rcases hy with ⟨h1, h2⟩ | ⟨h1, rfl⟩
  · simp only [hi, h1, if_true, Oper.wp, h2 w hC, Oper.upon]
    exact .inl h
  · simp only [hi]
    rw [if_neg (by rw [h1]; simp)]
    exact h
theorem wpOp_lateF {j : Nat} {oi oj : Oper} {v : Value} (hj : ops[j]? = some oj) (hap : oi.apart ops oj = true)
    (hsi : ∀ cs b, oi.op ≠ .select cs b) (hsj : ∀ cs b, oj.op ≠ .select cs b)
    (hQ : ∀ c a w, Q (.panic c) (a.put oi.dst v) w → Q (.panic c) a w) {K : Act → World → Prop} {a : Act} {w : World}
    (hy : YF P ops C oi v a) (h : wpOp P ops Q j K (a.put oi.dst v) w) :
    wpOp P ops Q j (fun a' w' => YF P ops C oi v a' ∧ K (a'.put oi.dst v) w') a w := by
  obtain ⟨h1, h2, h3⟩ := Oper.apart_spec hap
  have keep : ∀ u, YF P ops C oi v (a.put oj.dst u) := fun u => hy.same (execOp_put oi hsi a oj.dst u h3) (wanted_put oi a oj.dst u h3)
  have hw1 := wanted_put oj a oi.dst v h1
  have he1 := execOp_put oj hsj a oi.dst v h1
  unfold wpOp at h ⊢
  simp only [hj] at h ⊢
  rw [hw1] at h
  by_cases hw : Region.wanted oj (yielded ops a.tmps) = true
  · rw [if_pos hw] at h ⊢
    rcases h with h | ⟨ha, hl⟩
    · left
      unfold Oper.wp at h ⊢
      rw [he1] at h
      generalize (execOp a.eval oj).run P w = r at h ⊢
      cases r with
      | halt x w' =>
        cases x with
        | panic u => exact hQ _ _ _ h
        | _ => exact h
      | ok x w' =>
        cases x with
        | value u => exact ⟨keep u, by rw [← Act.put_comm a v u h2]; exact h⟩
        | skip => exact ⟨keep _, by rw [← Act.put_comm a v undef h2]; exact h⟩
        | defer d =>
          refine ⟨(hy.same (a' := { a with defers := d :: a.defers }) rfl rfl).same (execOp_put oi hsi _ oj.dst _ h3) (wanted_put oi _ oj.dst _ h3), ?_⟩
          rw [← Act.put_comm _ v undef h2, ← Act.put_defers]
          exact h
        | enter f args =>
          refine Calls.mono h fun e w'' he => ?_
          cases e with
          | returned u => exact ⟨keep u, by rw [← Act.put_comm a v u h2]; exact he⟩
          | panicked c => exact hQ _ _ _ he
          | outgrown => exact he
        | row row args => exact Rows.mono h fun u w'' he => ⟨keep u, by rw [← Act.put_comm a v u h2]; exact he⟩
        | _ => exact h
    · exact .inr ⟨by unfold Oper.asks at *; rw [he1] at ha; exact ha, hl⟩
  · rw [if_neg hw] at h ⊢
    exact ⟨keep _, by rw [← Act.put_comm a v undef h2]; exact h⟩
theorem getD_out {listed : Array Bool} {st : Nat} (h : listed.size ≤ st) : listed.getD st false = false := by
  simp [Array.getElem?_eq_none h]
theorem wpAnyC.takeF {i st : Nat} {oi : Oper} {v : Value} (hi : ops[i]? = some oi) (hsel : ∀ (j : Nat) (o : Oper) cs b, ops[j]? = some o → o.op ≠ .select cs b)
    (hQ : ∀ c a w, Q (.panic c) (a.put oi.dst v) w → Q (.panic c) a w) :
    ∀ (fuel : Nat) (listed : Array Bool) (a : Act) (w : World), listed.size ≤ st →
      (∀ j oj, ops[j]? = some oj → j ≠ i → listed.getD j true = false → (∀ e ∈ oj.after, Region.binds .any e = true → e.on ≠ i) → oi.apart ops oj = true) →
      i ∈ Region.ready .any ops listed → YF P ops C oi v a →
      wpAnyC P ops C st Q fuel (listed.setIfInBounds i true) (a.put oi.dst v) w → wpAnyC P ops C st Q (fuel + 1) listed a w := by
  intro fuel
  induction fuel with
  | zero =>
    intro listed a w hsz _ hr hy H
    have hC : C w := H.1 (getD_out (by simpa using hsz))
    refine ⟨fun _ => hC, fun h => (by rw [h] at hr; cases hr), fun j hj => ?_⟩
    by_cases hji : j = i
    · subst hji; exact hy.take hi hC H
    · have := ready_mono hj hji
      rw [H.2.1] at this
      cases this
  | succ fuel ih =>
    intro listed a w hsz hfree hr hy H
    have hun := (mem_ready.1 hr).1
    have hC : C w := H.here (getD_out (by simpa using hsz))
    refine ⟨fun _ => hC, fun h => (by rw [h] at hr; cases hr), fun j hj => ?_⟩
    by_cases hji : j = i
    · subst hji; exact hy.take hi hC H
    · have h1 := H.2.2 j (ready_mono hj hji)
      obtain ⟨hjun, oj, hoj, hall⟩ := mem_ready.1 hj
      have hnot : ∀ e ∈ oj.after, Region.binds .any e = true → e.on ≠ i := fun e he hb heq => by
        have h1 := hall e he hb
        rw [heq, unlisted hun] at h1; cases h1
      have h2 := wpOp_lateF hoj (hfree j oj hoj hji hjun hnot) (fun cs b => hsel i oi cs b hi) (fun cs b => hsel j oj cs b hoj) hQ hy h1
      refine wpOp_mono (fun a' w' h3 => ih (listed.setIfInBounds j true) a' w' (by simpa using hsz) (fun k ok hk hki hu hno => ?_) (ready_mono hr (Ne.symm hji)) h3.1 ?_) h2
      · refine hfree k ok hk hki ?_ hno
        by_cases hjk : j = k
        · subst hjk; exact hjun
        · rw [getD_set_ne true hjk] at hu; exact hu
      · rw [Array.setIfInBounds_comm _ _ hji]
        exact h3.2
section
variable {n st : Nat} {K : List Deferred → Env → World → Prop} {D : List Deferred} {E : Env} {w : World}
theorem LAC.takeY {fuel : Nat} {listed : Array Bool} {i d : Nat} {o : Oper} {v : Value}
    (ho : ops[i]? = some o) (hod : o.dst = some d) (hs : Region.noSelect ops = true) (hf : Region.free .any ops listed i = true) (hr : (Region.ready .any ops listed).contains i = true) (hz : Nat.ble listed.size st = true)
    (hx : ∀ a, Fr D n a E → YF P ops C o v a) (hd : Nat.blt d n = true) (k : LAC P n ops C st K fuel (listed.setIfInBounds i true) D (upd E d v) w) : LAC P n ops C st K (fuel + 1) listed D E w := by
  intro a ha
  refine wpAnyC.takeF ho (Region.noSelect_spec hs) ?_ fuel listed a w (Nat.le_of_ble_eq_true hz) (Region.free_spec ho hf) (by simpa using hr) (hx a ha) ?_
  · rintro c a w ⟨_, E, _, h, _⟩; cases h
  · rw [hod]; exact k _ (ha.put v hd)
theorem LAC.takeN {fuel : Nat} {listed : Array Bool} {i d : Nat} {op : Op} {t : TypeId} {p : String} {af : Array Edge} {v : Value}
    (ho : ops[i]? = some ⟨some d, op, t, p, af, none⟩) (hs : Region.noSelect ops = true) (hf : Region.free .any ops listed i = true) (hr : (Region.ready .any ops listed).contains i = true) (hz : Nat.ble listed.size st = true)
    (hx : ∀ w, C w → X P op t E w v w) (hd : Nat.blt d n = true) (k : LAC P n ops C st K fuel (listed.setIfInBounds i true) D (upd E d v) w) : LAC P n ops C st K (fuel + 1) listed D E w :=
  LAC.takeY ho rfl hs hf hr hz (fun a ha => .inl ⟨by simp [Region.wanted], fun w hw => by
    have := hx w hw
    unfold X at this
    rw [execOp_bare, ha.eval]; exact this⟩) hd k
theorem LAC.takeG {fuel : Nat} {listed : Array Bool} {i d j dj : Nat} {op : Op} {t : TypeId} {p : String} {af : Array Edge} {v : Value} {want b : Bool}
    (ho : ops[i]? = some ⟨some d, op, t, p, af, some (j, want)⟩) (hs : Region.noSelect ops = true) (hf : Region.free .any ops listed i = true) (hr : (Region.ready .any ops listed).contains i = true) (hz : Nat.ble listed.size st = true)
    (hj : (ops[j]?).bind (·.dst) = some dj) (hE : E dj = .bool b) (hb : b = want)
    (hx : ∀ w, C w → X P op t E w v w) (hd : Nat.blt d n = true) (k : LAC P n ops C st K fuel (listed.setIfInBounds i true) D (upd E d v) w) : LAC P n ops C st K (fuel + 1) listed D E w :=
  LAC.takeY ho rfl hs hf hr hz (fun a ha => .inl ⟨wanted_yes rfl hj ha (hb ▸ hE), fun w hw => by
    have := hx w hw
    unfold X at this
    rw [execOp_bare, ha.eval]; exact this⟩) hd k
theorem LAC.split {fuel : Nat} {listed : Array Bool} {dj : Nat} {b : Bool} (_hE : E dj = .bool b) (ht : b = true → LAC P n ops C st K fuel listed D E w) (hf : b = false → LAC P n ops C st K fuel listed D E w) : LAC P n ops C st K fuel listed D E w := by
  cases b
  · exact hf rfl
  · exact ht rfl
theorem LAC.doneF {listed : Array Bool} (hr : Region.ready .any ops listed = []) (hC : C w) (h : K D E w) : LAC P n ops C st K 0 listed D E w :=
  fun _ ha => ⟨fun _ => hC, hr, lift_mk (by simp) ha ⟨rfl, h⟩⟩
theorem W.drawF {id : Nat} {l : List Oper} {Q : Post} (st : Nat) (hm : P.follows .mixedOrders = true) (h : ∀ w1, Bel w w1 → LAC P n l.toArray (Bel w) st (Q .normal) l.length (Array.replicate l.length false) D E w1) : W P n (.region id l.toArray true) Q D E w :=
  W.drawT (Bel w) st hm (h _ (bel_drew _))
end
end Go.Gx
namespace Go.Gx
variable {P : Program} {ops : Array Oper} {Q : Exit → Act → World → Prop} {C0 C1 : World → Prop}
def wpAnyD (P : Program) (ops : Array Oper) (C0 C1 : World → Prop) (st : Nat) (Q : Exit → Act → World → Prop) : Nat → Array Bool → Act → World → Prop
  | 0, listed, a, w => C0 w ∧ (listed.getD st false = false → C1 w) ∧ Region.ready .any ops listed = [] ∧ Q .normal a w
  | f + 1, listed, a, w => C0 w ∧ (listed.getD st false = false → C1 w) ∧ (Region.ready .any ops listed = [] → Q .normal a w) ∧ ∀ i ∈ Region.ready .any ops listed, wpOp P ops Q i (wpAnyD P ops C0 C1 st Q f (listed.setIfInBounds i true)) a w
theorem wpAnyD.any {st : Nat} : ∀ (f : Nat) (listed : Array Bool) (a : Act) (w : World), wpAnyD P ops C0 C1 st Q f listed a w → wpAny P .any ops Q f listed a w
  | 0, _, _, _, h => h.2.2
  | f + 1, _, _, _, h => ⟨h.2.2.1, fun i hi => wpOp_mono (fun _ _ h' => wpAnyD.any f _ _ _ h') (h.2.2.2 i hi)⟩
theorem wpAnyD.here {st f : Nat} {listed : Array Bool} {a : Act} {w : World} (h : wpAnyD P ops C0 C1 st Q f listed a w) : C0 w ∧ (listed.getD st false = false → C1 w) := by
  cases f <;> exact ⟨h.1, h.2.1⟩
theorem wpAnyD.take0 {i st : Nat} {oi : Oper} {v : Value} (hi : ops[i]? = some oi) (hsel : ∀ (j : Nat) (o : Oper) cs b, ops[j]? = some o → o.op ≠ .select cs b)
    (hQ : ∀ c a w, Q (.panic c) (a.put oi.dst v) w → Q (.panic c) a w) (hne : st ≠ i) :
    ∀ (fuel : Nat) (listed : Array Bool) (a : Act) (w : World),
      (∀ j oj, ops[j]? = some oj → j ≠ i → listed.getD j true = false → (∀ e ∈ oj.after, Region.binds .any e = true → e.on ≠ i) → oi.apart ops oj = true) →
      i ∈ Region.ready .any ops listed → YF P ops C0 oi v a →
      wpAnyD P ops C0 C1 st Q fuel (listed.setIfInBounds i true) (a.put oi.dst v) w → wpAnyD P ops C0 C1 st Q (fuel + 1) listed a w := by
  intro fuel
  induction fuel with
  | zero =>
    intro listed a w _ hr hy H
    refine ⟨H.1, fun h => H.2.1 (by rw [getD_set_ne false hne.symm]; exact h), fun h => (by rw [h] at hr; cases hr), fun j hj => ?_⟩
    by_cases hji : j = i
    · subst hji; exact hy.take hi H.1 H
    · have := ready_mono hj hji
      rw [H.2.2.1] at this
      cases this
  | succ fuel ih =>
    intro listed a w hfree hr hy H
    have hun := (mem_ready.1 hr).1
    refine ⟨H.1, fun h => H.2.1 (by rw [getD_set_ne false hne.symm]; exact h), fun h => (by rw [h] at hr; cases hr), fun j hj => ?_⟩
    by_cases hji : j = i
    · subst hji; exact hy.take hi H.1 H
    · have h1 := H.2.2.2 j (ready_mono hj hji)
      obtain ⟨hjun, oj, hoj, hall⟩ := mem_ready.1 hj
      have hnot : ∀ e ∈ oj.after, Region.binds .any e = true → e.on ≠ i := fun e he hb heq => by
        have h1 := hall e he hb
        rw [heq, unlisted hun] at h1; cases h1
      have h2 := wpOp_lateF hoj (hfree j oj hoj hji hjun hnot) (fun cs b => hsel i oi cs b hi) (fun cs b => hsel j oj cs b hoj) hQ hy h1
      refine wpOp_mono (fun a' w' h3 => ih (listed.setIfInBounds j true) a' w' (fun k ok hk hki hu hno => ?_) (ready_mono hr (Ne.symm hji)) h3.1 ?_) h2
      · refine hfree k ok hk hki ?_ hno
        by_cases hjk : j = k
        · subst hjk; exact hjun
        · rw [getD_set_ne true hjk] at hu; exact hu
      · rw [Array.setIfInBounds_comm _ _ hji]
        exact h3.2
theorem wpAnyD.take1 {i st : Nat} {oi ost : Oper} {v : Value} (hi : ops[i]? = some oi) (hsel : ∀ (j : Nat) (o : Oper) cs b, ops[j]? = some o → o.op ≠ .select cs b)
    (hQ : ∀ c a w, Q (.panic c) (a.put oi.dst v) w → Q (.panic c) a w) (hst : ops[st]? = some ost) (hdep : ∃ e ∈ ost.after, Region.binds .any e = true ∧ e.on = i) (hne : st ≠ i) :
    ∀ (fuel : Nat) (listed : Array Bool) (a : Act) (w : World),
      (listed.getD st false = true → listed.getD i false = true) →
      (∀ j oj, ops[j]? = some oj → j ≠ i → listed.getD j true = false → (∀ e ∈ oj.after, Region.binds .any e = true → e.on ≠ i) → oi.apart ops oj = true) →
      i ∈ Region.ready .any ops listed → YF P ops C1 oi v a →
      wpAnyD P ops C0 C1 st Q fuel (listed.setIfInBounds i true) (a.put oi.dst v) w → wpAnyD P ops C0 C1 st Q (fuel + 1) listed a w := by
  intro fuel
  induction fuel with
  | zero =>
    intro listed a w hcl _ hr hy H
    have hun := (mem_ready.1 hr).1
    have hst0 : listed.getD st false = false := by
      cases hh : listed.getD st false
      · rfl
      · have := hcl hh; rw [unlisted hun] at this; cases this
    have hC : C1 w := H.2.1 (by rw [getD_set_ne false hne.symm]; exact hst0)
    refine ⟨H.1, fun _ => hC, fun h => (by rw [h] at hr; cases hr), fun j hj => ?_⟩
    by_cases hji : j = i
    · subst hji; exact hy.take hi hC H
    · have := ready_mono hj hji
      rw [H.2.2.1] at this
      cases this
  | succ fuel ih =>
    intro listed a w hcl hfree hr hy H
    have hun := (mem_ready.1 hr).1
    have hst0 : listed.getD st false = false := by
      cases hh : listed.getD st false
      · rfl
      · have := hcl hh; rw [unlisted hun] at this; cases this
    have hC : C1 w := H.2.1 (by rw [getD_set_ne false hne.symm]; exact hst0)
    refine ⟨H.1, fun _ => hC, fun h => (by rw [h] at hr; cases hr), fun j hj => ?_⟩
    by_cases hji : j = i
    · subst hji; exact hy.take hi hC H
    · have h1 := H.2.2.2 j (ready_mono hj hji)
      obtain ⟨hjun, oj, hoj, hall⟩ := mem_ready.1 hj
      have hnot : ∀ e ∈ oj.after, Region.binds .any e = true → e.on ≠ i := fun e he hb heq => by
        have h1 := hall e he hb
        rw [heq, unlisted hun] at h1; cases h1
      have hjst : j ≠ st := fun e => by
        subst e
        rw [hst] at hoj; cases hoj
        obtain ⟨e, he, hb, hon⟩ := hdep
        exact hnot e he hb hon
      have h2 := wpOp_lateF hoj (hfree j oj hoj hji hjun hnot) (fun cs b => hsel i oi cs b hi) (fun cs b => hsel j oj cs b hoj) hQ hy h1
      refine wpOp_mono (fun a' w' h3 => ih (listed.setIfInBounds j true) a' w' (fun h => ?_) (fun k ok hk hki hu hno => ?_) (ready_mono hr (Ne.symm hji)) h3.1 ?_) h2
      · rw [getD_set_ne false hjst, hst0] at h; cases h
      · refine hfree k ok hk hki ?_ hno
        by_cases hjk : j = k
        · subst hjk; exact hjun
        · rw [getD_set_ne true hjk] at hu; exact hu
      · rw [Array.setIfInBounds_comm _ _ hji]
        exact h3.2
section
variable {n st : Nat} {K : List Deferred → Env → World → Prop} {D : List Deferred} {E : Env} {w : World}
def LAD (P : Program) (n : Nat) (ops : Array Oper) (C0 C1 : World → Prop) (st : Nat) (K : List Deferred → Env → World → Prop) (fuel : Nat) (listed : Array Bool) (D : List Deferred) (E : Env) (w : World) : Prop :=
  ∀ a, Fr D n a E → wpAnyD P ops C0 C1 st (lift n (nrm K)) fuel listed a w
theorem W.drawD {id : Nat} {l : List Oper} {Q : Post} (R R1 : Nat → Prop) (st : Nat) (hm : P.follows .mixedOrders = true)
    (h : ∀ w1, Bel w w1 → LAD P n l.toArray (Gr R w1) (Gr R1 w1) st (Q .normal) l.length (Array.replicate l.length false) D E w1) : W P n (.region id l.toArray true) Q D E w := by
  intro a ha
  refine wp_mono (wp_region_any (Q := lift n (nrm (Q .normal))) hm ?_) ?_
  · have := (h _ (bel_drew _) a ha).any
    simpa using this
  · rintro e a' w' ⟨he, E', hE, rfl, hq⟩
    exact ⟨he, E', hE, hq⟩
theorem LAD.take0 {fuel : Nat} {listed : Array Bool} {i d : Nat} {op : Op} {t : TypeId} {p : String} {af : Array Edge} {v : Value}
    (ho : ops[i]? = some ⟨some d, op, t, p, af, none⟩) (hs : Region.noSelect ops = true) (hf : Region.free .any ops listed i = true) (hr : (Region.ready .any ops listed).contains i = true) (hne : Nat.beq st i = false)
    (hx : ∀ w, C0 w → X P op t E w v w) (hd : Nat.blt d n = true) (k : LAD P n ops C0 C1 st K fuel (listed.setIfInBounds i true) D (upd E d v) w) : LAD P n ops C0 C1 st K (fuel + 1) listed D E w := by
  intro a ha
  refine wpAnyD.take0 ho (Region.noSelect_spec hs) ?_ (fun h => by subst h; simp at hne) fuel listed a w (Region.free_spec ho hf) (by simpa using hr) (.inl ⟨by simp [Region.wanted], fun w hw => ?_⟩) (k _ (ha.put v hd))
  · rintro c a w ⟨_, E, _, h, _⟩; cases h
  · have := hx w hw
    unfold X at this
    rw [execOp_bare, ha.eval]; exact this
theorem LAD.take1 {fuel : Nat} {listed : Array Bool} {i d : Nat} {op : Op} {t : TypeId} {p : String} {af : Array Edge} {v : Value}
    (ho : ops[i]? = some ⟨some d, op, t, p, af, none⟩) (hs : Region.noSelect ops = true) (hf : Region.free .any ops listed i = true) (hr : (Region.ready .any ops listed).contains i = true) (hne : Nat.beq st i = false)
    (hst : (ops[st]?).map (fun o => o.after.any fun e => Region.binds .any e && Nat.beq e.on i) = some true) (hl : listed.getD st true = false)
    (hx : ∀ w, C1 w → X P op t E w v w) (hd : Nat.blt d n = true) (k : LAD P n ops C0 C1 st K fuel (listed.setIfInBounds i true) D (upd E d v) w) : LAD P n ops C0 C1 st K (fuel + 1) listed D E w := by
  intro a ha
  cases hos : ops[st]? with
  | none => rw [hos] at hst; cases hst
  | some ost =>
    rw [hos] at hst
    simp only [Option.map_some, Option.some.injEq] at hst
    obtain ⟨e, he, hb⟩ := Array.any_eq_true'.1 hst
    simp only [Bool.and_eq_true] at hb
    refine wpAnyD.take1 ho (Region.noSelect_spec hs) ?_ hos ⟨e, he, hb.1, Nat.eq_of_beq_eq_true hb.2⟩ (fun h => by subst h; simp at hne) fuel listed a w (fun h => by rw [unlisted hl] at h; cases h) (Region.free_spec ho hf) (by simpa using hr)
      (.inl ⟨by simp [Region.wanted], fun w hw => ?_⟩) (k _ (ha.put v hd))
    · rintro c a w ⟨_, E, _, h, _⟩; cases h
    · have := hx w hw
      unfold X at this
      rw [execOp_bare, ha.eval]; exact this
theorem LAD.done {listed : Array Bool} (hr : Region.ready .any ops listed = []) (hl : listed.getD st false = true) (hC : C0 w) (h : K D E w) : LAD P n ops C0 C1 st K 0 listed D E w :=
  fun _ ha => ⟨hC, fun h0 => (by rw [hl] at h0; cases h0), hr, lift_mk (by simp) ha ⟨rfl, h⟩⟩
def LADs (P : Program) (n : Nat) (ops : Array Oper) (C0 C1 : World → Prop) (st : Nat) (K : List Deferred → Env → World → Prop) (fuel : Nat) (listed : Array Bool) (D : List Deferred) (E : Env) (w : World) : List Nat → Prop
  | [] => True
  | i :: r => (∃ o, ops[i]? = some o ∧ L P n ops (thn (LAD P n ops C0 C1 st K fuel (listed.setIfInBounds i true)) (nrm K)) [o] D E w) ∧ LADs P n ops C0 C1 st K fuel listed D E w r
theorem LAD.step {fuel : Nat} {listed : Array Bool} {rs : List Nat} (hC0 : C0 w) (hC1 : listed.getD st false = false → C1 w) (hr : Region.ready .any ops listed = rs) (hne : rs ≠ [])
    (h : LADs P n ops C0 C1 st K fuel listed D E w rs) : LAD P n ops C0 C1 st K (fuel + 1) listed D E w := by
  intro a ha
  refine ⟨hC0, hC1, fun h0 => absurd (hr.symm.trans h0) hne, fun j hj => ?_⟩
  rw [hr] at hj
  have key : ∀ rs : List Nat, LADs P n ops C0 C1 st K fuel listed D E w rs → j ∈ rs → ∃ o, ops[j]? = some o ∧ L P n ops (thn (LAD P n ops C0 C1 st K fuel (listed.setIfInBounds j true)) (nrm K)) [o] D E w := by
    intro rs
    induction rs with
    | nil => intro _ hi; cases hi
    | cons k r ih =>
      intro hL hi
      rcases List.mem_cons.1 hi with rfl | hi
      · exact hL.1
      · exact ih hL.2 hi
  obtain ⟨o, ho, hLo⟩ := key rs h hj
  have h1 := hLo a ha
  have hl : ∀ e a w, lift n (thn (LAD P n ops C0 C1 st K fuel (listed.setIfInBounds j true)) (nrm K)) e a w → Exit.then (wpAnyD P ops C0 C1 st (lift n (nrm K)) fuel (listed.setIfInBounds j true)) (lift n (nrm K)) e a w := by
    intro e a w ⟨h1, E', h2, h3⟩
    cases e <;> simp only [thn, Exit.then] at h3 ⊢
    case normal => exact h3 a h2
    case outgrown => exact absurd rfl h1
    all_goals exact ⟨by simp, E', h2, h3⟩
  unfold wpOp
  rw [ho]
  simp only
  unfold wpList at h1
  split
  · rename_i hw
    rw [if_pos hw] at h1
    rcases h1 with h1 | ⟨_, a', w', h1⟩
    · refine .inl ?_
      unfold Oper.wp at h1 ⊢
      generalize (execOp a.eval o).run P w = res at h1 ⊢
      cases res with
      | ok x w' =>
        cases x <;> simp only [Oper.upon, wpList] at h1 ⊢ <;> try exact hl _ _ _ h1
        · refine h1.mono fun e w'' h => ?_
          cases e with
          | returned v => exact hl _ _ _ h
          | panicked c => exact hl _ _ _ h
          | outgrown => obtain ⟨a', w', h⟩ := h; exact absurd rfl h.1
        · exact h1.mono fun v w'' h => hl _ _ _ h
      | halt x w' => cases x <;> simp only [Oper.upon] at h1 ⊢ <;> try exact hl _ _ _ h1
    · exact absurd rfl h1.1
  · rename_i hw; rw [if_neg hw] at h1; exact hl _ _ _ h1
theorem LAD.step' {fuel : Nat} {listed : Array Bool} {rs : List Nat} (hC0 : C0 w) (hl : listed.getD st false = true) (hr : Region.ready .any ops listed = rs) (hne : rs ≠ [])
    (h : LADs P n ops C0 C1 st K fuel listed D E w rs) : LAD P n ops C0 C1 st K (fuel + 1) listed D E w := LAD.step hC0 (fun h0 => by rw [hl] at h0; cases h0) hr hne h
end
theorem Gr.keepRowR {R : Nat → Prop} {a b : World} (h : Gr R a b) {bl o k : Nat} {vs : List Value} (hn : ¬ R bl) (hl : vs.length = k) (hc : ∀ j, j < k → a.cell? ⟨bl, o + j, none⟩ = vs[j]?) : ∀ j, j < k → b.cell? ⟨bl, o + j, none⟩ = vs[j]? := fun j hj => by
  have hv := List.getElem?_eq_getElem (l := vs) (i := j) (by omega)
  rw [hv]; exact h.cell (by rw [hc j hj, hv]) hn
theorem Gr.keepR {R : Nat → Prop} {a b : World} (h : Gr R a b) {p : Addr} {v : Value} (hn : ¬ R p.block) (hv : a.cell? p = some v) : b.cell? p = some v := h.cell hv hn
theorem Gr.into {R : Nat → Prop} {a b c : World} {k : Nat} (h : Gr R a b) (g : Gr (· = k) b c) (hk : R k) : Gr R a c :=
  h.trans (g.mono fun j _ e => by have e : j = k := e; rw [e]; exact hk)
theorem Gr.intoR {R S : Nat → Prop} {a b c : World} (h : Gr R a b) (g : Gr S b c) (hk : ∀ k, S k → R k) : Gr R a c := h.trans (g.mono fun j _ e => hk j e)
end Go.Gx
