/- slices.SortFunc over places, by the names that stand there. Conditions: none. -/
import Derived.Lib.Bytealg
import Derived.Test.YteehllhldaopjaaGreatBtSrtC
import Derived.Test.YteehllhldaopjaaGreatBtColl
import Derived.Test.YteehllhldaopjaaGreatBtSeq
import Derived.Test.YteehllhldaopjaaGreatBtSh
namespace Go.Gx
open Go.Proofs Go.Sort
theorem ksortf_en124 : Go.Proofs.Enters Tryz.prog 124 := Go.Proofs.enters_of Tryz.func124 kr_ rfl
theorem ksortf_en157 : Go.Proofs.Enters Tryz.prog 157 := Go.Proofs.enters_of Tryz.func157 kr_ rfl
theorem ksortf_en158 : Go.Proofs.Enters Tryz.prog 158 := Go.Proofs.enters_of Tryz.func158 kr_ rfl
theorem ksortf_en159 : Go.Proofs.Enters Tryz.prog 159 := Go.Proofs.enters_of Tryz.func159 kr_ rfl
theorem ksortf_fo25_3 : fieldOff Tryz.prog 25 3 = some 3 := by kernel_rfl
theorem ksortf_mixed : Tryz.prog.follows .mixedOrders = true := by kernel_rfl
theorem ksortf_oc22 : oneCellT Tryz.prog 22 = true := by kernel_rfl
theorem ksortf_oc9 : oneCellT Tryz.prog 9 = true := by kernel_rfl
theorem ksortf_sz9 : (Tryz.prog.info? 9).map (·.size) = some 1 := by kernel_rfl
theorem x_cmpstr {E : Env} {w : World} {x y : Operand} {ts : Array TypeId} {t : TypeId} {a b : Str} (hx : ev E x = S a) (hy : ev E y = S b) :
    X Tryz.prog (.call ⟨.value (.func 189), #[x, y], ts⟩) t E w (.int .i64 (Lib.compareBytes a b)) w := by
  have h := fun args w => run_callFunc_extern (P := Tryz.prog) (args := args) (w := w) Tryz.func189 kr_ kr_ kr_ (e := Extern.BytealgCompare.compare) kr_
  have hv' : #[x, y].map (ev E) = #[S a, S b] := by simp [hx, hy]
  unfold X;simp only [execOp, resolve, ev, Deferred.ofValue, hv', Sem.run_bind];have := h (#[] ++ #[S a, S b] ++ #[]) w;have e : (Extern.BytealgCompare.compare (#[] ++ #[S a, S b] ++ #[])).run Tryz.prog w = .ok (.int .i64 (Lib.compareBytes a b)) w := Lib.run_compareString ⟨a.toArray⟩ ⟨b.toArray⟩ w;rw [e] at this;simpa [invoke] using this
theorem cmpstr0 (a b : Str) (w : World) : Ret Tryz.prog 159 #[S a, S b] w fun v w' => v = .int .i64 (Lib.compareBytes a b) ∧ Bel w w' := by
  refine ret_of_W Tryz.func159 rfl (Nat.le_of_ble_eq_true rfl) (res1 rfl) ?_;have hB := Gr.refl (fun _ => False) w;refine W.seq (W.region (L.val (x_as (v := .int _ _) rfl) rfl ?_));refine L.nil (thn_n (W.seq (W.region (L.val (x_mv (v := S _) rfl) rfl ?_))));refine L.val (x_mv (v := S _) rfl) rfl ?_;refine L.val (x_cmpstr rfl rfl) rfl ?_;refine L.val (x_as (v := .int _ _) rfl) rfl ?_;refine L.nil (thn_n (W.ret (fin_mk (.inr rfl) ?_)));exact ⟨rfl, hB⟩
theorem cmpstr (a b : Str) (w : World) : Ret Tryz.prog 124 #[S a, S b] w fun v w' => v = .int .i64 (Lib.compareBytes a b) ∧ Bel w w' := by
  refine ret_of_W Tryz.func124 rfl (Nat.le_of_ble_eq_true rfl) (res1 rfl) ?_;have hB := Gr.refl (fun _ => False) w;refine W.seq (W.region (L.val (x_as (v := .int _ _) rfl) rfl ?_));refine L.nil (thn_n (W.seq (W.region (L.val (x_mv (v := S _) rfl) rfl ?_))));refine L.val (x_mv (v := S _) rfl) rfl ?_;refine L.ret (x_call ksortf_en159 rfl) rfl (cmpstr0 a b _) ?_;rintro _ w7 ⟨rfl, hw⟩;have hB := hB.carry hw;refine L.val (x_as (v := .int _ _) rfl) rfl ?_;refine L.nil (thn_n (W.ret (fin_mk (.inr rfl) ?_)));exact ⟨rfl, hB⟩
theorem cb_lt : ∀ (a b : Str), decide (Lib.compareBytes a b < 0) = ltStr a b
  | [], [] => by simp [Lib.compareBytes, ltStr]
  | [], _ :: _ => by simp [Lib.compareBytes, ltStr]
  | _ :: _, [] => by simp [Lib.compareBytes, ltStr]
  | x :: a, y :: b => by
    have ih := cb_lt a b;unfold ltStr at ih ⊢;unfold Lib.compareBytes;by_cases h1 : x < y
    · simp [h1, List.cons_lt_cons_iff]
    · by_cases h2 : y < x
      · have hne : x ≠ y := fun e => by subst e; exact h1 h2
        simp [h1, h2, List.cons_lt_cons_iff, hne]
      · have he : x = y := UInt8.le_antisymm (UInt8.not_lt.1 h2) (UInt8.not_lt.1 h1);subst he;simp only [h1, if_false, List.cons_lt_cons_iff, false_or, true_and];exact ih
theorem clos_ok (A : Nat → Prop) (p i j : Nat) (x0 x1 x2 vn vp : Value) (ns : List Str) (w : World) (hb : Box w p 25 [x0, x1, x2, vn, vp]) (hn : StrsAt A w vn ns) (hi : i < ns.length) (hj : j < ns.length) :
    Ret Tryz.prog 123 #[.int .i64 (i : Nat), .int .i64 (j : Nat), .pointer (some ⟨p, 0, none⟩)] w fun v w' => v = .int .i64 (Lib.compareBytes (ns.getD i []) (ns.getD j [])) ∧ Bel w w' := by
  obtain ⟨pn, cap, rfl, -⟩ := id hn;obtain ⟨b, o, rfl, -⟩ := hn.elem hi;refine ret_of_W Tryz.func123 rfl (Nat.le_of_ble_eq_true rfl) (res1 rfl) ?_;have hB := Gr.refl (fun _ => False) w;refine W.seq (W.region (L.val (x_as (v := .int _ _) rfl) rfl ?_));refine L.nil (thn_n (W.seq (W.drawB ksortf_mixed kr_ ?_)));refine LQ.val (fun w hw => x_fa ksortf_fo25_3 rfl) rfl ?_;refine LQ.val (fun w hw => x_ld (v := .slice _ _ _) ksortf_oc22 rfl (hw.keep (hb.cell0 rfl))) rfl ?_;refine LQ.val (fun w hw => x_mv (v := .int _ _) rfl) rfl ?_;refine LQ.val (fun w hw => x_ia1 (j := i) Tryz.underlying22 ksortf_sz9 rfl rfl om_ om_) rfl ?_;refine LQ.val (fun w hw => x_ld (v := S _) ksortf_oc9 rfl (hw.keep (hn.elemAt hi))) rfl ?_;refine LQ.val (fun w hw => x_fa ksortf_fo25_3 rfl) rfl ?_;refine LQ.val (fun w hw => x_ld (v := .slice _ _ _) ksortf_oc22 rfl (hw.keep (hb.cell0 rfl))) rfl ?_;refine LQ.val (fun w hw => x_mv (v := .int _ _) rfl) rfl ?_;refine LQ.val (fun w hw => x_ia1 (j := j) Tryz.underlying22 ksortf_sz9 rfl rfl om_ om_) rfl ?_;refine LQ.val (fun w hw => x_ld (v := S _) ksortf_oc9 rfl (hw.keep (hn.elemAt hj))) rfl ?_;refine LQ.ret (fun w => x_call ksortf_en124 rfl) (fun w hw => Ret.mono (cmpstr _ _ _) (fun _ _ h => ⟨h.1, Gr.trans hw h.2⟩)) rfl ?_;refine LQ.val (fun w hw => x_as (v := .int _ _) rfl) rfl ?_;refine LQ.nil ?_;intro w6 hw;have hB := hB.carry hw;refine thn_n (W.ret (fin_mk (.inr rfl) ?_));exact ⟨rfl, hB⟩
abbrev encF (m : Nat) : Fin (m + 1) → Value := fun x => .int .i64 ((x.val : Nat) : Int)
def cfF (ns : List Str) (m : Nat) : Fin (m + 1) → Fin (m + 1) → Int := fun x y => Lib.compareBytes (ns.getD x.val []) (ns.getD y.val [])
theorem swo_F (ns : List Str) (m : Nat) : SWO (ltc (cfF ns m)) where
  irrefl x := by show decide (Lib.compareBytes _ _ < 0) = _; rw [cb_lt]; exact swo_ltStr.irrefl _
  trans x y z h1 h2 := by
    have h1 : decide (Lib.compareBytes _ _ < 0) = true := h1;have h2 : decide (Lib.compareBytes _ _ < 0) = true := h2;show decide (Lib.compareBytes _ _ < 0) = _;rw [cb_lt] at h1 h2 ⊢; exact swo_ltStr.trans _ _ _ h1 h2
  ntrans x y z h1 h2 := by
    have h1 : decide (Lib.compareBytes _ _ < 0) = false := h1;have h2 : decide (Lib.compareBytes _ _ < 0) = false := h2;show decide (Lib.compareBytes _ _ < 0) = _;rw [cb_lt] at h1 h2 ⊢; exact swo_ltStr.ntrans _ _ _ h1 h2
theorem sortfunc_ok {α : Type} [Inhabited α] {enc : α → Value} {gF : Nat} {cp : List Value} {cf : α → α → Int} {N0 : Nat} (eg : Enters Tryz.prog gF) (he1 : ∀ x, (enc x).oneCell' = true) (hS : SWO (ltc cf))
    (b o cap n : Nat) (T : TypeId) (hd tl : List Value) (d : Array α) (w : World) (hC : Cmp Tryz.prog enc gF cp cf b N0 w) (hR : Row enc w b o T hd d tl) (hn : d.size = n) (h1 : 1 ≤ n) (hc : n ≤ 2000000000000000000) :
    Ret Tryz.prog 122 #[.slice (some ⟨b, o, none⟩) n cap, .func (.func gF) #[] cp.toArray] w fun v w' => v = .tuple #[] ∧ Gr (· = b) w w' ∧ ∃ d', Row enc w' b o T hd d' tl ∧ PermIn 0 n d d' ∧ SortedIn (ltc cf) 0 n d' := by
  refine ret_of_W Tryz.func122 rfl (Nat.le_of_ble_eq_true rfl) (res0 rfl) ?_;have hB := Gr.refl (fun _ => False) w;refine W.seq (W.region (L.val (x_mv (v := .slice _ _ _) rfl) rfl ?_));refine L.val (x_len_slice Tryz.underlying106 rfl) rfl ?_;refine L.val (x_as (v := .int _ _) rfl) rfl ?_;refine L.nil (thn_n (W.region (L.val (x_mv (v := .slice _ _ _) rfl) rfl ?_)));refine L.val (x_mv (v := .int _ _) rfl) rfl ?_;refine L.val (x_mv (v := .int _ _) rfl) rfl ?_;refine L.val (x_conv (k' := .u64) (by rw [Tryz.underlying3]; rfl) Tryz.underlying111 rfl (wru64 om_)) rfl ?_;refine L.ret (x_call ksortf_en158 rfl) rfl (len_ok n _ h1 om_) ?_;rintro _ w11 ⟨k, rfl, k1, k2, k3, k4, hw⟩;have hB := hB.carry hw; have hR := hR.carry hw;refine L.val (x_mv (v := .func _ _ _) rfl) rfl ?_;refine L.ret (x_call ksortf_en157 rfl) rfl (pdq_okC eg he1 b o cap n T hd tl hc hS (n + 1) 0 n k d _ (hC.mvB hB) om_ hR hn om_ (Nat.le_refl _) om_ (.inl rfl)) ?_;rintro _ w13 ⟨rfl, hg, d', hR', p1, p2⟩;refine L.nil (fin_mk (.inl rfl) ?_);exact ⟨rfl, (hB.mono fun _ _ h => h.elim).trans hg, d', hR', p1, p2⟩
end Go.Gx
namespace Go.Gx
variable {n0 base k : Nat} {w w' : World} {e : TypeId} {v v' v1 v2 : Value}
def Av (n0 : Nat) (w : World) (v1 v2 : Value) (k : Nat) : Prop := k < n0 ∨ some k = v1.ownBlock ∨ some k = v2.ownBlock ∨ w.heap.size ≤ k
def ShsOwn (A : Nat → Prop) (w : World) (base : Nat) (e : TypeId) (v : Value) (l : List Sh) : Prop :=
  ∃ rows : List (List Value), rows.length = l.length ∧ Own w base e 5 v l.length rows.flatten ∧ (∀ i, i < l.length → (rows.getD i []).length = 5) ∧ ∀ i, i < l.length → ShC A w (rows.getD i []) (l.getD i default)
theorem ShsOwn.nil {A : Nat → Prop} : ShsOwn A w base e (.slice none 0 0) [] := ⟨[], rfl, own_nil, fun i h => absurd h (by simp), fun i h => absurd h (by simp)⟩
theorem ShsOwn.own {A : Nat → Prop} {l : List Sh} (h : ShsOwn A w base e v l) : ∃ xs, Own w base e 5 v l.length xs := by
  obtain ⟨rows, -, ho, -⟩ := h; exact ⟨_, ho⟩
theorem ShsOwn.lt {A : Nat → Prop} {l : List Sh} (h : ShsOwn A w base e v l) {j : Nat} (hj : some j = v.ownBlock) : base ≤ j ∧ j < w.heap.size := by
  obtain ⟨xs, ho⟩ := h.own; exact ho.lt hj
theorem ShsOwn.carryA {A A' R : Nat → Prop} {l : List Sh} (h : ShsOwn A w base e v l) (g : Gr R w w') (hR : ∀ j, some j = v.ownBlock → ¬ R j) (hRA : ∀ j, R j → A j) (hA : ∀ j, A' j → A j ) : ShsOwn A' w' base e v l := by
  obtain ⟨rows, h1, h2, h3, h4⟩ := h;exact ⟨rows, h1, h2.carryR g hR, h3, fun i hi => ((h4 i hi).carryR g hRA).mono fun j _ hj => hA j hj⟩
theorem ShsOwn.carry {A : Nat → Prop} {l : List Sh} (h : ShsOwn A w base e v l) (g : Bel w w') : ShsOwn A w' base e v l := h.carryA g (fun _ _ f => f) (fun _ f => f.elim) (fun _ h => h)
theorem getD_snoc {α : Type} {l : List α} {x d : α} {i : Nat} (hi : i < (l ++ [x]).length) : (l ++ [x]).getD i d = if i < l.length then l.getD i d else x := by
  simp only [List.length_append, List.length_cons, List.length_nil] at hi;simp only [List.getD_eq_getElem?_getD];split
  · rw [List.getElem?_append_left (by assumption)]
  · rw [List.getElem?_append_right om_, show i - l.length = 0 by omega]; rfl
theorem ShsOwn.snoc {A A' : Nat → Prop} {l : List Sh} {rows : List (List Value)} {cs : List Value} {t : Sh} (h1 : rows.length = l.length) (h3 : ∀ i, i < l.length → (rows.getD i []).length = 5) (h4 : ∀ i, i < l.length → ShC A w (rows.getD i []) (l.getD i default))
    (ht : ShC A w cs t) (ho : Own w' base e 5 v' (l.length + 1) (rows.flatten ++ cs)) (g : Gr (fun j => some j = v.ownBlock) w w') (hv : ∀ j, some j = v.ownBlock → A j) (hA : ∀ j, A' j → A j) : ShsOwn A' w' base e v' (l ++ [t]) := by
  refine ⟨rows ++ [cs], by simp [h1], ?_, fun i hi => ?_, fun i hi => ?_⟩
  · have e1 : (rows ++ [cs]).flatten = rows.flatten ++ cs := by simp
    rw [e1, List.length_append]; exact ho
  · rw [getD_snoc (by simpa [h1] using hi)];split
    · exact h3 i om_
    · exact ht.len
  · rw [getD_snoc (by simpa [h1] using hi), getD_snoc hi];by_cases hlt : i < l.length
    · rw [if_pos om_, if_pos hlt]; exact ((h4 i hlt).carryR g hv).mono fun j _ hj => hA j hj
    · rw [if_neg om_, if_neg hlt]; exact (ht.carryR g hv).mono fun j _ hj => hA j hj
theorem flat5 {rows : List (List Value)} (h : ∀ r ∈ rows, r.length = 5) {i j : Nat} (hj : j < 5) (hi : i < rows.length) : rows.flatten[i * 5 + j]? = (rows.getD i [])[j]? := by
  induction rows generalizing i with
  | nil => simp at hi
  | cons r rows ih =>
    have hr := h r (by simp);cases i with
    | zero => simp [List.getElem?_append_left, hr, hj]
    | succ i =>
      rw [List.flatten_cons, List.getElem?_append_right (by rw [hr]; omega), hr, show (i + 1) * 5 + j - 5 = i * 5 + j by omega, ih (fun r' h' => h r' (by simp [h'])) (by simpa using hi)];simp
theorem ShsOwn.done {A A' : Nat → Prop} {l : List Sh} (h : ShsOwn A w base e v l) (hl : l.length ≤ 70368744177664) (hA : ∀ j, A' j → A j) (hb : ∀ j, base ≤ j → ¬ A' j) : ShsAt A' w v l := by
  obtain ⟨rows, h1, h2, h3, h4⟩ := h;rcases h2.open with ⟨rfl, hk, -⟩ | ⟨b, cap, tl, rfl, hbb, hcap, hcm, hbx⟩
  · have hn : l = [] := List.eq_nil_of_length_eq_zero hk;subst hn;exact ShsAt.nil _ _ _ _ (by simp)
  · refine ⟨some ⟨b, 0, none⟩, cap, fun i => rows.getD i [], rfl, hcap, hcm, hl, ⟨fun _ => ⟨b, 0, rfl, hb b hbb, fun i j hi hj => ?_⟩, h3, fun i hi => (h4 i hi).mono fun k _ hk => hA k hk⟩⟩;have hr : ∀ r ∈ rows, r.length = 5 := fun r hr => by
      obtain ⟨i, hi, rfl⟩ := List.getElem_of_mem hr;have := h3 i om_
      rwa [List.getD_eq_getElem?_getD, List.getElem?_eq_getElem hi] at this
    have hf := flat5 hr hj (by omega : i < rows.length);have h5 : (rows.getD i []).length = 5 := h3 i hi;have hv : (rows.getD i [])[j]? = some ((rows.getD i [])[j]'om_) := List.getElem?_eq_getElem om_;show w.cell? ⟨b, 0 + i * 5 + j, none⟩ = (rows.getD i [])[j]?;rw [hv] at hf ⊢;have hlt : i * 5 + j < rows.flatten.length := (List.getElem?_eq_some_iff.1 hf).1;rw [show 0 + i * 5 + j = i * 5 + j by omega];exact hbx.cell (by rw [List.getElem?_append_left hlt]; exact hf)
theorem strs_done {A : Nat → Prop} {l : List Str} (h : Own w base e 1 v l.length (l.map S)) (hl : l.length ≤ 70368744177664) (hx : ∀ x ∈ l, x.length ≤ 9223372036854775807) (hb : ∀ j, base ≤ j → ¬ A j) : StrsAt A w v l := by
  rcases h.open with ⟨rfl, hk, -⟩ | ⟨b, cap, tl, rfl, hbb, hcap, hcm, hbx⟩
  · have hn : l = [] := List.eq_nil_of_length_eq_zero hk;subst hn;exact StrsAt.nil _ _ _ _ (by simp)
  · refine ⟨_, cap, rfl, hcap, hcm, hl, hx, fun _ => ⟨b, 0, rfl, hb b hbb, fun i hi => hbx.cell0 ?_⟩⟩;rw [List.getElem?_append_left (by simpa using hi)];simp [hi]
theorem av_step {w2 : World} (hs : w.heap.size ≤ w2.heap.size) (h1 : v1.ownBlock = v.ownBlock ∨ v1.ownBlock = some w.heap.size) (h2 : v2.ownBlock = v'.ownBlock ∨ v2.ownBlock = some w.heap.size) {j : Nat} (h : Av n0 w2 v1 v2 j) : Av n0 w v v' j := by
  rcases h with h | h | h | h
  · exact .inl h
  · rcases h1 with e | e
    · exact .inr (.inl (h.trans e))
    · rw [e] at h; exact .inr (.inr (.inr (by simp at h; omega)))
  · rcases h2 with e | e
    · exact .inr (.inr (.inl (h.trans e)))
    · rw [e] at h; exact .inr (.inr (.inr (by simp at h; omega)))
  · exact .inr (.inr (.inr om_))
theorem av_mono {w2 : World} (hs : w.heap.size ≤ w2.heap.size) {j : Nat} (h : Av n0 w2 v1 v2 j) : Av n0 w v1 v2 j := av_step hs (.inl rfl) (.inl rfl) h
def Ge (b : Nat) (w : World) : Prop := b ≤ w.heap.size
theorem Ge.carryR {R : Nat → Prop} {b : Nat} (h : Ge b w) (g : Gr R w w') : Ge b w' := Nat.le_trans h g.size
theorem Ge.carry {b : Nat} (h : Ge b w) (g : Bel w w') : Ge b w' := h.carryR g
theorem own_ne {base base' k k' sz sz' : Nat} {e e' : TypeId} {xs xs' : List Value} (h : Own w base e sz v k xs) (h' : Own w base' e' sz' v' k' xs') (hne : Nat.beq e e' = false) {j : Nat} (hj : some j = v.ownBlock) : ¬ some j = v'.ownBlock := by
  intro hj';rcases h.2 with ⟨rfl, -⟩ | ⟨b, cap, cur, rfl, -, hg, -⟩
  · simp [Value.ownBlock] at hj
  · rcases h'.2 with ⟨rfl, -⟩ | ⟨b', cap', cur', rfl, -, hg', -⟩
    · simp [Value.ownBlock] at hj'
    · simp [Value.ownBlock] at hj hj';subst hj; subst hj';rw [hg] at hg';have : e = e' := by simp at hg'; exact hg'.2
      subst this; simp at hne
theorem own_form {base sz k : Nat} {e : TypeId} {xs : List Value} (h : Own w base e sz v (k + 1) xs) : ∃ b cap, v = .slice (some ⟨b, 0, none⟩) (k + 1) cap := by
  rcases h.open with ⟨-, h, -⟩ | ⟨b, cap, tl, rfl, -⟩
  · omega
  · exact ⟨b, cap, rfl⟩
theorem own_one {base sz k : Nat} {e : TypeId} {xs : List Value} (h : Own w base e sz v k xs) : v.oneCell' = true := by
  rcases h.open with ⟨rfl, -⟩ | ⟨_, _, _, rfl, -⟩ <;> rfl
theorem ShRow.elemAt {A : Nat → Prop} {b o : Nat} {row : Nat → List Value} {l : List Sh} (h : ShRow A w (some ⟨b, o, none⟩) row l) {i : Nat} (hi : i < l.length) : ∀ j, j < 5 → w.cell? ⟨b, o + i * 5 + j, none⟩ = (row i)[j]? := by
  obtain ⟨b', o', e, hc⟩ := h.elem hi;simp only [Option.some.injEq, Addr.mk.injEq] at e;intro j hj;rw [e.1, e.2.1]; exact hc j hj
theorem own_shape {w : World} {base sz k : Nat} {e : TypeId} {v : Value} {xs : List Value} (h : Own w base e sz v k xs) : ∃ a c, v = .slice a k c ∧ k ≤ c := by
  rcases h.open with ⟨rfl, rfl, -⟩ | ⟨b, cap, tl, rfl, -, h1, -⟩
  · exact ⟨none, 0, rfl, Nat.le_refl _⟩
  · exact ⟨_, cap, rfl, h1⟩
theorem own_pos {w : World} {base sz k c : Nat} {e : TypeId} {a : Option Addr} {xs : List Value} (h : Own w base e sz (.slice a k c) k xs) (hk : 0 < k) : ∃ b, a = some ⟨b, 0, none⟩ := by
  rcases h.open with ⟨h1, h2, -⟩ | ⟨b, cap, tl, h1, -⟩
  · omega
  · simp only [Value.slice.injEq] at h1; exact ⟨b, h1.1⟩
theorem own_cell1 {w : World} {base n c b : Nat} {e : TypeId} {l : List Str} (h : Own w base e 1 (.slice (some ⟨b, 0, none⟩) n c) n (l.map S)) {j : Nat} (hj : j < l.length) : w.cell? ⟨b, 0 + j, none⟩ = some (S (l.getD j [])) := by
  rcases h.open with ⟨h1, -⟩ | ⟨b', cap, tl, h1, -, -, -, hb⟩
  · cases h1
  · simp only [Value.slice.injEq, Option.some.injEq, Addr.mk.injEq] at h1;rw [h1.1.1];refine hb.cell0 ?_;rw [List.getElem?_append_left (by simpa using hj)];simp [hj, List.getD_eq_getElem?_getD]
section
variable {P : Program}
def finR (P : Program) (fn : Func) (Φ : Value → World → Prop) : Post := fun e D E w => (e = .normal ∨ e = .ret) ∧ D = [] ∧ ∃ v, (∀ a : Array Value, (∀ t, a.getD t undef = E t) → (results fn a).run P w = .ok v w) ∧ Φ v w
theorem finR_mk {fn : Func} {Φ : Value → World → Prop} {e : Exit} {E : Env} {w : World} (he : e = .normal ∨ e = .ret) (h : ∃ v, (∀ a : Array Value, (∀ t, a.getD t undef = E t) → (results fn a).run P w = .ok v w) ∧ Φ v w) : finR P fn Φ e [] E w := ⟨he, rfl, h⟩
theorem ret_of_W_R {f : FuncId} {fn : Func} {c : Code} {args : Array Value} {Φ : Value → World → Prop}
    (hf : P.funcs[f]? = some fn) (hb : fn.body = some c) (hn : args.size ≤ fn.ntmps) (h : W P fn.ntmps c (finR P fn Φ) [] (env0 args.toList) w) : Ret P f args w Φ := by
  refine calls_of_wp hf hb (wp_mono (h _ (fr0 hn)) ?_);rintro e a' w' ⟨he, E', hE, h1, hD, v, hv, hΦ⟩;rcases h1 with rfl | rfl
  · exact ⟨hD, v, hv _ hE.get, _, rfl, hΦ⟩
  · exact ⟨hD, v, hv _ hE.get, _, rfl, hΦ⟩
theorem resS {fn : Func} {t : Tmp} {T : TypeId} {E : Env} {b n : Nat} {T' : TypeId} {cs : List Value} (hr : fn.results = #[.cell t T]) (ht : aggT P T n = true) (hE : E t = .pointer (some ⟨b, 0, none⟩)) (hb : Box w b T' cs) (hl : cs.length = n) :
    ∀ a : Array Value, (∀ t, a.getD t undef = E t) → (results fn a).run P w = .ok (.agg cs.toArray) w := by
  intro a ha;have hg : a.getD t undef = .pointer (some ⟨b, 0, none⟩) := by rw [ha, hE]
  have hload : (loadVar T ⟨b, 0, none⟩).run P w = .ok (.agg cs.toArray) w := by
    unfold aggT at ht;simp only [Bool.and_eq_true, beq_iff_eq] at ht;obtain ⟨h1, h2⟩ := ht;cases hu : P.underlying T with
    | none => simp [hu] at h1
    | some d =>
      rw [hu] at h1;exact run_loadVar_row w b T' T cs.toArray (0, 0) d hb hu (by cases d <;> simp_all) (by rw [h2]; simp [hl])
  rw [Array.getD_eq_getD_getElem?] at hg;simp [results, hr, hg, asAddr, hload]
end
end Go.Gx
namespace Go.Gx
open Go.Proofs
theorem keq_ag25 : aggT Tryz.prog 25 5 = true := by kernel_rfl
theorem keq_en26 : Go.Proofs.Enters Tryz.prog 26 := Go.Proofs.enters_of Tryz.func26 kr_ rfl
theorem keq_fo25_0 : fieldOff Tryz.prog 25 0 = some 0 := by kernel_rfl
theorem keq_fo25_1 : fieldOff Tryz.prog 25 1 = some 1 := by kernel_rfl
theorem keq_fo25_2 : fieldOff Tryz.prog 25 2 = some 2 := by kernel_rfl
theorem keq_fo25_3 : fieldOff Tryz.prog 25 3 = some 3 := by kernel_rfl
theorem keq_fo25_4 : fieldOff Tryz.prog 25 4 = some 4 := by kernel_rfl
theorem keq_mixed : Tryz.prog.follows .mixedOrders = true := by kernel_rfl
theorem keq_oc22 : oneCellT Tryz.prog 22 = true := by kernel_rfl
theorem keq_oc23 : oneCellT Tryz.prog 23 = true := by kernel_rfl
theorem keq_oc3 : oneCellT Tryz.prog 3 = true := by kernel_rfl
theorem keq_oc9 : oneCellT Tryz.prog 9 = true := by kernel_rfl
theorem keq_sz25 : (Tryz.prog.info? 25).map (·.size) = some 5 := by kernel_rfl
theorem keq_sz9 : (Tryz.prog.info? 9).map (·.size) = some 1 := by kernel_rfl
open Classical in
noncomputable def eqS (a b : Sh) : Bool := decide (a = b)
theorem eqS_t {a b : Sh} (h : a = b) : eqS a b = true := by unfold eqS; simpa using h
theorem eqS_f {a b : Sh} (h : a ≠ b) : eqS a b = false := by unfold eqS; simpa using h
theorem eqS_iff {a b : Sh} : eqS a b = true ↔ a = b := by unfold eqS; simp
theorem Sh.ext {a b : Sh} (h1 : a.kind = b.kind) (h2 : a.of = b.of) (h3 : a.name = b.name) (h4 : a.names = b.names) (h5 : a.parts = b.parts) : a = b := by
  cases a; cases b; simp only [Sh.kind, Sh.of, Sh.name, Sh.names, Sh.parts] at *; subst h1 h2 h3 h4 h5; rfl
theorem take_eq_snoc {α : Type} {d : α} {l m : List α} {k : Nat} (hl : k < l.length) (hm : k < m.length) (h : l.take k = m.take k) (he : l.getD k d = m.getD k d) : l.take (k + 1) = m.take (k + 1) := by
  rw [List.getD_eq_getElem?_getD, List.getElem?_eq_getElem hl, Option.getD_some, List.getD_eq_getElem?_getD, List.getElem?_eq_getElem hm, Option.getD_some] at he;rw [List.take_succ_eq_append_getElem hl, List.take_succ_eq_append_getElem hm, h, he]
theorem equal07 : ∀ (N : Nat) (a b : Sh), SizeOf.sizeOf a < N → ∀ (A A' : Nat → Prop) (cs ds : List Value) (w : World), ShC A w cs a → ShC A' w ds b →
    Ret Tryz.prog 26 #[.agg cs.toArray, .agg ds.toArray] w fun v w' => v = .bool (eqS a b) ∧ Bel w w' := by
  intro N;induction N with
  | zero => intro a b h; omega
  | succ N ih =>
    intro a b hN A A' cs ds w ha hb;obtain ⟨vn, vp, rfl, hna, hp, -⟩ := ha.inv;obtain ⟨p, cap, row, rfl, p1, p2, p3, hra⟩ := hp;obtain ⟨un, up, rfl, hnb, hq, -⟩ := hb.inv;obtain ⟨q, qap, rox, rfl, q1, q2, q3, hrb⟩ := hq;have hna' := hna;obtain ⟨pn, capn, rfl, -, -, pn3, -⟩ := hna';have hnb' := hnb;obtain ⟨qn, qapn, rfl, -, -, qn3, -⟩ := hnb';refine ret_of_W Tryz.func26 rfl (Nat.le_of_ble_eq_true rfl) (res1 rfl) ?_;have hB := Gr.refl (fun _ => False) w;refine W.seq (W.region (L.box (cs := _) rfl rfl (fun w2 bx2 hw hz2 => ?_)));have hB := hB.carry hw; have hra := hra.carry hw; have hrb := hrb.carry hw; have hna := hna.carry hw; have hnb := hnb.carry hw;refine L.box (cs := _) rfl rfl (fun w3 bx3 hw hz3 => ?_);have hB := hB.carry hw; have hra := hra.carry hw; have hrb := hrb.carry hw; have hna := hna.carry hw; have hnb := hnb.carry hw; have bx2 := bx2.carry hw;refine L.val (x_as (v := .bool _) rfl) rfl ?_;refine L.nil (thn_n (W.seq (W.seq (W.region (L.val (x_fa keq_fo25_0 rfl) rfl ?_)))));refine L.val (x_ld (v := .int _ _) keq_oc3 rfl (bx2.cell0 rfl)) rfl ?_;refine L.val (x_fa keq_fo25_0 rfl) rfl ?_;refine L.val (x_ld (v := .int _ _) keq_oc3 rfl (bx3.cell0 rfl)) rfl ?_;refine L.val (x_neq rfl rfl) rfl ?_;refine L.val (x_mv (v := .bool _) rfl) rfl ?_;refine' L.group0 5 13 17 17 12 false rfl ?_ ?_ ?_;rotate_left 1
    ·intro g12;have h12 := dne_f g12;refine L.gyes' (dj := 12) (b := _) rfl rfl g12 ?_;refine L.val (x_fa keq_fo25_1 rfl) rfl ?_;refine L.gyes' (dj := 12) (b := _) rfl rfl g12 ?_;refine L.val (x_ld (v := S _) keq_oc9 rfl (bx2.cell0 rfl)) rfl ?_;refine L.gyes' (dj := 12) (b := _) rfl rfl g12 ?_;refine L.val (x_fa keq_fo25_1 rfl) rfl ?_;refine L.gyes' (dj := 12) (b := _) rfl rfl g12 ?_;refine L.val (x_ld (v := S _) keq_oc9 rfl (bx3.cell0 rfl)) rfl ?_;refine L.gyes' (dj := 12) (b := _) rfl rfl g12 ?_;refine L.val (x_nes rfl rfl) rfl ?_;refine L.nil (thn_n ⟨rfl, rfl, ?_, rfl⟩);repeat (first | exact jeq.refl _ _ _ | refine jeq.upd rfl ?_ | refine jeq.jk rfl rfl ?_)
    ·intro g12;(iterate 5 refine L.gno (dj := 12) (b := _) rfl rfl g12 rfl ?_);refine L.nil (thn_n ⟨rfl, rfl, ?_⟩);repeat (first | exact jeq.refl _ _ _ | refine jeq.upd rfl ?_ | refine jeq.jk rfl rfl ?_)
    intro J12 j12;refine L.val (x_or rfl j12) rfl ?_;refine L.val (x_mv (v := .bool _) rfl) rfl ?_;refine' L.group0 5 20 24 24 19 false rfl ?_ ?_ ?_;rotate_left 1
    ·intro g19;have h19 := g19;refine L.gyes' (dj := 19) (b := _) rfl rfl g19 ?_;refine L.val (x_fa keq_fo25_2 rfl) rfl ?_;refine L.gyes' (dj := 19) (b := _) rfl rfl g19 ?_;refine L.val (x_ld (v := S _) keq_oc9 rfl (bx2.cell0 rfl)) rfl ?_;refine L.gyes' (dj := 19) (b := _) rfl rfl g19 ?_;refine L.val (x_fa keq_fo25_2 rfl) rfl ?_;refine L.gyes' (dj := 19) (b := _) rfl rfl g19 ?_;refine L.val (x_ld (v := S _) keq_oc9 rfl (bx3.cell0 rfl)) rfl ?_;refine L.gyes' (dj := 19) (b := _) rfl rfl g19 ?_;refine L.val (x_nes rfl rfl) rfl ?_;refine L.nil (thn_n ⟨rfl, rfl, ?_, rfl⟩);repeat (first | exact jeq.refl _ _ _ | refine jeq.upd rfl ?_ | refine jeq.jk rfl rfl ?_)
    ·intro g19;(iterate 5 refine L.gno (dj := 19) (b := _) rfl rfl g19 rfl ?_);refine L.nil (thn_n ⟨rfl, rfl, ?_⟩);repeat (first | exact jeq.refl _ _ _ | refine jeq.upd rfl ?_ | refine jeq.jk rfl rfl ?_)
    intro J19 j19;refine L.val (x_or rfl j19) rfl ?_;refine L.val (x_mv (v := .bool _) rfl) rfl ?_;refine' L.group0 7 27 33 33 26 false rfl ?_ ?_ ?_;rotate_left 1
    ·intro g26;have h26 := g26;refine L.gyes' (dj := 26) (b := _) rfl rfl g26 ?_;refine L.val (x_fa keq_fo25_3 rfl) rfl ?_;refine L.gyes' (dj := 26) (b := _) rfl rfl g26 ?_;refine L.val (x_ld (v := .slice _ _ _) keq_oc22 rfl (bx2.cell0 rfl)) rfl ?_;refine L.gyes' (dj := 26) (b := _) rfl rfl g26 ?_;refine L.val (x_len_slice Tryz.underlying22 rfl) rfl ?_;refine L.gyes' (dj := 26) (b := _) rfl rfl g26 ?_;refine L.val (x_fa keq_fo25_3 rfl) rfl ?_;refine L.gyes' (dj := 26) (b := _) rfl rfl g26 ?_;refine L.val (x_ld (v := .slice _ _ _) keq_oc22 rfl (bx3.cell0 rfl)) rfl ?_;refine L.gyes' (dj := 26) (b := _) rfl rfl g26 ?_;refine L.val (x_len_slice Tryz.underlying22 rfl) rfl ?_;refine L.gyes' (dj := 26) (b := _) rfl rfl g26 ?_;refine L.val (x_neq rfl rfl) rfl ?_;refine L.nil (thn_n ⟨rfl, rfl, ?_, rfl⟩);repeat (first | exact jeq.refl _ _ _ | refine jeq.upd rfl ?_ | refine jeq.jk rfl rfl ?_)
    ·intro g26;(iterate 7 refine L.gno (dj := 26) (b := _) rfl rfl g26 rfl ?_);refine L.nil (thn_n ⟨rfl, rfl, ?_⟩);repeat (first | exact jeq.refl _ _ _ | refine jeq.upd rfl ?_ | refine jeq.jk rfl rfl ?_)
    intro J26 j26;refine L.val (x_or rfl j26) rfl ?_;refine L.val (x_mv (v := .bool _) rfl) rfl ?_;refine' L.group0 7 36 42 42 35 false rfl ?_ ?_ ?_;rotate_left 1
    ·intro g35;have h35 := g35;refine L.gyes' (dj := 35) (b := _) rfl rfl g35 ?_;refine L.val (x_fa keq_fo25_4 rfl) rfl ?_;refine L.gyes' (dj := 35) (b := _) rfl rfl g35 ?_;refine L.val (x_ld (v := .slice _ _ _) keq_oc23 rfl (bx2.cell0 rfl)) rfl ?_;refine L.gyes' (dj := 35) (b := _) rfl rfl g35 ?_;refine L.val (x_len_slice Tryz.underlying23 rfl) rfl ?_;refine L.gyes' (dj := 35) (b := _) rfl rfl g35 ?_;refine L.val (x_fa keq_fo25_4 rfl) rfl ?_;refine L.gyes' (dj := 35) (b := _) rfl rfl g35 ?_;refine L.val (x_ld (v := .slice _ _ _) keq_oc23 rfl (bx3.cell0 rfl)) rfl ?_;refine L.gyes' (dj := 35) (b := _) rfl rfl g35 ?_;refine L.val (x_len_slice Tryz.underlying23 rfl) rfl ?_;refine L.gyes' (dj := 35) (b := _) rfl rfl g35 ?_;refine L.val (x_neq rfl rfl) rfl ?_;refine L.nil (thn_n ⟨rfl, rfl, ?_, rfl⟩);repeat (first | exact jeq.refl _ _ _ | refine jeq.upd rfl ?_ | refine jeq.jk rfl rfl ?_)
    ·intro g35;(iterate 7 refine L.gno (dj := 35) (b := _) rfl rfl g35 rfl ?_);refine L.nil (thn_n ⟨rfl, rfl, ?_⟩);repeat (first | exact jeq.refl _ _ _ | refine jeq.upd rfl ?_ | refine jeq.jk rfl rfl ?_)
    intro J35 j35;refine L.val (x_or rfl j35) rfl ?_;refine L.nil (thn_n (W.cond (b := _) rfl (fun g43 => ?_) (fun g43 => ?_)))
    ·have h43 := g43;refine W.seq (W.region (L.val (x_as (v := .bool _) rfl) rfl ?_));refine L.nil (thn_n (W.ret (thn_r (fin_mk (.inr rfl) ?_))));exact ⟨vb (Eq.symm (eqS_f (by
       rintro rfl;simp at h43))), hB⟩
    ·have h43 := g43;simp only [Bool.or_eq_false_iff, Bool.not_eq_false', decide_eq_true_eq, beq_iff_eq] at h43;obtain ⟨⟨⟨⟨e1, e2⟩, e3⟩, e4⟩, e5⟩ := h43;have b2lt := bx2.lt;refine W.skip (thn_n (W.seq (W.seq (W.region (L.val (x_as (v := .int _ _) rfl) rfl ?_)))));refine L.nil (thn_n (W.block (W.loop (fun m' E w' => Bel w w' ∧ ShRow A w' p row a.parts ∧ ShRow A' w' q rox b.parts ∧ StrsAt A w' (.slice pn a.names.length capn) a.names ∧ StrsAt A' w' (.slice qn b.names.length qapn) b.names ∧ Box w' w.heap.size 25 [.int .i64 a.kind, S a.of, S a.name, .slice pn a.names.length capn, .slice p a.parts.length cap] ∧ Box w' w2.heap.size 25 [.int .i64 b.kind, S b.of, S b.name, .slice qn b.names.length qapn, .slice q b.parts.length qap] ∧ ∃ k : Nat, k ≤ a.names.length ∧ m' = a.names.length - k ∧ E 5 = .int .i64 (k : Nat) ∧ E 2 = .pointer (some ⟨w.heap.size, 0, none⟩) ∧ E 3 = .pointer (some ⟨w2.heap.size, 0, none⟩) ∧ a.names.take k = b.names.take k) (a.names.length) ?_ ?_)))
     ·exact ⟨hB, hra, hrb, hna, hnb, bx2, bx3, 0, by omega, rfl, rfl, rfl, rfl, rfl⟩
     ·rintro m' E w0 ⟨hB, hra, hrb, hna, hnb, bx2, bx3, k, hk, rfl, e5', e2', e3', ht⟩;rw [upd_self e5', upd_self e2', upd_self e3'];refine W.seq (W.seq (W.region (L.val (x_mv (v := .int _ _) rfl) rfl ?_)));refine L.val (x_fa keq_fo25_3 rfl) rfl ?_;refine L.val (x_ld (v := .slice _ _ _) keq_oc22 rfl (bx2.cell0 rfl)) rfl ?_;refine L.val (x_len_slice Tryz.underlying22 rfl) rfl ?_;refine L.val (x_lss rfl rfl) rfl ?_;refine L.nil (thn_n (W.cond (b := _) rfl (fun g48 => ?_) (fun g48 => ?_)))
      ·have h48 := of_decide_eq_true g48;have hlt : k < a.names.length := by omega
       have hlt' : k < b.names.length := by omega
       obtain ⟨bb, o, rfl, hc⟩ := hna.elem hlt;obtain ⟨bb', o', rfl, hc'⟩ := hnb.elem hlt';refine W.skip (thn_n (W.seq (W.block (W.seq (W.drawB keq_mixed kr_ ?_)))));refine LQ.val (fun w hw => x_fa keq_fo25_3 rfl) rfl ?_;refine LQ.val (fun w hw => x_ld (v := .slice _ _ _) keq_oc22 rfl (hw.keep (bx2.cell0 rfl))) rfl ?_;refine LQ.val (fun w hw => x_mv (v := .int _ _) rfl) rfl ?_;refine LQ.val (fun w hw => x_ia1  Tryz.underlying22 keq_sz9 rfl rfl rfl om_) rfl ?_;refine LQ.val (fun w hw => x_ld (v := S _) keq_oc9 rfl (hw.keep hc)) rfl ?_;refine LQ.val (fun w hw => x_fa keq_fo25_3 rfl) rfl ?_;refine LQ.val (fun w hw => x_ld (v := .slice _ _ _) keq_oc22 rfl (hw.keep (bx3.cell0 rfl))) rfl ?_;refine LQ.val (fun w hw => x_mv (v := .int _ _) rfl) rfl ?_;refine LQ.val (fun w hw => x_ia1  Tryz.underlying22 keq_sz9 rfl rfl rfl om_) rfl ?_;refine LQ.val (fun w hw => x_ld (v := S _) keq_oc9 rfl (hw.keep hc')) rfl ?_;refine LQ.val (fun w hw => x_nes rfl rfl) rfl ?_;refine LQ.nil ?_;intro w51 hw;have hB := hB.carry hw; have hra := hra.carry hw; have hrb := hrb.carry hw; have hna := hna.carry hw; have hnb := hnb.carry hw; have bx2 := bx2.carry hw; have bx3 := bx3.carry hw;refine thn_n (W.cond (b := _) rfl (fun g61 => ?_) (fun g61 => ?_))
       ·have h61 := sne_t g61;refine W.seq (W.region (L.val (x_as (v := .bool _) rfl) rfl ?_));refine L.nil (thn_n (W.ret (blk_r (thn_r (thn_r (blk_r (thn_r (fin_mk (.inr rfl) ?_))))))));exact ⟨vb (Eq.symm (eqS_f (by rintro rfl; exact h61 rfl))), hB⟩
       ·have h61 := sne_f g61;refine W.skip (blk_n (thn_n (W.region (L.val (x_mv (v := .int _ _) rfl) rfl ?_))));refine L.val (x_add rfl rfl (wr64 om_)) rfl ?_;refine L.val (x_as (v := .int _ _) rfl) rfl ?_;refine L.nil (thn_n ⟨rfl, ?_⟩);exact ⟨a.names.length - (k + 1), by omega, hB, hra, hrb, hna, hnb, bx2, bx3, k + 1, by omega, rfl, rfl, rfl, rfl, take_eq_snoc (d := []) hlt hlt' ht h61⟩
      ·have h48 := dlt_f g48;rw [List.take_of_length_le om_, List.take_of_length_le om_] at ht;refine W.exit (thn_x (thn_x (blk_hit ?_)));refine thn_n (W.seq (W.seq (W.region (L.val (x_as (v := .int _ _) rfl) rfl ?_))));refine L.nil (thn_n (W.block (W.loop (fun m' E w' => Bel w w' ∧ ShRow A w' p row a.parts ∧ ShRow A' w' q rox b.parts ∧ Box w' w.heap.size 25 [.int .i64 a.kind, S a.of, S a.name, .slice pn a.names.length capn, .slice p a.parts.length cap] ∧ Box w' w2.heap.size 25 [.int .i64 b.kind, S b.of, S b.name, .slice qn b.names.length qapn, .slice q b.parts.length qap] ∧ ∃ k : Nat, k ≤ a.parts.length ∧ m' = a.parts.length - k ∧ E 6 = .int .i64 (k : Nat) ∧ E 2 = .pointer (some ⟨w.heap.size, 0, none⟩) ∧ E 3 = .pointer (some ⟨w2.heap.size, 0, none⟩) ∧ a.parts.take k = b.parts.take k) (a.parts.length) ?_ ?_)))
       ·exact ⟨hB, hra, hrb, bx2, bx3, 0, by omega, rfl, rfl, rfl, rfl, rfl⟩
       ·rintro m' E w0 ⟨hB, hra, hrb, bx2, bx3, k, hk, rfl, e5', e2', e3', htp⟩;rw [upd_self e5', upd_self e2', upd_self e3'];refine W.seq (W.seq (W.region (L.val (x_mv (v := .int _ _) rfl) rfl ?_)));refine L.val (x_fa keq_fo25_4 rfl) rfl ?_;refine L.val (x_ld (v := .slice _ _ _) keq_oc23 rfl (bx2.cell0 rfl)) rfl ?_;refine L.val (x_len_slice Tryz.underlying23 rfl) rfl ?_;refine L.val (x_lss rfl rfl) rfl ?_;refine L.nil (thn_n (W.cond (b := _) rfl (fun g66 => ?_) (fun g66 => ?_)))
        ·have h66 := of_decide_eq_true g66;have hlt : k < a.parts.length := by omega
         have hlt' : k < b.parts.length := by omega
         obtain ⟨bb, o, rfl, hc⟩ := hra.elem hlt;obtain ⟨bb', o', rfl, hc'⟩ := hrb.elem hlt';refine W.skip (thn_n (W.seq (W.block (W.seq (W.drawB keq_mixed kr_ ?_)))));refine LQ.val (fun w hw => x_fa keq_fo25_4 rfl) rfl ?_;refine LQ.val (fun w hw => x_ld (v := .slice _ _ _) keq_oc23 rfl (hw.keep (bx2.cell0 rfl))) rfl ?_;refine LQ.val (fun w hw => x_mv (v := .int _ _) rfl) rfl ?_;refine LQ.val (fun w hw => x_ia  Tryz.underlying23 keq_sz25 rfl rfl rfl om_) rfl ?_;refine LQ.val (fun w hw => x_ldn (vs := row k) keq_ag25 rfl (hra.five k hlt) (hw.keepRow (hra.five k hlt) hc)) rfl ?_;refine LQ.val (fun w hw => x_fa keq_fo25_4 rfl) rfl ?_;refine LQ.val (fun w hw => x_ld (v := .slice _ _ _) keq_oc23 rfl (hw.keep (bx3.cell0 rfl))) rfl ?_;refine LQ.val (fun w hw => x_mv (v := .int _ _) rfl) rfl ?_;refine LQ.val (fun w hw => x_ia  Tryz.underlying23 keq_sz25 rfl rfl rfl om_) rfl ?_;refine LQ.val (fun w hw => x_ldn (vs := rox k) keq_ag25 rfl (hrb.five k hlt') (hw.keepRow (hrb.five k hlt') hc')) rfl ?_;refine LQ.ret (fun w => x_call keq_en26 rfl) (fun w hw => Ret.mono (ih _ _ (by have := Sh.part_lt hlt; omega) A A' _ _ _ ((hra.each k hlt).carry hw) ((hrb.each k hlt').carry hw)) (fun _ _ h => ⟨h.1, Gr.trans hw h.2⟩)) rfl ?_;refine LQ.val (fun w hw => x_not rfl) rfl ?_;refine LQ.nil ?_;intro w69 hw;have hB := hB.carry hw; have hra := hra.carry hw; have hrb := hrb.carry hw; have bx2 := bx2.carry hw; have bx3 := bx3.carry hw;refine thn_n (W.cond (b := _) rfl (fun g80 => ?_) (fun g80 => ?_))
         ·have h80 := (not_t g80);refine W.seq (W.region (L.val (x_as (v := .bool _) rfl) rfl ?_));refine L.nil (thn_n (W.ret (blk_r (thn_r (thn_r (blk_r (thn_r (fin_mk (.inr rfl) ?_))))))));exact ⟨vb (Eq.symm (eqS_f (by rintro rfl; rw [eqS_t rfl] at h80; cases h80))), hB⟩
         ·have h80 := (not_f g80);refine W.skip (blk_n (thn_n (W.region (L.val (x_mv (v := .int _ _) rfl) rfl ?_))));refine L.val (x_add rfl rfl (wr64 om_)) rfl ?_;refine L.val (x_as (v := .int _ _) rfl) rfl ?_;refine L.nil (thn_n ⟨rfl, ?_⟩);exact ⟨a.parts.length - (k + 1), by omega, hB, hra, hrb, bx2, bx3, k + 1, by omega, rfl, rfl, rfl, rfl, take_eq_snoc (d := default) hlt hlt' htp (eqS_iff.1 h80)⟩
        ·have h66 := dlt_f g66;refine W.exit (thn_x (thn_x (blk_hit ?_)));refine thn_n (W.seq (W.region (L.val (x_as (v := .bool _) rfl) rfl ?_)));refine L.nil (thn_n (W.ret (fin_mk (.inr rfl) ?_)));rw [List.take_of_length_le om_, List.take_of_length_le om_] at htp;exact ⟨vb (eqS_t (Sh.ext e1 e2 e3 ht htp)).symm, hB⟩
end Go.Gx
