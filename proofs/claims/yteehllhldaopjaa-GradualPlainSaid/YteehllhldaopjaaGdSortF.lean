/- slices.SortFunc over places, by the names that stand there. Conditions: none. -/
import Derived.Lib.Bytealg
import Derived.Test.YteehllhldaopjaaGdSrtC
import Derived.Test.YteehllhldaopjaaGdCompact
namespace Go.Gx
open Go.Proofs Go.Sort
theorem ksortf_en123 : Go.Proofs.Enters Try.prog 123 := Go.Proofs.enters_of Try.func123 (by kernel_rfl) rfl
theorem ksortf_en124 : Go.Proofs.Enters Try.prog 124 := Go.Proofs.enters_of Try.func124 (by kernel_rfl) rfl
theorem ksortf_en125 : Go.Proofs.Enters Try.prog 125 := Go.Proofs.enters_of Try.func125 (by kernel_rfl) rfl
theorem ksortf_en99 : Go.Proofs.Enters Try.prog 99 := Go.Proofs.enters_of Try.func99 (by kernel_rfl) rfl
theorem ksortf_fo25_3 : fieldOff Try.prog 25 3 = some 3 := by kernel_rfl
theorem ksortf_mixed : Try.prog.follows .mixedOrders = true := by kernel_rfl
theorem ksortf_oc22 : oneCellT Try.prog 22 = true := by kernel_rfl
theorem ksortf_oc9 : oneCellT Try.prog 9 = true := by kernel_rfl
theorem ksortf_sz9 : (Try.prog.info? 9).map (·.size) = some 1 := by kernel_rfl
theorem x_cmpstr {E : Env} {w : World} {x y : Operand} {ts : Array TypeId} {t : TypeId} {a b : Str} (hx : ev E x = S a) (hy : ev E y = S b) :
    X Try.prog (.call ⟨.value (.func 153), #[x, y], ts⟩) t E w (.int .i64 (Lib.compareBytes a b)) w := by
  have h := fun args w => run_callFunc_extern (P := Try.prog) (args := args) (w := w) Try.func153 (by kernel_rfl) (by kernel_rfl) (by kernel_rfl) (e := Extern.BytealgCompare.compare) (by kernel_rfl)
  have hv' : #[x, y].map (ev E) = #[S a, S b] := by simp [hx, hy]
  unfold X
  simp only [execOp, resolve, ev, Deferred.ofValue, hv', Sem.run_bind]
  have := h (#[] ++ #[S a, S b] ++ #[]) w
  have e : (Extern.BytealgCompare.compare (#[] ++ #[S a, S b] ++ #[])).run Try.prog w = .ok (.int .i64 (Lib.compareBytes a b)) w := Lib.run_compareString ⟨a.toArray⟩ ⟨b.toArray⟩ w
  rw [e] at this
  simpa [invoke] using this
theorem cmpstr0 (a b : Str) (w : World) : Ret Try.prog 125 #[S a, S b] w fun v w' => v = .int .i64 (Lib.compareBytes a b) ∧ Bel w w' := by
  refine ret_of_W Try.func125 rfl (Nat.le_of_ble_eq_true rfl) (res1 rfl) ?_
  have hB := Gr.refl (fun _ => False) w
  refine W.seq ?_
  refine W.region ?_
  refine L.val (x_as (v := .int _ _) rfl) rfl ?_
  refine L.nil ?_
  refine thn_n ?_
  refine W.seq ?_
  refine W.region ?_
  refine L.val (x_mv (v := S _) rfl) rfl ?_
  refine L.val (x_mv (v := S _) rfl) rfl ?_
  refine L.val (x_cmpstr rfl rfl) rfl ?_
  refine L.val (x_as (v := .int _ _) rfl) rfl ?_
  refine L.nil ?_
  refine thn_n ?_
  refine W.ret (fin_mk (.inr rfl) ?_)
  exact ⟨rfl, hB⟩
theorem cmpstr (a b : Str) (w : World) : Ret Try.prog 99 #[S a, S b] w fun v w' => v = .int .i64 (Lib.compareBytes a b) ∧ Bel w w' := by
  refine ret_of_W Try.func99 rfl (Nat.le_of_ble_eq_true rfl) (res1 rfl) ?_
  have hB := Gr.refl (fun _ => False) w
  refine W.seq ?_
  refine W.region ?_
  refine L.val (x_as (v := .int _ _) rfl) rfl ?_
  refine L.nil ?_
  refine thn_n ?_
  refine W.seq ?_
  refine W.region ?_
  refine L.val (x_mv (v := S _) rfl) rfl ?_
  refine L.val (x_mv (v := S _) rfl) rfl ?_
  refine L.ret (x_call ksortf_en125 rfl) rfl (cmpstr0 a b _) ?_
  rintro _ w7 ⟨rfl, hw⟩
  have hB := hB.carry hw
  refine L.val (x_as (v := .int _ _) rfl) rfl ?_
  refine L.nil ?_
  refine thn_n ?_
  refine W.ret (fin_mk (.inr rfl) ?_)
  exact ⟨rfl, hB⟩
theorem cb_lt : ∀ (a b : Str), decide (Lib.compareBytes a b < 0) = ltStr a b
  | [], [] => by simp [Lib.compareBytes, ltStr]
  | [], _ :: _ => by simp [Lib.compareBytes, ltStr]
  | _ :: _, [] => by simp [Lib.compareBytes, ltStr]
  | x :: a, y :: b => by
    have ih := cb_lt a b
    unfold ltStr at ih ⊢
    unfold Lib.compareBytes
    by_cases h1 : x < y
    · simp [h1, List.cons_lt_cons_iff]
    · by_cases h2 : y < x
      · have hne : x ≠ y := fun e => by subst e; exact h1 h2
        simp [h1, h2, List.cons_lt_cons_iff, hne]
      · have he : x = y := UInt8.le_antisymm (UInt8.not_lt.1 h2) (UInt8.not_lt.1 h1)
        subst he
        simp only [h1, if_false, List.cons_lt_cons_iff, false_or, true_and]
        exact ih
theorem clos_ok (A : Nat → Prop) (p i j : Nat) (x0 x1 x2 vn vp : Value) (ns : List Str) (w : World) (hb : Box w p 25 [x0, x1, x2, vn, vp]) (hn : StrsAt A w vn ns) (hi : i < ns.length) (hj : j < ns.length) :
    Ret Try.prog 98 #[.int .i64 (i : Nat), .int .i64 (j : Nat), .pointer (some ⟨p, 0, none⟩)] w fun v w' => v = .int .i64 (Lib.compareBytes (ns.getD i []) (ns.getD j [])) ∧ Bel w w' := by
  obtain ⟨pn, cap, rfl, -⟩ := id hn
  obtain ⟨b, o, rfl, -⟩ := hn.elem hi
  refine ret_of_W Try.func98 rfl (Nat.le_of_ble_eq_true rfl) (res1 rfl) ?_
  have hB := Gr.refl (fun _ => False) w
  refine W.seq ?_
  refine W.region ?_
  refine L.val (x_as (v := .int _ _) rfl) rfl ?_
  refine L.nil ?_
  refine thn_n ?_
  refine W.seq ?_
  refine W.drawB ksortf_mixed (by kernel_rfl) ?_
  refine LQ.val (fun w hw => x_fa ksortf_fo25_3 rfl) rfl ?_
  refine LQ.val (fun w hw => x_ld (v := .slice _ _ _) ksortf_oc22 rfl (hw.keep (hb.cell0 rfl))) rfl ?_
  refine LQ.val (fun w hw => x_mv (v := .int _ _) rfl) rfl ?_
  refine LQ.val (fun w hw => x_ia1 (j := i) Try.underlying22 ksortf_sz9 rfl rfl (by omega) (by omega)) rfl ?_
  refine LQ.val (fun w hw => x_ld (v := S _) ksortf_oc9 rfl (hw.keep (hn.elemAt hi))) rfl ?_
  refine LQ.val (fun w hw => x_fa ksortf_fo25_3 rfl) rfl ?_
  refine LQ.val (fun w hw => x_ld (v := .slice _ _ _) ksortf_oc22 rfl (hw.keep (hb.cell0 rfl))) rfl ?_
  refine LQ.val (fun w hw => x_mv (v := .int _ _) rfl) rfl ?_
  refine LQ.val (fun w hw => x_ia1 (j := j) Try.underlying22 ksortf_sz9 rfl rfl (by omega) (by omega)) rfl ?_
  refine LQ.val (fun w hw => x_ld (v := S _) ksortf_oc9 rfl (hw.keep (hn.elemAt hj))) rfl ?_
  refine LQ.ret (fun w => x_call ksortf_en99 rfl) (fun w hw => Ret.mono (cmpstr _ _ _) (fun _ _ h => ⟨h.1, Gr.trans hw h.2⟩)) rfl ?_
  refine LQ.val (fun w hw => x_as (v := .int _ _) rfl) rfl ?_
  refine LQ.nil ?_
  intro w6 hw
  have hB := hB.carry hw
  refine thn_n ?_
  refine W.ret (fin_mk (.inr rfl) ?_)
  exact ⟨rfl, hB⟩
abbrev encF (m : Nat) : Fin (m + 1) → Value := fun x => .int .i64 ((x.val : Nat) : Int)
def cfF (ns : List Str) (m : Nat) : Fin (m + 1) → Fin (m + 1) → Int := fun x y => Lib.compareBytes (ns.getD x.val []) (ns.getD y.val [])
theorem swo_F (ns : List Str) (m : Nat) : SWO (ltc (cfF ns m)) where
  irrefl x := by show decide (Lib.compareBytes _ _ < 0) = _; rw [cb_lt]; exact swo_ltStr.irrefl _
  trans x y z h1 h2 := by
    have h1 : decide (Lib.compareBytes _ _ < 0) = true := h1
    have h2 : decide (Lib.compareBytes _ _ < 0) = true := h2
    show decide (Lib.compareBytes _ _ < 0) = _
    rw [cb_lt] at h1 h2 ⊢; exact swo_ltStr.trans _ _ _ h1 h2
  ntrans x y z h1 h2 := by
    have h1 : decide (Lib.compareBytes _ _ < 0) = false := h1
    have h2 : decide (Lib.compareBytes _ _ < 0) = false := h2
    show decide (Lib.compareBytes _ _ < 0) = _
    rw [cb_lt] at h1 h2 ⊢; exact swo_ltStr.ntrans _ _ _ h1 h2
theorem sortfunc_ok {α : Type} [Inhabited α] {enc : α → Value} {gF : Nat} {cp : List Value} {cf : α → α → Int} {N0 : Nat} (eg : Enters Try.prog gF) (he1 : ∀ x, (enc x).oneCell' = true) (hS : SWO (ltc cf))
    (b o cap n : Nat) (T : TypeId) (hd tl : List Value) (d : Array α) (w : World) (hC : Cmp Try.prog enc gF cp cf b N0 w) (hR : Row enc w b o T hd d tl) (hn : d.size = n) (h1 : 1 ≤ n) (hc : n ≤ 2000000000000000000) :
    Ret Try.prog 97 #[.slice (some ⟨b, o, none⟩) n cap, .func (.func gF) #[] cp.toArray] w fun v w' => v = .tuple #[] ∧ Gr (· = b) w w' ∧ ∃ d', Row enc w' b o T hd d' tl ∧ PermIn 0 n d d' ∧ SortedIn (ltc cf) 0 n d' := by
  refine ret_of_W Try.func97 rfl (Nat.le_of_ble_eq_true rfl) (res0 rfl) ?_
  have hB := Gr.refl (fun _ => False) w
  refine W.seq ?_
  refine W.region ?_
  refine L.val (x_mv (v := .slice _ _ _) rfl) rfl ?_
  refine L.val (x_len_slice Try.underlying96 rfl) rfl ?_
  refine L.val (x_as (v := .int _ _) rfl) rfl ?_
  refine L.nil ?_
  refine thn_n ?_
  refine W.region ?_
  refine L.val (x_mv (v := .slice _ _ _) rfl) rfl ?_
  refine L.val (x_mv (v := .int _ _) rfl) rfl ?_
  refine L.val (x_mv (v := .int _ _) rfl) rfl ?_
  refine L.val (x_conv (k' := .u64) (by rw [Try.underlying3]; rfl) Try.underlying121 rfl (wru64 (by omega))) rfl ?_
  refine L.ret (x_call ksortf_en124 rfl) rfl (len_ok n _ h1 (by omega)) ?_
  rintro _ w11 ⟨k, rfl, k1, k2, k3, k4, hw⟩
  have hB := hB.carry hw; have hR := hR.carry hw
  refine L.val (x_mv (v := .func _ _ _) rfl) rfl ?_
  refine L.ret (x_call ksortf_en123 rfl) rfl (pdq_okC eg he1 b o cap n T hd tl hc hS (n + 1) 0 n k d _ (hC.mvB hB) (by omega) hR hn (by omega) (Nat.le_refl _) (by omega) (.inl rfl)) ?_
  rintro _ w13 ⟨rfl, hg, d', hR', p1, p2⟩
  refine L.nil ?_
  refine fin_mk (.inl rfl) ?_
  exact ⟨rfl, (hB.mono fun _ _ h => h.elim).trans hg, d', hR', p1, p2⟩
end Go.Gx
