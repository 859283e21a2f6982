/- The sizes of transactions, as the laws reckon them. Conditions: none. -/
import Derived.Test.YtfbcmonbmkafpaaGreatCmStoN
import Derived.Test.YtfbcmonbmkafpaaGreatCmStoG
namespace Go.Gx
open Go.Proofs Go.Sort
theorem kstoq_el5 : elT Tryz.prog 5 1 = true := by kernel_rfl
theorem kstoq_en125 : Go.Proofs.Enters Tryz.prog 125 := Go.Proofs.enters_of Tryz.func125 (by kernel_rfl) rfl
theorem kstoq_en95 : Go.Proofs.Enters Tryz.prog 95 := Go.Proofs.enters_of Tryz.func95 (by kernel_rfl) rfl
theorem kstoq_oc9 : oneCellT Tryz.prog 9 = true := by kernel_rfl
theorem kstoq_sz9 : (Tryz.prog.info? 9).map (·.size) = some 1 := by kernel_rfl
theorem x_slAll {P : Program} {E : Env} {w : World} {x y y' : Operand} {t s e : TypeId} {b o c m : Nat} {k k' : IntKind} {i i' : Int} {j j' sz : Nat} (hu : P.underlying s = some (.slice e)) (hs : (P.info? e).map (·.size) = some sz)
    (hx : ev E x = .slice (some ⟨b, o, none⟩) m c) (hy : ev E y = .int k i) (hy' : ev E y' = .int k' i') (hi : i = (j : Nat)) (hi' : i' = (j' : Nat)) (hj : j ≤ j') (hj' : j' ≤ c) (hc : j < c) :
    X P (.slice s x (some y) (some y') none) t E w (.slice (some ⟨b, o + j * sz, none⟩) (j' - j) (c - j)) w := by
  unfold X
  subst hi
  subst hi'
  have hne : ¬ c = j := by omega
  cases hi : P.info? e with
  | none => simp [hi] at hs
  | some inf =>
    simp only [hi, Option.map_some, Option.some.injEq] at hs
    simp [execOp, hx, hy, hy', Instr.sliceAt, Instr.slice, Instr.sliceBounds, Instr.sliceBound, asIntOf, run_underlying hu, sizeOf, typeInfo, hi, hs, Addr.add, hj, hj', hne]
theorem eds_one {A : Nat → Prop} {w : World} {b o n cap : Nat} {l : List Ed} (h : EdsAt A w (.slice (some ⟨b, o, none⟩) n cap) l) {i : Nat} (hi : i < l.length) : EdsAt A w (.slice (some ⟨b, o + i * 3, none⟩) 1 (cap - i)) [l.getD i default] := by
  obtain ⟨p', cap', row, e, h1, h2, h3, hR⟩ := id h
  obtain ⟨hok, b', o', e2, hA, hc⟩ := eds_elem h hi
  cases e2
  cases e
  refine ⟨_, _, fun _ => edV (l.getD i default), rfl, by simp only [List.length_cons, List.length_nil]; omega, by omega, by simp, ⟨fun _ => ⟨b, o + i * 3, rfl, hA, fun j m hj hm => ?_⟩, fun _ _ => rfl, fun j hj => ?_⟩⟩
  · have hj : j = 0 := by simpa using hj
    subst hj
    rw [Nat.zero_mul, Nat.add_zero]
    exact hc m hm
  · have hj : j = 0 := by simpa using hj
    subst hj
    exact ⟨rfl, hok⟩
theorem refNumberS (n : Nat) (hn : n < 18446744073709551616) (w : World) : Ret Tryz.prog 125 #[.int .u64 (n : Nat)] w fun v w' => (∃ x : Str, v = S x ∧ x.length ≤ 9 ∧ (n ≤ 20000 → x.length = (numB n).length) ∧ (20000 < n → 3 ≤ x.length)) ∧ Bel w w' := by
  refine ret_of_W Tryz.func125 rfl (Nat.le_of_ble_eq_true rfl) (res1 rfl) ?_
  have hB := Gr.refl (fun _ => False) w
  refine W.seq ?_
  refine W.region ?_
  refine L.val (x_as (v := S _) rfl) rfl ?_
  refine L.nil ?_
  refine thn_n ?_
  refine W.seq ?_
  refine W.seq ?_
  refine W.region ?_
  refine L.val (x_mv (v := .int _ _) rfl) rfl ?_
  refine L.val (x_leq rfl rfl) rfl ?_
  refine L.nil ?_
  refine thn_n ?_
  refine W.cond (b := _) rfl (fun g6 => ?_) (fun g6 => ?_)
  ·have h6 := of_decide_eq_true g6
   refine W.seq ?_
   refine W.region ?_
   refine L.val (x_mv (v := .int _ _) rfl) rfl ?_
   refine L.val (x_convB (by rw [Tryz.underlying103]; rfl) Tryz.underlying5 rfl) rfl ?_
   refine L.bs (sz := 1) (cells := [B8 (lowB (n : Nat))]) Tryz.underlying77 kstoq_el5 rfl rfl rfl rfl (fun w9 bx9 hw hz9 => ?_)
   have hB := hB.carry hw
   refine L.val (x_b2s (l := [lowB (n : Nat)]) Tryz.underlying77 Tryz.underlying5 Tryz.underlying9 rfl rfl (fun j hj => bx9.row rfl j hj)) rfl ?_
   refine L.val (x_as (v := S _) rfl) rfl ?_
   refine L.nil ?_
   refine thn_n ?_
   refine W.ret (thn_r (fin_mk (.inr rfl) ?_))
   refine ⟨⟨_, rfl, by show 1 ≤ 9; omega, fun _ => ?_, fun h => by omega⟩, hB⟩
   unfold numB
   rw [if_pos (by omega)]
  ·have h6 := dle_f g6
   refine W.skip ?_
   refine thn_n ?_
   refine W.seq ?_
   refine W.region ?_
   refine L.val (x_as (v := S _) rfl) rfl ?_
   refine L.nil ?_
   refine thn_n ?_
   refine W.seq ?_
   refine W.region ?_
   refine L.val (x_as (v := .int _ _) rfl) rfl ?_
   refine L.nil ?_
   refine thn_n ?_
   refine W.seq ?_
   refine W.block ?_
   refine W.loop (fun m' E w' => ∃ (m k : Nat) (x : Str), m' = m ∧ E 0 = .int .u64 (m : Nat) ∧ E 3 = S x ∧ E 4 = .int .i64 (k : Nat) ∧ (m = n / 256 ^ k) ∧ (x.length = k) ∧ (k = 0 ∨ 0 < n / 256 ^ (k - 1)) ∧ (Bel w w')) (n) ?_ ?_
   ·exact ⟨n, 0, [], by omega, by first | rfl | exact vi (by omega), by first | rfl | exact vi (by omega), by first | rfl | exact vi (by omega), (by rw [Nat.pow_zero, Nat.div_one]), (by first | assumption | omega | rfl), (by first | assumption | omega | rfl), (by first | assumption | omega | rfl)⟩
   ·rintro _ E wL11 ⟨m, k, x, em, e0, e3, e4, hm, hx, hk, hB⟩
    rw [upd_self e0, upd_self e3, upd_self e4]
    refine W.seq ?_
    refine W.seq ?_
    refine W.region ?_
    refine L.val (x_mv (v := .int _ _) rfl) rfl ?_
    refine L.val (x_gtr rfl rfl) rfl ?_
    refine L.nil ?_
    refine thn_n ?_
    refine W.cond (b := _) rfl (fun g12 => ?_) (fun g12 => ?_)
    ·have h12 := of_decide_eq_true g12
     have hm0 : 0 < m := by omega
     have hk8 : k ≤ 8 := hk.elim (fun e => by omega) (dig_le hn)
     have hml : m ≤ n := by rw [hm]; exact Nat.div_le_self _ _
     refine W.skip ?_
     refine thn_n ?_
     refine W.block ?_
     refine W.seq ?_
     refine W.region ?_
     refine L.val (x_mv (v := .int _ _) rfl) rfl ?_
     refine L.val (x_rem (c := ((m % 256 : Nat) : Int)) rfl rfl (by omega) (by decide) (by omega)) rfl ?_
     refine L.val (x_convB (by rw [Tryz.underlying103]; rfl) Tryz.underlying5 rfl) rfl ?_
     refine L.bs (sz := 1) (cells := [B8 (lowB ((m % 256 : Nat) : Int))]) Tryz.underlying77 kstoq_el5 rfl rfl rfl rfl (fun w16 bx16 hw hz16 => ?_)
     have hB := hB.carry hw
     refine L.val (x_b2s (l := [lowB ((m % 256 : Nat) : Int)]) Tryz.underlying77 Tryz.underlying5 Tryz.underlying9 rfl rfl (fun j hj => bx16.row rfl j hj)) rfl ?_
     refine L.val (x_mv (v := S _) rfl) rfl ?_
     refine L.val (x_cat rfl rfl (by simp only [List.length_append, List.length_cons, List.length_nil]; omega)) rfl ?_
     refine L.val (x_as (v := S _) rfl) rfl ?_
     refine L.nil ?_
     refine thn_n ?_
     refine W.seq ?_
     refine W.region ?_
     refine L.val (x_mv (v := .int _ _) rfl) rfl ?_
     refine L.val (x_quo (c := ((m / 256 : Nat) : Int)) rfl rfl (by decide) (by rw [show ((m : Int).tdiv 256) = ((m / 256 : Nat) : Int) by rw [Int.tdiv_eq_ediv_of_nonneg (by omega)]; omega]; exact wru64 (by omega))) rfl ?_
     refine L.val (x_as (v := .int _ _) rfl) rfl ?_
     refine L.nil ?_
     refine thn_n ?_
     refine W.region ?_
     refine L.val (x_mv (v := .int _ _) rfl) rfl ?_
     refine L.val (x_add rfl rfl (wr64 (by omega))) rfl ?_
     refine L.val (x_as (v := .int _ _) rfl) rfl ?_
     refine L.nil ?_
     refine blk_n ?_
     refine thn_n ⟨rfl, ?_⟩
     refine ⟨_, ?_, m / 256, k + 1, lowB ((m % 256 : Nat) : Int) :: x, rfl, by first | rfl | exact vi (by omega), by first | rfl | exact vi (by omega), by first | rfl | exact vi (by omega), (by rw [hm, Nat.div_div_eq_div_mul, Nat.pow_succ]), (by rw [List.length_cons, hx]), (by exact .inr (by rw [Nat.add_sub_cancel]; omega)), (by first | assumption | omega | rfl)⟩
     omega
    ·have h12 := dlt_f g12
     have hm0 : m = 0 := by omega
     have hk8 : k ≤ 8 := hk.elim (fun e => by omega) (dig_le hn)
     subst hm0
     refine W.exit (thn_x (thn_x (blk_hit ?_)))
     refine thn_n ?_
     refine W.seq ?_
     refine W.region ?_
     refine L.val (x_mv (v := .int _ _) rfl) rfl ?_
     refine L.val (x_add rfl rfl (wr64 (by omega))) rfl ?_
     refine L.val (x_convB (by rw [Tryz.underlying3]; rfl) Tryz.underlying5 rfl) rfl ?_
     refine L.bs (sz := 1) (cells := [B8 (lowB (247 + (k : Nat)))]) Tryz.underlying77 kstoq_el5 rfl rfl rfl rfl (fun w27 bx27 hw hz27 => ?_)
     have hB := hB.carry hw
     refine L.val (x_b2s (l := [lowB (247 + (k : Nat))]) Tryz.underlying77 Tryz.underlying5 Tryz.underlying9 rfl rfl (fun j hj => bx27.row rfl j hj)) rfl ?_
     refine L.val (x_mv (v := S _) rfl) rfl ?_
     refine L.val (x_cat rfl rfl (by simp only [List.length_append, List.length_cons, List.length_nil]; omega)) rfl ?_
     refine L.val (x_as (v := S _) rfl) rfl ?_
     refine L.nil ?_
     refine thn_n ?_
     refine W.ret (fin_mk (.inr rfl) ?_)
     refine ⟨⟨_, rfl, by simp; omega, fun h => ?_, fun h => ?_⟩, hB⟩
     · rw [← dig_numB h (by omega) hm.symm hk]; simp [hx, Nat.add_comm]
     · have h2 : 2 ≤ k := by
         rcases Nat.lt_or_ge k 2 with h3 | h3
         · have : k = 0 ∨ k = 1 := by omega
           rcases this with rfl | rfl
           · rw [Nat.pow_zero, Nat.div_one] at hm; omega
           · rw [Nat.pow_one] at hm; omega
         · exact h3
       simp only [List.length_append, List.length_cons, List.length_nil, hx]; omega
theorem refTextS (s : Str) (hs : s.length ≤ 140737488355328) (w : World) : Ret Tryz.prog 95 #[S s] w fun v w' => (∃ x : Str, v = S x ∧ x.length ≤ s.length + 9 ∧ (s.length ≤ 20000 → x.length = (textB s).length) ∧ (20000 < s.length → s.length + 3 ≤ x.length)) ∧ Bel w w' := by
  refine ret_of_W Tryz.func95 rfl (Nat.le_of_ble_eq_true rfl) (res1 rfl) ?_
  have hB := Gr.refl (fun _ => False) w
  refine W.seq ?_
  refine W.region ?_
  refine L.val (x_as (v := S _) rfl) rfl ?_
  refine L.nil ?_
  refine thn_n ?_
  refine W.seq ?_
  refine W.region ?_
  refine L.val (x_mv (v := S _) rfl) rfl ?_
  refine L.val (x_len_str Tryz.underlying9 rfl) rfl ?_
  refine L.val (x_conv (k' := .u64) (by rw [Tryz.underlying3]; rfl) Tryz.underlying103 rfl (wru64 (by omega))) rfl ?_
  refine L.ret (x_call kstoq_en125 rfl) rfl (refNumberS s.length (by omega) _) ?_
  rintro _ w6 ⟨⟨x, rfl, hx1, hx2, hx3⟩, hw⟩
  have hB := hB.carry hw
  refine L.val (x_mv (v := S _) rfl) rfl ?_
  refine L.val (x_cat rfl rfl (by omega)) rfl ?_
  refine L.val (x_as (v := S _) rfl) rfl ?_
  refine L.nil ?_
  refine thn_n ?_
  refine W.ret (fin_mk (.inr rfl) ?_)
  refine ⟨⟨_, rfl, by rw [List.length_append]; omega, fun h => ?_, fun h => ?_⟩, hB⟩
  · have := hx2 h
    unfold textB
    simp only [List.length_append]; omega
  · have := hx3 h
    rw [List.length_append]; omega
theorem refListS (A : Nat → Prop) (v : Value) (l : List Str) (w : World) (h : StrsAt A w v l) (hn : l.length ≤ 20000) (hl : ∀ s ∈ l, s.length ≤ 20000) : Ret Tryz.prog 96 #[v] w fun v w' => (∃ x : Str, v = S x ∧ x.length = (listB l).length) ∧ Bel w w' := by
  obtain ⟨pv, cv, rfl, -⟩ := id h
  have hb : ∀ i, i ≤ l.length → ((l.take i).map textB).flatten.length ≤ i * 20010 := fun i => by
    induction i with
    | zero => intro _; exact Nat.le_refl _
    | succ i ih =>
      intro hi
      have ih := ih (by omega)
      have hm := hl (l.getD i []) (by rw [List.getD_eq_getElem?_getD, List.getElem?_eq_getElem (by omega)]; exact List.getElem_mem (by omega))
      have hnb := numB_le (n := (l.getD i []).length) (by omega)
      rw [texts_take (by omega), List.length_append]
      unfold textB at *
      rw [List.length_append]; omega
  have hnl := numB_le (n := l.length) (by omega)
  refine ret_of_W Tryz.func96 rfl (Nat.le_of_ble_eq_true rfl) (res1 rfl) ?_
  have hB := Gr.refl (fun _ => False) w
  refine W.seq ?_
  refine W.region ?_
  refine L.val (x_as (v := S _) rfl) rfl ?_
  refine L.nil ?_
  refine thn_n ?_
  refine W.seq ?_
  refine W.region ?_
  refine L.val (x_mv (v := .slice _ _ _) rfl) rfl ?_
  refine L.val (x_len_slice Tryz.underlying33 rfl) rfl ?_
  refine L.val (x_conv (k' := .u64) (by rw [Tryz.underlying3]; rfl) Tryz.underlying103 rfl (wru64 (by omega))) rfl ?_
  refine L.ret (x_call kstoq_en125 rfl) rfl (refNumberS l.length (by omega) _) ?_
  rintro _ w8 ⟨⟨x0, rfl, hx1, hx2, -⟩, hw⟩
  have hB := hB.carry hw; have h := h.carry hw
  have hx2 := hx2 hn
  refine L.val (x_as (v := S _) rfl) rfl ?_
  refine L.nil ?_
  refine thn_n ?_
  refine W.seq ?_
  refine W.seq ?_
  refine W.region ?_
  refine L.val (x_as (v := .int _ _) rfl) rfl ?_
  refine L.nil ?_
  refine thn_n ?_
  refine W.block ?_
  refine W.loop (fun m' E w' => ∃ (i : Nat) (x : Str), m' = l.length - i ∧ E 0 = .slice pv l.length cv ∧ E 3 = S x ∧ E 4 = .int .i64 (i : Nat) ∧ (i ≤ l.length) ∧ (Bel w w') ∧ (StrsAt A w' (.slice pv l.length cv) l) ∧ (x.length = (numB l.length).length + ((l.take i).map textB).flatten.length)) (l.length) ?_ ?_
  ·exact ⟨0, x0, by omega, by first | rfl | exact vi (by omega) | exact vs (by first | assumption | (rw [hst]; done) | (rw [hst]; simp only [List.append_assoc])), by first | rfl | exact vi (by omega) | exact vs (by first | assumption | (rw [hst]; done) | (rw [hst]; simp only [List.append_assoc])), by first | rfl | exact vi (by omega) | exact vs (by first | assumption | (rw [hst]; done) | (rw [hst]; simp only [List.append_assoc])), (by first | assumption | omega | rfl), (by first | assumption | omega | rfl), (by first | assumption | omega | rfl), (by rw [hx2]; simp)⟩
  ·rintro _ E wL9 ⟨i, x, em, e0, e3, e4, hi, hB, h, hx⟩
   rw [upd_self e0, upd_self e3, upd_self e4]
   refine W.seq ?_
   refine W.seq ?_
   refine W.region ?_
   refine L.val (x_mv (v := .int _ _) rfl) rfl ?_
   refine L.val (x_mv (v := .slice _ _ _) rfl) rfl ?_
   refine L.val (x_len_slice Tryz.underlying33 rfl) rfl ?_
   refine L.val (x_lss rfl rfl) rfl ?_
   refine L.nil ?_
   refine thn_n ?_
   refine W.cond (b := _) rfl (fun g12 => ?_) (fun g12 => ?_)
   ·have h12 := of_decide_eq_true g12
    have hlt : i < l.length := by omega
    obtain ⟨b, o, rfl, hc⟩ := h.elem hlt
    have hst := texts_take hlt
    have hmi := hl (l.getD i []) (by rw [List.getD_eq_getElem?_getD, List.getElem?_eq_getElem hlt]; exact List.getElem_mem hlt)
    have hbi := hb i hi
    refine W.skip ?_
    refine thn_n ?_
    refine W.seq ?_
    refine W.block ?_
    refine W.region ?_
    refine L.val (x_mv (v := S _) rfl) rfl ?_
    refine L.val (x_mv (v := .slice _ _ _) rfl) rfl ?_
    refine L.val (x_mv (v := .int _ _) rfl) rfl ?_
    refine L.val (x_ia1 (j := i) Tryz.underlying33 kstoq_sz9 rfl rfl (by omega) (by omega)) rfl ?_
    refine L.val (x_ld (v := S _) kstoq_oc9 rfl hc) rfl ?_
    refine L.ret (x_call kstoq_en95 rfl) rfl (refTextS (l.getD i []) (by omega) _) ?_
    rintro _ w20 ⟨⟨y, rfl, hy1, hy2, -⟩, hw⟩
    have hB := hB.carry hw; have h := h.carry hw
    have hy2 := hy2 hmi
    have hxn : (x ++ y).length = (numB l.length).length + ((l.take (i + 1)).map textB).flatten.length := by
      rw [hst, List.length_append, List.length_append, hx, hy2]; omega
    refine L.val (x_cat rfl rfl (by omega)) rfl ?_
    refine L.val (x_as (v := S _) rfl) rfl ?_
    refine L.nil ?_
    refine blk_n ?_
    refine thn_n ?_
    refine W.region ?_
    refine L.val (x_mv (v := .int _ _) rfl) rfl ?_
    refine L.val (x_add rfl rfl (wr64 (by omega))) rfl ?_
    refine L.val (x_as (v := .int _ _) rfl) rfl ?_
    refine L.nil ?_
    refine thn_n ⟨rfl, ?_⟩
    refine ⟨_, ?_, i + 1, _, rfl, by first | rfl | exact vi (by omega) | exact vs (by first | assumption | (rw [hst]; done) | (rw [hst]; simp only [List.append_assoc])), by first | rfl | exact vi (by omega) | exact vs (by first | assumption | (rw [hst]; done) | (rw [hst]; simp only [List.append_assoc])), by first | rfl | exact vi (by omega) | exact vs (by first | assumption | (rw [hst]; done) | (rw [hst]; simp only [List.append_assoc])), (by first | assumption | omega | rfl), (by first | assumption | omega | rfl), (by first | assumption | omega | rfl), (by exact hxn)⟩
    omega
   ·have h12 := dlt_f g12
    have hie : i = l.length := by omega
    subst hie
    rw [List.take_length] at hx
    refine W.exit (thn_x (thn_x (blk_hit ?_)))
    refine thn_n ?_
    refine W.seq ?_
    refine W.region ?_
    refine L.val (x_mv (v := S _) rfl) rfl ?_
    refine L.val (x_as (v := S _) rfl) rfl ?_
    refine L.nil ?_
    refine thn_n ?_
    refine W.ret (fin_mk (.inr rfl) ?_)
    refine ⟨⟨x, rfl, ?_⟩, hB⟩
    unfold listB
    rw [hx, List.length_append]
def partsV (l : List Ed) : List Str := (l.map fun e => [e.key, [86], e.val]).flatten
theorem partsV_take {l : List Ed} {k : Nat} (h : k < l.length) : partsV (l.take (k + 1)) = partsV (l.take k) ++ [(l.getD k default).key, [86], (l.getD k default).val] := by
  unfold partsV
  rw [take_snoc (d := default) h, List.map_append, List.flatten_append]; simp
theorem partsV_len (l : List Ed) : (partsV l).length = 3 * l.length := by
  unfold partsV
  induction l with
  | nil => rfl
  | cons e l ih => simp only [List.map_cons, List.flatten_cons, List.length_append, List.length_cons, List.length_nil] at ih ⊢; omega
theorem partsV_list (l : List Ed) : (listB (partsV l)).length = (bodyB l).length := by
  unfold bodyB listB
  rw [List.length_append, List.length_append, partsV_len, bodyL_len]
  congr 1
  induction l with
  | nil => rfl
  | cons e l ih =>
    have e1 : bodyL (e :: l) = e.key :: (if e.gone then [71] else [86]) :: e.val :: bodyL l := rfl
    have e2 : partsV (e :: l) = e.key :: [86] :: e.val :: partsV l := rfl
    rw [e1, e2]
    simp only [List.map_cons, List.flatten_cons, List.length_append]
    have e3 : (textB (if e.gone then ([71] : Str) else [86])).length = (textB [86]).length := by split <;> rfl
    rw [e3, ih]
theorem partsV_mem {l : List Ed} (h : mayL l = true) {s : Str} (hs : s ∈ partsV l) : s.length ≤ 20000 := by
  unfold partsV at hs
  obtain ⟨r, hr, hs⟩ := List.mem_flatten.1 hs
  obtain ⟨e, he, rfl⟩ := List.mem_map.1 hr
  unfold mayL at h
  have := mayE_len (List.all_eq_true.1 h e he)
  simp only [List.mem_cons, List.not_mem_nil, or_false] at hs
  rcases hs with rfl | rfl | rfl
  · omega
  · decide
  · omega
end Go.Gx
