/- Sessions: what is seen of a key as of a commit. Conditions: none. -/
import Derived.Test.YtnhbjfkeeegdgaaCeSes3
import Derived.Test.YtnhbjfkeeegdgaaCeRowG
namespace Go.Gx
open Go.Proofs
theorem kses4_ag151 : aggT Try.prog 151 4 = true := by kernel_rfl
theorem kses4_en100 : Go.Proofs.Enters Try.prog 100 := Go.Proofs.enters_of Try.func100 (by kernel_rfl) rfl
theorem kses4_en83 : Go.Proofs.Enters Try.prog 83 := Go.Proofs.enters_of Try.func83 (by kernel_rfl) rfl
theorem kses4_fo151_0 : fieldOff Try.prog 151 0 = some 0 := by kernel_rfl
theorem kses4_fo151_1 : fieldOff Try.prog 151 1 = some 1 := by kernel_rfl
theorem kses4_fo34_1 : fieldOff Try.prog 34 1 = some 1 := by kernel_rfl
theorem kses4_fo34_2 : fieldOff Try.prog 34 2 = some 2 := by kernel_rfl
theorem kses4_fo97_0 : fieldOff Try.prog 97 0 = some 0 := by kernel_rfl
theorem kses4_oc148 : oneCellT Try.prog 148 = true := by kernel_rfl
theorem kses4_oc3 : oneCellT Try.prog 3 = true := by kernel_rfl
theorem kses4_oc4 : oneCellT Try.prog 4 = true := by kernel_rfl
theorem kses4_oc9 : oneCellT Try.prog 9 = true := by kernel_rfl
theorem kses4_oc94 : oneCellT Try.prog 94 = true := by kernel_rfl
theorem kses4_sz151 : (Try.prog.info? 151).map (·.size) = some 4 := by kernel_rfl
theorem kses4_sz4 : (Try.prog.info? 4).map (·.size) = some 1 := by kernel_rfl
theorem kses4_sz9 : (Try.prog.info? 9).map (·.size) = some 1 := by kernel_rfl
theorem kses4_zr151 : (Try.prog.info? 151).bind (·.zero) = some (Value.agg [Value.int .i64 0, S [], S [], Value.bool false].toArray) := by kernel_rfl
theorem kses4_zr4 : (Try.prog.info? 4).bind (·.zero) = some (Value.bool false) := by kernel_rfl
theorem kses4_zr9 : (Try.prog.info? 9).bind (·.zero) = some (S []) := by kernel_rfl
def VerC (_ : Nat → Prop) (_ : World) (cs : List Value) (x : Nat × Ed) : Prop := cs = verV x ∧ EdOk x.2
instance car_ver : Car VerC 4 where
  pos := by omega
  len := fun h => by rw [h.1]; rfl
  one := fun h => by
    rw [h.1]
    intro v hv
    simp only [verV, edV, List.mem_cons, List.not_mem_nil, or_false] at hv
    rcases hv with rfl | rfl | rfl | rfl <;> rfl
  move := fun _ h => h
theorem rows_pure {α : Type} [Inhabited α] {C : Thing α} {A : Nat → Prop} {w : World} {f : α → List Value} : ∀ (l : List α), (∀ x ∈ l, C A w (f x) x) → RowsC C A w (l.map f) l := fun l h =>
  ⟨by simp, fun i hi => by
    have := h (l.getD i default) (by rw [List.getD_eq_getElem?_getD, List.getElem?_eq_getElem hi]; exact List.getElem_mem hi)
    simpa [List.getD_eq_getElem?_getD, hi] using this⟩
theorem verV_one (x : Nat × Ed) : ∀ v ∈ verV x, v.oneCell' = true := fun v hv => by
  simp only [verV, edV, List.mem_cons, List.not_mem_nil, or_false] at hv
  rcases hv with rfl | rfl | rfl | rfl <;> rfl
def encV (x : Nat × (Nat × Ed)) : Array Value := #[.int .i64 (x.1 : Nat), .agg (verV x.2).toArray]
def bk (vs : List (Nat × Ed)) : List (Nat × (Nat × Ed)) := (List.range vs.length).reverse.map fun i => (i, vs.getD i default)
theorem bk_len (vs : List (Nat × Ed)) : (bk vs).length = vs.length := by simp [bk]
theorem bk_at {vs : List (Nat × Ed)} {k : Nat} (h : k < vs.length) : (bk vs)[k]? = some (vs.length - 1 - k, vs.getD (vs.length - 1 - k) default) := by
  unfold bk
  rw [List.getElem?_map, List.getElem?_reverse (by simpa using h), List.length_range, List.getElem?_range (by omega)]
  rfl
theorem bk_snd (vs : List (Nat × Ed)) : (bk vs).map (·.2) = vs.reverse := by
  apply List.ext_getElem?
  intro k
  rw [List.getElem?_map]
  by_cases h : k < vs.length
  · rw [bk_at h, List.getElem?_reverse h, List.getD_eq_getElem?_getD, List.getElem?_eq_getElem (by omega)]; rfl
  · rw [List.getElem?_eq_none (by rw [bk_len]; omega), List.getElem?_eq_none (by simp; omega)]; rfl
theorem bk_take {vs : List (Nat × Ed)} {k : Nat} (h : k < vs.length) : (bk vs).take k ++ [(vs.length - 1 - k, vs.getD (vs.length - 1 - k) default)] = (bk vs).take (k + 1) := by
  rw [List.take_add_one, bk_at h]; rfl
theorem back_ok (A : Nat → Prop) (l Bs n₀ : Nat) (v : Value) (vs : List (Nat × Ed)) (hA : ∀ k, n₀ ≤ k → A k) (hBn : Bs < n₀) (J Jx : List (Nat × (Nat × Ed)) → World → Prop)
    (hY : ∀ pre x W, J pre W → pre.length < vs.length → YieldAt Fence.wide 0 Try.prog l (encV x) W fun e W' =>
      (e = .returned (.bool true) ∧ J (pre ++ [x]) W' ∧ KpB n₀ W W') ∨ (e = .returned (.bool false) ∧ Jx (pre ++ [x]) W'))
    (w : World) (hBs : w.cell? ⟨Bs, 0, none⟩ = some v) (hs : RecsAt VerC 4 A w v vs) (h0 : J [] w) :
    Ret Try.prog 100 #[.func (.yield l) #[] #[], .pointer (some ⟨Bs, 0, none⟩)] w fun _ W' => (∃ xs, xs = bk vs ∧ J xs W') ∨ (∃ pre, (∃ k, pre = (bk vs).take k) ∧ Jx pre W') := by
  obtain ⟨p, cap, row, rfl, h1, h2, h3, hR⟩ := hs
  have hlen := bk_len vs
  refine ret_of_W Try.func100 rfl (Nat.le_of_ble_eq_true rfl) (res0 rfl) ?_
  refine W.seq ?_
  refine W.region ?_
  refine L.val (x_ld (v := .slice _ _ _) kses4_oc148 rfl hBs) rfl ?_
  refine L.val (x_len_slice Try.underlying148 rfl) rfl ?_
  refine L.val (x_sub rfl rfl (wr64 (by omega))) rfl ?_
  refine L.val (x_as (v := .int _ _) rfl) rfl ?_
  refine L.nil ?_
  refine thn_n ?_
  refine W.block ?_
  refine W.loop (fun m' E w' => ∃ (k : Nat), m' = vs.length - k ∧ E 0 = .func (.yield l) #[] #[] ∧ E 1 = .pointer (some ⟨Bs, 0, none⟩) ∧ E 3 = .int .i64 ((vs.length : Nat) - 1 - (k : Nat)) ∧ (k ≤ vs.length) ∧ (J ((bk vs).take k) w') ∧ (RecRow VerC 4 A w' p row vs) ∧ (w'.cell? ⟨Bs, 0, none⟩ = some (.slice p vs.length cap))) (vs.length) ?_ ?_
  ·exact ⟨0, by omega, by first | rfl | exact vi (by omega), by first | rfl | exact vi (by omega), by first | rfl | exact vi (by omega), (by first | assumption | omega | rfl), (by simpa using h0), (by first | assumption | omega | rfl), (by first | assumption | omega | rfl)⟩
  ·rintro _ E wL7 ⟨k, em, e0, e1, e3, hk, hJ, hR, hBs⟩
   rw [upd_self e0, upd_self e1, upd_self e3]
   refine W.seq ?_
   refine W.seq ?_
   refine W.region ?_
   refine L.val (x_mv (v := .int _ _) rfl) rfl ?_
   refine L.val (x_geq rfl rfl) rfl ?_
   refine L.nil ?_
   refine thn_n ?_
   refine W.cond (b := _) rfl (fun g8 => ?_) (fun g8 => ?_)
   ·have h8 := of_decide_eq_true g8
    have hlt : k < vs.length := by omega
    obtain ⟨b, o, rfl, hAb, hc⟩ := hR.elem (i := vs.length - 1 - k) (by omega)
    have hver := (hR.each (vs.length - 1 - k) (by omega)).1
    rw [hver] at hc
    refine W.skip ?_
    refine thn_n ?_
    refine W.seq ?_
    refine W.block ?_
    refine W.seq ?_
    refine W.wide (m := 1) (WI.region ?_)
    refine LI.val (fun _ => trivial) (fun _ h => by cases h) (x_mv (v := .func _ _ _) rfl) rfl ?_
    refine LI.val (fun _ => trivial) (fun _ h => by cases h) (x_mv (v := .int _ _) rfl) rfl ?_
    refine LI.val (fun _ => trivial) (fun _ h => by cases h) (x_ld (v := .slice _ _ _) kses4_oc148 rfl hBs) rfl ?_
    refine LI.val (fun _ => trivial) (fun _ h => by cases h) (x_mv (v := .int _ _) rfl) rfl ?_
    refine LI.val (fun _ => trivial) (fun _ h => by cases h) (x_ia (j := vs.length - 1 - k) Try.underlying148 kses4_sz151 rfl rfl (by omega) (by omega)) rfl ?_
    refine LI.val (fun _ => trivial) (fun _ h => by cases h) (x_ldn (vs := verV (vs.getD (vs.length - 1 - k) default)) kses4_ag151 rfl rfl hc) rfl ?_
    refine LI.yieldN (vs := (encV (vs.length - 1 - k, vs.getD (vs.length - 1 - k) default)).toList) (R := fun e W' => ∃ z, e = .returned (.bool z) ∧ (z = true → J ((bk vs).take k ++ [(vs.length - 1 - k, vs.getD (vs.length - 1 - k) default)]) W' ∧ KpB n₀ wL7 W') ∧ (z = false → Jx ((bk vs).take k ++ [(vs.length - 1 - k, vs.getD (vs.length - 1 - k) default)]) W')) (fun _ => trivial) rfl rfl ?_ rfl ((hY ((bk vs).take k) (vs.length - 1 - k, vs.getD (vs.length - 1 - k) default) wL7 hJ (by rw [List.length_take]; omega)).mono ?_) (fun e w' ⟨z, h, _⟩ => ⟨_, h⟩) ?_
    · show [Value.int .i64 ((vs.length : Nat) - 1 - (k : Nat)), _] = [Value.int .i64 ((vs.length - 1 - k : Nat) : Int), _]
      rw [show ((vs.length - 1 - k : Nat) : Int) = (vs.length : Nat) - 1 - (k : Nat) by omega]; rfl
    · rintro e W' (⟨rfl, a1, a2⟩ | ⟨rfl, a1⟩)
      · exact ⟨true, rfl, fun _ => ⟨a1, a2⟩, fun h => by cases h⟩
      · exact ⟨false, rfl, fun h => (by cases h), fun _ => a1⟩
    rintro u w13 ⟨z, hz, r1, r2⟩
    cases hz
    refine LI.val (fun _ => trivial) (fun _ h => by cases h) (x_not rfl) rfl ?_
    refine LI.nil ?_
    refine thn_n ?_
    refine W.cond (b := _) rfl (fun g18 => ?_) (fun g18 => ?_)
    ·have h18 := (not_t g18)
     refine W.ret (blk_r (thn_r (thn_r (blk_r (fin_mk (.inr rfl) ?_)))))
     exact .inr ⟨_, ⟨k + 1, bk_take hlt⟩, r2 (by simpa using g18)⟩
    ·have h18 := (not_f g18)
     have h18 := g18
     have hg := (r1 (by simpa using h18)).2.1
     have hR := hR.carryR (gr_of_below hg) hA
     have hBs := (gr_of_below hg).cell hBs (by show ¬ n₀ ≤ Bs; omega)
     refine W.skip ?_
     refine blk_n ?_
     refine thn_n ?_
     refine W.region ?_
     refine L.val (x_mv (v := .int _ _) rfl) rfl ?_
     refine L.val (x_sub rfl rfl (wr64 (by omega))) rfl ?_
     refine L.val (x_as (v := .int _ _) rfl) rfl ?_
     refine L.nil ?_
     refine thn_n ⟨rfl, ?_⟩
     refine ⟨_, ?_, k + 1, rfl, by first | rfl | exact vi (by omega), by first | rfl | exact vi (by omega), by first | rfl | exact vi (by omega), (by first | assumption | omega | rfl), (by rw [← bk_take hlt]; exact (r1 (by simpa using h18)).1), (by first | assumption | omega | rfl), (by first | assumption | omega | rfl)⟩
     omega
   ·have h8 := dle_f g8
    refine W.exit (thn_x (thn_x (blk_hit ?_)))
    refine fin_mk (.inl rfl) ?_
    exact .inl ⟨_, rfl, by rw [show k = vs.length by omega, ← hlen, List.take_length] at hJ; exact hJ⟩
theorem backward_ok (p : Option Addr) (n cap : Nat) (w : World) : Ret Try.prog 83 #[.slice p n cap] w fun r w' => r = .func (.func 100) #[] #[.pointer (some ⟨w.heap.size, 0, none⟩)] ∧ Box w' w.heap.size 148 [.slice p n cap] ∧ Bel w w' := by
  refine ret_of_W Try.func83 rfl (Nat.le_of_ble_eq_true rfl) (res1 rfl) ?_
  have hB := Gr.refl (fun _ => False) w
  refine W.seq ?_
  refine W.region ?_
  refine L.box (cs := [.slice p n cap]) rfl rfl (fun w1 bx1 hw hz1 => ?_)
  have hB := hB.carry hw
  refine L.val (x_as (v := _) rfl) rfl ?_
  refine L.nil ?_
  refine thn_n ?_
  refine W.seq ?_
  refine W.region ?_
  refine L.val (x_mkfn rfl rfl) rfl ?_
  refine L.val (x_as (v := _) rfl) rfl ?_
  refine L.nil ?_
  refine thn_n ?_
  refine W.ret (fin_mk (.inr rfl) ?_)
  exact ⟨rfl, bx1, hB⟩
theorem back_seq (A : Nat → Prop) (Bs n₀ : Nat) (v : Value) (vs : List (Nat × Ed)) (w : World) (hA : ∀ k, n₀ ≤ k → A k) (hBn : Bs < n₀) (hBs : Bs < w.heap.size) (hc : w.cell? ⟨Bs, 0, none⟩ = some v) (hs : RecsAt VerC 4 A w v vs) (hAw : ∀ k, w.heap.size ≤ k → A k) :
    SeqStopsK Fence.wide 1 Try.prog 100 #[.pointer (some ⟨Bs, 0, none⟩)] encV (KpB n₀) (fun xs => xs = bk vs) (fun pre => ∃ k, pre = (bk vs).take k) vs.length w := by
  intro l J Jx w1 hW _ _ hY h0
  have hs1 := hs.carryR (gr_of_below hW) hAw
  have hc1 := (hW.cell (p := ⟨Bs, 0, none⟩) hBs).trans hc
  rw [show (#[Value.func (.yield l) #[] #[]] ++ #[Value.pointer (some ⟨Bs, 0, none⟩)] : Array Value) = #[.func (.yield l) #[] #[], .pointer (some ⟨Bs, 0, none⟩)] from rfl]
  refine callsIn_wide.2 (Calls.mono (back_ok A l Bs n₀ v vs hA hBn J Jx hY w1 hc1 hs1 h0) ?_)
  rintro e w2 ⟨u, rfl, h⟩
  exact ⟨⟨u, rfl⟩, h⟩
def ansV (o : Option Str) : Str × Bool := match o with
  | some v => (v, true)
  | none => ([], false)
theorem find_prefix {α : Type} {p : α → Bool} {pre l : List α} {x : α} (hpre : ∀ y ∈ pre, p y = false) (hx : p x = true) (h : ∃ k, pre ++ [x] = l.take k) : l.find? p = some x := by
  obtain ⟨k, hk⟩ := h
  have e : l = (pre ++ [x]) ++ l.drop k := by rw [hk, List.take_append_drop]
  rw [e, List.append_assoc, List.find?_append, List.find?_eq_none.2 (fun y hy => by simp [hpre y hy])]
  simp [hx]
theorem seen_ok (ow : Labels) (t b bh bo : Nat) (s : Bs) (vl : Value) (lh : List (Str × Value)) (lo : List (Int × Value)) (rows : List (List Value)) (key : Str) (at_ : Nat) (w : World) (h : BaseAt ow t w b s bh bo vl lh lo rows) (hs : (s.first :: s.log).length ≤ 70368744177664) :
    Ret Try.prog 56 #[.pointer (some ⟨b, 0, none⟩), S key, .int .i64 (at_ : Nat)] w fun v w' => v = .tuple #[S (ansV (valE (s.hist at_) key)).1, .bool (ansV (valE (s.hist at_) key)).2] ∧ Bel w w' := by
  have hb := h.box
  have mh := h.mapH
  -- the versions, as a slice
  have hvl : (vers 0 (s.first :: s.log) key).length ≤ 70368744177664 := Nat.le_trans vers_len hs
  obtain ⟨p, cap, hget, hrec⟩ : ∃ p cap, (getK lh key).getD (.slice none 0 0) = .slice p (vers 0 (s.first :: s.log) key).length cap ∧ RecsAt VerC 4 (fun k => w.heap.size ≤ k) w (.slice p (vers 0 (s.first :: s.log) key).length cap) (vers 0 (s.first :: s.log) key) := by
    rcases h.held key with ⟨h1, h2⟩ | ⟨h1, v, h2, h3⟩
    · rw [h1, h2]; exact ⟨none, 0, rfl, RecsAt.nil (by simp)⟩
    · obtain ⟨p, cap, rfl, -⟩ := own_shape h3.1
      refine ⟨p, cap, by rw [h2]; rfl, ?_⟩
      have hr : RowsC VerC (fun _ => False) w ((vers 0 (s.first :: s.log) key).map verV) (vers 0 (s.first :: s.log) key) := rows_pure _ fun x hx => ⟨rfl, h.ok _ (vers_mem hx)⟩
      exact (hr.done (A' := fun _ => False) h3.1 hvl (fun _ f => f) (fun _ _ f => f)).mono (fun _ hb h => absurd h (by omega))
  have hans : ansV (valE (s.hist at_) key) = ansV (live (((vers 0 (s.first :: s.log) key).reverse.find? fun x => decide (x.1 ≤ at_)).map (·.2))) := by
    rw [vers_seen]
    unfold valE Bs.hist
    rw [Nat.sub_zero, List.take_succ_cons]
  generalize vers 0 (s.first :: s.log) key = vs at hget hrec hans hvl
  rw [hans]
  refine ret_of_W_marksR Try.func56 rfl (Nat.le_of_ble_eq_true rfl) ?_
  have hB := Gr.refl (fun _ => False) w
  refine W.seq ?_
  refine W.region ?_
  refine L.box (cs := _) rfl rfl (fun w5 bx5 hw hz5 => ?_)
  have hB := hB.carry hw; have hb := hb.carry hw; have mh := mh.carry hw; have hrec := hrec.carry hw
  refine L.alloc (cs := [S []]) kses4_zr9 rfl rfl (fun w6 bx6 hw hz6 => ?_)
  have hB := hB.carry hw; have hb := hb.carry hw; have mh := mh.carry hw; have hrec := hrec.carry hw; have bx5 := bx5.carry hw
  refine L.alloc (cs := [Value.bool false]) kses4_zr4 rfl rfl (fun w7 bx7 hw hz7 => ?_)
  have hB := hB.carry hw; have hb := hb.carry hw; have mh := mh.carry hw; have hrec := hrec.carry hw; have bx5 := bx5.carry hw; have bx6 := bx6.carry hw
  refine L.nil ?_
  refine thn_n ?_
  refine W.seq ?_
  refine W.seq ?_
  refine W.region ?_
  refine L.val (x_mv (v := .pointer _) rfl) rfl ?_
  refine L.val (x_nil rfl) rfl ?_
  refine L.val (x_fa kses4_fo97_0 rfl) rfl ?_
  refine L.val (x_ld (v := .map _) kses4_oc94 rfl (hb.cell0 rfl)) rfl ?_
  refine L.val (x_mv (v := S _) rfl) rfl ?_
  refine L.val (x_look0 (z := .slice none 0 0) Try.underlying94 (klawS Try.underlying9) (by kernel_rfl) rfl rfl trivial mh hget) rfl ?_
  refine L.ret (x_call kses4_en83 rfl) rfl (backward_ok p vs.length cap _) ?_
  rintro _ w16 ⟨rfl, bx16, hw⟩
  have hB := hB.carry hw; have hb := hb.carry hw; have mh := mh.carry hw; have hrec := hrec.carry hw; have bx5 := bx5.carry hw; have bx6 := bx6.carry hw; have bx7 := bx7.carry hw
  have hsz := hB.size
  have z16 := hw.size
  have hrec := hrec.mono (A' := fun k => w16.heap.size ≤ k) (fun b hb h => absurd h (by omega))
  refine L.nil ?_
  refine thn_n ?_
  refine W.block ?_
  refine W.rangeFx (α := Nat × (Nat × Ed)) (n₀ := w16.heap.size) (w0 := w16) (N := vs.length) rfl kses4_en100 (back_seq (fun k => w16.heap.size ≤ k) _ w16.heap.size _ vs w16 (fun _ h => h) bx16.lt bx16.lt (bx16.cell (i := 0) rfl) hrec (fun _ h => h)) (RowKit.Below.refl _ _) (Nat.le_refl _) (fun _ => rfl) rfl
    (fun pre W => (∀ y ∈ pre, decide (y.2.1 ≤ at_) = false) ∧ Box W w.heap.size 3 [.int .i64 (at_ : Nat)] ∧ Box W w5.heap.size 9 [S []] ∧ Box W w6.heap.size 4 [.bool false] ∧ Bel w W ∧ w16.heap.size ≤ W.heap.size)
    (fun c xs W => c = .ret ∧ ∃ pre x, xs = pre ++ [x] ∧ (∀ y ∈ pre, decide (y.2.1 ≤ at_) = false) ∧ decide (x.2.1 ≤ at_) = true ∧ Box W w5.heap.size 9 [S (ansV (live (some x.2.2))).1] ∧ Box W w6.heap.size 4 [.bool (ansV (live (some x.2.2))).2] ∧ Bel w W)
    (fun pre X Y row ⟨a1, a2, a3, a4, a5⟩ hg hr => ⟨a1, a2.from hg (fun r e => (hr r e).2), a3.from hg (fun r e => (hr r e).2), a4.from hg (fun r e => (hr r e).2), a5.1.from hg (fun r e => by have := (hr r e).1; omega), Nat.le_trans a5.2 hg.size⟩)
    (fun c pre X Y row ⟨a1, q, x, a2, a3, a4, a5, a6, a7⟩ hg hr => ⟨a1, q, x, a2, a3, a4, a5.from hg (fun r e => (hr r e).2), a6.from hg (fun r e => (hr r e).2), a7.from hg (fun r e => by have := (hr r e).1; omega)⟩)
    ⟨fun _ hy => (by cases hy), bx5, bx6, bx7, hB, Nat.le_refl _⟩
    (fun x E' W => ∃ j, E' 5 = .pointer (some ⟨w.heap.size, 0, none⟩) ∧ E' 6 = .pointer (some ⟨w5.heap.size, 0, none⟩) ∧ E' 7 = .pointer (some ⟨w6.heap.size, 0, none⟩) ∧ E' 9 = .pointer (some ⟨j, 0, none⟩) ∧ Box W j 151 (verV x.2))
    (fun x a' s X Y row ⟨j, e1, e2, e3, e4, a5⟩ hg hr => ⟨j, e1, e2, e3, e4, a5.from hg (fun r e => (hr r e).2)⟩)
    ?_ ?_ ?_ ?_
  ·rintro l pre x W ⟨hq, bx5, bx6, bx7, hB, hle⟩
   have hV := Gr.refl (fun _ => False) W
   have hsz := hB.size
   refine WI.reg rfl ?_
   refine L.alloc (cs := [Value.int .i64 0, S [], S [], Value.bool false]) kses4_zr151 rfl rfl (fun w9 bx9 hw hz9 => ?_)
   have hB := hB.carry hw; have bx5 := bx5.carry hw; have bx6 := bx6.carry hw; have bx7 := bx7.carry hw; have hV := hV.carry hw
   refine L.setRow kses4_ag151 rfl rfl bx9 rfl rfl (verV_one _) (fun wl12 bx9 hw hzl12 => ?_)
   have hsz := hB.size
   have hB := hB.set hw (by omega); have bx5 := bx5.carryR hw (by omega); have bx6 := bx6.carryR hw (by omega); have bx7 := bx7.carryR hw (by omega); have hV := hV.set hw (by omega)
   refine L.nil ?_
   have hvs := hV.size
   exact ⟨rfl, rfl, (kp_of_bel w16.heap.size hV hle).1, (kp_of_bel w16.heap.size hV hle).2, ⟨hq, bx5, bx6, bx7, hB, by omega⟩, _, rfl, rfl, rfl, rfl, bx9⟩
  ·rintro l pre x E W ⟨hq, bx5, bx6, bx7, hB, hle⟩ ⟨j, e5, e6, e7, e9, bx9⟩ hlen
   rw [upd_self e5, upd_self e6, upd_self e7, upd_self e9]
   have hW := Gr.refl (fun k => k = w5.heap.size ∨ k = w6.heap.size) W
   have bxo6 := bx6; have bxo7 := bx7
   have hne : j ≠ w5.heap.size ∧ j ≠ w6.heap.size := ⟨fun e => by subst e; exact absurd (bx9.symm.trans bx6) (by simp), fun e => by subst e; exact absurd (bx9.symm.trans bx7) (by simp)⟩
   refine WI.block ?_
   refine WI.seq ?_
   refine WI.seq ?_
   refine WI.reg rfl ?_
   refine L.val (x_fa kses4_fo151_0 rfl) rfl ?_
   refine L.val (x_ld (v := .int _ _) kses4_oc3 rfl (bx9.cell0 rfl)) rfl ?_
   refine L.val (x_ld (v := .int _ _) kses4_oc3 rfl (bx5.cell (i := 0) rfl)) rfl ?_
   refine L.val (x_leq rfl rfl) rfl ?_
   refine L.val (x_mv (v := .bool _) rfl) rfl ?_
   refine' L.group0 3 24 26 26 23 true rfl ?_ ?_ ?_
   rotate_left 1
   ·intro g23
    have h23 := of_decide_eq_true g23
    refine L.gyes' (dj := 23) (b := _) rfl rfl g23 ?_
    refine L.val (x_fa kses4_fo151_1 rfl) rfl ?_
    refine L.gyes' (dj := 23) (b := _) rfl rfl g23 ?_
    refine L.val (x_fa kses4_fo34_2 rfl) rfl ?_
    refine L.gyes' (dj := 23) (b := _) rfl rfl g23 ?_
    refine L.val (x_ld (v := .bool _) kses4_oc4 rfl (bx9.cell (i := 0 + 1 + 2) rfl)) rfl ?_
    refine L.nil ?_
    refine thn_n ⟨rfl, rfl, ?_, rfl⟩
    repeat (first | exact jeq.refl _ _ _ | refine jeq.upd rfl ?_ | refine jeq.jk rfl rfl ?_)
   ·intro g23
    refine L.gno (dj := 23) (b := _) rfl rfl g23 rfl ?_
    refine L.gno (dj := 23) (b := _) rfl rfl g23 rfl ?_
    refine L.gno (dj := 23) (b := _) rfl rfl g23 rfl ?_
    refine L.nil (thn_n ⟨rfl, rfl, ?_⟩)
    repeat (first | exact jeq.refl _ _ _ | refine jeq.upd rfl ?_ | refine jeq.jk rfl rfl ?_)
   intro J23 j23
   refine L.val (x_and rfl j23) rfl ?_
   refine L.nil ?_
   refine thn_n ?_
   refine WI.cond (b := _) rfl (fun g27 => ?_) (fun g27 => ?_)
   ·have h27 := g27
    refine WI.seq ?_
    refine WI.reg rfl ?_
    refine L.set (v := S _) kses4_sz9 rfl rfl rfl bx6 rfl (fun wl22 bx6 hw hzl22 => ?_)
    have hsz := hB.size
    have hB := hB.set hw (by omega); have bx5 := bx5.carryR hw (by omega); have bx7 := bx7.carryR hw (by omega); have bx9 := bx9.carryR hw (by omega); have hW := hW.trans (hw.mono (fun k _ e => by first | exact .inl e | exact .inr e))
    refine L.set (v := .bool _) kses4_sz4 rfl rfl rfl bx7 rfl (fun wl23 bx7 hw hzl23 => ?_)
    have hsz := hB.size
    have hB := hB.set hw (by omega); have bx5 := bx5.carryR hw (by omega); have bx6 := bx6.carryR hw (by omega); have bx9 := bx9.carryR hw (by omega); have hW := hW.trans (hw.mono (fun k _ e => by first | exact .inl e | exact .inr e))
    refine L.nil ?_
    refine thn_n ?_
    refine WI.ret (thn_r (blk_r (?_)))
    have hk := kf_of_gr w16.heap.size hW (fun k o e ho => e.elim (fun e => by subst e; exact bxo6.cells ho) (fun e => by subst e; exact bxo7.cells ho))
    simp only [Bool.and_eq_true, decide_eq_true_eq] at h27
    have ha : live (some x.2.2) = none := by simp [live, h27.2]
    refine ⟨hk, rfl, pre, x, rfl, hq, decide_eq_true (by omega), ?_, ?_, hB⟩
    · rw [ha]; exact bx6
    · rw [ha]; exact bx7
   ·have h27 := g27
    refine WI.skip ?_
    refine thn_n ?_
    refine WI.seq ?_
    refine WI.reg rfl ?_
    refine L.val (x_fa kses4_fo151_0 rfl) rfl ?_
    refine L.val (x_ld (v := .int _ _) kses4_oc3 rfl (bx9.cell0 rfl)) rfl ?_
    refine L.val (x_ld (v := .int _ _) kses4_oc3 rfl (bx5.cell (i := 0) rfl)) rfl ?_
    refine L.val (x_leq rfl rfl) rfl ?_
    refine L.nil ?_
    refine thn_n ?_
    refine WI.cond (b := _) rfl (fun g31 => ?_) (fun g31 => ?_)
    ·have h31 := of_decide_eq_true g31
     refine WI.seq ?_
     refine WI.reg rfl ?_
     refine L.val (x_fa kses4_fo151_1 rfl) rfl ?_
     refine L.val (x_fa kses4_fo34_1 rfl) rfl ?_
     refine L.val (x_ld (v := S _) kses4_oc9 rfl (bx9.cell (i := 0 + 1 + 1) rfl)) rfl ?_
     refine L.set (v := S _) kses4_sz9 rfl rfl rfl bx6 rfl (fun wl31 bx6 hw hzl31 => ?_)
     have hsz := hB.size
     have hB := hB.set hw (by omega); have bx5 := bx5.carryR hw (by omega); have bx7 := bx7.carryR hw (by omega); have bx9 := bx9.carryR hw (by omega); have hW := hW.trans (hw.mono (fun k _ e => by first | exact .inl e | exact .inr e))
     refine L.set (v := .bool _) kses4_sz4 rfl rfl rfl bx7 rfl (fun wl32 bx7 hw hzl32 => ?_)
     have hsz := hB.size
     have hB := hB.set hw (by omega); have bx5 := bx5.carryR hw (by omega); have bx6 := bx6.carryR hw (by omega); have bx9 := bx9.carryR hw (by omega); have hW := hW.trans (hw.mono (fun k _ e => by first | exact .inl e | exact .inr e))
     refine L.nil ?_
     refine thn_n ?_
     refine WI.ret (blk_r (?_))
     have hk := kf_of_gr w16.heap.size hW (fun k o e ho => e.elim (fun e => by subst e; exact bxo6.cells ho) (fun e => by subst e; exact bxo7.cells ho))
     have ha : live (some x.2.2) = some x.2.2.val := by
       have : x.2.2.gone = false := by
         cases hg : x.2.2.gone
         · rfl
         · rw [hg] at h27; simp at h27; omega
       simp [live, this]
     refine ⟨hk, rfl, pre, x, rfl, hq, decide_eq_true (by omega), ?_, ?_, hB⟩
     · rw [ha]; exact bx6
     · rw [ha]; exact bx7
    ·have h31 := dle_f g31
     refine WI.skip ?_
     refine blk_n ?_
     have hk := kp_of_bel w16.heap.size (Gr.refl (fun _ => False) W) hle
     refine ⟨hk.1, hk.2, fun y hy => ?_, bx5, bx6, bx7, hB, hle⟩
     rcases List.mem_append.1 hy with hy | hy
     · exact hq y hy
     · rw [List.mem_singleton.1 hy]; exact decide_eq_false (by omega)
  rotate_left 1
  ·rintro Db c pre Wd hD hpk ⟨rfl, q, x, rfl, hq, hx, bx6, bx7, hB⟩ hK
   have hf : (bk vs).find? (fun y => decide (y.2.1 ≤ at_)) = some x := find_prefix hq hx (by obtain ⟨k, hk⟩ := hpk; exact ⟨k, hk⟩)
   have hf2 : vs.reverse.find? (fun y => decide (y.1 ≤ at_)) = some x.2 := by
     rw [← bk_snd, List.find?_map]
     show ((bk vs).find? fun y => decide (y.2.1 ≤ at_)).map _ = _
     rw [hf]; rfl
   rw [hf2]
   have hne : ∀ j, j < w16.heap.size → ¬ j = Db := fun j hj e => by omega
   refine W.ret (blk_r (thn_r (finMR_mk (.inr rfl) ?_)))
   refine ⟨Db, rfl, hK, _, resC2 rfl kses4_oc9 kses4_oc4 rfl rfl (bx6.carryR (gr_putObj _ _ _) (hne _ (by omega))) (bx7.carryR (gr_putObj _ _ _) (hne _ (by omega))), rfl, hB.set (gr_putObj _ _ _) (by omega)⟩
  rintro Db xs w8 hD rfl ⟨hq, bx5, bx6, bx7, hB, hle⟩ hK
  have hf2 : vs.reverse.find? (fun y => decide (y.1 ≤ at_)) = none := by
    rw [← bk_snd, List.find?_map]
    show ((bk vs).find? fun y => decide (y.2.1 ≤ at_)).map _ = _
    rw [List.find?_eq_none.2 (fun y hy => by rw [hq y hy]; simp)]; rfl
  rw [hf2]
  have hne : ∀ j, j < w16.heap.size → ¬ Db = j := fun j hj e => by omega
  refine blk_n ?_
  refine thn_n ?_
  refine W.seq ?_
  refine W.region ?_
  refine L.set (v := S _) kses4_sz9 rfl rfl rfl bx6 rfl (fun wl33 bx6 hw hzl33 => ?_)
  have hsz := hB.size
  have hB := hB.set hw (by omega); have bx7 := bx7.carryR hw (by omega); have hK := defk hw hK (hne _ (by omega))
  refine L.set (v := .bool _) kses4_sz4 rfl rfl rfl bx7 rfl (fun wl34 bx7 hw hzl34 => ?_)
  have hsz := hB.size
  have hB := hB.set hw (by omega); have bx6 := bx6.carryR hw (by omega); have hK := defk hw hK (hne _ (by omega))
  refine L.nil ?_
  refine thn_n ?_
  refine W.ret (finMR_mk (.inr rfl) ?_)
  refine ⟨Db, rfl, hK, _, resC2 rfl kses4_oc9 kses4_oc4 rfl rfl (bx6.carryR (gr_putObj _ _ _) (fun e => hne _ (by omega) e.symm)) (bx7.carryR (gr_putObj _ _ _) (fun e => hne _ (by omega) e.symm)), rfl, hB.set (gr_putObj _ _ _) (by omega)⟩
end Go.Gx
