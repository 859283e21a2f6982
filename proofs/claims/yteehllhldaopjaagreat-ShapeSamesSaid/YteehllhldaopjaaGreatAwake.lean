/- The answers that the document fixes (layer 7). Conditions: none. -/
import Derived.Test.YteehllhldaopjaaGreatShow
namespace Go.Gx
open Go.Proofs
theorem kawake_ag25 : aggT Tryz.prog 25 5 = true := by kernel_rfl
theorem kawake_el25 : elT Tryz.prog 25 5 = true := by kernel_rfl
theorem kawake_el9 : elT Tryz.prog 9 1 = true := by kernel_rfl
theorem kawake_en50 : Go.Proofs.Enters Tryz.prog 50 := Go.Proofs.enters_of Tryz.func50 (by kernel_rfl) rfl
theorem kawake_en74 : Go.Proofs.Enters Tryz.prog 74 := Go.Proofs.enters_of Tryz.func74 (by kernel_rfl) rfl
theorem kawake_en75 : Go.Proofs.Enters Tryz.prog 75 := Go.Proofs.enters_of Tryz.func75 (by kernel_rfl) rfl
theorem kawake_en76 : Go.Proofs.Enters Tryz.prog 76 := Go.Proofs.enters_of Tryz.func76 (by kernel_rfl) rfl
theorem kawake_en77 : Go.Proofs.Enters Tryz.prog 77 := Go.Proofs.enters_of Tryz.func77 (by kernel_rfl) rfl
theorem kawake_en78 : Go.Proofs.Enters Tryz.prog 78 := Go.Proofs.enters_of Tryz.func78 (by kernel_rfl) rfl
theorem kawake_si25 : structInfo Tryz.prog 25 = some ([(0, 1), (1, 1), (2, 1), (3, 1), (4, 1)], [Value.int .i64 0, S [], S [], Value.slice none 0 0, Value.slice none 0 0]) := by kernel_rfl
theorem kawake_zr25 : (Tryz.prog.info? 25).bind (·.zero) = some (Value.agg [Value.int .i64 0, S [], S [], Value.slice none 0 0, Value.slice none 0 0].toArray) := by kernel_rfl

theorem shs_of_box {A : Nat → Prop} {w : World} {b : Nat} {t : TypeId} (rows : List (List Value)) (l : List Sh) (h : Box w b t rows.flatten) (hA : ¬ A b) (hl : l.length ≤ 70368744177664) (hr : rows.length = l.length)
    (hs : ∀ i, i < l.length → ShC A w (rows.getD i []) (l.getD i default)) : ShsAt A w (.slice (some ⟨b, 0, none⟩) l.length l.length) l := by
  refine ⟨some ⟨b, 0, none⟩, l.length, fun i => rows.getD i [], rfl, Nat.le_refl _, by omega, hl, ⟨fun _ => ⟨b, 0, rfl, hA, fun i j hi hj => ?_⟩, fun i hi => (hs i hi).len, hs⟩⟩
  have h5 : ∀ r ∈ rows, r.length = 5 := fun r hm => by
    obtain ⟨i, hi, rfl⟩ := List.getElem_of_mem hm
    have := (hs i (by omega)).len
    rwa [List.getD_eq_getElem?_getD, List.getElem?_eq_getElem hi] at this
  have hf := flat5 h5 hj (by omega : i < rows.length)
  have hlen : (rows.getD i []).length = 5 := (hs i hi).len
  have hv : (rows.getD i [])[j]? = some ((rows.getD i [])[j]'(by omega)) := List.getElem?_eq_getElem (by omega)
  show w.cell? ⟨b, 0 + i * 5 + j, none⟩ = (rows.getD i [])[j]?
  rw [hv] at hf ⊢
  rw [show 0 + i * 5 + j = i * 5 + j by omega]
  exact h.cell hf
abbrev leafC (k : Int) : List Value := [.int .i64 k, S [], S [], .slice none 0 0, .slice none 0 0]
theorem leaf (A : Nat → Prop) (w : World) (k : Int) : ShC A w (leafC k) (.mk k [] [] [] []) :=
  ShC.intro (StrsAt.nil _ _ _ _ (by simp)) (ShsAt.nil _ _ _ _ (by simp)) (by simp) (by simp)
theorem each1 {p : List Value → Sh → Prop} {r : List Value} {s : Sh} (h : p r s) : ∀ i, i < [s].length → p ([r].getD i []) ([s].getD i default) := by
  intro i hi
  match i, hi with
  | 0, _ => exact h
theorem each2 {p : List Value → Sh → Prop} {r r' : List Value} {s s' : Sh} (h : p r s) (h' : p r' s') : ∀ i, i < [s, s'].length → p ([r, r'].getD i []) ([s, s'].getD i default) := by
  intro i hi
  match i, hi with
  | 0, _ => exact h
  | 1, _ => exact h'
theorem each3 {p : List Value → Sh → Prop} {r r' r2 : List Value} {s s' s2 : Sh} (h : p r s) (h' : p r' s') (h2 : p r2 s2) : ∀ i, i < [s, s', s2].length → p ([r, r', r2].getD i []) ([s, s', s2].getD i default) := by
  intro i hi
  match i, hi with
  | 0, _ => exact h
  | 1, _ => exact h'
  | 2, _ => exact h2

def shX : Sh := .mk 8 [] [] [] [.mk 1 [] [] [] [], .mk 5 [] [] [] [.mk 3 [] [] [] []], .mk 6 [] [] [[98], [97]] [.mk 4 [] [] [] [], .mk 1 [] [] [] []]]
def shY : Sh := .mk 6 [] [] [[97], [97]] [.mk 1 [] [] [] [], .mk 1 [] [] [] []]
theorem checkX : checkS shX = 0 := by decide +kernel
theorem sortX : sortS shX = .mk 8 [] [] [] [.mk 1 [] [] [] [], .mk 5 [] [] [] [.mk 3 [] [] [] []], .mk 6 [] [] [[97], [98]] [.mk 1 [] [] [] [], .mk 4 [] [] [] []]] := by
  unfold sortS; rw [if_pos checkX]; kernel_rfl
theorem showX : showS shX = .tuple #[S [40, 73, 110, 116, 44, 32, 91, 84, 101, 120, 116, 93, 41, 32, 45, 62, 32, 123, 98, 58, 32, 65, 110, 121, 44, 32, 97, 58, 32, 73, 110, 116, 125], .int .i64 0] := by
  unfold showS; rw [if_pos checkX]
  have e : shX.text = [40, 73, 110, 116, 44, 32, 91, 84, 101, 120, 116, 93, 41, 32, 45, 62, 32, 123, 98, 58, 32, 65, 110, 121, 44, 32, 97, 58, 32, 73, 110, 116, 125] := by decide +kernel
  rw [e]
theorem showSX : showS (sortS shX) = .tuple #[S [40, 73, 110, 116, 44, 32, 91, 84, 101, 120, 116, 93, 41, 32, 45, 62, 32, 123, 97, 58, 32, 73, 110, 116, 44, 32, 98, 58, 32, 65, 110, 121, 125], .int .i64 0] := by
  rw [sortX]
  unfold showS; rw [if_pos (by decide +kernel)]
  have e : (Sh.mk 8 [] [] [] [.mk 1 [] [] [] [], .mk 5 [] [] [] [.mk 3 [] [] [] []], .mk 6 [] [] [[97], [98]] [.mk 1 [] [] [] [], .mk 4 [] [] [] []]]).text = [40, 73, 110, 116, 44, 32, 91, 84, 101, 120, 116, 93, 41, 32, 45, 62, 32, 123, 97, 58, 32, 73, 110, 116, 44, 32, 98, 58, 32, 65, 110, 121, 125] := by decide +kernel
  rw [e]
theorem sizeX : sizeS shX = 7 := by decide +kernel
theorem deepX : deepS shX = 3 := by decide +kernel
theorem closedX : closedS shX = true := by decide +kernel
theorem checkY : checkS shY = 70 := by decide +kernel

set_option maxHeartbeats 1000000 in
theorem awake07 (w : World) : Ret Tryz.prog 36 #[] w fun v w' => v = .bool true ∧ Bel w w' := by
  refine ret_of_W Tryz.func36 rfl (Nat.le_of_ble_eq_true rfl) (res1 rfl) ?_
  have hB := Gr.refl (fun _ => False) w
  refine W.seq ?_
  refine W.region ?_
  refine L.val (x_as (v := .bool _) rfl) rfl ?_
  refine L.nil ?_
  refine thn_n ?_
  refine W.seq ?_
  refine W.region ?_
  refine L.val (x_build (cells := [.int _ _, S _, S _, .slice _ _ _, .slice _ _ _]) kawake_si25 rfl rfl) rfl ?_
  refine L.alloc (cs := [Value.int .i64 0, S [], S [], Value.slice none 0 0, Value.slice none 0 0]) kawake_zr25 rfl rfl (fun w1 bx1 hw hz1 => ?_)
  have hB := hB.carry hw
  refine L.setRow kawake_ag25 rfl rfl bx1 rfl rfl (by simp [Value.oneCell', S]) (fun wl4 bx1 hw hzl4 => ?_)
  have hsz := hB.size
  have hB := hB.set hw (by omega)
  refine L.nil ?_
  refine thn_n ?_
  refine W.seq ?_
  refine W.region ?_
  refine L.val (x_ldn (vs := _) kawake_ag25 rfl rfl (bx1.row rfl)) rfl ?_
  refine L.val (x_build (cells := [.int _ _, S _, S _, .slice _ _ _, .slice _ _ _]) kawake_si25 rfl rfl) rfl ?_
  refine L.bs (sz := 5) (cells := [.int .i64 3, S [], S [], .slice none 0 0, .slice none 0 0]) Tryz.underlying23 kawake_el25 rfl rfl rfl rfl (fun w10 bx10 hw hz10 => ?_)
  have hB := hB.carry hw; have bx1 := bx1.carry hw
  refine L.val (x_build (cells := [.int _ _, S _, S _, .slice _ _ _, .slice _ _ _]) kawake_si25 rfl rfl) rfl ?_
  refine L.bs (sz := 1) (cells := [S [98], S [97]]) Tryz.underlying22 kawake_el9 rfl rfl rfl rfl (fun w12 bx12 hw hz12 => ?_)
  have hB := hB.carry hw; have bx1 := bx1.carry hw; have bx10 := bx10.carry hw
  refine L.val (x_build (cells := [.int _ _, S _, S _, .slice _ _ _, .slice _ _ _]) kawake_si25 rfl rfl) rfl ?_
  refine L.val (x_ldn (vs := _) kawake_ag25 rfl rfl (bx1.row rfl)) rfl ?_
  refine L.bs (sz := 5) (cells := [.int .i64 4, S [], S [], .slice none 0 0, .slice none 0 0, .int .i64 1, S [], S [], .slice none 0 0, .slice none 0 0]) Tryz.underlying23 kawake_el25 rfl rfl rfl rfl (fun w15 bx15 hw hz15 => ?_)
  have hB := hB.carry hw; have bx1 := bx1.carry hw; have bx10 := bx10.carry hw; have bx12 := bx12.carry hw
  refine L.val (x_build (cells := [.int _ _, S _, S _, .slice _ _ _, .slice _ _ _]) kawake_si25 rfl rfl) rfl ?_
  refine L.bs (sz := 5) (cells := [.int .i64 1, S [], S [], .slice none 0 0, .slice none 0 0, .int .i64 5, S [], S [], .slice none 0 0, .slice (some ⟨wl4.heap.size, 0, none⟩) 1 1, .int .i64 6, S [], S [], .slice (some ⟨w10.heap.size, 0, none⟩) 2 2, .slice (some ⟨w12.heap.size, 0, none⟩) 2 2]) Tryz.underlying23 kawake_el25 rfl rfl rfl rfl (fun w17 bx17 hw hz17 => ?_)
  have hB := hB.carry hw; have bx1 := bx1.carry hw; have bx10 := bx10.carry hw; have bx12 := bx12.carry hw; have bx15 := bx15.carry hw
  refine L.val (x_build (cells := [.int _ _, S _, S _, .slice _ _ _, .slice _ _ _]) kawake_si25 rfl rfl) rfl ?_
  refine L.alloc (cs := [Value.int .i64 0, S [], S [], Value.slice none 0 0, Value.slice none 0 0]) kawake_zr25 rfl rfl (fun w2 bx2 hw hz2 => ?_)
  have hB := hB.carry hw; have bx1 := bx1.carry hw; have bx10 := bx10.carry hw; have bx12 := bx12.carry hw; have bx15 := bx15.carry hw; have bx17 := bx17.carry hw
  refine L.setRow kawake_ag25 rfl rfl bx2 rfl rfl (by simp [Value.oneCell', S]) (fun wl17 bx2 hw hzl17 => ?_)
  have hsz := hB.size
  have hB := hB.set hw (by omega); have bx1 := bx1.carryR hw (by omega); have bx10 := bx10.carryR hw (by omega); have bx12 := bx12.carryR hw (by omega); have bx15 := bx15.carryR hw (by omega); have bx17 := bx17.carryR hw (by omega)
  have hx : ShC (fun _ => False) wl17 [.int .i64 8, S [], S [], .slice none 0 0, .slice (some ⟨w15.heap.size, 0, none⟩) 3 3] shX :=
    ShC.intro (StrsAt.nil _ _ _ _ (by simp)) (shs_of_box [leafC 1, [.int .i64 5, S [], S [], .slice none 0 0, .slice (some ⟨wl4.heap.size, 0, none⟩) 1 1], [.int .i64 6, S [], S [], .slice (some ⟨w10.heap.size, 0, none⟩) 2 2, .slice (some ⟨w12.heap.size, 0, none⟩) 2 2]] _ bx17 (fun f => f) (by simp) rfl
      (each3 (leaf _ _ 1) (ShC.intro (StrsAt.nil _ _ _ _ (by simp)) (shs_of_box [leafC 3] _ bx10 (fun f => f) (by simp) rfl (each1 (leaf _ _ 3))) (by simp) (by simp))
        (ShC.intro (strs_of_box [[98], [97]] bx12 (fun f => f) (by simp) (by simp)) (shs_of_box [leafC 4, leafC 1] _ bx15 (fun f => f) (by simp) rfl (each2 (leaf _ _ 4) (leaf _ _ 1))) (by simp) (by simp)))) (by simp) (by simp)
  refine L.nil ?_
  refine thn_n ?_
  refine W.seq ?_
  refine W.region ?_
  refine L.val (x_ldn (vs := _) kawake_ag25 rfl rfl (bx2.row rfl)) rfl ?_
  refine L.ret (x_call kawake_en74 rfl) rfl (show_ok _ shX _ _ hx) ?_
  rintro _ w21 ⟨rfl, hw⟩
  have hB := hB.carry hw; have bx1 := bx1.carry hw; have bx2 := bx2.carry hw; have hx := hx.carry hw
  rw [showX]
  refine L.val (x_mv (v := _) rfl) rfl ?_
  refine L.val (x_ext (v := S _) rfl rfl) rfl ?_
  refine L.val (x_ext (v := .int _ _) rfl rfl) rfl ?_
  refine L.val (x_as (v := S _) rfl) rfl ?_
  refine L.val (x_as (v := .int _ _) rfl) rfl ?_
  refine L.nil ?_
  refine thn_n ?_
  refine W.seq ?_
  refine W.region ?_
  refine L.val (x_ldn (vs := _) kawake_ag25 rfl rfl (bx2.row rfl)) rfl ?_
  refine L.ret (x_call kawake_en75 rfl) rfl (sort_okL _ shX _ _ hx) ?_
  rintro _ w26 ⟨cs26, rfl, hs26, hw⟩
  have hB := hB.carry hw; have bx1 := bx1.carry hw; have bx2 := bx2.carry hw; have hx := hx.carry hw
  refine L.ret (x_call kawake_en74 rfl) rfl (show_ok _ _ _ _ hs26) ?_
  rintro _ w27 ⟨rfl, hw⟩
  have hB := hB.carry hw; have bx1 := bx1.carry hw; have bx2 := bx2.carry hw; have hx := hx.carry hw; have hs26 := hs26.carry hw
  rw [showSX]
  refine L.val (x_mv (v := _) rfl) rfl ?_
  refine L.val (x_ext (v := S _) rfl rfl) rfl ?_
  refine L.val (x_ext (v := .int _ _) rfl rfl) rfl ?_
  refine L.val (x_as (v := S _) rfl) rfl ?_
  refine L.val (x_as (v := .int _ _) rfl) rfl ?_
  refine L.nil ?_
  refine thn_n ?_
  refine W.seq ?_
  refine W.region ?_
  refine L.val (x_mv (v := S _) rfl) rfl ?_
  refine L.val (x_eqs rfl rfl) rfl ?_
  refine L.val (x_mv (v := .bool _) rfl) rfl ?_
  refine' L.group0 2 33 34 34 32 true rfl ?_ ?_ ?_
  rotate_left 1
  ·intro g32
   have h32 := seq_t g32
   refine L.gyes' (dj := 32) (b := _) rfl rfl g32 ?_
   refine L.val (x_mv (v := .int _ _) rfl) rfl ?_
   refine L.gyes' (dj := 32) (b := _) rfl rfl g32 ?_
   refine L.val (x_eql rfl rfl) rfl ?_
   refine L.nil ?_
   refine thn_n ⟨rfl, rfl, ?_, rfl⟩
   repeat (first | exact jeq.refl _ _ _ | refine jeq.upd rfl ?_ | refine jeq.jk rfl rfl ?_)
  ·intro g32
   refine L.gno (dj := 32) (b := _) rfl rfl g32 rfl ?_
   refine L.gno (dj := 32) (b := _) rfl rfl g32 rfl ?_
   refine L.nil (thn_n ⟨rfl, rfl, ?_⟩)
   repeat (first | exact jeq.refl _ _ _ | refine jeq.upd rfl ?_ | refine jeq.jk rfl rfl ?_)
  intro J32 j32
  refine L.val (x_and rfl j32) rfl ?_
  refine L.val (x_mv (v := .bool _) rfl) rfl ?_
  refine' L.group0 2 37 38 38 36 true rfl ?_ ?_ ?_
  rotate_left 1
  ·intro g36
   have h36 := g36
   refine L.gyes' (dj := 36) (b := _) rfl rfl g36 ?_
   refine L.val (x_mv (v := S _) rfl) rfl ?_
   refine L.gyes' (dj := 36) (b := _) rfl rfl g36 ?_
   refine L.val (x_eqs rfl rfl) rfl ?_
   refine L.nil ?_
   refine thn_n ⟨rfl, rfl, ?_, rfl⟩
   repeat (first | exact jeq.refl _ _ _ | refine jeq.upd rfl ?_ | refine jeq.jk rfl rfl ?_)
  ·intro g36
   refine L.gno (dj := 36) (b := _) rfl rfl g36 rfl ?_
   refine L.gno (dj := 36) (b := _) rfl rfl g36 rfl ?_
   refine L.nil (thn_n ⟨rfl, rfl, ?_⟩)
   repeat (first | exact jeq.refl _ _ _ | refine jeq.upd rfl ?_ | refine jeq.jk rfl rfl ?_)
  intro J36 j36
  refine L.val (x_and rfl j36) rfl ?_
  refine L.val (x_mv (v := .bool _) rfl) rfl ?_
  refine' L.group0 2 41 42 42 40 true rfl ?_ ?_ ?_
  rotate_left 1
  ·intro g40
   have h40 := g40
   refine L.gyes' (dj := 40) (b := _) rfl rfl g40 ?_
   refine L.val (x_mv (v := .int _ _) rfl) rfl ?_
   refine L.gyes' (dj := 40) (b := _) rfl rfl g40 ?_
   refine L.val (x_eql rfl rfl) rfl ?_
   refine L.nil ?_
   refine thn_n ⟨rfl, rfl, ?_, rfl⟩
   repeat (first | exact jeq.refl _ _ _ | refine jeq.upd rfl ?_ | refine jeq.jk rfl rfl ?_)
  ·intro g40
   refine L.gno (dj := 40) (b := _) rfl rfl g40 rfl ?_
   refine L.gno (dj := 40) (b := _) rfl rfl g40 rfl ?_
   refine L.nil (thn_n ⟨rfl, rfl, ?_⟩)
   repeat (first | exact jeq.refl _ _ _ | refine jeq.upd rfl ?_ | refine jeq.jk rfl rfl ?_)
  intro J40 j40
  refine L.val (x_and rfl j40) rfl ?_
  refine L.val (x_mv (v := .bool _) rfl) rfl ?_
  refine' L.group 3 45 47 47 44 true rfl ?_ ?_ ?_
  rotate_left 1
  ·intro g44 hg44
   have h44 := g44
   refine L.gyes' (dj := 44) (b := _) rfl rfl g44 ?_
   refine L.val (x_ldn (vs := _) kawake_ag25 rfl rfl (bx2.row rfl)) rfl ?_
   refine L.gyes' (dj := 44) (b := _) rfl rfl g44 ?_
   refine L.ret (x_call kawake_en76 rfl) rfl (sizeL_ok _ shX _ _ hx) ?_
   rintro _ w46 ⟨rfl, hw⟩
   have hB := hB.carry hw; have bx1 := bx1.carry hw; have bx2 := bx2.carry hw; have hx := hx.carry hw; have hg44 := hg44.carry hw
   refine L.gyes' (dj := 44) (b := _) rfl rfl g44 ?_
   refine L.val (x_eql rfl rfl) rfl ?_
   refine L.nil ?_
   refine thn_n ⟨rfl, ?_, ?_, fun _ => rfl⟩
   ·exact hg44
   ·repeat (first | exact jeq.refl _ _ _ | refine jeq.upd rfl ?_ | refine jeq.jk rfl rfl ?_)
  ·intro g44
   refine L.gno (dj := 44) (b := _) rfl rfl g44 rfl ?_
   refine L.gno (dj := 44) (b := _) rfl rfl g44 rfl ?_
   refine L.gno (dj := 44) (b := _) rfl rfl g44 rfl ?_
   refine L.nil (thn_n ⟨rfl, Gr.refl _ _, ?_⟩)
   refine ⟨?_, fun h => h.elim⟩
   repeat (first | exact jeq.refl _ _ _ | refine jeq.upd rfl ?_ | refine jeq.jk rfl rfl ?_)
  intro J44 w44 hw j44
  have hB := hB.carry hw; have bx1 := bx1.carry hw; have bx2 := bx2.carry hw; have hx := hx.carry hw
  refine L.val (x_and rfl j44) rfl ?_
  refine L.val (x_mv (v := .bool _) rfl) rfl ?_
  refine' L.group 3 50 52 52 49 true rfl ?_ ?_ ?_
  rotate_left 1
  ·intro g49 hg49
   have h49 := g49
   refine L.gyes' (dj := 49) (b := _) rfl rfl g49 ?_
   refine L.val (x_ldn (vs := _) kawake_ag25 rfl rfl (bx2.row rfl)) rfl ?_
   refine L.gyes' (dj := 49) (b := _) rfl rfl g49 ?_
   refine L.ret (x_call kawake_en77 rfl) rfl (deepL_ok _ shX _ _ hx) ?_
   rintro _ w51 ⟨rfl, hw⟩
   have hB := hB.carry hw; have bx1 := bx1.carry hw; have bx2 := bx2.carry hw; have hx := hx.carry hw; have hg49 := hg49.carry hw
   refine L.gyes' (dj := 49) (b := _) rfl rfl g49 ?_
   refine L.val (x_eql rfl rfl) rfl ?_
   refine L.nil ?_
   refine thn_n ⟨rfl, ?_, ?_, fun _ => rfl⟩
   ·exact hg49
   ·repeat (first | exact jeq.refl _ _ _ | refine jeq.upd rfl ?_ | refine jeq.jk rfl rfl ?_)
  ·intro g49
   refine L.gno (dj := 49) (b := _) rfl rfl g49 rfl ?_
   refine L.gno (dj := 49) (b := _) rfl rfl g49 rfl ?_
   refine L.gno (dj := 49) (b := _) rfl rfl g49 rfl ?_
   refine L.nil (thn_n ⟨rfl, Gr.refl _ _, ?_⟩)
   refine ⟨?_, fun h => h.elim⟩
   repeat (first | exact jeq.refl _ _ _ | refine jeq.upd rfl ?_ | refine jeq.jk rfl rfl ?_)
  intro J49 w49 hw j49
  have hB := hB.carry hw; have bx1 := bx1.carry hw; have bx2 := bx2.carry hw; have hx := hx.carry hw
  refine L.val (x_and rfl j49) rfl ?_
  refine L.val (x_mv (v := .bool _) rfl) rfl ?_
  refine' L.group 2 55 56 56 54 true rfl ?_ ?_ ?_
  rotate_left 1
  ·intro g54 hg54
   have h54 := g54
   refine L.gyes' (dj := 54) (b := _) rfl rfl g54 ?_
   refine L.val (x_ldn (vs := _) kawake_ag25 rfl rfl (bx2.row rfl)) rfl ?_
   refine L.gyes' (dj := 54) (b := _) rfl rfl g54 ?_
   refine L.ret (x_call kawake_en78 rfl) rfl (closedL _ shX _ _ hx) ?_
   rintro _ w56 ⟨rfl, hw⟩
   have hB := hB.carry hw; have bx1 := bx1.carry hw; have bx2 := bx2.carry hw; have hx := hx.carry hw; have hg54 := hg54.carry hw
   refine L.nil ?_
   refine thn_n ⟨rfl, ?_, ?_, fun _ => rfl⟩
   ·exact hg54
   ·repeat (first | exact jeq.refl _ _ _ | refine jeq.upd rfl ?_ | refine jeq.jk rfl rfl ?_)
  ·intro g54
   refine L.gno (dj := 54) (b := _) rfl rfl g54 rfl ?_
   refine L.gno (dj := 54) (b := _) rfl rfl g54 rfl ?_
   refine L.nil (thn_n ⟨rfl, Gr.refl _ _, ?_⟩)
   refine ⟨?_, fun h => h.elim⟩
   repeat (first | exact jeq.refl _ _ _ | refine jeq.upd rfl ?_ | refine jeq.jk rfl rfl ?_)
  intro J54 w54 hw j54
  have hB := hB.carry hw; have bx1 := bx1.carry hw; have bx2 := bx2.carry hw; have hx := hx.carry hw
  refine L.val (x_and rfl j54) rfl ?_
  refine L.val (x_mv (v := .bool _) rfl) rfl ?_
  refine' L.group 7 59 65 65 58 true rfl ?_ ?_ ?_
  rotate_left 1
  ·intro g58 hg58
   have h58 := g58
   refine L.gyes' (dj := 58) (b := _) rfl rfl g58 ?_
   refine L.bs (sz := 1) (cells := [S [97], S [97]]) Tryz.underlying22 kawake_el9 rfl rfl rfl rfl (fun w59 bx59 hw hz59 => ?_)
   have hB := hB.carry hw; have bx1 := bx1.carry hw; have bx2 := bx2.carry hw; have hx := hx.carry hw; have hg58 := hg58.carry hw
   refine L.gyes' (dj := 58) (b := _) rfl rfl g58 ?_
   refine L.val (x_ldn (vs := _) kawake_ag25 rfl rfl (bx1.row rfl)) rfl ?_
   refine L.gyes' (dj := 58) (b := _) rfl rfl g58 ?_
   refine L.val (x_ldn (vs := _) kawake_ag25 rfl rfl (bx1.row rfl)) rfl ?_
   refine L.gyes' (dj := 58) (b := _) rfl rfl g58 ?_
   refine L.bs (sz := 5) (cells := [.int .i64 1, S [], S [], .slice none 0 0, .slice none 0 0, .int .i64 1, S [], S [], .slice none 0 0, .slice none 0 0]) Tryz.underlying23 kawake_el25 rfl rfl rfl rfl (fun w62 bx62 hw hz62 => ?_)
   have hB := hB.carry hw; have bx1 := bx1.carry hw; have bx2 := bx2.carry hw; have hx := hx.carry hw; have hg58 := hg58.carry hw; have bx59 := bx59.carry hw
   have hy := ShC.intro (A := fun _ => False) (k := 6) (of := []) (nm := []) (strs_of_box [[97], [97]] bx59 (fun f => f) (by simp) (by simp)) (shs_of_box [leafC 1, leafC 1] [.mk 1 [] [] [] [], .mk 1 [] [] [] []] bx62 (fun f => f) (by simp) rfl (each2 (leaf _ _ 1) (leaf _ _ 1))) (by simp) (by simp)
   refine L.gyes' (dj := 58) (b := _) rfl rfl g58 ?_
   refine L.val (x_build (cells := [.int _ _, S _, S _, .slice _ _ _, .slice _ _ _]) kawake_si25 rfl rfl) rfl ?_
   refine L.gyes' (dj := 58) (b := _) rfl rfl g58 ?_
   refine L.ret (x_call kawake_en50 rfl) rfl (checkL _ shY _ _ hy) ?_
   rintro _ w64 ⟨rfl, hw⟩
   have hB := hB.carry hw; have bx1 := bx1.carry hw; have bx2 := bx2.carry hw; have hx := hx.carry hw; have hg58 := hg58.carry hw; have bx59 := bx59.carry hw; have bx62 := bx62.carry hw
   refine L.gyes' (dj := 58) (b := _) rfl rfl g58 ?_
   refine L.val (x_eql rfl rfl) rfl ?_
   refine L.nil ?_
   refine thn_n ⟨rfl, ?_, ?_, fun _ => rfl⟩
   ·exact hg58
   ·repeat (first | exact jeq.refl _ _ _ | refine jeq.upd rfl ?_ | refine jeq.jk rfl rfl ?_)
  ·intro g58
   refine L.gno (dj := 58) (b := _) rfl rfl g58 rfl ?_
   refine L.gno (dj := 58) (b := _) rfl rfl g58 rfl ?_
   refine L.gno (dj := 58) (b := _) rfl rfl g58 rfl ?_
   refine L.gno (dj := 58) (b := _) rfl rfl g58 rfl ?_
   refine L.gno (dj := 58) (b := _) rfl rfl g58 rfl ?_
   refine L.gno (dj := 58) (b := _) rfl rfl g58 rfl ?_
   refine L.gno (dj := 58) (b := _) rfl rfl g58 rfl ?_
   refine L.nil (thn_n ⟨rfl, Gr.refl _ _, ?_⟩)
   refine ⟨?_, fun h => h.elim⟩
   repeat (first | exact jeq.refl _ _ _ | refine jeq.upd rfl ?_ | refine jeq.jk rfl rfl ?_)
  intro J58 w58 hw j58
  have hB := hB.carry hw; have bx1 := bx1.carry hw; have bx2 := bx2.carry hw; have hx := hx.carry hw
  refine L.val (x_and rfl j58) rfl ?_
  refine L.val (x_as (v := .bool _) rfl) rfl ?_
  refine L.nil ?_
  refine thn_n ?_
  refine W.ret (fin_mk (.inr rfl) ?_)
  exact ⟨vb (by rw [sizeX, deepX, closedX, checkY]; decide), hB⟩
end Go.Gx

