/- The answers that the document fixes (layer 13). Conditions: none. -/
import Derived.Test.YteehllhldaopjaaGdGrad6
import Derived.Test.YteehllhldaopjaaGdAwake
namespace Go.Gx
open Go.Proofs
theorem kawake13_ag25 : aggT Try.prog 25 5 = true := by kernel_rfl
theorem kawake13_el25 : elT Try.prog 25 5 = true := by kernel_rfl
theorem kawake13_el9 : elT Try.prog 9 1 = true := by kernel_rfl
theorem kawake13_en27 : Go.Proofs.Enters Try.prog 27 := Go.Proofs.enters_of Try.func27 (by kernel_rfl) rfl
theorem kawake13_en55 : Go.Proofs.Enters Try.prog 55 := Go.Proofs.enters_of Try.func55 (by kernel_rfl) rfl
theorem kawake13_en57 : Go.Proofs.Enters Try.prog 57 := Go.Proofs.enters_of Try.func57 (by kernel_rfl) rfl
theorem kawake13_en58 : Go.Proofs.Enters Try.prog 58 := Go.Proofs.enters_of Try.func58 (by kernel_rfl) rfl
theorem kawake13_en60 : Go.Proofs.Enters Try.prog 60 := Go.Proofs.enters_of Try.func60 (by kernel_rfl) rfl
theorem kawake13_si25 : structInfo Try.prog 25 = some ([(0, 1), (1, 1), (2, 1), (3, 1), (4, 1)], [Value.int .i64 0, S [], S [], Value.slice none 0 0, Value.slice none 0 0]) := by kernel_rfl
theorem kawake13_zr25 : (Try.prog.info? 25).bind (·.zero) = some (Value.agg [Value.int .i64 0, S [], S [], Value.slice none 0 0, Value.slice none 0 0].toArray) := by kernel_rfl
def gA : Sh := .mk 6 [] [] [[97], [98]] [.mk 4 [] [] [] [], .mk 1 [] [] [] []]
def gB : Sh := .mk 6 [] [] [[97]] [.mk 3 [] [] [] []]
def gU : Sh := .mk 6 [] [] [[97]] [.mk 4 [] [] [] []]
theorem madeAB : madeS true gA gB = (gU, true) := by
  have h1 : goesS true gA gB = true := by decide +kernel
  have h2 : checkS (witN (SizeOf.sizeOf gA + SizeOf.sizeOf gB + 1) true gA gB) = 0 := by decide +kernel
  have h3 : (witN (SizeOf.sizeOf gA + SizeOf.sizeOf gB + 1) true gA gB).sort = gU := by kernel_rfl
  unfold madeS
  rw [if_pos ⟨h1, h2⟩, h3]
theorem v1 : goesS true gA gB = true := by decide +kernel
theorem v2 : goesS true gB gA = false := by decide +kernel
theorem v3 : goesS true (.mk 1 [] [] [] []) (.mk 4 [] [] [] []) = true := by decide +kernel
theorem v4 : goesS false (.mk 4 [] [] [] []) (.mk 3 [] [] [] []) = true := by decide +kernel
theorem v5 : goesS false (.mk 1 [] [] [] []) (.mk 3 [] [] [] []) = false := by decide +kernel
theorem v6 : (decide (checkS gB = 0) && gB.allB notAny) = true := by decide +kernel
theorem v7 : (decide (checkS gA = 0) && gA.allB notAny) = false := by decide +kernel
set_option maxHeartbeats 1000000 in
theorem awake13 (w : World) : Ret Try.prog 56 #[] w fun v w' => v = .bool true ∧ Bel w w' := by
  refine ret_of_W Try.func56 rfl (Nat.le_of_ble_eq_true rfl) (res1 rfl) ?_
  have hB := Gr.refl (fun _ => False) w
  refine W.seq ?_
  refine W.region ?_
  refine L.val (x_as (v := .bool _) rfl) rfl ?_
  refine L.nil ?_
  refine thn_n ?_
  refine W.seq ?_
  refine W.region ?_
  refine L.val (x_build (cells := [.int _ _, S _, S _, .slice _ _ _, .slice _ _ _]) kawake13_si25 rfl rfl) rfl ?_
  refine L.val (x_build (cells := [.int _ _, S _, S _, .slice _ _ _, .slice _ _ _]) kawake13_si25 rfl rfl) rfl ?_
  refine L.val (x_build (cells := [.int _ _, S _, S _, .slice _ _ _, .slice _ _ _]) kawake13_si25 rfl rfl) rfl ?_
  refine L.alloc (cs := [Value.int .i64 0, S [], S [], Value.slice none 0 0, Value.slice none 0 0]) kawake13_zr25 rfl rfl (fun w1 bx1 hw hz1 => ?_)
  have hB := hB.carry hw
  refine L.alloc (cs := [Value.int .i64 0, S [], S [], Value.slice none 0 0, Value.slice none 0 0]) kawake13_zr25 rfl rfl (fun w2 bx2 hw hz2 => ?_)
  have hB := hB.carry hw; have bx1 := bx1.carry hw
  refine L.alloc (cs := [Value.int .i64 0, S [], S [], Value.slice none 0 0, Value.slice none 0 0]) kawake13_zr25 rfl rfl (fun w3 bx3 hw hz3 => ?_)
  have hB := hB.carry hw; have bx1 := bx1.carry hw; have bx2 := bx2.carry hw
  refine L.setRow kawake13_ag25 rfl rfl bx1 rfl rfl (by simp [Value.oneCell', S]) (fun wl8 bx1 hw hzl8 => ?_)
  have hsz := hB.size
  have hB := hB.set hw (by omega); have bx2 := bx2.carryR hw (by omega); have bx3 := bx3.carryR hw (by omega)
  refine L.setRow kawake13_ag25 rfl rfl bx2 rfl rfl (by simp [Value.oneCell', S]) (fun wl9 bx2 hw hzl9 => ?_)
  have hsz := hB.size
  have hB := hB.set hw (by omega); have bx1 := bx1.carryR hw (by omega); have bx3 := bx3.carryR hw (by omega)
  refine L.setRow kawake13_ag25 rfl rfl bx3 rfl rfl (by simp [Value.oneCell', S]) (fun wl10 bx3 hw hzl10 => ?_)
  have hsz := hB.size
  have hB := hB.set hw (by omega); have bx1 := bx1.carryR hw (by omega); have bx2 := bx2.carryR hw (by omega)
  refine L.nil ?_
  refine thn_n ?_
  refine W.seq ?_
  refine W.region ?_
  refine L.bs (sz := 1) (cells := [S [97], S [98]]) Try.underlying22 kawake13_el9 rfl rfl rfl rfl (fun w11 bx11 hw hz11 => ?_)
  have hB := hB.carry hw; have bx1 := bx1.carry hw; have bx2 := bx2.carry hw; have bx3 := bx3.carry hw
  refine L.val (x_ldn (vs := _) kawake13_ag25 rfl rfl (bx3.row rfl)) rfl ?_
  refine L.val (x_ldn (vs := _) kawake13_ag25 rfl rfl (bx1.row rfl)) rfl ?_
  refine L.bs (sz := 5) (cells := [.int .i64 4, S [], S [], .slice none 0 0, .slice none 0 0, .int .i64 1, S [], S [], .slice none 0 0, .slice none 0 0]) Try.underlying23 kawake13_el25 rfl rfl rfl rfl (fun w14 bx14 hw hz14 => ?_)
  have hB := hB.carry hw; have bx1 := bx1.carry hw; have bx2 := bx2.carry hw; have bx3 := bx3.carry hw; have bx11 := bx11.carry hw
  refine L.val (x_build (cells := [.int _ _, S _, S _, .slice _ _ _, .slice _ _ _]) kawake13_si25 rfl rfl) rfl ?_
  refine L.alloc (cs := [Value.int .i64 0, S [], S [], Value.slice none 0 0, Value.slice none 0 0]) kawake13_zr25 rfl rfl (fun w4 bx4 hw hz4 => ?_)
  have hB := hB.carry hw; have bx1 := bx1.carry hw; have bx2 := bx2.carry hw; have bx3 := bx3.carry hw; have bx11 := bx11.carry hw; have bx14 := bx14.carry hw
  refine L.setRow kawake13_ag25 rfl rfl bx4 rfl rfl (by simp [Value.oneCell', S]) (fun wl17 bx4 hw hzl17 => ?_)
  have hsz := hB.size
  have hB := hB.set hw (by omega); have bx1 := bx1.carryR hw (by omega); have bx2 := bx2.carryR hw (by omega); have bx3 := bx3.carryR hw (by omega); have bx11 := bx11.carryR hw (by omega); have bx14 := bx14.carryR hw (by omega)
  have hA := ShC.intro (A := fun _ => False) (k := 6) (of := []) (nm := []) (strs_of_box [[97], [98]] bx11 (fun f => f) (by simp) (by simp)) (shs_of_box [leafC 4, leafC 1] [.mk 4 [] [] [] [], .mk 1 [] [] [] []] bx14 (fun f => f) (by simp) rfl (each2 (leaf _ _ 4) (leaf _ _ 1))) (by simp) (by simp)
  have hA := hA.up
  refine L.nil ?_
  refine thn_n ?_
  refine W.seq ?_
  refine W.region ?_
  refine L.bs (sz := 1) (cells := [S [97]]) Try.underlying22 kawake13_el9 rfl rfl rfl rfl (fun w16 bx16 hw hz16 => ?_)
  have hB := hB.carry hw; have bx1 := bx1.carry hw; have bx2 := bx2.carry hw; have bx3 := bx3.carry hw; have bx4 := bx4.carry hw; have hA := hA.carry hw
  refine L.val (x_ldn (vs := _) kawake13_ag25 rfl rfl (bx2.row rfl)) rfl ?_
  refine L.bs (sz := 5) (cells := [.int .i64 3, S [], S [], .slice none 0 0, .slice none 0 0]) Try.underlying23 kawake13_el25 rfl rfl rfl rfl (fun w18 bx18 hw hz18 => ?_)
  have hB := hB.carry hw; have bx1 := bx1.carry hw; have bx2 := bx2.carry hw; have bx3 := bx3.carry hw; have bx4 := bx4.carry hw; have hA := hA.carry hw; have bx16 := bx16.carry hw
  refine L.val (x_build (cells := [.int _ _, S _, S _, .slice _ _ _, .slice _ _ _]) kawake13_si25 rfl rfl) rfl ?_
  refine L.alloc (cs := [Value.int .i64 0, S [], S [], Value.slice none 0 0, Value.slice none 0 0]) kawake13_zr25 rfl rfl (fun w5 bx5 hw hz5 => ?_)
  have hB := hB.carry hw; have bx1 := bx1.carry hw; have bx2 := bx2.carry hw; have bx3 := bx3.carry hw; have bx4 := bx4.carry hw; have hA := hA.carry hw; have bx16 := bx16.carry hw; have bx18 := bx18.carry hw
  refine L.setRow kawake13_ag25 rfl rfl bx5 rfl rfl (by simp [Value.oneCell', S]) (fun wl23 bx5 hw hzl23 => ?_)
  have hsz := hB.size
  have hB := hB.set hw (by omega); have bx1 := bx1.carryR hw (by omega); have bx2 := bx2.carryR hw (by omega); have bx3 := bx3.carryR hw (by omega); have bx4 := bx4.carryR hw (by omega); have hA := hA.carryR hw (fun j e => .inr (by have e : j = _ := e; omega)); have bx16 := bx16.carryR hw (by omega); have bx18 := bx18.carryR hw (by omega)
  have hb := ShC.intro (A := fun _ => False) (k := 6) (of := []) (nm := []) (strs_of_box [[97]] bx16 (fun f => f) (by simp) (by simp)) (shs_of_box [leafC 3] [.mk 3 [] [] [] []] bx18 (fun f => f) (by simp) rfl (each1 (leaf _ _ 3))) (by simp) (by simp)
  have hb := hb.up
  have hl23 := bx5.lt
  have hx1 := bx1.lt
  have hx2 := bx2.lt
  have hx3 := bx3.lt
  have hx4 := bx4.lt
  have hsz23 := hB.size
  refine L.nil ?_
  refine thn_n ?_
  refine W.seq ?_
  refine W.region ?_
  refine L.val (x_ldn (vs := _) kawake13_ag25 rfl rfl (bx4.row rfl)) rfl ?_
  refine L.val (x_ldn (vs := _) kawake13_ag25 rfl rfl (bx5.row rfl)) rfl ?_
  refine L.ret (x_call kawake13_en58 rfl) rfl (between_ok _ _ gA gB _ _ _ hA hb) ?_
  rintro _ w23 ⟨cs23, rfl, hu, hw⟩
  have hB := hB.carry hw; have bx1 := bx1.carry hw; have bx2 := bx2.carry hw; have bx3 := bx3.carry hw; have bx4 := bx4.carry hw; have bx5 := bx5.carry hw; have hA := hA.carry hw; have hb := hb.carry hw
  rw [madeAB] at hu ⊢
  have hlu := hu.len
  have hu := hu.up
  have hsz := hw.size
  refine L.val (x_mv (v := _) rfl) rfl ?_
  refine L.val (x_ext (v := _) rfl rfl) rfl ?_
  refine L.val (x_ext (v := .bool _) rfl rfl) rfl ?_
  refine L.alloc (cs := [Value.int .i64 0, S [], S [], Value.slice none 0 0, Value.slice none 0 0]) kawake13_zr25 rfl rfl (fun w6 bx6 hw hz6 => ?_)
  have hB := hB.carry hw; have bx1 := bx1.carry hw; have bx2 := bx2.carry hw; have bx3 := bx3.carry hw; have bx4 := bx4.carry hw; have bx5 := bx5.carry hw; have hA := hA.carry hw; have hb := hb.carry hw; have hu := hu.carry hw
  refine L.setRow kawake13_ag25 rfl rfl bx6 rfl hlu hu.one (fun wl31 bx6 hw hzl31 => ?_)
  have hsz := hB.size
  have hB := hB.set hw (by omega); have bx1 := bx1.carryR hw (by omega); have bx2 := bx2.carryR hw (by omega); have bx3 := bx3.carryR hw (by omega); have bx4 := bx4.carryR hw (by omega); have bx5 := bx5.carryR hw (by omega); have hA := hA.carryR hw (fun j e => .inr (by have e : j = _ := e; omega)); have hb := hb.carryR hw (fun j e => .inr (by have e : j = _ := e; omega)); have hu := hu.carryR hw (fun j e => .inr (by have e : j = _ := e; omega))
  refine L.val (x_as (v := .bool _) rfl) rfl ?_
  refine L.nil ?_
  refine thn_n ?_
  refine W.seq ?_
  refine W.region ?_
  refine L.val (x_ldn (vs := _) kawake13_ag25 rfl rfl (bx4.row rfl)) rfl ?_
  refine L.val (x_ldn (vs := _) kawake13_ag25 rfl rfl (bx5.row rfl)) rfl ?_
  refine L.ret (x_call kawake13_en55 rfl) rfl (near_ok _ _ gA gB _ _ _ hA hb) ?_
  rintro _ w28 ⟨rfl, hw⟩
  have hB := hB.carry hw; have bx1 := bx1.carry hw; have bx2 := bx2.carry hw; have bx3 := bx3.carry hw; have bx4 := bx4.carry hw; have bx5 := bx5.carry hw; have bx6 := bx6.carry hw; have hA := hA.carry hw; have hb := hb.carry hw; have hu := hu.carry hw
  refine L.val (x_mv (v := .bool _) rfl) rfl ?_
  refine' L.group 4 30 33 33 29 true rfl ?_ ?_ ?_
  rotate_left 1
  ·intro g29 hg29
   have h29 := g29
   refine L.gyes' (dj := 29) (b := _) rfl rfl g29 ?_
   refine L.val (x_ldn (vs := _) kawake13_ag25 rfl rfl (bx5.row rfl)) rfl ?_
   refine L.gyes' (dj := 29) (b := _) rfl rfl g29 ?_
   refine L.val (x_ldn (vs := _) kawake13_ag25 rfl rfl (bx4.row rfl)) rfl ?_
   refine L.gyes' (dj := 29) (b := _) rfl rfl g29 ?_
   refine L.ret (x_call kawake13_en55 rfl) rfl (near_ok _ _ gB gA _ _ _ hb hA) ?_
   rintro _ w32 ⟨rfl, hw⟩
   have hB := hB.carry hw; have bx1 := bx1.carry hw; have bx2 := bx2.carry hw; have bx3 := bx3.carry hw; have bx4 := bx4.carry hw; have bx5 := bx5.carry hw; have bx6 := bx6.carry hw; have hA := hA.carry hw; have hb := hb.carry hw; have hu := hu.carry hw; have hg29 := hg29.carry hw
   refine L.gyes' (dj := 29) (b := _) rfl rfl g29 ?_
   refine L.val (x_not rfl) rfl ?_
   refine L.nil ?_
   refine thn_n ⟨rfl, ?_, ?_, fun _ => rfl⟩
   ·exact hg29
   ·repeat (first | exact jeq.refl _ _ _ | refine jeq.upd rfl ?_ | refine jeq.jk rfl rfl ?_)
  ·intro g29
   refine L.gno (dj := 29) (b := _) rfl rfl g29 rfl ?_
   refine L.gno (dj := 29) (b := _) rfl rfl g29 rfl ?_
   refine L.gno (dj := 29) (b := _) rfl rfl g29 rfl ?_
   refine L.gno (dj := 29) (b := _) rfl rfl g29 rfl ?_
   refine L.nil (thn_n ⟨rfl, Gr.refl _ _, ?_⟩)
   refine ⟨?_, fun h => h.elim⟩
   repeat (first | exact jeq.refl _ _ _ | refine jeq.upd rfl ?_ | refine jeq.jk rfl rfl ?_)
  intro J29 w29 hw j29
  have hB := hB.carry hw; have bx1 := bx1.carry hw; have bx2 := bx2.carry hw; have bx3 := bx3.carry hw; have bx4 := bx4.carry hw; have bx5 := bx5.carry hw; have bx6 := bx6.carry hw; have hA := hA.carry hw; have hb := hb.carry hw; have hu := hu.carry hw
  refine L.val (x_and rfl j29) rfl ?_
  refine L.val (x_mv (v := .bool _) rfl) rfl ?_
  refine' L.group 3 36 38 38 35 true rfl ?_ ?_ ?_
  rotate_left 1
  ·intro g35 hg35
   have h35 := g35
   refine L.gyes' (dj := 35) (b := _) rfl rfl g35 ?_
   refine L.val (x_ldn (vs := _) kawake13_ag25 rfl rfl (bx1.row rfl)) rfl ?_
   refine L.gyes' (dj := 35) (b := _) rfl rfl g35 ?_
   refine L.val (x_ldn (vs := _) kawake13_ag25 rfl rfl (bx3.row rfl)) rfl ?_
   refine L.gyes' (dj := 35) (b := _) rfl rfl g35 ?_
   refine L.ret (x_call kawake13_en55 rfl) rfl (near_ok (fun _ => False) (fun _ => False) (.mk 1 [] [] [] []) (.mk 4 [] [] [] []) _ _ _ (leaf _ _ 1) (leaf _ _ 4)) ?_
   rintro _ w38 ⟨rfl, hw⟩
   have hB := hB.carry hw; have bx1 := bx1.carry hw; have bx2 := bx2.carry hw; have bx3 := bx3.carry hw; have bx4 := bx4.carry hw; have bx5 := bx5.carry hw; have bx6 := bx6.carry hw; have hA := hA.carry hw; have hb := hb.carry hw; have hu := hu.carry hw; have hg35 := hg35.carry hw
   refine L.nil ?_
   refine thn_n ⟨rfl, ?_, ?_, fun _ => rfl⟩
   ·exact hg35
   ·repeat (first | exact jeq.refl _ _ _ | refine jeq.upd rfl ?_ | refine jeq.jk rfl rfl ?_)
  ·intro g35
   refine L.gno (dj := 35) (b := _) rfl rfl g35 rfl ?_
   refine L.gno (dj := 35) (b := _) rfl rfl g35 rfl ?_
   refine L.gno (dj := 35) (b := _) rfl rfl g35 rfl ?_
   refine L.nil (thn_n ⟨rfl, Gr.refl _ _, ?_⟩)
   refine ⟨?_, fun h => h.elim⟩
   repeat (first | exact jeq.refl _ _ _ | refine jeq.upd rfl ?_ | refine jeq.jk rfl rfl ?_)
  intro J35 w35 hw j35
  have hB := hB.carry hw; have bx1 := bx1.carry hw; have bx2 := bx2.carry hw; have bx3 := bx3.carry hw; have bx4 := bx4.carry hw; have bx5 := bx5.carry hw; have bx6 := bx6.carry hw; have hA := hA.carry hw; have hb := hb.carry hw; have hu := hu.carry hw
  refine L.val (x_and rfl j35) rfl ?_
  refine L.val (x_mv (v := .bool _) rfl) rfl ?_
  refine' L.group 3 41 43 43 40 true rfl ?_ ?_ ?_
  rotate_left 1
  ·intro g40 hg40
   have h40 := g40
   refine L.gyes' (dj := 40) (b := _) rfl rfl g40 ?_
   refine L.val (x_ldn (vs := _) kawake13_ag25 rfl rfl (bx3.row rfl)) rfl ?_
   refine L.gyes' (dj := 40) (b := _) rfl rfl g40 ?_
   refine L.val (x_ldn (vs := _) kawake13_ag25 rfl rfl (bx2.row rfl)) rfl ?_
   refine L.gyes' (dj := 40) (b := _) rfl rfl g40 ?_
   refine L.ret (x_call kawake13_en57 rfl) rfl (alike_ok (fun _ => False) (fun _ => False) (.mk 4 [] [] [] []) (.mk 3 [] [] [] []) _ _ _ (leaf _ _ 4) (leaf _ _ 3)) ?_
   rintro _ w43 ⟨rfl, hw⟩
   have hB := hB.carry hw; have bx1 := bx1.carry hw; have bx2 := bx2.carry hw; have bx3 := bx3.carry hw; have bx4 := bx4.carry hw; have bx5 := bx5.carry hw; have bx6 := bx6.carry hw; have hA := hA.carry hw; have hb := hb.carry hw; have hu := hu.carry hw; have hg40 := hg40.carry hw
   refine L.nil ?_
   refine thn_n ⟨rfl, ?_, ?_, fun _ => rfl⟩
   ·exact hg40
   ·repeat (first | exact jeq.refl _ _ _ | refine jeq.upd rfl ?_ | refine jeq.jk rfl rfl ?_)
  ·intro g40
   refine L.gno (dj := 40) (b := _) rfl rfl g40 rfl ?_
   refine L.gno (dj := 40) (b := _) rfl rfl g40 rfl ?_
   refine L.gno (dj := 40) (b := _) rfl rfl g40 rfl ?_
   refine L.nil (thn_n ⟨rfl, Gr.refl _ _, ?_⟩)
   refine ⟨?_, fun h => h.elim⟩
   repeat (first | exact jeq.refl _ _ _ | refine jeq.upd rfl ?_ | refine jeq.jk rfl rfl ?_)
  intro J40 w40 hw j40
  have hB := hB.carry hw; have bx1 := bx1.carry hw; have bx2 := bx2.carry hw; have bx3 := bx3.carry hw; have bx4 := bx4.carry hw; have bx5 := bx5.carry hw; have bx6 := bx6.carry hw; have hA := hA.carry hw; have hb := hb.carry hw; have hu := hu.carry hw
  refine L.val (x_and rfl j40) rfl ?_
  refine L.val (x_mv (v := .bool _) rfl) rfl ?_
  refine' L.group 4 46 49 49 45 true rfl ?_ ?_ ?_
  rotate_left 1
  ·intro g45 hg45
   have h45 := g45
   refine L.gyes' (dj := 45) (b := _) rfl rfl g45 ?_
   refine L.val (x_ldn (vs := _) kawake13_ag25 rfl rfl (bx1.row rfl)) rfl ?_
   refine L.gyes' (dj := 45) (b := _) rfl rfl g45 ?_
   refine L.val (x_ldn (vs := _) kawake13_ag25 rfl rfl (bx2.row rfl)) rfl ?_
   refine L.gyes' (dj := 45) (b := _) rfl rfl g45 ?_
   refine L.ret (x_call kawake13_en57 rfl) rfl (alike_ok (fun _ => False) (fun _ => False) (.mk 1 [] [] [] []) (.mk 3 [] [] [] []) _ _ _ (leaf _ _ 1) (leaf _ _ 3)) ?_
   rintro _ w48 ⟨rfl, hw⟩
   have hB := hB.carry hw; have bx1 := bx1.carry hw; have bx2 := bx2.carry hw; have bx3 := bx3.carry hw; have bx4 := bx4.carry hw; have bx5 := bx5.carry hw; have bx6 := bx6.carry hw; have hA := hA.carry hw; have hb := hb.carry hw; have hu := hu.carry hw; have hg45 := hg45.carry hw
   refine L.gyes' (dj := 45) (b := _) rfl rfl g45 ?_
   refine L.val (x_not rfl) rfl ?_
   refine L.nil ?_
   refine thn_n ⟨rfl, ?_, ?_, fun _ => rfl⟩
   ·exact hg45
   ·repeat (first | exact jeq.refl _ _ _ | refine jeq.upd rfl ?_ | refine jeq.jk rfl rfl ?_)
  ·intro g45
   refine L.gno (dj := 45) (b := _) rfl rfl g45 rfl ?_
   refine L.gno (dj := 45) (b := _) rfl rfl g45 rfl ?_
   refine L.gno (dj := 45) (b := _) rfl rfl g45 rfl ?_
   refine L.gno (dj := 45) (b := _) rfl rfl g45 rfl ?_
   refine L.nil (thn_n ⟨rfl, Gr.refl _ _, ?_⟩)
   refine ⟨?_, fun h => h.elim⟩
   repeat (first | exact jeq.refl _ _ _ | refine jeq.upd rfl ?_ | refine jeq.jk rfl rfl ?_)
  intro J45 w45 hw j45
  have hB := hB.carry hw; have bx1 := bx1.carry hw; have bx2 := bx2.carry hw; have bx3 := bx3.carry hw; have bx4 := bx4.carry hw; have bx5 := bx5.carry hw; have bx6 := bx6.carry hw; have hA := hA.carry hw; have hb := hb.carry hw; have hu := hu.carry hw
  refine L.val (x_and rfl j45) rfl ?_
  refine L.val (x_mv (v := .bool _) rfl) rfl ?_
  refine' L.group 2 52 53 53 51 true rfl ?_ ?_ ?_
  rotate_left 1
  ·intro g51 hg51
   have h51 := g51
   refine L.gyes' (dj := 51) (b := _) rfl rfl g51 ?_
   refine L.val (x_ldn (vs := _) kawake13_ag25 rfl rfl (bx5.row rfl)) rfl ?_
   refine L.gyes' (dj := 51) (b := _) rfl rfl g51 ?_
   refine L.ret (x_call kawake13_en60 rfl) rfl (plain_okG _ gB _ _ hb) ?_
   rintro _ w53 ⟨rfl, hw⟩
   have hB := hB.carry hw; have bx1 := bx1.carry hw; have bx2 := bx2.carry hw; have bx3 := bx3.carry hw; have bx4 := bx4.carry hw; have bx5 := bx5.carry hw; have bx6 := bx6.carry hw; have hA := hA.carry hw; have hb := hb.carry hw; have hu := hu.carry hw; have hg51 := hg51.carry hw
   refine L.nil ?_
   refine thn_n ⟨rfl, ?_, ?_, fun _ => rfl⟩
   ·exact hg51
   ·repeat (first | exact jeq.refl _ _ _ | refine jeq.upd rfl ?_ | refine jeq.jk rfl rfl ?_)
  ·intro g51
   refine L.gno (dj := 51) (b := _) rfl rfl g51 rfl ?_
   refine L.gno (dj := 51) (b := _) rfl rfl g51 rfl ?_
   refine L.nil (thn_n ⟨rfl, Gr.refl _ _, ?_⟩)
   refine ⟨?_, fun h => h.elim⟩
   repeat (first | exact jeq.refl _ _ _ | refine jeq.upd rfl ?_ | refine jeq.jk rfl rfl ?_)
  intro J51 w51 hw j51
  have hB := hB.carry hw; have bx1 := bx1.carry hw; have bx2 := bx2.carry hw; have bx3 := bx3.carry hw; have bx4 := bx4.carry hw; have bx5 := bx5.carry hw; have bx6 := bx6.carry hw; have hA := hA.carry hw; have hb := hb.carry hw; have hu := hu.carry hw
  refine L.val (x_and rfl j51) rfl ?_
  refine L.val (x_mv (v := .bool _) rfl) rfl ?_
  refine' L.group 3 56 58 58 55 true rfl ?_ ?_ ?_
  rotate_left 1
  ·intro g55 hg55
   have h55 := g55
   refine L.gyes' (dj := 55) (b := _) rfl rfl g55 ?_
   refine L.val (x_ldn (vs := _) kawake13_ag25 rfl rfl (bx4.row rfl)) rfl ?_
   refine L.gyes' (dj := 55) (b := _) rfl rfl g55 ?_
   refine L.ret (x_call kawake13_en60 rfl) rfl (plain_okG _ gA _ _ hA) ?_
   rintro _ w57 ⟨rfl, hw⟩
   have hB := hB.carry hw; have bx1 := bx1.carry hw; have bx2 := bx2.carry hw; have bx3 := bx3.carry hw; have bx4 := bx4.carry hw; have bx5 := bx5.carry hw; have bx6 := bx6.carry hw; have hA := hA.carry hw; have hb := hb.carry hw; have hu := hu.carry hw; have hg55 := hg55.carry hw
   refine L.gyes' (dj := 55) (b := _) rfl rfl g55 ?_
   refine L.val (x_not rfl) rfl ?_
   refine L.nil ?_
   refine thn_n ⟨rfl, ?_, ?_, fun _ => rfl⟩
   ·exact hg55
   ·repeat (first | exact jeq.refl _ _ _ | refine jeq.upd rfl ?_ | refine jeq.jk rfl rfl ?_)
  ·intro g55
   refine L.gno (dj := 55) (b := _) rfl rfl g55 rfl ?_
   refine L.gno (dj := 55) (b := _) rfl rfl g55 rfl ?_
   refine L.gno (dj := 55) (b := _) rfl rfl g55 rfl ?_
   refine L.nil (thn_n ⟨rfl, Gr.refl _ _, ?_⟩)
   refine ⟨?_, fun h => h.elim⟩
   repeat (first | exact jeq.refl _ _ _ | refine jeq.upd rfl ?_ | refine jeq.jk rfl rfl ?_)
  intro J55 w55 hw j55
  have hB := hB.carry hw; have bx1 := bx1.carry hw; have bx2 := bx2.carry hw; have bx3 := bx3.carry hw; have bx4 := bx4.carry hw; have bx5 := bx5.carry hw; have bx6 := bx6.carry hw; have hA := hA.carry hw; have hb := hb.carry hw; have hu := hu.carry hw
  refine L.val (x_and rfl j55) rfl ?_
  refine L.val (x_mv (v := .bool _) rfl) rfl ?_
  refine' L.group0 1 61 61 61 60 true rfl ?_ ?_ ?_
  rotate_left 1
  ·intro g60
   have h60 := g60
   refine L.gyes' (dj := 60) (b := _) rfl rfl g60 ?_
   refine L.val (x_mv (v := .bool _) rfl) rfl ?_
   refine L.nil ?_
   refine thn_n ⟨rfl, rfl, ?_, rfl⟩
   repeat (first | exact jeq.refl _ _ _ | refine jeq.upd rfl ?_ | refine jeq.jk rfl rfl ?_)
  ·intro g60
   refine L.gno (dj := 60) (b := _) rfl rfl g60 rfl ?_
   refine L.nil (thn_n ⟨rfl, rfl, ?_⟩)
   repeat (first | exact jeq.refl _ _ _ | refine jeq.upd rfl ?_ | refine jeq.jk rfl rfl ?_)
  intro J60 j60
  refine L.val (x_and rfl j60) rfl ?_
  refine L.val (x_mv (v := .bool _) rfl) rfl ?_
  refine' L.group 6 64 69 69 63 true rfl ?_ ?_ ?_
  rotate_left 1
  ·intro g63 hg63
   have h63 := g63
   refine L.gyes' (dj := 63) (b := _) rfl rfl g63 ?_
   refine L.val (x_ldn (vs := cs23) kawake13_ag25 rfl hlu (bx6.row hlu)) rfl ?_
   refine L.gyes' (dj := 63) (b := _) rfl rfl g63 ?_
   refine L.bs (sz := 1) (cells := [S [97]]) Try.underlying22 kawake13_el9 rfl rfl rfl rfl (fun w65 bx65 hw hz65 => ?_)
   have hB := hB.carry hw; have bx1 := bx1.carry hw; have bx2 := bx2.carry hw; have bx3 := bx3.carry hw; have bx4 := bx4.carry hw; have bx5 := bx5.carry hw; have bx6 := bx6.carry hw; have hA := hA.carry hw; have hb := hb.carry hw; have hu := hu.carry hw; have hg63 := hg63.carry hw
   refine L.gyes' (dj := 63) (b := _) rfl rfl g63 ?_
   refine L.val (x_ldn (vs := _) kawake13_ag25 rfl rfl (bx3.row rfl)) rfl ?_
   refine L.gyes' (dj := 63) (b := _) rfl rfl g63 ?_
   refine L.bs (sz := 5) (cells := [.int .i64 4, S [], S [], .slice none 0 0, .slice none 0 0]) Try.underlying23 kawake13_el25 rfl rfl rfl rfl (fun w67 bx67 hw hz67 => ?_)
   have hB := hB.carry hw; have bx1 := bx1.carry hw; have bx2 := bx2.carry hw; have bx3 := bx3.carry hw; have bx4 := bx4.carry hw; have bx5 := bx5.carry hw; have bx6 := bx6.carry hw; have hA := hA.carry hw; have hb := hb.carry hw; have hu := hu.carry hw; have hg63 := hg63.carry hw; have bx65 := bx65.carry hw
   have hl := ShC.intro (A := fun _ => False) (k := 6) (of := []) (nm := []) (strs_of_box [[97]] bx65 (fun f => f) (by simp) (by simp)) (shs_of_box [leafC 4] [.mk 4 [] [] [] []] bx67 (fun f => f) (by simp) rfl (each1 (leaf _ _ 4))) (by simp) (by simp)
   refine L.gyes' (dj := 63) (b := _) rfl rfl g63 ?_
   refine L.val (x_build (cells := [.int _ _, S _, S _, .slice _ _ _, .slice _ _ _]) kawake13_si25 rfl rfl) rfl ?_
   refine L.gyes' (dj := 63) (b := _) rfl rfl g63 ?_
   refine L.ret (x_call kawake13_en27 rfl) rfl (equal07 _ gU gU (Nat.lt_succ_self _) _ _ _ _ _ hu hl) ?_
   rintro _ w69 ⟨rfl, hw⟩
   have hB := hB.carry hw; have bx1 := bx1.carry hw; have bx2 := bx2.carry hw; have bx3 := bx3.carry hw; have bx4 := bx4.carry hw; have bx5 := bx5.carry hw; have bx6 := bx6.carry hw; have hA := hA.carry hw; have hb := hb.carry hw; have hu := hu.carry hw; have hg63 := hg63.carry hw; have bx65 := bx65.carry hw; have bx67 := bx67.carry hw
   refine L.nil ?_
   refine thn_n ⟨rfl, ?_, ?_, fun _ => rfl⟩
   ·exact hg63
   ·repeat (first | exact jeq.refl _ _ _ | refine jeq.upd rfl ?_ | refine jeq.jk rfl rfl ?_)
  ·intro g63
   refine L.gno (dj := 63) (b := _) rfl rfl g63 rfl ?_
   refine L.gno (dj := 63) (b := _) rfl rfl g63 rfl ?_
   refine L.gno (dj := 63) (b := _) rfl rfl g63 rfl ?_
   refine L.gno (dj := 63) (b := _) rfl rfl g63 rfl ?_
   refine L.gno (dj := 63) (b := _) rfl rfl g63 rfl ?_
   refine L.gno (dj := 63) (b := _) rfl rfl g63 rfl ?_
   refine L.nil (thn_n ⟨rfl, Gr.refl _ _, ?_⟩)
   refine ⟨?_, fun h => h.elim⟩
   repeat (first | exact jeq.refl _ _ _ | refine jeq.upd rfl ?_ | refine jeq.jk rfl rfl ?_)
  intro J63 w63 hw j63
  have hB := hB.carry hw; have bx1 := bx1.carry hw; have bx2 := bx2.carry hw; have bx3 := bx3.carry hw; have bx4 := bx4.carry hw; have bx5 := bx5.carry hw; have bx6 := bx6.carry hw; have hA := hA.carry hw; have hb := hb.carry hw; have hu := hu.carry hw
  refine L.val (x_and rfl j63) rfl ?_
  refine L.val (x_as (v := .bool _) rfl) rfl ?_
  refine L.nil ?_
  refine thn_n ?_
  refine W.ret (fin_mk (.inr rfl) ?_)
  exact ⟨vb (by rw [v1, v2, v3, v4, v5, v6, v7, eqS_t rfl]; rfl), hB⟩
end Go.Gx
