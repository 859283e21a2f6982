/- The law GradualNears. Conditions: none. -/
import Derived.Test.YteehllhldaopjaaGreatBtRef13b
namespace Go.Gx
open Go.Proofs
theorem klawnears_ag25 : aggT Tryz.prog 25 5 = true := by kernel_rfl
theorem klawnears_en52 : Go.Proofs.Enters Tryz.prog 52 := Go.Proofs.enters_of Tryz.func52 kr_ rfl
theorem klawnears_en59 : Go.Proofs.Enters Tryz.prog 59 := Go.Proofs.enters_of Tryz.func59 kr_ rfl
theorem goes_nr {a b : Sh} : ((decide (checkS a = 0) && decide (checkS b = 0)) && nrN (SizeOf.sizeOf a + SizeOf.sizeOf b + 1) a b) = goesS true a b := by
  unfold goesS;by_cases ha : checkS a = 0
  · by_cases hb : checkS b = 0
    · rw [nr_eq _ _ _ (check_zero ha).2.2 (check_zero hb).2.2]
    · simp [hb]
  · simp [ha]
theorem near13_ok (A B : Nat → Prop) (a b : Sh) (xs ys : List Value) (w : World) (ha : ShC A w xs a) (hb : ShC B w ys b) :
    Ret Tryz.prog 20 #[.agg xs.toArray, .agg ys.toArray] w fun v w' => v = .bool (goesS true a b) ∧ Bel w w' := by
  have hla := ha.len;have hlb := hb.len;refine ret_of_W Tryz.func20 rfl (Nat.le_of_ble_eq_true rfl) (res1 rfl) ?_;have hB := Gr.refl (fun _ => False) w;refine W.seq (W.region (L.box (cs := xs) rfl rfl (fun w2 bx2 hw hz2 => ?_)));have hB := hB.carry hw; have ha := ha.carry hw; have hb := hb.carry hw;refine L.box (cs := ys) rfl rfl (fun w3 bx3 hw hz3 => ?_);have hB := hB.carry hw; have ha := ha.carry hw; have hb := hb.carry hw; have bx2 := bx2.carry hw;refine L.val (x_as (v := .bool _) rfl) rfl ?_;refine L.nil (thn_n (W.seq (W.region (L.val (x_ldn (vs := xs) klawnears_ag25 rfl hla (bx2.row hla)) rfl ?_))));refine L.ret (x_call klawnears_en52 rfl) rfl (check07 A a _ _ ha) ?_;rintro _ w6 ⟨rfl, hw⟩;have hB := hB.carry hw; have ha := ha.carry hw; have hb := hb.carry hw; have bx2 := bx2.carry hw; have bx3 := bx3.carry hw;refine L.val (x_eql rfl rfl) rfl ?_;refine L.val (x_mv (v := .bool _) rfl) rfl ?_;refine' L.group 3 9 11 11 8 true rfl ?_ ?_ ?_;rotate_left 1
  ·intro g8 hg8;have h8 := of_decide_eq_true g8;refine L.gyes' (dj := 8) (b := _) rfl rfl g8 ?_;refine L.val (x_ldn (vs := ys) klawnears_ag25 rfl hlb (bx3.row hlb)) rfl ?_;refine L.gyes' (dj := 8) (b := _) rfl rfl g8 ?_;refine L.ret (x_call klawnears_en52 rfl) rfl (check07 B b _ _ hb) ?_;rintro _ w10 ⟨rfl, hw⟩;have hB := hB.carry hw; have ha := ha.carry hw; have hb := hb.carry hw; have bx2 := bx2.carry hw; have bx3 := bx3.carry hw; have hg8 := hg8.carry hw;refine L.gyes' (dj := 8) (b := _) rfl rfl g8 ?_;refine L.val (x_eql rfl rfl) rfl ?_;refine L.nil (thn_n ⟨rfl, ?_, ?_, fun _ => rfl⟩)
   ·exact hg8
   ·repeat (first | exact jeq.refl _ _ _ | refine jeq.upd rfl ?_ | refine jeq.jk rfl rfl ?_)
  ·intro g8;(iterate 3 refine L.gno (dj := 8) (b := _) rfl rfl g8 rfl ?_);refine L.nil (thn_n ⟨rfl, Gr.refl _ _, ?_⟩);refine ⟨?_, fun h => h.elim⟩;repeat (first | exact jeq.refl _ _ _ | refine jeq.upd rfl ?_ | refine jeq.jk rfl rfl ?_)
  intro J8 w8 hw j8;have hB := hB.carry hw; have ha := ha.carry hw; have hb := hb.carry hw; have bx2 := bx2.carry hw; have bx3 := bx3.carry hw;refine L.val (x_and rfl j8) rfl ?_;refine L.val (x_mv (v := .bool _) rfl) rfl ?_;refine' L.group 3 14 16 16 13 true rfl ?_ ?_ ?_;rotate_left 1
  ·intro g13 hg13;have h13 := g13;refine L.gyes' (dj := 13) (b := _) rfl rfl g13 ?_;refine L.val (x_ldn (vs := xs) klawnears_ag25 rfl hla (bx2.row hla)) rfl ?_;refine L.gyes' (dj := 13) (b := _) rfl rfl g13 ?_;refine L.val (x_ldn (vs := ys) klawnears_ag25 rfl hlb (bx3.row hlb)) rfl ?_;refine L.gyes' (dj := 13) (b := _) rfl rfl g13 ?_;refine L.ret (x_call klawnears_en59 rfl) rfl (near13 _ a b (Nat.lt_succ_self _) (check_zero (s := a) (by simp at g13; exact g13.1)).2.2 (check_zero (s := b) (by simp at g13; exact g13.2)).2.2 A B _ _ _ ha hb) ?_;rintro _ w16 ⟨rfl, hw⟩;have hB := hB.carry hw; have ha := ha.carry hw; have hb := hb.carry hw; have bx2 := bx2.carry hw; have bx3 := bx3.carry hw; have hg13 := hg13.carry hw;refine L.nil (thn_n ⟨rfl, ?_, ?_, fun _ => rfl⟩)
   ·exact hg13
   ·repeat (first | exact jeq.refl _ _ _ | refine jeq.upd rfl ?_ | refine jeq.jk rfl rfl ?_)
  ·intro g13;(iterate 3 refine L.gno (dj := 13) (b := _) rfl rfl g13 rfl ?_);refine L.nil (thn_n ⟨rfl, Gr.refl _ _, ?_⟩);refine ⟨?_, fun h => h.elim⟩;repeat (first | exact jeq.refl _ _ _ | refine jeq.upd rfl ?_ | refine jeq.jk rfl rfl ?_)
  intro J13 w13 hw j13;have hB := hB.carry hw; have ha := ha.carry hw; have hb := hb.carry hw; have bx2 := bx2.carry hw; have bx3 := bx3.carry hw;refine L.val (x_and rfl j13) rfl ?_;refine L.val (x_as (v := .bool _) rfl) rfl ?_;refine L.nil (thn_n (W.ret (fin_mk (.inr rfl) ?_)));exact ⟨vb goes_nr, hB⟩
end Go.Gx
