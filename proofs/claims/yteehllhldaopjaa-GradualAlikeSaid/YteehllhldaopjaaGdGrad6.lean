/- Between and Beside: the program's. Conditions: none. -/
import Derived.Test.YteehllhldaopjaaGdGrad5
namespace Go.Gx
open Go.Proofs
theorem kgrad6_ag25 : aggT Try.prog 25 5 = true := by kernel_rfl
theorem kgrad6_en113 : Go.Proofs.Enters Try.prog 113 := Go.Proofs.enters_of Try.func113 (by kernel_rfl) rfl
theorem kgrad6_en29 : Go.Proofs.Enters Try.prog 29 := Go.Proofs.enters_of Try.func29 (by kernel_rfl) rfl
theorem kgrad6_en33 : Go.Proofs.Enters Try.prog 33 := Go.Proofs.enters_of Try.func33 (by kernel_rfl) rfl
theorem kgrad6_en55 : Go.Proofs.Enters Try.prog 55 := Go.Proofs.enters_of Try.func55 (by kernel_rfl) rfl
theorem kgrad6_en84 : Go.Proofs.Enters Try.prog 84 := Go.Proofs.enters_of Try.func84 (by kernel_rfl) rfl
theorem kgrad6_si25 : structInfo Try.prog 25 = some ([(0, 1), (1, 1), (2, 1), (3, 1), (4, 1)], [Value.int .i64 0, S [], S [], Value.slice none 0 0, Value.slice none 0 0]) := by kernel_rfl
theorem kgrad6_zr25 : (Try.prog.info? 25).bind (·.zero) = some (Value.agg [Value.int .i64 0, S [], S [], Value.slice none 0 0, Value.slice none 0 0].toArray) := by kernel_rfl
theorem resST {P : Program} {fn : Func} {t t2 : Tmp} {T : TypeId} {E : Env} {w : World} {b n : Nat} {T' : TypeId} {cs : List Value} {v : Value} (hr : fn.results = #[.cell t T, .tmp t2]) (ht : aggT P T n = true) (hE : E t = .pointer (some ⟨b, 0, none⟩)) (hE2 : E t2 = v) (hb : Box w b T' cs) (hl : cs.length = n) :
    ∀ a : Array Value, (∀ t, a.getD t undef = E t) → (results fn a).run P w = .ok (.tuple #[.agg cs.toArray, v]) w := by
  intro a ha
  have hg : a.getD t undef = .pointer (some ⟨b, 0, none⟩) := by rw [ha, hE]
  have hg2 : a.getD t2 undef = v := by rw [ha, hE2]
  have hload : (loadVar T ⟨b, 0, none⟩).run P w = .ok (.agg cs.toArray) w := by
    unfold aggT at ht
    simp only [Bool.and_eq_true, beq_iff_eq] at ht
    obtain ⟨h1, h2⟩ := ht
    cases hu : P.underlying T with
    | none => simp [hu] at h1
    | some d =>
      rw [hu] at h1
      exact run_loadVar_row w b T' T cs.toArray (0, 0) d hb hu (by cases d <;> simp_all) (by rw [h2]; simp [hl])
  rw [Array.getD_eq_getD_getElem?] at hg hg2
  simp [results, hr, hg, hg2, asAddr, hload]
def zeroS : Sh := .mk 0 [] [] [] []
noncomputable def madeS (up : Bool) (a b : Sh) : Sh × Bool :=
  if goesS true a b = true ∧ checkS (witN (SizeOf.sizeOf a + SizeOf.sizeOf b + 1) up a b) = 0 then ((witN (SizeOf.sizeOf a + SizeOf.sizeOf b + 1) up a b).sort, true) else (zeroS, false)
theorem goes_open {lo : Bool} {a b : Sh} (h : goesS lo a b = true) : checkS a = 0 ∧ checkS b = 0 ∧ fitsN lo (SizeOf.sizeOf a + SizeOf.sizeOf b + 1) a b = true := by
  unfold goesS at h
  simp only [Bool.and_eq_true, decide_eq_true_eq] at h
  exact ⟨h.1.1, h.1.2, h.2⟩
theorem made_ok (A B : Nat → Prop) (up : Bool) (a b : Sh) (xs ys : List Value) (w : World) (ha : ShC A w xs a) (hb : ShC B w ys b) :
    Ret Try.prog 84 #[.agg xs.toArray, .agg ys.toArray, .bool up] w fun v w' => ∃ cs', v = .tuple #[.agg cs'.toArray, .bool (madeS up a b).2] ∧ ShC (fun k => k < w.heap.size ∧ A k ∧ B k) w' cs' (madeS up a b).1 ∧ Bel w w' := by
  have hla := ha.len
  have hlb := hb.len
  have hz : ∀ (C : Nat → Prop) (w : World), ShC C w [.int .i64 0, S [], S [], .slice none 0 0, .slice none 0 0] zeroS := fun C w => ShC.intro (StrsAt.nil _ _ _ _ (by simp)) (ShsAt.nil _ _ _ _ (by simp)) (by simp) (by simp)
  have ha := ha.up
  have hb := hb.up
  refine ret_of_W_R Try.func84 rfl (Nat.le_of_ble_eq_true rfl) ?_
  have hB := Gr.refl (fun _ => False) w
  refine W.seq ?_
  refine W.region ?_
  refine L.box (cs := xs) rfl rfl (fun w3 bx3 hw hz3 => ?_)
  have hB := hB.carry hw; have ha := ha.carry hw; have hb := hb.carry hw
  refine L.box (cs := ys) rfl rfl (fun w4 bx4 hw hz4 => ?_)
  have hB := hB.carry hw; have ha := ha.carry hw; have hb := hb.carry hw; have bx3 := bx3.carry hw
  have hsz6b := hB.size
  refine L.alloc (cs := [Value.int .i64 0, S [], S [], Value.slice none 0 0, Value.slice none 0 0]) kgrad6_zr25 rfl rfl (fun w6 bx6 hw hz6 => ?_)
  have hB := hB.carry hw; have ha := ha.carry hw; have hb := hb.carry hw; have bx3 := bx3.carry hw; have bx4 := bx4.carry hw
  have hsz6 := hB.size
  refine L.val (x_as (v := .bool _) rfl) rfl ?_
  refine L.nil ?_
  refine thn_n ?_
  refine W.seq ?_
  refine W.seq ?_
  refine W.region ?_
  refine L.val (x_ldn (vs := xs) kgrad6_ag25 rfl hla (bx3.row hla)) rfl ?_
  refine L.val (x_ldn (vs := ys) kgrad6_ag25 rfl hlb (bx4.row hlb)) rfl ?_
  refine L.ret (x_call kgrad6_en55 rfl) rfl (near_ok _ _ a b _ _ _ ha hb) ?_
  rintro _ w11 ⟨rfl, hw⟩
  have hB := hB.carry hw; have ha := ha.carry hw; have hb := hb.carry hw; have bx3 := bx3.carry hw; have bx4 := bx4.carry hw; have bx6 := bx6.carry hw
  refine L.val (x_not rfl) rfl ?_
  refine L.nil ?_
  refine thn_n ?_
  refine W.cond (b := _) rfl (fun g12 => ?_) (fun g12 => ?_)
  ·have h12 := (not_t g12)
   refine W.seq ?_
   refine W.region ?_
   refine L.val (x_build (cells := [.int _ _, S _, S _, .slice _ _ _, .slice _ _ _]) kgrad6_si25 rfl rfl) rfl ?_
   refine L.setRow kgrad6_ag25 rfl rfl bx6 rfl rfl (by simp [Value.oneCell', S]) (fun wl10 bx6 hw hzl10 => ?_)
   have hsz := hB.size
   have hB := hB.set hw (by omega); have ha := ha.carryR hw (fun j e => .inr (by have e : j = _ := e; omega)); have hb := hb.carryR hw (fun j e => .inr (by have e : j = _ := e; omega)); have bx3 := bx3.carryR hw (by omega); have bx4 := bx4.carryR hw (by omega)
   refine L.val (x_as (v := .bool _) rfl) rfl ?_
   refine L.nil ?_
   refine thn_n ?_
   refine W.ret (thn_r (finR_mk (.inr rfl) ?_))
   have e : madeS up a b = (zeroS, false) := by unfold madeS; rw [if_neg (by rw [h12]; simp)]
   refine ⟨_, resST (v := .bool false) rfl kgrad6_ag25 rfl rfl bx6 rfl, [.int .i64 0, S [], S [], .slice none 0 0, .slice none 0 0], by rw [e], by rw [e]; exact hz _ _, hB⟩
  ·have h12 := (not_f g12)
   have hgo := goes_open h12
   have c1 := check_zero hgo.1
   have c2 := check_zero hgo.2.1
   refine W.skip ?_
   refine thn_n ?_
   refine W.seq ?_
   refine W.region ?_
   refine L.val (x_ldn (vs := xs) kgrad6_ag25 rfl hla (bx3.row hla)) rfl ?_
   refine L.val (x_ldn (vs := ys) kgrad6_ag25 rfl hlb (bx4.row hlb)) rfl ?_
   refine L.val (x_mv (v := .bool _) rfl) rfl ?_
   have hx6c := bx6.lt
   refine L.ret (x_call kgrad6_en113 rfl) rfl (witness_ok _ up a b (Nat.lt_succ_self _) c1.1 c2.1 c1.2.2 c2.2.2 hgo.2.2 _ _ xs ys _ ha hb) ?_
   rintro _ w17 ⟨cs17, rfl, hs, hw⟩
   have hB := hB.carry hw; have ha := ha.carry hw; have hb := hb.carry hw; have bx3 := bx3.carry hw; have bx4 := bx4.carry hw; have bx6 := bx6.carry hw
   have hls := hs.len
   have hs := hs.up
   have hx6 := bx6.lt
   have hz17 := hB.size
   refine L.alloc (cs := [Value.int .i64 0, S [], S [], Value.slice none 0 0, Value.slice none 0 0]) kgrad6_zr25 rfl rfl (fun w8 bx8 hw hz8 => ?_)
   have hB := hB.carry hw; have ha := ha.carry hw; have hb := hb.carry hw; have bx3 := bx3.carry hw; have bx4 := bx4.carry hw; have bx6 := bx6.carry hw; have hs := hs.carry hw
   refine L.setRow kgrad6_ag25 rfl rfl bx8 rfl hls hs.one (fun wl17 bx8 hw hzl17 => ?_)
   have hsz := hB.size
   have hB := hB.set hw (by omega); have ha := ha.carryR hw (fun j e => .inr (by have e : j = _ := e; omega)); have hb := hb.carryR hw (fun j e => .inr (by have e : j = _ := e; omega)); have bx3 := bx3.carryR hw (by omega); have bx4 := bx4.carryR hw (by omega); have bx6 := bx6.carryR hw (by omega); have hs := hs.carryR hw (fun j e => by have e : j = _ := e; first | exact .inr (by omega) | exact .inl ⟨by omega, .inr (by omega), .inr (by omega)⟩)
   refine L.nil ?_
   refine thn_n ?_
   refine W.seq ?_
   refine W.seq ?_
   refine W.region ?_
   refine L.val (x_ldn (vs := cs17) kgrad6_ag25 rfl hls (bx8.row hls)) rfl ?_
   refine L.ret (x_call kgrad6_en29 rfl) rfl (checkL _ _ _ _ hs) ?_
   rintro _ w19 ⟨rfl, hw⟩
   have hB := hB.carry hw; have ha := ha.carry hw; have hb := hb.carry hw; have bx3 := bx3.carry hw; have bx4 := bx4.carry hw; have bx6 := bx6.carry hw; have hs := hs.carry hw; have bx8 := bx8.carry hw
   refine L.val (x_neq rfl rfl) rfl ?_
   refine L.nil ?_
   refine thn_n ?_
   refine W.cond (b := _) rfl (fun g20 => ?_) (fun g20 => ?_)
   ·have h20 := dne_t g20
    refine W.seq ?_
    refine W.region ?_
    refine L.val (x_build (cells := [.int _ _, S _, S _, .slice _ _ _, .slice _ _ _]) kgrad6_si25 rfl rfl) rfl ?_
    refine L.setRow kgrad6_ag25 rfl rfl bx6 rfl rfl (by simp [Value.oneCell', S]) (fun wl22 bx6 hw hzl22 => ?_)
    have hsz := hB.size
    have hB := hB.set hw (by omega); have ha := ha.carryR hw (fun j e => .inr (by have e : j = _ := e; omega)); have hb := hb.carryR hw (fun j e => .inr (by have e : j = _ := e; omega)); have bx3 := bx3.carryR hw (by omega); have bx4 := bx4.carryR hw (by omega); have hs := hs.carryR hw (fun j e => by have e : j = _ := e; first | exact .inr (by omega) | exact .inl ⟨by omega, .inr (by omega), .inr (by omega)⟩); have bx8 := bx8.carryR hw (by omega)
    refine L.val (x_as (v := .bool _) rfl) rfl ?_
    refine L.nil ?_
    refine thn_n ?_
    refine W.ret (thn_r (finR_mk (.inr rfl) ?_))
    have e : madeS up a b = (zeroS, false) := by unfold madeS; rw [if_neg (fun h => h20 h.2)]
    refine ⟨_, resST (v := .bool false) rfl kgrad6_ag25 rfl rfl bx6 rfl, [.int .i64 0, S [], S [], .slice none 0 0, .slice none 0 0], by rw [e], by rw [e]; exact hz _ _, hB⟩
   ·have h20 := dne_f g20
    refine W.skip ?_
    refine thn_n ?_
    refine W.seq ?_
    refine W.region ?_
    refine L.val (x_ldn (vs := cs17) kgrad6_ag25 rfl hls (bx8.row hls)) rfl ?_
    have hx6a := bx6.lt
    refine L.ret (x_call kgrad6_en33 rfl) rfl (sort_okL _ _ _ _ hs) ?_
    rintro _ w23 ⟨cs23, rfl, ht, hw⟩
    have hB := hB.carry hw; have ha := ha.carry hw; have hb := hb.carry hw; have bx3 := bx3.carry hw; have bx4 := bx4.carry hw; have bx6 := bx6.carry hw; have hs := hs.carry hw; have bx8 := bx8.carry hw
    have hlt := ht.len
    have hsz23 := hB.size
    have hx6b := bx6.lt
    refine L.setRow kgrad6_ag25 rfl rfl bx6 rfl hlt ht.one (fun wl26 bx6 hw hzl26 => ?_)
    have hsz := hB.size
    have hB := hB.set hw (by omega); have ha := ha.carryR hw (fun j e => .inr (by have e : j = _ := e; omega)); have hb := hb.carryR hw (fun j e => .inr (by have e : j = _ := e; omega)); have bx3 := bx3.carryR hw (by omega); have bx4 := bx4.carryR hw (by omega); have hs := hs.carryR hw (fun j e => by have e : j = _ := e; first | exact .inr (by omega) | exact .inl ⟨by omega, .inr (by omega), .inr (by omega)⟩); have bx8 := bx8.carryR hw (by omega); have ht := ht.carryR hw (fun j e => by have e : j = _ := e; exact ⟨.inl ⟨by omega, .inr (by omega), .inr (by omega)⟩, by omega⟩)
    refine L.val (x_as (v := .bool _) rfl) rfl ?_
    refine L.nil ?_
    refine thn_n ?_
    refine W.ret (finR_mk (.inr rfl) ?_)
    have e : madeS up a b = ((witN (SizeOf.sizeOf a + SizeOf.sizeOf b + 1) up a b).sort, true) := by unfold madeS; rw [if_pos ⟨h12, h20⟩]
    have e2 : sortS (witN (SizeOf.sizeOf a + SizeOf.sizeOf b + 1) up a b) = (witN (SizeOf.sizeOf a + SizeOf.sizeOf b + 1) up a b).sort := by unfold sortS; rw [if_pos h20]
    rw [e2] at ht
    refine ⟨_, resST (v := .bool true) rfl kgrad6_ag25 rfl rfl bx6 hlt, cs23, by rw [e], by rw [e]; exact ht.mono (fun k _ h => ⟨.inl ⟨by omega, .inl h.2.1, .inl h.2.2⟩, by omega⟩), hB⟩
theorem between_ok (A B : Nat → Prop) (a b : Sh) (xs ys : List Value) (w : World) (ha : ShC A w xs a) (hb : ShC B w ys b) :
    Ret Try.prog 58 #[.agg xs.toArray, .agg ys.toArray] w fun v w' => ∃ cs', v = .tuple #[.agg cs'.toArray, .bool (madeS true a b).2] ∧ ShC (fun k => k < w.heap.size ∧ A k ∧ B k) w' cs' (madeS true a b).1 ∧ Bel w w' := by
  have hla := ha.len
  have hlb := hb.len
  have ha := ha.up
  have hb := hb.up
  refine ret_of_W_R Try.func58 rfl (Nat.le_of_ble_eq_true rfl) ?_
  have hB := Gr.refl (fun _ => False) w
  refine W.seq ?_
  refine W.region ?_
  refine L.box (cs := xs) rfl rfl (fun w2 bx2 hw hz2 => ?_)
  have hB := hB.carry hw; have ha := ha.carry hw; have hb := hb.carry hw
  refine L.box (cs := ys) rfl rfl (fun w3 bx3 hw hz3 => ?_)
  have hB := hB.carry hw; have ha := ha.carry hw; have hb := hb.carry hw; have bx2 := bx2.carry hw
  have hsz4b := hB.size
  refine L.alloc (cs := [Value.int .i64 0, S [], S [], Value.slice none 0 0, Value.slice none 0 0]) kgrad6_zr25 rfl rfl (fun w4 bx4 hw hz4 => ?_)
  have hB := hB.carry hw; have ha := ha.carry hw; have hb := hb.carry hw; have bx2 := bx2.carry hw; have bx3 := bx3.carry hw
  have hsz4 := hB.size
  have hx4 := bx4.lt
  refine L.val (x_as (v := .bool _) rfl) rfl ?_
  refine L.nil ?_
  refine thn_n ?_
  refine W.seq ?_
  refine W.region ?_
  refine L.val (x_ldn (vs := xs) kgrad6_ag25 rfl hla (bx2.row hla)) rfl ?_
  refine L.val (x_ldn (vs := ys) kgrad6_ag25 rfl hlb (bx3.row hlb)) rfl ?_
  have hsz8 := hB.size
  refine L.ret (x_call kgrad6_en84 rfl) rfl (made_ok _ _ true a b xs ys _ ha hb) ?_
  rintro _ w8 ⟨cs8, rfl, ht, hw⟩
  have hB := hB.carry hw; have bx2 := bx2.carry hw; have bx3 := bx3.carry hw; have bx4 := bx4.carry hw; have ha := ha.carry hw; have hb := hb.carry hw
  have hlt := ht.len
  have ht := ht.up
  refine L.val (x_ext (v := _) rfl rfl) rfl ?_
  refine L.val (x_ext (v := .bool _) rfl rfl) rfl ?_
  refine L.setRow kgrad6_ag25 rfl rfl bx4 rfl hlt ht.one (fun wl10 bx4 hw hzl10 => ?_)
  have hsz := hB.size
  have hB := hB.set hw (by omega); have bx2 := bx2.carryR hw (by omega); have bx3 := bx3.carryR hw (by omega); have ht := ht.carryR hw (fun j e => by have e : j = _ := e; exact .inl ⟨by omega, .inr (by omega), .inr (by omega)⟩)
  refine L.val (x_as (v := .bool _) rfl) rfl ?_
  refine L.nil ?_
  refine thn_n ?_
  refine W.ret (finR_mk (.inr rfl) ?_)
  exact ⟨_, resST (v := .bool (madeS true a b).2) rfl kgrad6_ag25 rfl rfl bx4 hlt, cs8, rfl, ht.mono (fun k _ h => .inl ⟨by omega, .inl h.2.1, .inl h.2.2⟩), hB⟩
theorem beside_ok (A B : Nat → Prop) (a b : Sh) (xs ys : List Value) (w : World) (ha : ShC A w xs a) (hb : ShC B w ys b) :
    Ret Try.prog 59 #[.agg xs.toArray, .agg ys.toArray] w fun v w' => ∃ cs', v = .tuple #[.agg cs'.toArray, .bool (madeS false a b).2] ∧ ShC (fun k => k < w.heap.size ∧ A k ∧ B k) w' cs' (madeS false a b).1 ∧ Bel w w' := by
  have hla := ha.len
  have hlb := hb.len
  have ha := ha.up
  have hb := hb.up
  refine ret_of_W_R Try.func59 rfl (Nat.le_of_ble_eq_true rfl) ?_
  have hB := Gr.refl (fun _ => False) w
  refine W.seq ?_
  refine W.region ?_
  refine L.box (cs := xs) rfl rfl (fun w2 bx2 hw hz2 => ?_)
  have hB := hB.carry hw; have ha := ha.carry hw; have hb := hb.carry hw
  refine L.box (cs := ys) rfl rfl (fun w3 bx3 hw hz3 => ?_)
  have hB := hB.carry hw; have ha := ha.carry hw; have hb := hb.carry hw; have bx2 := bx2.carry hw
  have hsz4b := hB.size
  refine L.alloc (cs := [Value.int .i64 0, S [], S [], Value.slice none 0 0, Value.slice none 0 0]) kgrad6_zr25 rfl rfl (fun w4 bx4 hw hz4 => ?_)
  have hB := hB.carry hw; have ha := ha.carry hw; have hb := hb.carry hw; have bx2 := bx2.carry hw; have bx3 := bx3.carry hw
  have hsz4 := hB.size
  have hx4 := bx4.lt
  refine L.val (x_as (v := .bool _) rfl) rfl ?_
  refine L.nil ?_
  refine thn_n ?_
  refine W.seq ?_
  refine W.region ?_
  refine L.val (x_ldn (vs := xs) kgrad6_ag25 rfl hla (bx2.row hla)) rfl ?_
  refine L.val (x_ldn (vs := ys) kgrad6_ag25 rfl hlb (bx3.row hlb)) rfl ?_
  have hsz8 := hB.size
  refine L.ret (x_call kgrad6_en84 rfl) rfl (made_ok _ _ false a b xs ys _ ha hb) ?_
  rintro _ w8 ⟨cs8, rfl, ht, hw⟩
  have hB := hB.carry hw; have bx2 := bx2.carry hw; have bx3 := bx3.carry hw; have bx4 := bx4.carry hw; have ha := ha.carry hw; have hb := hb.carry hw
  have hlt := ht.len
  have ht := ht.up
  refine L.val (x_ext (v := _) rfl rfl) rfl ?_
  refine L.val (x_ext (v := .bool _) rfl rfl) rfl ?_
  refine L.setRow kgrad6_ag25 rfl rfl bx4 rfl hlt ht.one (fun wl10 bx4 hw hzl10 => ?_)
  have hsz := hB.size
  have hB := hB.set hw (by omega); have bx2 := bx2.carryR hw (by omega); have bx3 := bx3.carryR hw (by omega); have ht := ht.carryR hw (fun j e => by have e : j = _ := e; exact .inl ⟨by omega, .inr (by omega), .inr (by omega)⟩)
  refine L.val (x_as (v := .bool _) rfl) rfl ?_
  refine L.nil ?_
  refine thn_n ?_
  refine W.ret (finR_mk (.inr rfl) ?_)
  exact ⟨_, resST (v := .bool (madeS false a b).2) rfl kgrad6_ag25 rfl rfl bx4 hlt, cs8, rfl, ht.mono (fun k _ h => .inl ⟨by omega, .inl h.2.1, .inl h.2.2⟩), hB⟩
end Go.Gx
