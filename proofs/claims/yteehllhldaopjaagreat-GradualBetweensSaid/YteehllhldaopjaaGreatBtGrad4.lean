/- Near and Alike. Conditions: none. -/
import Derived.Test.YteehllhldaopjaaGreatBtGrad3
import Derived.Test.YteehllhldaopjaaGreatBtSort3
import Derived.Test.YteehllhldaopjaaGreatBtFree
namespace Go.Gx
open Go.Proofs
theorem kgrad4_ag25 : aggT Tryz.prog 25 5 = true := by kernel_rfl
theorem kgrad4_en106 : Go.Proofs.Enters Tryz.prog 106 := Go.Proofs.enters_of Tryz.func106 kr_ rfl
theorem kgrad4_en111 : Go.Proofs.Enters Tryz.prog 111 := Go.Proofs.enters_of Tryz.func111 kr_ rfl
theorem kgrad4_en50 : Go.Proofs.Enters Tryz.prog 50 := Go.Proofs.enters_of Tryz.func50 kr_ rfl
theorem kgrad4_en54 : Go.Proofs.Enters Tryz.prog 54 := Go.Proofs.enters_of Tryz.func54 kr_ rfl
theorem kgrad4_en55 : Go.Proofs.Enters Tryz.prog 55 := Go.Proofs.enters_of Tryz.func55 kr_ rfl
theorem kgrad4_en56 : Go.Proofs.Enters Tryz.prog 56 := Go.Proofs.enters_of Tryz.func56 kr_ rfl
theorem kgrad4_en58 : Go.Proofs.Enters Tryz.prog 58 := Go.Proofs.enters_of Tryz.func58 kr_ rfl
theorem kgrad4_mixed : Tryz.prog.follows .mixedOrders = true := by kernel_rfl
theorem both_ok (A B : Nat → Prop) (a b : Sh) (xs ys : List Value) (w : World) (ha : ShC A w xs a) (hb : ShC B w ys b) :
    Ret Tryz.prog 54 #[.agg xs.toArray, .agg ys.toArray] w fun v w' => v = .bool (decide (checkS a = 0) && decide (checkS b = 0)) ∧ Bel w w' := by
  have hla := ha.len;have hlb := hb.len;refine ret_of_W Tryz.func54 rfl (Nat.le_of_ble_eq_true rfl) (res1 rfl) ?_;have hB := Gr.refl (fun _ => False) w;refine W.seq (W.region (L.box (cs := xs) rfl rfl (fun w2 bx2 hw hz2 => ?_)));have hB := hB.carry hw; have ha := ha.carry hw; have hb := hb.carry hw;refine L.box (cs := ys) rfl rfl (fun w3 bx3 hw hz3 => ?_);have hB := hB.carry hw; have ha := ha.carry hw; have hb := hb.carry hw; have bx2 := bx2.carry hw;refine L.val (x_as (v := .bool _) rfl) rfl ?_;refine L.nil (thn_n (W.seq (W.region (L.val (x_ldn (vs := xs) kgrad4_ag25 rfl hla (bx2.row hla)) rfl ?_))));refine L.ret (x_call kgrad4_en50 rfl) rfl (checkL A a _ _ ha) ?_;rintro _ w6 ⟨rfl, hw⟩;have hB := hB.carry hw; have ha := ha.carry hw; have hb := hb.carry hw; have bx2 := bx2.carry hw; have bx3 := bx3.carry hw;refine L.val (x_eql rfl rfl) rfl ?_;refine L.val (x_mv (v := .bool _) rfl) rfl ?_;refine' L.group 3 9 11 11 8 true rfl ?_ ?_ ?_;rotate_left 1
  ·intro g8 hg8;have h8 := of_decide_eq_true g8;refine L.gyes' (dj := 8) (b := _) rfl rfl g8 ?_;refine L.val (x_ldn (vs := ys) kgrad4_ag25 rfl hlb (bx3.row hlb)) rfl ?_;refine L.gyes' (dj := 8) (b := _) rfl rfl g8 ?_;refine L.ret (x_call kgrad4_en50 rfl) rfl (checkL B b _ _ hb) ?_;rintro _ w10 ⟨rfl, hw⟩;have hB := hB.carry hw; have ha := ha.carry hw; have hb := hb.carry hw; have bx2 := bx2.carry hw; have bx3 := bx3.carry hw; have hg8 := hg8.carry hw;refine L.gyes' (dj := 8) (b := _) rfl rfl g8 ?_;refine L.val (x_eql rfl rfl) rfl ?_;refine L.nil (thn_n ⟨rfl, ?_, ?_, fun _ => rfl⟩)
   ·exact hg8
   ·repeat (first | exact jeq.refl _ _ _ | refine jeq.upd rfl ?_ | refine jeq.jk rfl rfl ?_)
  ·intro g8;(iterate 3 refine L.gno (dj := 8) (b := _) rfl rfl g8 rfl ?_);refine L.nil (thn_n ⟨rfl, Gr.refl _ _, ?_⟩);refine ⟨?_, fun h => h.elim⟩;repeat (first | exact jeq.refl _ _ _ | refine jeq.upd rfl ?_ | refine jeq.jk rfl rfl ?_)
  intro J8 w8 hw j8;have hB := hB.carry hw; have ha := ha.carry hw; have hb := hb.carry hw; have bx2 := bx2.carry hw; have bx3 := bx3.carry hw;refine L.val (x_and rfl j8) rfl ?_;refine L.val (x_as (v := .bool _) rfl) rfl ?_;refine L.nil (thn_n (W.ret (fin_mk (.inr rfl) ?_)));exact ⟨rfl, hB⟩
noncomputable def goesS (lo : Bool) (a b : Sh) : Bool := (decide (checkS a = 0) && decide (checkS b = 0)) && fitsN lo (SizeOf.sizeOf a + SizeOf.sizeOf b + 1) a b
theorem near_ok (A B : Nat → Prop) (a b : Sh) (xs ys : List Value) (w : World) (ha : ShC A w xs a) (hb : ShC B w ys b) :
    Ret Tryz.prog 19 #[.agg xs.toArray, .agg ys.toArray] w fun v w' => v = .bool (goesS true a b) ∧ Bel w w' := by
  have hla := ha.len;have hlb := hb.len;refine ret_of_W Tryz.func19 rfl (Nat.le_of_ble_eq_true rfl) (res1 rfl) ?_;have hB := Gr.refl (fun _ => False) w;refine W.seq (W.region (L.box (cs := xs) rfl rfl (fun w2 bx2 hw hz2 => ?_)));have hB := hB.carry hw; have ha := ha.carry hw; have hb := hb.carry hw;refine L.box (cs := ys) rfl rfl (fun w3 bx3 hw hz3 => ?_);have hB := hB.carry hw; have ha := ha.carry hw; have hb := hb.carry hw; have bx2 := bx2.carry hw;refine L.val (x_as (v := .bool _) rfl) rfl ?_;refine L.nil (thn_n (W.seq (W.drawF 10 kgrad4_mixed (fun wF5 hB0 => ?_))));refine LAC.takeN (i := 0) rfl kr_ kr_ kr_ kr_ (fun w hw => x_ldn (vs := xs) kgrad4_ag25 rfl hla (hw.keepRow hla (bx2.row hla))) rfl ?_;refine LAC.takeN (i := 1) rfl kr_ kr_ kr_ kr_ (fun w hw => x_ldn (vs := ys) kgrad4_ag25 rfl hlb (hw.keepRow hlb (bx3.row hlb))) rfl ?_;refine LAC.step (rs := [2]) (fun _ => hB0) kr_ (by simp) ⟨⟨_, rfl, ?_⟩, trivial⟩;refine L.ret (x_call kgrad4_en54 rfl) rfl (both_ok A B a b _ _ _ (ha.carry hB0) (hb.carry hB0)) ?_;rintro _ w7 ⟨rfl, hw⟩;have hB0 := hB0.carry hw;refine L.nil (thn_n (LAC.takeN (i := 3) rfl kr_ kr_ kr_ kr_ (fun w hw => x_mv (v := .bool _) rfl) rfl ?_));refine LAC.split (dj := 8) (b := _) rfl (fun g8 => ?_) (fun g8 => ?_)
  ·have h8 := g8;have hc : checkS a = 0 ∧ checkS b = 0 := by simpa using g8
   have c1 := check_zero hc.1;have c2 := check_zero hc.2;refine LAC.takeG (i := 5) rfl kr_ kr_ kr_ kr_ (dj := 8) (b := _) rfl rfl g8 (fun w hw => x_ldn (vs := xs) kgrad4_ag25 rfl hla (hw.keepRow hla (bx2.row hla))) rfl ?_;refine LAC.takeG (i := 6) rfl kr_ kr_ kr_ kr_ (dj := 8) (b := _) rfl rfl g8 (fun w hw => x_ldn (vs := ys) kgrad4_ag25 rfl hlb (hw.keepRow hlb (bx3.row hlb))) rfl ?_;refine LAC.step (rs := [4]) (fun _ => hB0) kr_ (by simp) ⟨⟨_, rfl, ?_⟩, trivial⟩;refine L.gyes' (dj := 8) (b := _) rfl rfl g8 ?_;refine L.ret (x_call kgrad4_en58 rfl) rfl (loose_ok _) ?_;rintro _ w9 ⟨⟨rfl, hbr⟩, hw⟩;have hB0 := hB0.carry hw;refine L.nil (thn_n (LAC.step (rs := [7]) (fun _ => hB0) kr_ (by simp) ⟨⟨_, rfl, ?_⟩, trivial⟩));refine L.gyes' (dj := 8) (b := _) rfl rfl g8 ?_;refine L.ret (x_call kgrad4_en56 rfl) rfl (fitsG_ok true 111 kgrad4_en111 loose_fn _ a b (Nat.lt_succ_self _) c1.1 c2.1 c1.2.2 c2.2.2 A B _ _ _ _ (ha.carry hB0) (hb.carry hB0) hbr) ?_;rintro _ w12 ⟨rfl, hw⟩;have hB0 := hB0.carry hw;refine L.nil (thn_n (LAC.takeN (i := 8) rfl kr_ kr_ kr_ kr_ (fun w hw => x_pick_t (v := .bool _) (congrArg Value.bool g8) rfl) rfl ?_));refine LAC.takeN (i := 9) rfl kr_ kr_ kr_ kr_ (fun w hw => x_as (v := .bool _) rfl) rfl ?_;refine LAC.doneF kr_ hB0 ?_;have hB := hB.carry hB0; have ha := ha.carry hB0; have hb := hb.carry hB0; have bx2 := bx2.carry hB0; have bx3 := bx3.carry hB0;refine thn_n (W.ret (fin_mk (.inr rfl) ?_));exact ⟨vb (by unfold goesS; rw [g8]; rfl), hB⟩
  ·have h8 := g8;refine LAC.takeU (i := 4) rfl kr_ kr_ kr_ kr_ (dj := 8) (b := _) rfl rfl g8 rfl ?_;refine LAC.takeU (i := 5) rfl kr_ kr_ kr_ kr_ (dj := 8) (b := _) rfl rfl g8 rfl ?_;refine LAC.takeU (i := 6) rfl kr_ kr_ kr_ kr_ (dj := 8) (b := _) rfl rfl g8 rfl ?_;refine LAC.takeU (i := 7) rfl kr_ kr_ kr_ kr_ (dj := 8) (b := _) rfl rfl g8 rfl ?_;refine LAC.takeN (i := 8) rfl kr_ kr_ kr_ kr_ (fun w hw => x_pick_f (v := .bool _) (congrArg Value.bool g8) rfl) rfl ?_;refine LAC.takeN (i := 9) rfl kr_ kr_ kr_ kr_ (fun w hw => x_as (v := .bool _) rfl) rfl ?_;refine LAC.doneF kr_ hB0 ?_;have hB := hB.carry hB0; have ha := ha.carry hB0; have hb := hb.carry hB0; have bx2 := bx2.carry hB0; have bx3 := bx3.carry hB0;refine thn_n (W.ret (fin_mk (.inr rfl) ?_));exact ⟨vb (by unfold goesS; rw [g8]; rfl), hB⟩
theorem alike_ok (A B : Nat → Prop) (a b : Sh) (xs ys : List Value) (w : World) (ha : ShC A w xs a) (hb : ShC B w ys b) :
    Ret Tryz.prog 17 #[.agg xs.toArray, .agg ys.toArray] w fun v w' => v = .bool (goesS false a b) ∧ Bel w w' := by
  have hla := ha.len;have hlb := hb.len;refine ret_of_W Tryz.func17 rfl (Nat.le_of_ble_eq_true rfl) (res1 rfl) ?_;have hB := Gr.refl (fun _ => False) w;refine W.seq (W.region (L.box (cs := xs) rfl rfl (fun w2 bx2 hw hz2 => ?_)));have hB := hB.carry hw; have ha := ha.carry hw; have hb := hb.carry hw;refine L.box (cs := ys) rfl rfl (fun w3 bx3 hw hz3 => ?_);have hB := hB.carry hw; have ha := ha.carry hw; have hb := hb.carry hw; have bx2 := bx2.carry hw;refine L.val (x_as (v := .bool _) rfl) rfl ?_;refine L.nil (thn_n (W.seq (W.drawF 10 kgrad4_mixed (fun wF5 hB0 => ?_))));refine LAC.takeN (i := 0) rfl kr_ kr_ kr_ kr_ (fun w hw => x_ldn (vs := xs) kgrad4_ag25 rfl hla (hw.keepRow hla (bx2.row hla))) rfl ?_;refine LAC.takeN (i := 1) rfl kr_ kr_ kr_ kr_ (fun w hw => x_ldn (vs := ys) kgrad4_ag25 rfl hlb (hw.keepRow hlb (bx3.row hlb))) rfl ?_;refine LAC.step (rs := [2]) (fun _ => hB0) kr_ (by simp) ⟨⟨_, rfl, ?_⟩, trivial⟩;refine L.ret (x_call kgrad4_en54 rfl) rfl (both_ok A B a b _ _ _ (ha.carry hB0) (hb.carry hB0)) ?_;rintro _ w7 ⟨rfl, hw⟩;have hB0 := hB0.carry hw;refine L.nil (thn_n (LAC.takeN (i := 3) rfl kr_ kr_ kr_ kr_ (fun w hw => x_mv (v := .bool _) rfl) rfl ?_));refine LAC.split (dj := 8) (b := _) rfl (fun g8 => ?_) (fun g8 => ?_)
  ·have h8 := g8;have hc : checkS a = 0 ∧ checkS b = 0 := by simpa using g8
   have c1 := check_zero hc.1;have c2 := check_zero hc.2;refine LAC.takeG (i := 5) rfl kr_ kr_ kr_ kr_ (dj := 8) (b := _) rfl rfl g8 (fun w hw => x_ldn (vs := xs) kgrad4_ag25 rfl hla (hw.keepRow hla (bx2.row hla))) rfl ?_;refine LAC.takeG (i := 6) rfl kr_ kr_ kr_ kr_ (dj := 8) (b := _) rfl rfl g8 (fun w hw => x_ldn (vs := ys) kgrad4_ag25 rfl hlb (hw.keepRow hlb (bx3.row hlb))) rfl ?_;refine LAC.step (rs := [4]) (fun _ => hB0) kr_ (by simp) ⟨⟨_, rfl, ?_⟩, trivial⟩;refine L.gyes' (dj := 8) (b := _) rfl rfl g8 ?_;refine L.ret (x_call kgrad4_en55 rfl) rfl (strict_ok _) ?_;rintro _ w9 ⟨⟨rfl, hbr⟩, hw⟩;have hB0 := hB0.carry hw;refine L.nil (thn_n (LAC.step (rs := [7]) (fun _ => hB0) kr_ (by simp) ⟨⟨_, rfl, ?_⟩, trivial⟩));refine L.gyes' (dj := 8) (b := _) rfl rfl g8 ?_;refine L.ret (x_call kgrad4_en56 rfl) rfl (fitsG_ok false 106 kgrad4_en106 strict_fn _ a b (Nat.lt_succ_self _) c1.1 c2.1 c1.2.2 c2.2.2 A B _ _ _ _ (ha.carry hB0) (hb.carry hB0) hbr) ?_;rintro _ w12 ⟨rfl, hw⟩;have hB0 := hB0.carry hw;refine L.nil (thn_n (LAC.takeN (i := 8) rfl kr_ kr_ kr_ kr_ (fun w hw => x_pick_t (v := .bool _) (congrArg Value.bool g8) rfl) rfl ?_));refine LAC.takeN (i := 9) rfl kr_ kr_ kr_ kr_ (fun w hw => x_as (v := .bool _) rfl) rfl ?_;refine LAC.doneF kr_ hB0 ?_;have hB := hB.carry hB0; have ha := ha.carry hB0; have hb := hb.carry hB0; have bx2 := bx2.carry hB0; have bx3 := bx3.carry hB0;refine thn_n (W.ret (fin_mk (.inr rfl) ?_));exact ⟨vb (by unfold goesS; rw [g8]; rfl), hB⟩
  ·have h8 := g8;refine LAC.takeU (i := 4) rfl kr_ kr_ kr_ kr_ (dj := 8) (b := _) rfl rfl g8 rfl ?_;refine LAC.takeU (i := 5) rfl kr_ kr_ kr_ kr_ (dj := 8) (b := _) rfl rfl g8 rfl ?_;refine LAC.takeU (i := 6) rfl kr_ kr_ kr_ kr_ (dj := 8) (b := _) rfl rfl g8 rfl ?_;refine LAC.takeU (i := 7) rfl kr_ kr_ kr_ kr_ (dj := 8) (b := _) rfl rfl g8 rfl ?_;refine LAC.takeN (i := 8) rfl kr_ kr_ kr_ kr_ (fun w hw => x_pick_f (v := .bool _) (congrArg Value.bool g8) rfl) rfl ?_;refine LAC.takeN (i := 9) rfl kr_ kr_ kr_ kr_ (fun w hw => x_as (v := .bool _) rfl) rfl ?_;refine LAC.doneF kr_ hB0 ?_;have hB := hB.carry hB0; have ha := ha.carry hB0; have hb := hb.carry hB0; have bx2 := bx2.carry hB0; have bx3 := bx3.carry hB0;refine thn_n (W.ret (fin_mk (.inr rfl) ?_));exact ⟨vb (by unfold goesS; rw [g8]; rfl), hB⟩
end Go.Gx
namespace Go.Gx
def keepS (up : Bool) (a b : Sh) : Sh := if up = true then a else b
def otherS (up : Bool) (a b : Sh) : Sh := if up = true then b else a
def witP (W : Bool → Sh → Sh → Sh) (up : Bool) (K O : Sh) (i : Nat) : Sh :=
  if idxS (O.names.getD i []) K.names < K.names.length then
    W up (keepS up (K.parts.getD (idxS (O.names.getD i []) K.names) default) (O.parts.getD i default)) (otherS up (K.parts.getD (idxS (O.names.getD i []) K.names) default) (O.parts.getD i default))
  else O.parts.getD i default
def witQ (W : Bool → Sh → Sh → Sh) (up : Bool) (a b : Sh) (i : Nat) : Sh :=
  if a.kind = 8 ∧ i + 1 < a.parts.length then W (!up) (b.parts.getD i default) (a.parts.getD i default) else W up (a.parts.getD i default) (b.parts.getD i default)
def witF (W : Bool → Sh → Sh → Sh) (up : Bool) (a b : Sh) : Sh :=
  if (otherS up a b).kind = 4 then keepS up a b
  else if (keepS up a b).kind = 4 then .mk 4 [] [] [] []
  else if 0 < a.names.length + b.names.length then .mk a.kind [] [] (otherS up a b).names ((List.range (otherS up a b).names.length).map (witP W up (keepS up a b) (otherS up a b)))
  else .mk (keepS up a b).kind (keepS up a b).of (keepS up a b).name [] ((List.range a.parts.length).map (witQ W up a b))
def witN : Nat → Bool → Sh → Sh → Sh
  | 0 => fun _ _ _ => default
  | N + 1 => witF (witN N)
theorem idxS_nodup : ∀ {l : List Str} {i : Nat}, l.Nodup → i < l.length → idxS (l.getD i []) l = i
  | [], _, _, h => absurd h (by simp)
  | y :: l, 0, _, _ => by simp [idxS]
  | y :: l, i + 1, h, hi => by
    rw [List.nodup_cons] at h;have hi : i < l.length := by simpa using hi
    have ih := idxS_nodup (i := i) h.2 hi;have hg : (y :: l).getD (i + 1) [] = l.getD i [] := by simp
    have hne : ¬ y = l.getD i [] := fun e => h.1 (by rw [e, List.getD_eq_getElem?_getD, List.getElem?_eq_getElem hi]; exact List.getElem_mem _)
    rw [hg, idxS, if_neg hne, ih]
theorem names_kind {s : Sh} (h : fitsS s = true) (hn : s.names ≠ []) : s.kind = 6 ∨ s.kind = 7 := by
  have hl : 0 < s.names.length := List.length_pos_iff.2 hn;unfold fitsS at h;split at h
  · simp at h; exact absurd h.1.2 hn
  · split at h
    · cases h
    · split at h
      · next h6 => simpa using h6
      · rw [if_pos om_] at h; cases h
theorem near_open {N : Nat} {a b : Sh} (h : fitsB true (fitsN true N) a b = true) (ha : a.kind ≠ 4) (hb : b.kind ≠ 4) :
    a.kind = b.kind ∧ a.of = b.of ∧ a.name = b.name ∧ ((a.kind = 6 ∨ a.kind = 7) → ∀ i, i < a.names.length → recF true (fitsN true N) a b i = true) ∧
    (¬ (a.kind = 6 ∨ a.kind = 7) → a.parts.length = b.parts.length ∧ ∀ i, i < a.parts.length → funF (fitsN true N) a b i = true) := by
  rw [fitsB, if_neg om_] at h;split at h
  · cases h
  · next h2 =>
    have e1 : a.kind = b.kind := Decidable.byContradiction fun e => h2 (.inl e)
    have e2 : a.of = b.of := Decidable.byContradiction fun e => h2 (.inr (.inl e))
    have e3 : a.name = b.name := Decidable.byContradiction fun e => h2 (.inr (.inr e))
    refine ⟨e1, e2, e3, fun h6 i hi => ?_, fun h6 => ?_⟩
    · rw [if_pos h6, Bool.and_eq_true] at h;exact List.all_eq_true.1 h.1 i (List.mem_range.2 hi)
    · rw [if_neg h6] at h;split at h
      · cases h
      · next h7 => exact ⟨Decidable.byContradiction h7, fun i hi => List.all_eq_true.1 h i (List.mem_range.2 hi)⟩
theorem near_pair {N : Nat} {up : Bool} {a b : Sh} (h : fitsB true (fitsN true N) a b = true) (ha : a.kind ≠ 4) (hb : b.kind ≠ 4) (fa : fitsS a = true) (fb : fitsS b = true) {i : Nat} (hi : i < (otherS up a b).names.length)
    (hj : idxS ((otherS up a b).names.getD i []) (keepS up a b).names < (keepS up a b).names.length) :
    fitsN true N (keepS up ((keepS up a b).parts.getD (idxS ((otherS up a b).names.getD i []) (keepS up a b).names) default) ((otherS up a b).parts.getD i default)) (otherS up ((keepS up a b).parts.getD (idxS ((otherS up a b).names.getD i []) (keepS up a b).names) default) ((otherS up a b).parts.getD i default)) = true := by
  obtain ⟨e1, -, -, hr, -⟩ := near_open h ha hb;cases up
  · simp only [keepS, otherS, Bool.false_eq_true, if_false] at hi hj ⊢;have hn : a.names ≠ [] := fun e => by rw [e] at hi; simp at hi
    have := hr (names_kind fa hn) i hi;unfold recF at this
    rwa [if_pos hj] at this
  · simp only [keepS, otherS, if_true] at hi hj ⊢;have hn : b.names ≠ [] := fun e => by rw [e] at hi; simp at hi
    have hk := names_kind fb hn;have := hr (by rw [e1]; exact hk) _ hj;unfold recF at this;have hd : b.names.Nodup := nodup_iff.1 ((fits_names fb).resolve_left hn).2;rw [idxS_get hj, idxS_nodup hd hi, if_pos hi] at this;exact this
theorem near_fun {N : Nat} {a b : Sh} (h : fitsB true (fitsN true N) a b = true) (ha : a.kind ≠ 4) (hb : b.kind ≠ 4) (fa : fitsS a = true) (hn : a.names = []) {i : Nat} (hi : i < a.parts.length) :
    i < b.parts.length ∧ funF (fitsN true N) a b i = true := by
  obtain ⟨e1, -, -, -, hf⟩ := near_open h ha hb;have h6 : ¬ (a.kind = 6 ∨ a.kind = 7) := fun hk => by
    have := rec_len fa hk;rw [hn] at this;simp at this; omega
  obtain ⟨hl, hq⟩ := hf h6;exact ⟨by omega, hq i hi⟩
def AvC (M : Nat → Prop) (n1 n0 : Nat) (w : World) (v1 v2 : Value) (k : Nat) : Prop := (k < n1 ∧ M k) ∨ (n1 ≤ k ∧ k < n0) ∨ some k = v1.ownBlock ∨ some k = v2.ownBlock ∨ w.heap.size ≤ k
theorem avc_step {M : Nat → Prop} {n1 n0 : Nat} {w w2 : World} {v v' v1 v2 : Value} (hs : w.heap.size ≤ w2.heap.size) (h1 : v1.ownBlock = v.ownBlock ∨ ∀ k, some k = v1.ownBlock → w.heap.size ≤ k) (h2 : v2.ownBlock = v'.ownBlock ∨ ∀ k, some k = v2.ownBlock → w.heap.size ≤ k) {j : Nat} (h : AvC M n1 n0 w2 v1 v2 j) : AvC M n1 n0 w v v' j := by
  rcases h with h | h | h | h | h
  · exact .inl h
  · exact .inr (.inl h)
  · rcases h1 with e | e
    · exact .inr (.inr (.inl (h.trans e)))
    · exact .inr (.inr (.inr (.inr (e j h))))
  · rcases h2 with e | e
    · exact .inr (.inr (.inr (.inl (h.trans e))))
    · exact .inr (.inr (.inr (.inr (e j h))))
  · exact .inr (.inr (.inr (.inr om_)))
theorem avc_mono {M : Nat → Prop} {n1 n0 : Nat} {w w2 : World} {v1 v2 : Value} (hs : w.heap.size ≤ w2.heap.size) {j : Nat} (h : AvC M n1 n0 w2 v1 v2 j) : AvC M n1 n0 w v1 v2 j := avc_step hs (.inl rfl) (.inl rfl) h
theorem ShsOwn.snocW {A A' R : Nat → Prop} {w w' : World} {base : Nat} {e : TypeId} {v' : Value} {l : List Sh} {rows : List (List Value)} {cs : List Value} {t : Sh} (h1 : rows.length = l.length) (h3 : ∀ i, i < l.length → (rows.getD i []).length = 5) (h4 : ∀ i, i < l.length → ShC A w (rows.getD i []) (l.getD i default))
    (ht : ShC A' w' cs t) (ho : Own w' base e 5 v' (l.length + 1) (rows.flatten ++ cs)) (g : Gr R w w') (hR : ∀ j, R j → A j) (hA : ∀ j, A' j → A j) : ShsOwn A' w' base e v' (l ++ [t]) := by
  refine ⟨rows ++ [cs], by simp [h1], ?_, fun i hi => ?_, fun i hi => ?_⟩
  · have e1 : (rows ++ [cs]).flatten = rows.flatten ++ cs := by simp
    rw [e1, List.length_append]; exact ho
  · rw [getD_snoc (by simpa [h1] using hi)];split
    · exact h3 i om_
    · exact ht.len
  · rw [getD_snoc (by simpa [h1] using hi), getD_snoc hi];by_cases hlt : i < l.length
    · rw [if_pos om_, if_pos hlt]; exact ((h4 i hlt).carryR g hR).mono fun j _ hj => hA j hj
    · rw [if_neg om_, if_neg hlt]; exact ht
theorem map_range_succ {α : Type} {f : Nat → α} {i : Nat} : (List.range (i + 1)).map f = (List.range i).map f ++ [f i] := by
  rw [List.range_succ, List.map_append]; rfl
end Go.Gx
namespace Go.Gx
theorem flat_take {rows : List (List Value)} (h : ∀ i, i < rows.length → (rows.getD i []).length = 5) : ∀ k, k ≤ rows.length → rows.flatten.take (k * 5) = (rows.take k).flatten ∧ rows.flatten.drop (k * 5) = (rows.drop k).flatten := by
  induction rows with
  | nil => intro k hk; simp
  | cons r rows ih =>
    intro k hk;have hr : r.length = 5 := by simpa using h 0 (by simp)
    cases k with
    | zero => simp
    | succ k =>
      have := ih (fun i hi => by simpa using h (i + 1) (by simpa using hi)) k (by simpa using hk);have e1 : (k + 1) * 5 = r.length + k * 5 := by omega
      simp only [List.flatten_cons, List.take_succ_cons, List.drop_succ_cons];rw [e1, List.take_length_add_append, List.drop_length_add_append, this.1, this.2];exact ⟨rfl, rfl⟩
theorem getD_ins {α : Type} {l : List α} {x d : α} {k i : Nat} (hk : k ≤ l.length) : (l.take k ++ x :: l.drop k).getD i d = if i < k then l.getD i d else if i = k then x else l.getD (i - 1) d := by
  have e : (l.take k).length = k := by simp; omega
  simp only [List.getD_eq_getElem?_getD];split
  · next h => rw [List.getElem?_append_left om_]; simp [h]
  · next h =>
    rw [List.getElem?_append_right om_, e];split
    · next h' => subst h'; simp
    · next h' =>
      obtain ⟨j, hj⟩ : ∃ j, i - k = j + 1 := ⟨i - k - 1, by omega⟩;rw [hj, List.getElem?_cons_succ, List.getElem?_drop, show k + j = i - 1 by omega]
theorem ShsOwn.ins {A A' : Nat → Prop} {w w' : World} {base k : Nat} {e : TypeId} {v' : Value} {l : List Sh} {rows : List (List Value)} {cs : List Value} {t : Sh} (h1 : rows.length = l.length) (h3 : ∀ i, i < l.length → (rows.getD i []).length = 5) (h4 : ∀ i, i < l.length → ShC A w (rows.getD i []) (l.getD i default))
    (hk : k ≤ l.length) (ht : ShC A w cs t) (ho : Own w' base e 5 v' (l.length + 1) (rows.flatten.take (k * 5) ++ cs ++ rows.flatten.drop (k * 5))) (g : Bel w w') (hA : ∀ j, A' j → A j) : ShsOwn A' w' base e v' (l.take k ++ t :: l.drop k) := by
  have hc : ∀ {cs s}, ShC A w cs s → ShC A' w' cs s := fun h => (h.carry g).mono fun j _ hj => hA j hj
  obtain ⟨f1, f2⟩ := flat_take (rows := rows) (fun i hi => h3 i om_) k om_;refine ⟨rows.take k ++ cs :: rows.drop k, by simp; omega, ?_, fun i hi => ?_, fun i hi => ?_⟩
  · have e1 : (rows.take k ++ cs :: rows.drop k).flatten = rows.flatten.take (k * 5) ++ cs ++ rows.flatten.drop (k * 5) := by rw [f1, f2]; simp
    have e2 : (l.take k ++ t :: l.drop k).length = l.length + 1 := by simp; omega
    rw [e1, e2]; exact ho
  · have hi : i < l.length + 1 := by simp at hi; omega
    rw [getD_ins om_];split
    · exact h3 i om_
    · split
      · exact ht.len
      · exact h3 (i - 1) om_
  · have hi : i < l.length + 1 := by simp at hi; omega
    rw [getD_ins om_, getD_ins hk];split
    · exact hc (h4 i om_)
    · split
      · exact hc ht
      · exact hc (h4 (i - 1) om_)
theorem rows_one {A : Nat → Prop} {w : World} {l : List Sh} {rows : List (List Value)} (h1 : rows.length = l.length) (h4 : ∀ i, i < l.length → ShC A w (rows.getD i []) (l.getD i default)) : ∀ u ∈ rows.flatten, u.oneCell' = true := by
  intro u hu;obtain ⟨r, hr, hur⟩ := List.mem_flatten.1 hu;obtain ⟨i, hi, rfl⟩ := List.getElem_of_mem hr;have := (h4 i om_).one;rw [List.getD_eq_getElem?_getD, List.getElem?_eq_getElem hi] at this;exact this u hur
end Go.Gx
namespace Go.Gx
variable {P : Program} {ops : Array Oper} {Q : Exit → Act → World → Prop} {C0 C1 : World → Prop}
def wpAnyD (P : Program) (ops : Array Oper) (C0 C1 : World → Prop) (st : Nat) (Q : Exit → Act → World → Prop) : Nat → Array Bool → Act → World → Prop
  | 0, listed, a, w => C0 w ∧ (listed.getD st false = false → C1 w) ∧ Region.ready .any ops listed = [] ∧ Q .normal a w
  | f + 1, listed, a, w => C0 w ∧ (listed.getD st false = false → C1 w) ∧ (Region.ready .any ops listed = [] → Q .normal a w) ∧ ∀ i ∈ Region.ready .any ops listed, wpOp P ops Q i (wpAnyD P ops C0 C1 st Q f (listed.setIfInBounds i true)) a w
theorem wpAnyD.any {st : Nat} : ∀ (f : Nat) (listed : Array Bool) (a : Act) (w : World), wpAnyD P ops C0 C1 st Q f listed a w → wpAny P .any ops Q f listed a w
  | 0, _, _, _, h => h.2.2
  | f + 1, _, _, _, h => ⟨h.2.2.1, fun i hi => wpOp_mono (fun _ _ h' => wpAnyD.any f _ _ _ h') (h.2.2.2 i hi)⟩
theorem wpAnyD.here {st f : Nat} {listed : Array Bool} {a : Act} {w : World} (h : wpAnyD P ops C0 C1 st Q f listed a w) : C0 w ∧ (listed.getD st false = false → C1 w) := by
  cases f <;> exact ⟨h.1, h.2.1⟩
theorem wpAnyD.take0 {i st : Nat} {oi : Oper} {v : Value} (hi : ops[i]? = some oi) (hsel : ∀ (j : Nat) (o : Oper) cs b, ops[j]? = some o → o.op ≠ .select cs b)
    (hQ : ∀ c a w, Q (.panic c) (a.put oi.dst v) w → Q (.panic c) a w) (hne : st ≠ i) :
    ∀ (fuel : Nat) (listed : Array Bool) (a : Act) (w : World),
      (∀ j oj, ops[j]? = some oj → j ≠ i → listed.getD j true = false → (∀ e ∈ oj.after, Region.binds .any e = true → e.on ≠ i) → oi.apart ops oj = true) →
      i ∈ Region.ready .any ops listed → YF P ops C0 oi v a →
      wpAnyD P ops C0 C1 st Q fuel (listed.setIfInBounds i true) (a.put oi.dst v) w → wpAnyD P ops C0 C1 st Q (fuel + 1) listed a w := by
  intro fuel;induction fuel with
  | zero =>
    intro listed a w _ hr hy H;refine ⟨H.1, fun h => H.2.1 (by rw [getD_set_ne false hne.symm]; exact h), fun h => (by rw [h] at hr; cases hr), fun j hj => ?_⟩;by_cases hji : j = i
    · subst hji; exact hy.take hi H.1 H
    · have := ready_mono hj hji;rw [H.2.2.1] at this;cases this
  | succ fuel ih =>
    intro listed a w hfree hr hy H;have hun := (mem_ready.1 hr).1;refine ⟨H.1, fun h => H.2.1 (by rw [getD_set_ne false hne.symm]; exact h), fun h => (by rw [h] at hr; cases hr), fun j hj => ?_⟩;by_cases hji : j = i
    · subst hji; exact hy.take hi H.1 H
    · have h1 := H.2.2.2 j (ready_mono hj hji);obtain ⟨hjun, oj, hoj, hall⟩ := mem_ready.1 hj;have hnot : ∀ e ∈ oj.after, Region.binds .any e = true → e.on ≠ i := fun e he hb heq => by
        have h1 := hall e he hb;rw [heq, unlisted hun] at h1; cases h1
      have h2 := wpOp_lateF hoj (hfree j oj hoj hji hjun hnot) (fun cs b => hsel i oi cs b hi) (fun cs b => hsel j oj cs b hoj) hQ hy h1;refine wpOp_mono (fun a' w' h3 => ih (listed.setIfInBounds j true) a' w' (fun k ok hk hki hu hno => ?_) (ready_mono hr (Ne.symm hji)) h3.1 ?_) h2
      · refine hfree k ok hk hki ?_ hno;by_cases hjk : j = k
        · subst hjk; exact hjun
        · rw [getD_set_ne true hjk] at hu; exact hu
      · rw [Array.setIfInBounds_comm _ _ hji];exact h3.2
theorem wpAnyD.take1 {i st : Nat} {oi ost : Oper} {v : Value} (hi : ops[i]? = some oi) (hsel : ∀ (j : Nat) (o : Oper) cs b, ops[j]? = some o → o.op ≠ .select cs b)
    (hQ : ∀ c a w, Q (.panic c) (a.put oi.dst v) w → Q (.panic c) a w) (hst : ops[st]? = some ost) (hdep : ∃ e ∈ ost.after, Region.binds .any e = true ∧ e.on = i) (hne : st ≠ i) :
    ∀ (fuel : Nat) (listed : Array Bool) (a : Act) (w : World),
      (listed.getD st false = true → listed.getD i false = true) →
      (∀ j oj, ops[j]? = some oj → j ≠ i → listed.getD j true = false → (∀ e ∈ oj.after, Region.binds .any e = true → e.on ≠ i) → oi.apart ops oj = true) →
      i ∈ Region.ready .any ops listed → YF P ops C1 oi v a →
      wpAnyD P ops C0 C1 st Q fuel (listed.setIfInBounds i true) (a.put oi.dst v) w → wpAnyD P ops C0 C1 st Q (fuel + 1) listed a w := by
  intro fuel;induction fuel with
  | zero =>
    intro listed a w hcl _ hr hy H;have hun := (mem_ready.1 hr).1;have hst0 : listed.getD st false = false := by
      cases hh : listed.getD st false
      · rfl
      · have := hcl hh; rw [unlisted hun] at this; cases this
    have hC : C1 w := H.2.1 (by rw [getD_set_ne false hne.symm]; exact hst0);refine ⟨H.1, fun _ => hC, fun h => (by rw [h] at hr; cases hr), fun j hj => ?_⟩;by_cases hji : j = i
    · subst hji; exact hy.take hi hC H
    · have := ready_mono hj hji;rw [H.2.2.1] at this;cases this
  | succ fuel ih =>
    intro listed a w hcl hfree hr hy H;have hun := (mem_ready.1 hr).1;have hst0 : listed.getD st false = false := by
      cases hh : listed.getD st false
      · rfl
      · have := hcl hh; rw [unlisted hun] at this; cases this
    have hC : C1 w := H.2.1 (by rw [getD_set_ne false hne.symm]; exact hst0);refine ⟨H.1, fun _ => hC, fun h => (by rw [h] at hr; cases hr), fun j hj => ?_⟩;by_cases hji : j = i
    · subst hji; exact hy.take hi hC H
    · have h1 := H.2.2.2 j (ready_mono hj hji);obtain ⟨hjun, oj, hoj, hall⟩ := mem_ready.1 hj;have hnot : ∀ e ∈ oj.after, Region.binds .any e = true → e.on ≠ i := fun e he hb heq => by
        have h1 := hall e he hb;rw [heq, unlisted hun] at h1; cases h1
      have hjst : j ≠ st := fun e => by
        subst e;rw [hst] at hoj; cases hoj;obtain ⟨e, he, hb, hon⟩ := hdep;exact hnot e he hb hon
      have h2 := wpOp_lateF hoj (hfree j oj hoj hji hjun hnot) (fun cs b => hsel i oi cs b hi) (fun cs b => hsel j oj cs b hoj) hQ hy h1;refine wpOp_mono (fun a' w' h3 => ih (listed.setIfInBounds j true) a' w' (fun h => ?_) (fun k ok hk hki hu hno => ?_) (ready_mono hr (Ne.symm hji)) h3.1 ?_) h2
      · rw [getD_set_ne false hjst, hst0] at h; cases h
      · refine hfree k ok hk hki ?_ hno;by_cases hjk : j = k
        · subst hjk; exact hjun
        · rw [getD_set_ne true hjk] at hu; exact hu
      · rw [Array.setIfInBounds_comm _ _ hji];exact h3.2
section
variable {n st : Nat} {K : List Deferred → Env → World → Prop} {D : List Deferred} {E : Env} {w : World}
def LAD (P : Program) (n : Nat) (ops : Array Oper) (C0 C1 : World → Prop) (st : Nat) (K : List Deferred → Env → World → Prop) (fuel : Nat) (listed : Array Bool) (D : List Deferred) (E : Env) (w : World) : Prop :=
  ∀ a, Fr D n a E → wpAnyD P ops C0 C1 st (lift n (nrm K)) fuel listed a w
theorem W.drawD {id : Nat} {l : List Oper} {Q : Post} (R R1 : Nat → Prop) (st : Nat) (hm : P.follows .mixedOrders = true)
    (h : ∀ w1, Bel w w1 → LAD P n l.toArray (Gr R w1) (Gr R1 w1) st (Q .normal) l.length (Array.replicate l.length false) D E w1) : W P n (.region id l.toArray true) Q D E w := by
  intro a ha;refine wp_mono (wp_region_any (Q := lift n (nrm (Q .normal))) hm ?_) ?_
  · have := (h _ (bel_drew _) a ha).any;simpa using this
  · rintro e a' w' ⟨he, E', hE, rfl, hq⟩;exact ⟨he, E', hE, hq⟩
theorem LAD.take0 {fuel : Nat} {listed : Array Bool} {i d : Nat} {op : Op} {t : TypeId} {p : String} {af : Array Edge} {v : Value}
    (ho : ops[i]? = some ⟨some d, op, t, p, af, none⟩) (hs : Region.noSelect ops = true) (hf : Region.free .any ops listed i = true) (hr : (Region.ready .any ops listed).contains i = true) (hne : Nat.beq st i = false)
    (hx : ∀ w, C0 w → X P op t E w v w) (hd : Nat.blt d n = true) (k : LAD P n ops C0 C1 st K fuel (listed.setIfInBounds i true) D (upd E d v) w) : LAD P n ops C0 C1 st K (fuel + 1) listed D E w := by
  intro a ha;refine wpAnyD.take0 ho (Region.noSelect_spec hs) ?_ (fun h => by subst h; simp at hne) fuel listed a w (Region.free_spec ho hf) (by simpa using hr) (.inl ⟨by simp [Region.wanted], fun w hw => ?_⟩) (k _ (ha.put v hd))
  · rintro c a w ⟨_, E, _, h, _⟩; cases h
  · have := hx w hw;unfold X at this;rw [execOp_bare, ha.eval]; exact this
theorem LAD.take1 {fuel : Nat} {listed : Array Bool} {i d : Nat} {op : Op} {t : TypeId} {p : String} {af : Array Edge} {v : Value}
    (ho : ops[i]? = some ⟨some d, op, t, p, af, none⟩) (hs : Region.noSelect ops = true) (hf : Region.free .any ops listed i = true) (hr : (Region.ready .any ops listed).contains i = true) (hne : Nat.beq st i = false)
    (hst : (ops[st]?).map (fun o => o.after.any fun e => Region.binds .any e && Nat.beq e.on i) = some true) (hl : listed.getD st true = false)
    (hx : ∀ w, C1 w → X P op t E w v w) (hd : Nat.blt d n = true) (k : LAD P n ops C0 C1 st K fuel (listed.setIfInBounds i true) D (upd E d v) w) : LAD P n ops C0 C1 st K (fuel + 1) listed D E w := by
  intro a ha;cases hos : ops[st]? with
  | none => rw [hos] at hst; cases hst
  | some ost =>
    rw [hos] at hst;simp only [Option.map_some, Option.some.injEq] at hst;obtain ⟨e, he, hb⟩ := Array.any_eq_true'.1 hst;simp only [Bool.and_eq_true] at hb;refine wpAnyD.take1 ho (Region.noSelect_spec hs) ?_ hos ⟨e, he, hb.1, Nat.eq_of_beq_eq_true hb.2⟩ (fun h => by subst h; simp at hne) fuel listed a w (fun h => by rw [unlisted hl] at h; cases h) (Region.free_spec ho hf) (by simpa using hr)
      (.inl ⟨by simp [Region.wanted], fun w hw => ?_⟩) (k _ (ha.put v hd))
    · rintro c a w ⟨_, E, _, h, _⟩; cases h
    · have := hx w hw;unfold X at this;rw [execOp_bare, ha.eval]; exact this
theorem LAD.done {listed : Array Bool} (hr : Region.ready .any ops listed = []) (hl : listed.getD st false = true) (hC : C0 w) (h : K D E w) : LAD P n ops C0 C1 st K 0 listed D E w :=
  fun _ ha => ⟨hC, fun h0 => (by rw [hl] at h0; cases h0), hr, lift_mk (by simp) ha ⟨rfl, h⟩⟩
def LADs (P : Program) (n : Nat) (ops : Array Oper) (C0 C1 : World → Prop) (st : Nat) (K : List Deferred → Env → World → Prop) (fuel : Nat) (listed : Array Bool) (D : List Deferred) (E : Env) (w : World) : List Nat → Prop
  | [] => True
  | i :: r => (∃ o, ops[i]? = some o ∧ L P n ops (thn (LAD P n ops C0 C1 st K fuel (listed.setIfInBounds i true)) (nrm K)) [o] D E w) ∧ LADs P n ops C0 C1 st K fuel listed D E w r
theorem LAD.step {fuel : Nat} {listed : Array Bool} {rs : List Nat} (hC0 : C0 w) (hC1 : listed.getD st false = false → C1 w) (hr : Region.ready .any ops listed = rs) (hne : rs ≠ [])
    (h : LADs P n ops C0 C1 st K fuel listed D E w rs) : LAD P n ops C0 C1 st K (fuel + 1) listed D E w := by
  intro a ha;refine ⟨hC0, hC1, fun h0 => absurd (hr.symm.trans h0) hne, fun j hj => ?_⟩;rw [hr] at hj;have key : ∀ rs : List Nat, LADs P n ops C0 C1 st K fuel listed D E w rs → j ∈ rs → ∃ o, ops[j]? = some o ∧ L P n ops (thn (LAD P n ops C0 C1 st K fuel (listed.setIfInBounds j true)) (nrm K)) [o] D E w := by
    intro rs;induction rs with
    | nil => intro _ hi; cases hi
    | cons k r ih =>
      intro hL hi;rcases List.mem_cons.1 hi with rfl | hi
      · exact hL.1
      · exact ih hL.2 hi
  obtain ⟨o, ho, hLo⟩ := key rs h hj;have h1 := hLo a ha;have hl : ∀ e a w, lift n (thn (LAD P n ops C0 C1 st K fuel (listed.setIfInBounds j true)) (nrm K)) e a w → Exit.then (wpAnyD P ops C0 C1 st (lift n (nrm K)) fuel (listed.setIfInBounds j true)) (lift n (nrm K)) e a w := by
    intro e a w ⟨h1, E', h2, h3⟩;cases e <;> simp only [thn, Exit.then] at h3 ⊢;case normal => exact h3 a h2
    case outgrown => exact absurd rfl h1
    all_goals exact ⟨by simp, E', h2, h3⟩
  unfold wpOp;rw [ho];simp only;unfold wpList at h1;split
  · rename_i hw
    rw [if_pos hw] at h1;rcases h1 with h1 | ⟨_, a', w', h1⟩
    · refine .inl ?_;unfold Oper.wp at h1 ⊢;generalize (execOp a.eval o).run P w = res at h1 ⊢;cases res with
      | ok x w' =>
        cases x <;> simp only [Oper.upon, wpList] at h1 ⊢ <;> try exact hl _ _ _ h1
        · refine h1.mono fun e w'' h => ?_
          cases e with
          | returned v => exact hl _ _ _ h
          | panicked c => exact hl _ _ _ h
          | outgrown => obtain ⟨a', w', h⟩ := h; exact absurd rfl h.1
        · exact h1.mono fun v w'' h => hl _ _ _ h
      | halt x w' => cases x <;> simp only [Oper.upon] at h1 ⊢ <;> try exact hl _ _ _ h1
    · exact absurd rfl h1.1
  · rename_i hw; rw [if_neg hw] at h1; exact hl _ _ _ h1
theorem LAD.step' {fuel : Nat} {listed : Array Bool} {rs : List Nat} (hC0 : C0 w) (hl : listed.getD st false = true) (hr : Region.ready .any ops listed = rs) (hne : rs ≠ [])
    (h : LADs P n ops C0 C1 st K fuel listed D E w rs) : LAD P n ops C0 C1 st K (fuel + 1) listed D E w := LAD.step hC0 (fun h0 => by rw [hl] at h0; cases h0) hr hne h
end
theorem Gr.keepRowR {R : Nat → Prop} {a b : World} (h : Gr R a b) {bl o k : Nat} {vs : List Value} (hn : ¬ R bl) (hl : vs.length = k) (hc : ∀ j, j < k → a.cell? ⟨bl, o + j, none⟩ = vs[j]?) : ∀ j, j < k → b.cell? ⟨bl, o + j, none⟩ = vs[j]? := fun j hj => by
  have hv := List.getElem?_eq_getElem (l := vs) (i := j) om_;rw [hv]; exact h.cell (by rw [hc j hj, hv]) hn
theorem Gr.keepR {R : Nat → Prop} {a b : World} (h : Gr R a b) {p : Addr} {v : Value} (hn : ¬ R p.block) (hv : a.cell? p = some v) : b.cell? p = some v := h.cell hv hn
theorem Gr.into {R : Nat → Prop} {a b c : World} {k : Nat} (h : Gr R a b) (g : Gr (· = k) b c) (hk : R k) : Gr R a c :=
  h.trans (g.mono fun j _ e => by have e : j = k := e; rw [e]; exact hk)
theorem Gr.intoR {R S : Nat → Prop} {a b c : World} (h : Gr R a b) (g : Gr S b c) (hk : ∀ k, S k → R k) : Gr R a c := h.trans (g.mono fun j _ e => hk j e)
theorem ShRow.avoid {A : Nat → Prop} {w : World} {b o : Nat} {row : Nat → List Value} {l : List Sh} (h : ShRow A w (some ⟨b, o, none⟩) row l) {i : Nat} (hi : i < l.length) : ¬ A b := by
  obtain ⟨b', o', e, hn, -⟩ := h.at_ (by rintro rfl; simp at hi);simp only [Option.some.injEq, Addr.mk.injEq] at e;rw [e.1]; exact hn
end Go.Gx
