/- Sessions: the answers that the document fixes. Conditions: none. -/
import Derived.Test.YtnhbjfkeeegdgaaCeSes12
import Derived.Test.YtnhbjfkeeegdgaaCeRowG
import Derived.Test.YtnhbjfkeeegdgaaCeSes2
import Derived.Test.YtnhbjfkeeegdgaaCeMapS
namespace Go.Gx
open Go.Proofs
theorem ksesw_el34 : elT Try.prog 34 3 = true := by kernel_rfl
theorem ksesw_en15 : Go.Proofs.Enters Try.prog 15 := Go.Proofs.enters_of Try.func15 (by kernel_rfl) rfl
theorem ksesw_en16 : Go.Proofs.Enters Try.prog 16 := Go.Proofs.enters_of Try.func16 (by kernel_rfl) rfl
theorem ksesw_en18 : Go.Proofs.Enters Try.prog 18 := Go.Proofs.enters_of Try.func18 (by kernel_rfl) rfl
theorem ksesw_en19 : Go.Proofs.Enters Try.prog 19 := Go.Proofs.enters_of Try.func19 (by kernel_rfl) rfl
theorem ksesw_en20 : Go.Proofs.Enters Try.prog 20 := Go.Proofs.enters_of Try.func20 (by kernel_rfl) rfl
theorem ksesw_en40 : Go.Proofs.Enters Try.prog 40 := Go.Proofs.enters_of Try.func40 (by kernel_rfl) rfl
theorem ksesw_en42 : Go.Proofs.Enters Try.prog 42 := Go.Proofs.enters_of Try.func42 (by kernel_rfl) rfl
theorem ksesw_si34 : structInfo Try.prog 34 = some ([(0, 1), (1, 1), (2, 1)], [S [], S [], Value.bool false]) := by kernel_rfl
instance (e : Ed) : Decidable (EdOk e) := by unfold EdOk; infer_instance
theorem eds_of_box {A : Nat → Prop} {w : World} {b : Nat} (l : List Ed) (h : Box w b 34 (l.map edV).flatten) (hA : ¬ A b) (hl : l.length ≤ 70368744177664) (hok : ∀ e ∈ l, EdOk e) : EdsAt A w (.slice (some ⟨b, 0, none⟩) l.length l.length) l := by
  have hr := rows_pure (C := EdC) (A := A) (w := w) (f := edV) l fun e he => ⟨rfl, hok e he⟩
  exact recs_of_box (l.map edV) l h hA hl (by simp) (fun i hi => Car.len (hr.2 i hi)) hr.2
def wK : Str := [107]
def w1 : Str := [49]
def w2 : Str := [50]
def w3 : Str := [51]
def wz : Str := [122]
def sA0 : Bs := ⟨[⟨wK, w1, false⟩], [], []⟩
def sA1 : Bs := sA0.begin_
def sA2 : Bs := sA1.begin_
def sA3 : Bs := sA2.getS 1 wK
def sA4 : Bs := sA3.getS 2 wK
def sA5 : Bs := sA4.keysS 2 wK
def sA6 : Bs := sA5.putS 1 ⟨wK, w2, false⟩
def sA7 : Bs := sA6.putS 2 ⟨wz, w3, false⟩
def sA8 : Bs := sA7.commitS 1
def sA9 : Bs := sA8.commitS 2
theorem a2 : sA2.isOpen 1 ∧ sA2.getA 1 wK = (w1, true) := by decide +kernel
theorem a3 : sA3.isOpen 2 ∧ sA3.getA 2 wK = (w1, true) := by decide +kernel
theorem a4 : sA4.isOpen 2 ∧ sA4.keysA 2 wK = [wK] := by decide +kernel
theorem a5 : sA5.isOpen 1 := by decide +kernel
theorem a6 : sA6.isOpen 2 := by decide +kernel
theorem a7 : sA7.isOpen 1 ∧ sA7.commitA 1 = 0 := by decide +kernel
theorem a8 : sA8.isOpen 2 ∧ sA8.commitA 2 = 401 := by decide +kernel
theorem a9 : ¬ sA9.isOpen 2 := by decide +kernel
theorem aL : sA9.log.length = 1 ∧ (∀ l ∈ sA9.log, l.length ≤ 1000000) := by decide +kernel
theorem aOk : okEd ⟨wK, w2, false⟩ = true ∧ okEd ⟨wz, w3, false⟩ = true := by decide +kernel
theorem awake40 (w : World) : Ret Try.prog 14 #[] w fun v w' => v = .bool true ∧ Bel w w' := by
  refine ret_of_W Try.func14 rfl (Nat.le_of_ble_eq_true rfl) (res1 rfl) ?_
  have hB := Gr.refl (fun _ => False) w
  refine W.seq ?_
  refine W.region ?_
  refine L.val (x_as (v := .bool _) rfl) rfl ?_
  refine L.nil ?_
  refine thn_n ?_
  refine W.seq ?_
  refine W.region ?_
  refine L.val (x_build (cells := [S _, S _, .bool _]) ksesw_si34 rfl rfl) rfl ?_
  refine L.bs (sz := 3) (cells := edV ⟨wK, w1, false⟩) Try.underlying22 ksesw_el34 rfl rfl rfl rfl (fun w13 bx13 hw hz13 => ?_)
  have hB := hB.carry hw
  refine L.ret (x_call ksesw_en15 rfl) rfl (new_ok (fun _ => none) 0 _ [⟨wK, w1, false⟩] w13 (eds_of_box (A := fun k => w13.heap.size ≤ k) [⟨wK, w1, false⟩] bx13 (by have := bx13.lt; omega) (by decide) (by decide)) (fun _ _ => rfl) (fun _ _ h => by cases h) (by decide)) ?_
  rintro v14 w14 ⟨b, bh, bo, lh, ow1, rfl, hG, hN⟩
  have hN : BaseAt ow1 0 w14 b sA0 bh bo (.slice none 0 0) lh [] [] := hN
  refine L.val (x_as (v := .pointer _) rfl) rfl ?_
  refine L.nil ?_
  refine thn_n ?_
  refine W.seq ?_
  refine W.seq ?_
  refine W.region ?_
  refine L.val (x_mv (v := .pointer _) rfl) rfl ?_
  refine L.val (x_eqp0 Try.underlying27 rfl rfl) rfl ?_
  refine L.nil ?_
  refine thn_n ?_
  refine W.cond (b := _) rfl (fun g16 => ?_) (fun g16 => ?_)
  ·have h16 := g16
   cases g16
  ·have h16 := g16
   skip
   refine W.skip ?_
   refine thn_n ?_
   refine W.seq ?_
   refine W.region ?_
   refine L.val (x_mv (v := .pointer _) rfl) rfl ?_
   refine L.ret (x_call ksesw_en18 rfl) rfl (begin_ok ow1 0 b bh bo sA0 _ lh _ _ _ hN (by decide)) ?_
   rintro v18 w18 ⟨rfl, ow2, lo2, hG2, hN⟩
   have hN : BaseAt ow2 0 w18 b sA1 bh bo _ lh lo2 [] := hN
   refine L.val (x_mv (v := .pointer _) rfl) rfl ?_
   refine L.ret (x_call ksesw_en18 rfl) rfl (begin_ok ow2 0 b bh bo sA1 _ lh _ _ _ hN (by decide)) ?_
   rintro v20 w20 ⟨rfl, ow3, lo3, hG3, hN⟩
   have hN : BaseAt ow3 0 w20 b sA2 bh bo _ lh lo3 [] := hN
   refine L.val (x_as (v := .int _ _) rfl) rfl ?_
   refine L.val (x_as (v := .int _ _) rfl) rfl ?_
   refine L.nil ?_
   refine thn_n ?_
   refine W.seq ?_
   refine W.region ?_
   refine L.val (x_mv (v := .pointer _) rfl) rfl ?_
   refine L.val (x_mv (v := .int _ _) rfl) rfl ?_
   refine L.ret (x_call ksesw_en19 rfl) rfl (get_ok ow3 0 b bh bo sA2 _ lh _ _ 1 wK _ hN (by decide +kernel) (by decide)) ?_
   rintro v24 w24 ⟨rfl, hG4, hN⟩
   rw [if_pos a2.1] at hN ⊢
   rw [a2.2]
   have hN : BaseAt ow3 0 w24 b sA3 bh bo _ lh lo3 [] := hN
   refine L.val (x_mv (v := _) rfl) rfl ?_
   refine L.val (x_ext (v := S _) rfl rfl) rfl ?_
   refine L.val (x_ext (v := .bool _) rfl rfl) rfl ?_
   refine L.val (x_ext (v := .int _ _) rfl rfl) rfl ?_
   refine L.val (x_as (v := S _) rfl) rfl ?_
   refine L.val (x_as (v := .bool _) rfl) rfl ?_
   refine L.val (x_as (v := .int _ _) rfl) rfl ?_
   refine L.nil ?_
   refine thn_n ?_
   refine W.seq ?_
   refine W.region ?_
   refine L.val (x_mv (v := .pointer _) rfl) rfl ?_
   refine L.val (x_mv (v := .int _ _) rfl) rfl ?_
   refine L.ret (x_call ksesw_en19 rfl) rfl (get_ok ow3 0 b bh bo sA3 _ lh _ _ 2 wK _ hN (by decide +kernel) (by decide)) ?_
   rintro v31 w31 ⟨rfl, hG5, hN⟩
   rw [if_pos a3.1] at hN ⊢
   rw [a3.2]
   have hN : BaseAt ow3 0 w31 b sA4 bh bo _ lh lo3 [] := hN
   refine L.val (x_mv (v := _) rfl) rfl ?_
   refine L.val (x_ext (v := S _) rfl rfl) rfl ?_
   refine L.val (x_ext (v := .bool _) rfl rfl) rfl ?_
   refine L.val (x_ext (v := .int _ _) rfl rfl) rfl ?_
   refine L.val (x_as (v := S _) rfl) rfl ?_
   refine L.val (x_as (v := .bool _) rfl) rfl ?_
   refine L.val (x_as (v := .int _ _) rfl) rfl ?_
   refine L.nil ?_
   refine thn_n ?_
   refine W.seq ?_
   refine W.region ?_
   refine L.val (x_mv (v := .pointer _) rfl) rfl ?_
   refine L.val (x_mv (v := .int _ _) rfl) rfl ?_
   refine L.ret (x_call ksesw_en20 rfl) rfl (keysOk ow3 0 b bh bo sA4 _ lh _ _ 2 wK _ hN (by decide +kernel) (by decide) (by decide)) ?_
   rintro v38 w38 ⟨⟨u38, rfl, hu⟩, hG6, hN⟩
   rw [if_pos a4.1] at hN hu ⊢
   rw [a4.2] at hu
   obtain ⟨p38, c38, rfl, -⟩ := hu
   have hN : BaseAt ow3 0 w38 b sA5 bh bo _ lh lo3 [] := hN
   refine L.val (x_mv (v := _) rfl) rfl ?_
   refine L.val (x_ext (v := .slice _ _ _) rfl rfl) rfl ?_
   refine L.val (x_ext (v := .int _ _) rfl rfl) rfl ?_
   refine L.val (x_as (v := .slice _ _ _) rfl) rfl ?_
   refine L.val (x_as (v := .int _ _) rfl) rfl ?_
   refine L.nil ?_
   refine thn_n ?_
   refine W.seq ?_
   refine W.region ?_
   refine L.val (x_mv (v := .int _ _) rfl) rfl ?_
   refine L.val (x_eql rfl rfl) rfl ?_
   refine L.val (x_mv (v := .bool _) rfl) rfl ?_
   refine L.splitat (dj := 43) (b := _) rfl (fun g43 => ?_) (fun g43 => ?_)
   ·have h43 := of_decide_eq_true g43
    refine L.gyes' (dj := 43) (b := _) rfl rfl g43 ?_
    refine L.val (x_mv (v := .int _ _) rfl) rfl ?_
    refine L.gyes' (dj := 43) (b := _) rfl rfl g43 ?_
    refine L.val (x_eql rfl rfl) rfl ?_
    refine L.val (x_pick_t (v := .bool _) (congrArg Value.bool g43) rfl) rfl ?_
    refine L.val (x_mv (v := .bool _) rfl) rfl ?_
    refine L.splitat (dj := 47) (b := _) rfl (fun g47 => ?_) (fun g47 => ?_)
    ·have h47 := of_decide_eq_true g47
     refine L.gyes' (dj := 47) (b := _) rfl rfl g47 ?_
     refine L.val (x_mv (v := S _) rfl) rfl ?_
     refine L.gyes' (dj := 47) (b := _) rfl rfl g47 ?_
     refine L.val (x_eqs rfl rfl) rfl ?_
     refine L.val (x_pick_t (v := .bool _) (congrArg Value.bool g47) rfl) rfl ?_
     refine L.val (x_mv (v := .bool _) rfl) rfl ?_
     refine L.splitat (dj := 51) (b := _) rfl (fun g51 => ?_) (fun g51 => ?_)
     ·have h51 := seq_t g51
      refine L.gyes' (dj := 51) (b := _) rfl rfl g51 ?_
      refine L.val (x_mv (v := .bool _) rfl) rfl ?_
      refine L.val (x_pick_t (v := .bool _) (congrArg Value.bool g51) rfl) rfl ?_
      refine L.val (x_mv (v := .bool _) rfl) rfl ?_
      refine L.splitat (dj := 54) (b := _) rfl (fun g54 => ?_) (fun g54 => ?_)
      ·have h54 := g54
       refine L.gyes' (dj := 54) (b := _) rfl rfl g54 ?_
       refine L.val (x_mv (v := .int _ _) rfl) rfl ?_
       refine L.gyes' (dj := 54) (b := _) rfl rfl g54 ?_
       refine L.val (x_eql rfl rfl) rfl ?_
       refine L.val (x_pick_t (v := .bool _) (congrArg Value.bool g54) rfl) rfl ?_
       refine L.val (x_mv (v := .bool _) rfl) rfl ?_
       refine L.splitat (dj := 58) (b := _) rfl (fun g58 => ?_) (fun g58 => ?_)
       ·have h58 := of_decide_eq_true g58
        refine L.gyes' (dj := 58) (b := _) rfl rfl g58 ?_
        refine L.val (x_mv (v := .int _ _) rfl) rfl ?_
        refine L.gyes' (dj := 58) (b := _) rfl rfl g58 ?_
        refine L.val (x_eql rfl rfl) rfl ?_
        refine L.val (x_pick_t (v := .bool _) (congrArg Value.bool g58) rfl) rfl ?_
        refine L.val (x_mv (v := .bool _) rfl) rfl ?_
        refine L.splitat (dj := 62) (b := _) rfl (fun g62 => ?_) (fun g62 => ?_)
        ·have h62 := of_decide_eq_true g62
         refine L.gyes' (dj := 62) (b := _) rfl rfl g62 ?_
         refine L.val (x_mv (v := .slice _ _ _) rfl) rfl ?_
         refine L.gyes' (dj := 62) (b := _) rfl rfl g62 ?_
         refine L.val (x_len_slice Try.underlying37 rfl) rfl ?_
         refine L.gyes' (dj := 62) (b := _) rfl rfl g62 ?_
         refine L.val (x_eql rfl rfl) rfl ?_
         refine L.val (x_pick_t (v := .bool _) (congrArg Value.bool g62) rfl) rfl ?_
         refine L.val (x_mv (v := .bool _) rfl) rfl ?_
         refine L.splitat (dj := 67) (b := _) rfl (fun g67 => ?_) (fun g67 => ?_)
         ·have h67 := of_decide_eq_true g67
          refine L.gyes' (dj := 67) (b := _) rfl rfl g67 ?_
          refine L.val (x_mv (v := .int _ _) rfl) rfl ?_
          refine L.gyes' (dj := 67) (b := _) rfl rfl g67 ?_
          refine L.val (x_eql rfl rfl) rfl ?_
          refine L.val (x_pick_t (v := .bool _) (congrArg Value.bool g67) rfl) rfl ?_
          refine L.val (x_mv (v := .bool _) rfl) rfl ?_
          refine L.splitat (dj := 71) (b := _) rfl (fun g71 => ?_) (fun g71 => ?_)
          ·have h71 := of_decide_eq_true g71
           refine L.gyes' (dj := 71) (b := _) rfl rfl g71 ?_
           refine L.val (x_mv (v := .pointer _) rfl) rfl ?_
           refine L.gyes' (dj := 71) (b := _) rfl rfl g71 ?_
           refine L.val (x_mv (v := .int _ _) rfl) rfl ?_
           refine L.gyes' (dj := 71) (b := _) rfl rfl g71 ?_
           refine L.val (x_build (cells := [S _, S _, .bool _]) ksesw_si34 rfl rfl) rfl ?_
           refine L.gyes' (dj := 71) (b := _) rfl rfl g71 ?_
           refine L.ret (x_call ksesw_en40 rfl) rfl (put_ok ow3 0 b bh bo sA5 _ lh _ _ 1 ⟨wK, w2, false⟩ _ hN (by decide +kernel) (by decide)) ?_
           rintro v75 w75 ⟨rfl, ow4, hG7, hN⟩
           rw [if_pos ⟨a5, aOk.1⟩] at hN
           rw [if_pos a5, if_pos aOk.1]
           have hN : BaseAt ow4 0 w75 b sA6 bh bo _ lh lo3 [] := hN
           refine L.gyes' (dj := 71) (b := _) rfl rfl g71 ?_
           refine L.val (x_eql rfl rfl) rfl ?_
           refine L.val (x_pick_t (v := .bool _) (congrArg Value.bool g71) rfl) rfl ?_
           refine L.val (x_mv (v := .bool _) rfl) rfl ?_
           refine L.splitat (dj := 78) (b := _) rfl (fun g78 => ?_) (fun g78 => ?_)
           ·have h78 := of_decide_eq_true g78
            refine L.gyes' (dj := 78) (b := _) rfl rfl g78 ?_
            refine L.val (x_mv (v := .pointer _) rfl) rfl ?_
            refine L.gyes' (dj := 78) (b := _) rfl rfl g78 ?_
            refine L.val (x_mv (v := .int _ _) rfl) rfl ?_
            refine L.gyes' (dj := 78) (b := _) rfl rfl g78 ?_
            refine L.val (x_build (cells := [S _, S _, .bool _]) ksesw_si34 rfl rfl) rfl ?_
            refine L.gyes' (dj := 78) (b := _) rfl rfl g78 ?_
            refine L.ret (x_call ksesw_en40 rfl) rfl (put_ok ow4 0 b bh bo sA6 _ lh _ _ 2 ⟨wz, w3, false⟩ _ hN (by decide +kernel) (by decide)) ?_
            rintro v82 w82 ⟨rfl, ow5, hG8, hN⟩
            rw [if_pos ⟨a6, aOk.2⟩] at hN
            rw [if_pos a6, if_pos aOk.2]
            have hN : BaseAt ow5 0 w82 b sA7 bh bo _ lh lo3 [] := hN
            refine L.gyes' (dj := 78) (b := _) rfl rfl g78 ?_
            refine L.val (x_eql rfl rfl) rfl ?_
            refine L.val (x_pick_t (v := .bool _) (congrArg Value.bool g78) rfl) rfl ?_
            refine L.val (x_mv (v := .bool _) rfl) rfl ?_
            refine L.splitat (dj := 85) (b := _) rfl (fun g85 => ?_) (fun g85 => ?_)
            ·have h85 := of_decide_eq_true g85
             refine L.gyes' (dj := 85) (b := _) rfl rfl g85 ?_
             refine L.val (x_mv (v := .pointer _) rfl) rfl ?_
             refine L.gyes' (dj := 85) (b := _) rfl rfl g85 ?_
             refine L.val (x_mv (v := .int _ _) rfl) rfl ?_
             refine L.gyes' (dj := 85) (b := _) rfl rfl g85 ?_
             refine L.ret (x_call ksesw_en42 rfl) rfl (commit_ok ow5 0 b bh bo sA7 _ lh _ _ 1 _ hN (by decide +kernel) (by decide)) ?_
             rintro v88 w88 ⟨rfl, ow6, vl6, lh6, lo6, rows6, hG9, hN⟩
             rw [if_pos a7.1] at hN ⊢
             rw [a7.2]
             have hN : BaseAt ow6 0 w88 b sA8 bh bo vl6 lh6 lo6 rows6 := hN
             refine L.gyes' (dj := 85) (b := _) rfl rfl g85 ?_
             refine L.val (x_eql rfl rfl) rfl ?_
             refine L.val (x_pick_t (v := .bool _) (congrArg Value.bool g85) rfl) rfl ?_
             refine L.val (x_mv (v := .bool _) rfl) rfl ?_
             refine L.splitat (dj := 91) (b := _) rfl (fun g91 => ?_) (fun g91 => ?_)
             ·have h91 := of_decide_eq_true g91
              refine L.gyes' (dj := 91) (b := _) rfl rfl g91 ?_
              refine L.val (x_mv (v := .pointer _) rfl) rfl ?_
              refine L.gyes' (dj := 91) (b := _) rfl rfl g91 ?_
              refine L.val (x_mv (v := .int _ _) rfl) rfl ?_
              refine L.gyes' (dj := 91) (b := _) rfl rfl g91 ?_
              refine L.ret (x_call ksesw_en42 rfl) rfl (commit_ok ow6 0 b bh bo sA8 _ lh6 _ _ 2 _ hN (by decide +kernel) (by decide)) ?_
              rintro v94 w94 ⟨rfl, ow7, vl7, lh7, lo7, rows7, hG10, hN⟩
              rw [if_pos a8.1] at hN ⊢
              rw [a8.2]
              have hN : BaseAt ow7 0 w94 b sA9 bh bo vl7 lh7 lo7 rows7 := hN
              refine L.gyes' (dj := 91) (b := _) rfl rfl g91 ?_
              refine L.val (x_eql rfl rfl) rfl ?_
              refine L.val (x_pick_t (v := .bool _) (congrArg Value.bool g91) rfl) rfl ?_
              refine L.val (x_mv (v := .bool _) rfl) rfl ?_
              refine L.splitat (dj := 97) (b := _) rfl (fun g97 => ?_) (fun g97 => ?_)
              ·have h97 := of_decide_eq_true g97
               refine L.gyes' (dj := 97) (b := _) rfl rfl g97 ?_
               refine L.val (x_mv (v := .pointer _) rfl) rfl ?_
               refine L.gyes' (dj := 97) (b := _) rfl rfl g97 ?_
               refine L.val (x_mv (v := .int _ _) rfl) rfl ?_
               refine L.gyes' (dj := 97) (b := _) rfl rfl g97 ?_
               refine L.ret (x_call ksesw_en42 rfl) rfl (commit_ok ow7 0 b bh bo sA9 _ lh7 _ _ 2 _ hN (by decide +kernel) (by decide)) ?_
               rintro v100 w100 ⟨rfl, ow8, vl8, lh8, lo8, rows8, hG11, hN⟩
               rw [if_neg a9] at hN ⊢
               refine L.gyes' (dj := 97) (b := _) rfl rfl g97 ?_
               refine L.val (x_eql rfl rfl) rfl ?_
               refine L.val (x_pick_t (v := .bool _) (congrArg Value.bool g97) rfl) rfl ?_
               refine L.val (x_mv (v := .bool _) rfl) rfl ?_
               refine L.splitat (dj := 103) (b := _) rfl (fun g103 => ?_) (fun g103 => ?_)
               ·have h103 := of_decide_eq_true g103
                refine L.gyes' (dj := 103) (b := _) rfl rfl g103 ?_
                refine L.val (x_mv (v := .pointer _) rfl) rfl ?_
                refine L.gyes' (dj := 103) (b := _) rfl rfl g103 ?_
                refine L.ret (x_call ksesw_en16 rfl) rfl (log_ok ow8 0 b bh bo sA9 _ lh8 _ _ _ hN (by decide) aL.2) ?_
                rintro v105 w105 ⟨hL, hw⟩
                obtain ⟨p105, c105, row105, rfl, -⟩ := hL
                rw [aL.1]
                refine L.gyes' (dj := 103) (b := _) rfl rfl g103 ?_
                refine L.val (x_len_slice Try.underlying30 rfl) rfl ?_
                refine L.gyes' (dj := 103) (b := _) rfl rfl g103 ?_
                refine L.val (x_eql rfl rfl) rfl ?_
                refine L.val (x_pick_t (v := .bool _) (congrArg Value.bool g103) rfl) rfl ?_
                refine L.val (x_as (v := .bool _) rfl) rfl ?_
                refine L.nil ?_
                refine thn_n ?_
                refine W.ret (fin_mk (.inr rfl) ?_)
                have hGG := (((((((((hG.trans hG2).trans hG3).trans hG4).trans hG5).trans hG6).trans hG7).trans hG8).trans hG9).trans hG10).trans hG11
                exact ⟨rfl, hB.trans ((hGG.gr.mono (fun k _ ⟨p, e⟩ => by cases e)).carry hw)⟩
               ·have h103 := of_decide_eq_false g103
                exact absurd g103 (by decide +kernel)
              ·have h97 := of_decide_eq_false g97
               exact absurd g97 (by decide +kernel)
             ·have h91 := of_decide_eq_false g91
              exact absurd g91 (by decide +kernel)
            ·have h85 := of_decide_eq_false g85
             exact absurd g85 (by decide +kernel)
           ·have h78 := of_decide_eq_false g78
            exact absurd g78 (by decide +kernel)
          ·have h71 := of_decide_eq_false g71
           exact absurd g71 (by decide +kernel)
         ·have h67 := of_decide_eq_false g67
          exact absurd g67 (by decide +kernel)
        ·have h62 := of_decide_eq_false g62
         exact absurd g62 (by decide +kernel)
       ·have h58 := of_decide_eq_false g58
        exact absurd g58 (by decide +kernel)
      ·have h54 := g54
       exact absurd g54 (by decide +kernel)
     ·have h51 := seq_f g51
      exact absurd g51 (by decide +kernel)
    ·have h47 := of_decide_eq_false g47
     exact absurd g47 (by decide +kernel)
   ·have h43 := of_decide_eq_false g43
    exact absurd g43 (by decide +kernel)
end Go.Gx
namespace Go.Gx
open Go.Proofs
def NoB (w : World) (p : Option Addr) : Prop := p = none ∨ ∃ b vl vo m, p = some ⟨b, 0, none⟩ ∧ Box w b 97 [.map none, vl, vo, .int .i64 m]
theorem NoB.carry {w w' : World} {p : Option Addr} (h : NoB w p) (g : Bel w w') : NoB w' p := by
  rcases h with h | ⟨b, vl, vo, m, h1, h2⟩
  · exact .inl h
  · exact .inr ⟨b, vl, vo, m, h1, h2.carry g⟩
structure Ac where
  kind : Int
  id : Int
  ed : Ed
instance : Inhabited Ac := ⟨⟨0, 0, default⟩⟩
def acV (a : Ac) : List Value := [.int .i64 a.kind, .int .i64 a.id, S a.ed.key, S a.ed.val, .bool a.ed.gone]
def AcC (_ : Nat → Prop) (_ : World) (cs : List Value) (a : Ac) : Prop := cs = acV a ∧ EdOk a.ed
theorem acV_one (a : Ac) : ∀ v ∈ acV a, v.oneCell' = true := fun v hv => by
  simp only [acV, List.mem_cons, List.not_mem_nil, or_false] at hv
  rcases hv with rfl | rfl | rfl | rfl | rfl <;> rfl
instance car_ac : Car AcC 5 where
  pos := by omega
  len := fun h => by rw [h.1]; rfl
  one := fun h => by rw [h.1]; exact acV_one _
  move := fun _ h => h
end Go.Gx
namespace Go.Gx
open Go.ChangeShapes Go.WideShapes Go.Deep Go.RowKit
section
variable {H : Type} {enc : TypeId × Value → H} {P : Program} {w : World} {base : Nat} {spare : Nat → Bool} {held : Bool}
structure EdT (P : Program) (tB : TypeId) (g0 g1 g2 : Field) : Prop where
  hB : P.underlying tB = some (.struct #[g0, g1, g2])
  h0 : P.underlying g0.type = some .string
  h1 : P.underlying g1.type = some .string
  h2 : P.underlying g2.type = some .bool
  o : g0.offset = 0 ∧ g1.offset = 1 ∧ g2.offset = 2
  c : P.cellsOf g0.type = 1 ∧ P.cellsOf g1.type = 1 ∧ P.cellsOf g2.type = 1 ∧ P.cellsOf tB = 3
theorem ed_open {tB : TypeId} {g0 g1 g2 : Field} (G : EdT P tB g0 g1 g2) (fuel : Nat) (cs : List Value) (x : DataW H × List MemPlace) (h : DataW.trod enc P w base spare held fuel tB cs = some x) : ∃ e, EdC (fun _ => False) w cs e := by
  obtain ⟨xs, n, rfl, rfl, hlen, hxl, hf⟩ := DataW.trod_struct G.hB h
  obtain ⟨o0, o1, o2⟩ := G.o
  obtain ⟨c0, c1, c2, c3⟩ := G.c
  rw [c3] at hlen
  match cs, hlen with
  | [v0, v1, v2], _ =>
    match xs, hxl with
    | [x0, x1, x2], _ =>
      have g0' := hf 0 g0 rfl
      have g1' := hf 1 g1 rfl
      have g2' := hf 2 g2 rfl
      rw [o0, c0] at g0'; rw [o1, c1] at g1'; rw [o2, c2] at g2'
      obtain ⟨s0, e0, -, l0⟩ := DataW.trod_string G.h0 (x := x0) g0'
      obtain ⟨s1, e1, -, l1⟩ := DataW.trod_string G.h1 (x := x1) g1'
      obtain ⟨b2, e2, -⟩ := DataW.trod_bool G.h2 (x := x2) g2'
      simp at e0 e1 e2
      refine ⟨⟨s0.data.toList, s1.data.toList, b2⟩, ?_, max_le l0, max_le l1⟩
      rw [e0, e1, e2]; simp [edV, S]
theorem eds_arg {tE tB : TypeId} {g0 g1 g2 : Field} (hE : P.underlying tE = some (.slice tB)) (hb : 2 ≤ P.bytesOf tB) (G : EdT P tB g0 g1 g2) {W : World} {base : Nat} {v : Value} {d : DataW H} {p : List MemPlace}
    (hv : Value.okWide P W .any base tE v) (h : DataW.Trod enc P W 0 (fun _ => true) true tE v d p) (hw : (d.weights P tE).all (· ≤ reachBytes) = true) : ∃ l, EdsAt (fun _ => False) W v l :=
  recs_arg hE G.c.2.2.2 (by omega) hb (fun fuel cs x h _ => ed_open G fuel cs x h) hv h hw
structure AcT (P : Program) (tB tS : TypeId) (g0 g1 g2 : Field) : Prop where
  hB : P.underlying tB = some (.struct #[g0, g1, g2])
  h0 : P.underlying g0.type = some (.int .i64)
  h1 : P.underlying g1.type = some (.int .i64)
  h2 : g2.type = tS
  o : g0.offset = 0 ∧ g1.offset = 1 ∧ g2.offset = 2
  c : P.cellsOf g0.type = 1 ∧ P.cellsOf g1.type = 1 ∧ P.cellsOf tS = 3 ∧ P.cellsOf tB = 5
theorem ac_open {tB tS : TypeId} {g0 g1 g2 f0 f1 f2 : Field} (G : AcT P tB tS g0 g1 g2) (T : EdT P tS f0 f1 f2) (fuel : Nat) (cs : List Value) (x : DataW H × List MemPlace) (h : DataW.trod enc P w base spare held fuel tB cs = some x) : ∃ a, AcC (fun _ => False) w cs a := by
  obtain ⟨xs, n, rfl, rfl, hlen, hxl, hf⟩ := DataW.trod_struct G.hB h
  obtain ⟨o0, o1, o2⟩ := G.o
  obtain ⟨c0, c1, c2, c3⟩ := G.c
  rw [c3] at hlen
  match cs, hlen with
  | [v0, v1, v2, v3, v4], _ =>
    match xs, hxl with
    | [x0, x1, x2], _ =>
      have g0' := hf 0 g0 rfl
      have g1' := hf 1 g1 rfl
      have g2' := hf 2 g2 rfl
      rw [o0, c0] at g0'; rw [o1, c1] at g1'; rw [o2, G.h2, c2] at g2'
      obtain ⟨k0, e0, -, -⟩ := DataW.trod_int G.h0 (x := x0) g0'
      obtain ⟨k1, e1, -, -⟩ := DataW.trod_int G.h1 (x := x1) g1'
      obtain ⟨e, he1, he2⟩ := ed_open T _ _ x2 g2'
      simp at e0 e1
      refine ⟨⟨k0, k1, e⟩, ?_, he2⟩
      have he1 : [v2, v3, v4] = edV e := he1
      rw [e0, e1, show acV ⟨k0, k1, e⟩ = .int .i64 k0 :: .int .i64 k1 :: edV e from rfl, ← he1]
theorem acs_arg {tE tB tS : TypeId} {g0 g1 g2 f0 f1 f2 : Field} (hE : P.underlying tE = some (.slice tB)) (hb : 2 ≤ P.bytesOf tB) (G : AcT P tB tS g0 g1 g2) (T : EdT P tS f0 f1 f2) {W : World} {base : Nat} {v : Value} {d : DataW H} {p : List MemPlace}
    (hv : Value.okWide P W .any base tE v) (h : DataW.Trod enc P W 0 (fun _ => true) true tE v d p) (hw : (d.weights P tE).all (· ≤ reachBytes) = true) : ∃ l, RecsAt AcC 5 (fun _ => False) W v l :=
  recs_arg hE G.c.2.2.2 (by omega) hb (fun fuel cs x h _ => ac_open G T fuel cs x h) hv h hw
end
end Go.Gx
namespace Go.Gx
open Go.Proofs
theorem ksesf_ag34 : aggT Try.prog 34 3 = true := by kernel_rfl
theorem ksesf_el34 : elT Try.prog 34 3 = true := by kernel_rfl
theorem ksesf_en13 : Go.Proofs.Enters Try.prog 13 := Go.Proofs.enters_of Try.func13 (by kernel_rfl) rfl
theorem ksesf_fo34_0 : fieldOff Try.prog 34 0 = some 0 := by kernel_rfl
theorem ksesf_fo34_1 : fieldOff Try.prog 34 1 = some 1 := by kernel_rfl
theorem ksesf_fo36_2 : fieldOff Try.prog 36 2 = some 2 := by kernel_rfl
theorem ksesf_mixed : Try.prog.follows .mixedOrders = true := by kernel_rfl
theorem ksesf_oc9 : oneCellT Try.prog 9 = true := by kernel_rfl
theorem ksesf_sz34 : (Try.prog.info? 34).map (·.size) = some 3 := by kernel_rfl
theorem ksesf_sz36 : (Try.prog.info? 36).map (·.size) = some 5 := by kernel_rfl
theorem ksesf_sz9 : (Try.prog.info? 9).map (·.size) = some 1 := by kernel_rfl
def fewB (l : List Ed) (most : Nat) : Bool := decide (l.length ≤ most) && l.all fun e => decide (e.key.length ≤ 300) && decide (e.val.length ≤ 300)
theorem all_take {α : Type} {l : List α} {p : α → Bool} {k : Nat} (h : k < l.length) (d : α) : (l.take (k + 1)).all p = ((l.take k).all p && p (l.getD k d)) := by
  rw [List.take_add_one, List.getElem?_eq_getElem h, List.all_append, List.getD_eq_getElem?_getD, List.getElem?_eq_getElem h]; simp
theorem not_all {α : Type} {l : List α} {p : α → Bool} {k : Nat} {d : α} (h : k < l.length) (hp : p (l.getD k d) = false) : l.all p = false := by
  rw [List.all_eq_false]
  refine ⟨l[k], List.getElem_mem h, ?_⟩
  rw [List.getD_eq_getElem?_getD, List.getElem?_eq_getElem h] at hp
  simpa using hp
def edFew (e : Ed) : Bool := decide (e.key.length ≤ 300) && decide (e.val.length ≤ 300)
theorem few_ok (A : Nat → Prop) (v : Value) (l : List Ed) (most : Nat) (w : World) (h : EdsAt A w v l) :
    Ret Try.prog 13 #[v, .int .i64 (most : Nat)] w fun r w' => r = .bool (fewB l most) ∧ w' = w := by
  obtain ⟨pl, cl, row, rfl, h1, h2, h3, hR⟩ := h
  have hdef : fewB l most = (decide (l.length ≤ most) && l.all edFew) := rfl
  rw [hdef]
  refine ret_of_W Try.func13 rfl (Nat.le_of_ble_eq_true rfl) (res1 rfl) ?_
  refine W.seq ?_
  refine W.region ?_
  refine L.val (x_as (v := .bool _) rfl) rfl ?_
  refine L.nil ?_
  refine thn_n ?_
  refine W.seq ?_
  refine W.seq ?_
  refine W.region ?_
  refine L.val (x_mv (v := .slice _ _ _) rfl) rfl ?_
  refine L.val (x_len_slice Try.underlying22 rfl) rfl ?_
  refine L.val (x_mv (v := .int _ _) rfl) rfl ?_
  refine L.val (x_gtr rfl rfl) rfl ?_
  refine L.nil ?_
  refine thn_n ?_
  refine W.cond (b := _) rfl (fun g9 => ?_) (fun g9 => ?_)
  ·have h9 := of_decide_eq_true g9
   have hh : (decide (l.length ≤ most) && l.all edFew) = false := by rw [decide_eq_false (by omega)]; rfl
   refine W.seq ?_
   refine W.region ?_
   refine L.val (x_as (v := .bool _) rfl) rfl ?_
   refine L.nil ?_
   refine thn_n ?_
   refine W.ret (thn_r (fin_mk (.inr rfl) ?_))
   rw [hh]; exact ⟨rfl, rfl⟩
  ·have h9 := dlt_f g9
   have hd : decide (l.length ≤ most) = true := decide_eq_true (by omega)
   rw [hd, Bool.true_and]
   refine W.skip ?_
   refine thn_n ?_
   refine W.seq ?_
   refine W.seq ?_
   refine W.region ?_
   refine L.val (x_as (v := .int _ _) rfl) rfl ?_
   refine L.nil ?_
   refine thn_n ?_
   refine W.block ?_
   refine W.loop (fun m' E w' => ∃ (k : Nat), m' = l.length - k ∧ E 0 = .slice pl l.length cl ∧ E 5 = .int .i64 (k : Nat) ∧ (k ≤ l.length) ∧ ((l.take k).all edFew = true) ∧ (w' = w)) (l.length) ?_ ?_
   ·exact ⟨0, by omega, by first | rfl | exact vi (by omega), by first | rfl | exact vi (by omega), (by first | assumption | omega | rfl), (by rfl), (by first | assumption | omega | rfl)⟩
   ·rintro _ E wL10 ⟨k, em, e0, e5, hk, hall, hw0⟩
    rw [upd_self e0, upd_self e5]
    refine W.seq ?_
    refine W.seq ?_
    refine W.region ?_
    refine L.val (x_mv (v := .int _ _) rfl) rfl ?_
    refine L.val (x_mv (v := .slice _ _ _) rfl) rfl ?_
    refine L.val (x_len_slice Try.underlying22 rfl) rfl ?_
    refine L.val (x_lss rfl rfl) rfl ?_
    refine L.nil ?_
    refine thn_n ?_
    refine W.cond (b := _) rfl (fun g13 => ?_) (fun g13 => ?_)
    ·have h13 := of_decide_eq_true g13
     have hlt : k < l.length := by omega
     obtain ⟨bl, ol, rfl, hAl, hc⟩ := hR.elem hlt
     rw [(hR.each k hlt).1] at hc
     rw [hw0]
     refine W.skip ?_
     refine thn_n ?_
     refine W.seq ?_
     refine W.block ?_
     refine W.seq ?_
     refine W.region ?_
     refine L.val (x_mv (v := .slice _ _ _) rfl) rfl ?_
     refine L.val (x_mv (v := .int _ _) rfl) rfl ?_
     refine L.val (x_ia (j := k) Try.underlying22 ksesf_sz34 rfl rfl (by omega) (by omega)) rfl ?_
     refine L.val (x_fa ksesf_fo34_0 rfl) rfl ?_
     refine L.val (x_ld (v := S _) ksesf_oc9 rfl (hc 0 (by omega))) rfl ?_
     refine L.val (x_len_str Try.underlying9 rfl) rfl ?_
     refine L.val (x_gtr rfl rfl) rfl ?_
     refine L.val (x_mv (v := .bool _) rfl) rfl ?_
     refine' L.group0 7 24 30 30 23 false rfl ?_ ?_ ?_
     rotate_left 1
     ·intro g23
      have h23 := dlt_f g23
      refine L.gyes' (dj := 23) (b := _) rfl rfl g23 ?_
      refine L.val (x_mv (v := .slice _ _ _) rfl) rfl ?_
      refine L.gyes' (dj := 23) (b := _) rfl rfl g23 ?_
      refine L.val (x_mv (v := .int _ _) rfl) rfl ?_
      refine L.gyes' (dj := 23) (b := _) rfl rfl g23 ?_
      refine L.val (x_ia (j := k) Try.underlying22 ksesf_sz34 rfl rfl (by omega) (by omega)) rfl ?_
      refine L.gyes' (dj := 23) (b := _) rfl rfl g23 ?_
      refine L.val (x_fa ksesf_fo34_1 rfl) rfl ?_
      refine L.gyes' (dj := 23) (b := _) rfl rfl g23 ?_
      refine L.val (x_ld (v := S _) ksesf_oc9 rfl (hc 1 (by omega))) rfl ?_
      refine L.gyes' (dj := 23) (b := _) rfl rfl g23 ?_
      refine L.val (x_len_str Try.underlying9 rfl) rfl ?_
      refine L.gyes' (dj := 23) (b := _) rfl rfl g23 ?_
      refine L.val (x_gtr rfl rfl) rfl ?_
      refine L.nil ?_
      refine thn_n ⟨rfl, rfl, ?_, rfl⟩
      repeat (first | exact jeq.refl _ _ _ | refine jeq.upd rfl ?_ | refine jeq.jk rfl rfl ?_)
     ·intro g23
      refine L.gno (dj := 23) (b := _) rfl rfl g23 rfl ?_
      refine L.gno (dj := 23) (b := _) rfl rfl g23 rfl ?_
      refine L.gno (dj := 23) (b := _) rfl rfl g23 rfl ?_
      refine L.gno (dj := 23) (b := _) rfl rfl g23 rfl ?_
      refine L.gno (dj := 23) (b := _) rfl rfl g23 rfl ?_
      refine L.gno (dj := 23) (b := _) rfl rfl g23 rfl ?_
      refine L.gno (dj := 23) (b := _) rfl rfl g23 rfl ?_
      refine L.nil (thn_n ⟨rfl, rfl, ?_⟩)
      repeat (first | exact jeq.refl _ _ _ | refine jeq.upd rfl ?_ | refine jeq.jk rfl rfl ?_)
     intro J23 j23
     refine L.val (x_or rfl j23) rfl ?_
     refine L.nil ?_
     refine thn_n ?_
     refine W.cond (b := _) rfl (fun g31 => ?_) (fun g31 => ?_)
     ·have h31 := g31
      have hef : edFew (l.getD k default) = false := by
        unfold edFew
        simp only [Bool.or_eq_true, decide_eq_true_eq] at g31
        rw [Bool.and_eq_false_iff]
        simp only [decide_eq_false_iff_not]
        omega
      refine W.seq ?_
      refine W.region ?_
      refine L.val (x_as (v := .bool _) rfl) rfl ?_
      refine L.nil ?_
      refine thn_n ?_
      refine W.ret (blk_r (thn_r (thn_r (blk_r (thn_r (fin_mk (.inr rfl) ?_))))))
      rw [not_all hlt hef]; exact ⟨rfl, rfl⟩
     ·have h31 := g31
      have hef : edFew (l.getD k default) = true := by
        unfold edFew
        simp only [Bool.or_eq_false_iff, decide_eq_false_iff_not] at g31
        rw [Bool.and_eq_true]
        simp only [decide_eq_true_eq]
        omega
      refine W.skip ?_
      refine blk_n ?_
      refine thn_n ?_
      refine W.region ?_
      refine L.val (x_mv (v := .int _ _) rfl) rfl ?_
      refine L.val (x_add rfl rfl (wr64 (by omega))) rfl ?_
      refine L.val (x_as (v := .int _ _) rfl) rfl ?_
      refine L.nil ?_
      refine thn_n ⟨rfl, ?_⟩
      refine ⟨_, ?_, k + 1, rfl, by first | rfl | exact vi (by omega), by first | rfl | exact vi (by omega), (by first | assumption | omega | rfl), (by rw [all_take hlt default, hall, Bool.true_and]; exact hef), (by first | assumption | omega | rfl)⟩
      omega
    ·have h13 := dlt_f g13
     refine W.exit (thn_x (thn_x (blk_hit ?_)))
     refine thn_n ?_
     refine W.seq ?_
     refine W.region ?_
     refine L.val (x_as (v := .bool _) rfl) rfl ?_
     refine L.nil ?_
     refine thn_n ?_
     refine W.ret (fin_mk (.inr rfl) ?_)
     have hh : l.all edFew = true := by rw [show k = l.length by omega, List.take_length] at hall; exact hall
     rw [hh]; exact ⟨rfl, hw0⟩
def FewB (l : List Ac) : Bool := decide (l.length ≤ 150) && l.all fun a => fewB [a.ed] 1
theorem fews_ok (A : Nat → Prop) (v : Value) (l : List Ac) (w : World) (h : RecsAt AcC 5 A w v l) :
    Ret Try.prog 12 #[v] w fun r w' => r = .bool (FewB l) ∧ Bel w w' := by
  obtain ⟨pl, cl, row, rfl, h1, h2, h3, hR⟩ := h
  unfold FewB
  refine ret_of_W Try.func12 rfl (Nat.le_of_ble_eq_true rfl) (res1 rfl) ?_
  have hB := Gr.refl (fun _ => False) w
  refine W.seq ?_
  refine W.region ?_
  refine L.val (x_as (v := .bool _) rfl) rfl ?_
  refine L.nil ?_
  refine thn_n ?_
  refine W.seq ?_
  refine W.seq ?_
  refine W.region ?_
  refine L.val (x_mv (v := .slice _ _ _) rfl) rfl ?_
  refine L.val (x_len_slice Try.underlying23 rfl) rfl ?_
  refine L.val (x_gtr rfl rfl) rfl ?_
  refine L.nil ?_
  refine thn_n ?_
  refine W.cond (b := _) rfl (fun g6 => ?_) (fun g6 => ?_)
  ·have h6 := of_decide_eq_true g6
   have hh : decide (l.length ≤ 150) = false := decide_eq_false (by omega)
   refine W.seq ?_
   refine W.region ?_
   refine L.val (x_as (v := .bool _) rfl) rfl ?_
   refine L.nil ?_
   refine thn_n ?_
   refine W.ret (thn_r (fin_mk (.inr rfl) ?_))
   rw [hh]; exact ⟨rfl, hB⟩
  ·have h6 := dlt_f g6
   have hd : decide (l.length ≤ 150) = true := decide_eq_true (by omega)
   rw [hd, Bool.true_and]
   refine W.skip ?_
   refine thn_n ?_
   refine W.seq ?_
   refine W.seq ?_
   refine W.region ?_
   refine L.val (x_as (v := .int _ _) rfl) rfl ?_
   refine L.nil ?_
   refine thn_n ?_
   refine W.block ?_
   refine W.loop (fun m' E w' => ∃ (k : Nat), m' = l.length - k ∧ E 0 = .slice pl l.length cl ∧ E 3 = .int .i64 (k : Nat) ∧ (k ≤ l.length) ∧ (Bel w w') ∧ ((l.take k).all (fun a => fewB [a.ed] 1) = true)) (l.length) ?_ ?_
   ·exact ⟨0, by omega, by first | rfl | exact vi (by omega), by first | rfl | exact vi (by omega), (by first | assumption | omega | rfl), (by first | assumption | omega | rfl), (by rfl)⟩
   ·rintro _ E wL7 ⟨k, em, e0, e3, hk, hB, hall⟩
    rw [upd_self e0, upd_self e3]
    refine W.seq ?_
    refine W.seq ?_
    refine W.region ?_
    refine L.val (x_mv (v := .int _ _) rfl) rfl ?_
    refine L.val (x_mv (v := .slice _ _ _) rfl) rfl ?_
    refine L.val (x_len_slice Try.underlying23 rfl) rfl ?_
    refine L.val (x_lss rfl rfl) rfl ?_
    refine L.nil ?_
    refine thn_n ?_
    refine W.cond (b := _) rfl (fun g10 => ?_) (fun g10 => ?_)
    ·have h10 := of_decide_eq_true g10
     have hlt : k < l.length := by omega
     obtain ⟨bl, ol, rfl, hAl, hc⟩ := (hR.carry hB).elem hlt
     have hrk := (hR.each k hlt).1
     have hok := (hR.each k hlt).2
     refine W.skip ?_
     refine thn_n ?_
     refine W.seq ?_
     refine W.block ?_
     refine W.seq ?_
     refine W.region ?_
     refine L.val (x_mv (v := .slice _ _ _) rfl) rfl ?_
     refine L.val (x_mv (v := .int _ _) rfl) rfl ?_
     refine L.val (x_ia (j := k) Try.underlying23 ksesf_sz36 rfl rfl (by omega) (by omega)) rfl ?_
     refine L.val (x_fa ksesf_fo36_2 rfl) rfl ?_
     refine L.val (x_ldn (vs := edV (l.getD k default).ed) ksesf_ag34 rfl rfl (by have := (hR.carry hB).rowD hlt 2 (m := 3) (by rw [hrk]; rfl); rw [hrk] at this; exact this)) rfl ?_
     refine L.bs (sz := 3) (cells := edV (l.getD k default).ed) Try.underlying22 ksesf_el34 rfl rfl rfl rfl (fun w18 bx18 hw hz18 => ?_)
     have hB := hB.carry hw
     refine L.ret (x_call ksesf_en13 rfl) rfl (few_ok (fun _ => False) _ [(l.getD k default).ed] 1 _ (eds_of_box [(l.getD k default).ed] bx18 (fun f => f) (by simp) (fun e he => by rw [List.mem_singleton.1 he]; exact hok))) ?_
     rintro v19 w19 ⟨rfl, hq⟩
     rw [hq]
     refine L.val (x_not rfl) rfl ?_
     refine L.nil ?_
     refine thn_n ?_
     refine W.cond (b := _) rfl (fun g20 => ?_) (fun g20 => ?_)
     ·have h20 := (not_t g20)
      refine W.seq ?_
      refine W.region ?_
      refine L.val (x_as (v := .bool _) rfl) rfl ?_
      refine L.nil ?_
      refine thn_n ?_
      refine W.ret (blk_r (thn_r (thn_r (blk_r (thn_r (fin_mk (.inr rfl) ?_))))))
      rw [not_all (d := default) hlt (by simpa using g20)]; exact ⟨rfl, hB⟩
     ·have h20 := (not_f g20)
      refine W.skip ?_
      refine blk_n ?_
      refine thn_n ?_
      refine W.region ?_
      refine L.val (x_mv (v := .int _ _) rfl) rfl ?_
      refine L.val (x_add rfl rfl (wr64 (by omega))) rfl ?_
      refine L.val (x_as (v := .int _ _) rfl) rfl ?_
      refine L.nil ?_
      refine thn_n ⟨rfl, ?_⟩
      refine ⟨_, ?_, k + 1, rfl, by first | rfl | exact vi (by omega), by first | rfl | exact vi (by omega), (by first | assumption | omega | rfl), (by first | assumption | omega | rfl), (by rw [all_take hlt default, hall, Bool.true_and]; simpa using g20)⟩
      omega
    ·have h10 := dlt_f g10
     refine W.exit (thn_x (thn_x (blk_hit ?_)))
     refine thn_n ?_
     refine W.seq ?_
     refine W.region ?_
     refine L.val (x_as (v := .bool _) rfl) rfl ?_
     refine L.nil ?_
     refine thn_n ?_
     refine W.ret (fin_mk (.inr rfl) ?_)
     have hh : l.all (fun a => fewB [a.ed] 1) = true := by rw [show k = l.length by omega, List.take_length] at hall; exact hall
     rw [hh]; exact ⟨rfl, hB⟩
theorem same_ok (A B : Nat → Prop) (v u : Value) (l m : List Str) (w : World) (h : StrsAt A w v l) (h' : StrsAt B w u m) :
    Ret Try.prog 21 #[v, u] w fun r w' => r = .bool (decide (l = m)) ∧ Bel w w' := by
  obtain ⟨pl, cl, rfl, a1, a2, a3, a4, -⟩ := id h
  obtain ⟨pm, cm, rfl, b1, b2, b3, b4, -⟩ := id h'
  refine ret_of_W Try.func21 rfl (Nat.le_of_ble_eq_true rfl) (res1 rfl) ?_
  have hB := Gr.refl (fun _ => False) w
  refine W.seq ?_
  refine W.region ?_
  refine L.val (x_as (v := .bool _) rfl) rfl ?_
  refine L.nil ?_
  refine thn_n ?_
  refine W.seq ?_
  refine W.seq ?_
  refine W.region ?_
  refine L.val (x_mv (v := .slice _ _ _) rfl) rfl ?_
  refine L.val (x_len_slice Try.underlying37 rfl) rfl ?_
  refine L.val (x_mv (v := .slice _ _ _) rfl) rfl ?_
  refine L.val (x_len_slice Try.underlying37 rfl) rfl ?_
  refine L.val (x_neq rfl rfl) rfl ?_
  refine L.nil ?_
  refine thn_n ?_
  refine W.cond (b := _) rfl (fun g10 => ?_) (fun g10 => ?_)
  ·have h10 := dne_t g10
   have hne : ¬ l = m := fun e => by rw [e] at h10; exact h10 rfl
   refine W.seq ?_
   refine W.region ?_
   refine L.val (x_as (v := .bool _) rfl) rfl ?_
   refine L.nil ?_
   refine thn_n ?_
   refine W.ret (thn_r (fin_mk (.inr rfl) ?_))
   rw [decide_eq_false hne]; exact ⟨rfl, hB⟩
  ·have h10 := dne_f g10
   have hlm : l.length = m.length := by omega
   refine W.skip ?_
   refine thn_n ?_
   refine W.seq ?_
   refine W.seq ?_
   refine W.region ?_
   refine L.val (x_as (v := .int _ _) rfl) rfl ?_
   refine L.nil ?_
   refine thn_n ?_
   refine W.block ?_
   refine W.loop (fun m' E w' => ∃ (k : Nat), m' = l.length - k ∧ E 0 = .slice pl l.length cl ∧ E 1 = .slice pm m.length cm ∧ E 5 = .int .i64 (k : Nat) ∧ (k ≤ l.length) ∧ (Bel w w') ∧ (StrsAt A w' (.slice pl l.length cl) l) ∧ (StrsAt B w' (.slice pm m.length cm) m) ∧ (l.take k = m.take k)) (l.length) ?_ ?_
   ·exact ⟨0, by omega, by first | rfl | exact vi (by omega), by first | rfl | exact vi (by omega), by first | rfl | exact vi (by omega), (by first | assumption | omega | rfl), (by first | assumption | omega | rfl), (by first | assumption | omega | rfl), (by first | assumption | omega | rfl), (by rfl)⟩
   ·rintro _ E wL11 ⟨k, em, e0, e1, e5, hk, hB, h, h', heq⟩
    rw [upd_self e0, upd_self e1, upd_self e5]
    refine W.seq ?_
    refine W.seq ?_
    refine W.region ?_
    refine L.val (x_mv (v := .int _ _) rfl) rfl ?_
    refine L.val (x_mv (v := .slice _ _ _) rfl) rfl ?_
    refine L.val (x_len_slice Try.underlying37 rfl) rfl ?_
    refine L.val (x_lss rfl rfl) rfl ?_
    refine L.nil ?_
    refine thn_n ?_
    refine W.cond (b := _) rfl (fun g14 => ?_) (fun g14 => ?_)
    ·have h14 := of_decide_eq_true g14
     have hlt : k < l.length := by omega
     have hlt2 : k < m.length := by omega
     obtain ⟨bl, ol, rfl, hc⟩ := h.elem hlt
     obtain ⟨bm, om, rfl, hc'⟩ := h'.elem hlt2
     refine W.skip ?_
     refine thn_n ?_
     refine W.seq ?_
     refine W.block ?_
     refine W.seq ?_
     refine W.drawB ksesf_mixed (by kernel_rfl) ?_
     refine LQ.val (fun w hw => x_mv (v := .slice _ _ _) rfl) rfl ?_
     refine LQ.val (fun w hw => x_mv (v := .int _ _) rfl) rfl ?_
     refine LQ.val (fun w hw => x_ia1 (j := k) Try.underlying37 ksesf_sz9 rfl rfl (by omega) (by omega)) rfl ?_
     refine LQ.val (fun w hw => x_ld (v := S _) ksesf_oc9 rfl (hw.keep hc)) rfl ?_
     refine LQ.val (fun w hw => x_mv (v := .slice _ _ _) rfl) rfl ?_
     refine LQ.val (fun w hw => x_mv (v := .int _ _) rfl) rfl ?_
     refine LQ.val (fun w hw => x_ia1 (j := k) Try.underlying37 ksesf_sz9 rfl rfl (by omega) (by omega)) rfl ?_
     refine LQ.val (fun w hw => x_ld (v := S _) ksesf_oc9 rfl (hw.keep hc')) rfl ?_
     refine LQ.val (fun w hw => x_nes rfl rfl) rfl ?_
     refine LQ.nil ?_
     intro w17 hw
     have hB := hB.carry hw; have h := h.carry hw; have h' := h'.carry hw
     refine thn_n ?_
     refine W.cond (b := _) rfl (fun g25 => ?_) (fun g25 => ?_)
     ·have h25 := sne_t g25
      have hne : ¬ l = m := fun e => h25 (by rw [e])
      refine W.seq ?_
      refine W.region ?_
      refine L.val (x_as (v := .bool _) rfl) rfl ?_
      refine L.nil ?_
      refine thn_n ?_
      refine W.ret (blk_r (thn_r (thn_r (blk_r (thn_r (fin_mk (.inr rfl) ?_))))))
      rw [decide_eq_false hne]; exact ⟨rfl, hB⟩
     ·have h25 := sne_f g25
      have he25 : l.getD k [] = m.getD k [] := h25
      refine W.skip ?_
      refine blk_n ?_
      refine thn_n ?_
      refine W.region ?_
      refine L.val (x_mv (v := .int _ _) rfl) rfl ?_
      refine L.val (x_add rfl rfl (wr64 (by omega))) rfl ?_
      refine L.val (x_as (v := .int _ _) rfl) rfl ?_
      refine L.nil ?_
      refine thn_n ⟨rfl, ?_⟩
      refine ⟨_, ?_, k + 1, rfl, by first | rfl | exact vi (by omega), by first | rfl | exact vi (by omega), by first | rfl | exact vi (by omega), (by first | assumption | omega | rfl), (by first | assumption | omega | rfl), (by first | assumption | omega | rfl), (by first | assumption | omega | rfl), (by rw [take_snoc (d := []) hlt, take_snoc (d := []) hlt2, heq, he25])⟩
      omega
    ·have h14 := dlt_f g14
     refine W.exit (thn_x (thn_x (blk_hit ?_)))
     refine thn_n ?_
     refine W.seq ?_
     refine W.region ?_
     refine L.val (x_as (v := .bool _) rfl) rfl ?_
     refine L.nil ?_
     refine thn_n ?_
     refine W.ret (fin_mk (.inr rfl) ?_)
     have hh : l = m := by
       have e1 : l.take k = l := by rw [show k = l.length by omega, List.take_length]
       have e2 : m.take k = m := by rw [show k = m.length by omega, List.take_length]
       rw [← e1, heq, e2]
     rw [decide_eq_true hh]; exact ⟨rfl, hB⟩
end Go.Gx
namespace Go.Gx
variable {P : Program} {ops : Array Oper} {n st : Nat} {C0 C1 : World → Prop} {K : List Deferred → Env → World → Prop} {D : List Deferred} {E : Env} {w : World}
theorem LAD.inv {σ : Type} (I : σ → Env → World → Prop) (lst : σ → Array Bool) (μ : σ → Nat) (f0 : Nat)
    (hC : ∀ s E w, I s E w → C0 w ∧ ((lst s).getD st false = false → C1 w))
    (hstep : ∀ s E w, I s E w → μ s ≠ 0 → Region.ready .any ops (lst s) ≠ [] ∧ ∀ i ∈ Region.ready .any ops (lst s), ∃ o s', ops[i]? = some o ∧ lst s' = (lst s).setIfInBounds i true ∧ μ s = μ s' + 1 ∧ L P n ops (thn (fun D' E' w' => D' = D ∧ I s' E' w') (nrm K)) [o] D E w)
    (hend : ∀ s E w, I s E w → μ s = 0 → LAD P n ops C0 C1 st K f0 (lst s) D E w) :
    ∀ (k : Nat) s E w, μ s = k → I s E w → LAD P n ops C0 C1 st K (k + f0) (lst s) D E w := by
  intro k
  induction k with
  | zero => intro s E w hk hI; rw [Nat.zero_add]; exact hend s E w hI hk
  | succ k ih =>
    intro s E w hk hI
    obtain ⟨hne, hall⟩ := hstep s E w hI (by omega)
    obtain ⟨h0, h1⟩ := hC s E w hI
    rw [show k + 1 + f0 = (k + f0) + 1 by omega]
    refine LAD.step (rs := Region.ready .any ops (lst s)) h0 h1 rfl hne ?_
    have key : ∀ rs : List Nat, (∀ i ∈ rs, i ∈ Region.ready .any ops (lst s)) → LADs P n ops C0 C1 st K (k + f0) (lst s) D E w rs := by
      intro rs
      induction rs with
      | nil => intro _; trivial
      | cons i r ih2 =>
        intro hr
        obtain ⟨o, s', ho, hl, hm, hL⟩ := hall i (hr i (by simp))
        refine ⟨⟨o, ho, ?_⟩, ih2 fun j hj => hr j (by simp [hj])⟩
        refine hL.mono fun e D' E' w' hq => ?_
        cases e with
        | normal =>
          obtain ⟨hD, hI'⟩ := hq
          show LAD P n ops C0 C1 st K (k + f0) ((lst s).setIfInBounds i true) D' E' w'
          rw [hD, ← hl]
          exact ih s' E' w' (by omega) hI'
        | _ => exact hq
    exact key _ fun i hi => hi
structure Ch where
  v : Value
  k : Nat
  xs : List Value
  news : List Value
def ChAt (e sz sb sp : Nat) (c : Ch) (n0 : Nat) (b d : Bool) (E : Env) (w : World) : Prop :=
  if d = true then Own w 0 e sz (E sp) (c.k + 1) (c.xs ++ c.news) ∧ ((E sp).ownBlock = c.v.ownBlock ∨ ∃ j, (E sp).ownBlock = some j ∧ n0 ≤ j)
  else Own w 0 e sz c.v c.k c.xs ∧ (b = true → ∃ blk, E sb = .slice (some ⟨blk, 0, none⟩) 1 1 ∧ Box w blk e c.news)
section
variable {e sz sb sp n0 : Nat} {c : Ch} {b d : Bool} {E' : Env} {w' : World}
theorem ChAt.bel (h : ChAt e sz sb sp c n0 b d E w) (g : Bel w w') (hs : E' sb = E sb) (hp : E' sp = E sp) : ChAt e sz sb sp c n0 b d E' w' := by
  unfold ChAt at *
  split
  · next hd => rw [if_pos hd] at h; rw [hp]; exact ⟨h.1.carry g, h.2⟩
  · next hd =>
    rw [if_neg hd] at h
    rw [hs]
    exact ⟨h.1.carry g, fun hb => let ⟨blk, h1, h2⟩ := h.2 hb; ⟨blk, h1, h2.carry g⟩⟩
end
structure CS where
  b0 : Bool
  b1 : Bool
  b2 : Bool
  b3 : Bool
  j : Nat
def CS.ok (s : CS) : Bool := decide (s.j ≤ 4) && (decide (s.j ≤ 0) || s.b0) && (decide (s.j ≤ 1) || s.b1) && (decide (s.j ≤ 2) || s.b2) && (decide (s.j ≤ 3) || s.b3)
def CS.left (s : CS) : Nat := (if s.b0 then 0 else 1) + (if s.b1 then 0 else 1) + (if s.b2 then 0 else 1) + (if s.b3 then 0 else 1) + (4 - s.j)
structure CN where
  bi : Nat → Nat
  ai : Nat → Nat
  sb : Nat → Nat
  sp : Nat → Nat
  e : Nat → Nat
  sz : Nat → Nat
  T : Nat → Nat
def CN.lst (c : CN) (base : Array Bool) (s : CS) : Array Bool :=
  (((((((base.setIfInBounds (c.bi 0) s.b0).setIfInBounds (c.bi 1) s.b1).setIfInBounds (c.bi 2) s.b2).setIfInBounds (c.bi 3) s.b3).setIfInBounds (c.ai 0) (decide (0 < s.j))).setIfInBounds (c.ai 1) (decide (1 < s.j))).setIfInBounds (c.ai 2) (decide (2 < s.j))).setIfInBounds (c.ai 3) (decide (3 < s.j))
end Go.Gx
