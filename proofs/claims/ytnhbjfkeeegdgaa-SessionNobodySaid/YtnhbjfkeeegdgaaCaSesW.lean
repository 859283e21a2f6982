/- Sessions: the answers that the document fixes. Conditions: none. -/
import Derived.Test.YtnhbjfkeeegdgaaCaSes12
namespace Go.Gx
open Go.Proofs
theorem ksesw_el34 : elT Try.prog 34 3 = true := by kernel_rfl
theorem ksesw_en15 : Go.Proofs.Enters Try.prog 15 := Go.Proofs.enters_of Try.func15 (by kernel_rfl) rfl
theorem ksesw_en16 : Go.Proofs.Enters Try.prog 16 := Go.Proofs.enters_of Try.func16 (by kernel_rfl) rfl
theorem ksesw_en18 : Go.Proofs.Enters Try.prog 18 := Go.Proofs.enters_of Try.func18 (by kernel_rfl) rfl
theorem ksesw_en19 : Go.Proofs.Enters Try.prog 19 := Go.Proofs.enters_of Try.func19 (by kernel_rfl) rfl
theorem ksesw_en20 : Go.Proofs.Enters Try.prog 20 := Go.Proofs.enters_of Try.func20 (by kernel_rfl) rfl
theorem ksesw_en40 : Go.Proofs.Enters Try.prog 40 := Go.Proofs.enters_of Try.func40 (by kernel_rfl) rfl
theorem ksesw_en42 : Go.Proofs.Enters Try.prog 42 := Go.Proofs.enters_of Try.func42 (by kernel_rfl) rfl
theorem ksesw_si34 : structInfo Try.prog 34 = some ([(0, 1), (1, 1), (2, 1)], [S [], S [], Value.bool false]) := by kernel_rfl
instance (e : Ed) : Decidable (EdOk e) := by unfold EdOk; infer_instance
theorem eds_of_box {A : Nat → Prop} {w : World} {b : Nat} (l : List Ed) (h : Box w b 34 (l.map edV).flatten) (hA : ¬ A b) (hl : l.length ≤ 70368744177664) (hok : ∀ e ∈ l, EdOk e) : EdsAt A w (.slice (some ⟨b, 0, none⟩) l.length l.length) l := by
  have hr := rows_pure (C := EdC) (A := A) (w := w) (f := edV) l fun e he => ⟨rfl, hok e he⟩
  exact recs_of_box (l.map edV) l h hA hl (by simp) (fun i hi => Car.len (hr.2 i hi)) hr.2
def wK : Str := [107]
def w1 : Str := [49]
def w2 : Str := [50]
def w3 : Str := [51]
def wz : Str := [122]
def sA0 : Bs := ⟨[⟨wK, w1, false⟩], [], []⟩
def sA1 : Bs := sA0.begin_
def sA2 : Bs := sA1.begin_
def sA3 : Bs := sA2.getS 1 wK
def sA4 : Bs := sA3.getS 2 wK
def sA5 : Bs := sA4.keysS 2 wK
def sA6 : Bs := sA5.putS 1 ⟨wK, w2, false⟩
def sA7 : Bs := sA6.putS 2 ⟨wz, w3, false⟩
def sA8 : Bs := sA7.commitS 1
def sA9 : Bs := sA8.commitS 2
theorem a2 : sA2.isOpen 1 ∧ sA2.getA 1 wK = (w1, true) := by decide +kernel
theorem a3 : sA3.isOpen 2 ∧ sA3.getA 2 wK = (w1, true) := by decide +kernel
theorem a4 : sA4.isOpen 2 ∧ sA4.keysA 2 wK = [wK] := by decide +kernel
theorem a5 : sA5.isOpen 1 := by decide +kernel
theorem a6 : sA6.isOpen 2 := by decide +kernel
theorem a7 : sA7.isOpen 1 ∧ sA7.commitA 1 = 0 := by decide +kernel
theorem a8 : sA8.isOpen 2 ∧ sA8.commitA 2 = 401 := by decide +kernel
theorem a9 : ¬ sA9.isOpen 2 := by decide +kernel
theorem aL : sA9.log.length = 1 ∧ (∀ l ∈ sA9.log, l.length ≤ 1000000) := by decide +kernel
theorem aOk : okEd ⟨wK, w2, false⟩ = true ∧ okEd ⟨wz, w3, false⟩ = true := by decide +kernel
theorem awake40 (w : World) : Ret Try.prog 14 #[] w fun v w' => v = .bool true ∧ Bel w w' := by
  refine ret_of_W Try.func14 rfl (Nat.le_of_ble_eq_true rfl) (res1 rfl) ?_
  have hB := Gr.refl (fun _ => False) w
  refine W.seq ?_
  refine W.region ?_
  refine L.val (x_as (v := .bool _) rfl) rfl ?_
  refine L.nil ?_
  refine thn_n ?_
  refine W.seq ?_
  refine W.region ?_
  refine L.val (x_build (cells := [S _, S _, .bool _]) ksesw_si34 rfl rfl) rfl ?_
  refine L.bs (sz := 3) (cells := edV ⟨wK, w1, false⟩) Try.underlying22 ksesw_el34 rfl rfl rfl rfl (fun w13 bx13 hw hz13 => ?_)
  have hB := hB.carry hw
  refine L.ret (x_call ksesw_en15 rfl) rfl (new_ok (fun _ => none) 0 _ [⟨wK, w1, false⟩] w13 (eds_of_box (A := fun k => w13.heap.size ≤ k) [⟨wK, w1, false⟩] bx13 (by have := bx13.lt; omega) (by decide) (by decide)) (fun _ _ => rfl) (fun _ _ h => by cases h) (by decide)) ?_
  rintro v14 w14 ⟨b, bh, bo, lh, ow1, rfl, hG, hN⟩
  have hN : BaseAt ow1 0 w14 b sA0 bh bo (.slice none 0 0) lh [] [] := hN
  refine L.val (x_as (v := .pointer _) rfl) rfl ?_
  refine L.nil ?_
  refine thn_n ?_
  refine W.seq ?_
  refine W.seq ?_
  refine W.region ?_
  refine L.val (x_mv (v := .pointer _) rfl) rfl ?_
  refine L.val (x_eqp0 Try.underlying27 rfl rfl) rfl ?_
  refine L.nil ?_
  refine thn_n ?_
  refine W.cond (b := _) rfl (fun g16 => ?_) (fun g16 => ?_)
  ·have h16 := g16
   cases g16
  ·have h16 := g16
   skip
   refine W.skip ?_
   refine thn_n ?_
   refine W.seq ?_
   refine W.region ?_
   refine L.val (x_mv (v := .pointer _) rfl) rfl ?_
   refine L.ret (x_call ksesw_en18 rfl) rfl (begin_ok ow1 0 b bh bo sA0 _ lh _ _ _ hN (by decide)) ?_
   rintro v18 w18 ⟨rfl, ow2, lo2, hG2, hN⟩
   have hN : BaseAt ow2 0 w18 b sA1 bh bo _ lh lo2 [] := hN
   refine L.val (x_mv (v := .pointer _) rfl) rfl ?_
   refine L.ret (x_call ksesw_en18 rfl) rfl (begin_ok ow2 0 b bh bo sA1 _ lh _ _ _ hN (by decide)) ?_
   rintro v20 w20 ⟨rfl, ow3, lo3, hG3, hN⟩
   have hN : BaseAt ow3 0 w20 b sA2 bh bo _ lh lo3 [] := hN
   refine L.val (x_as (v := .int _ _) rfl) rfl ?_
   refine L.val (x_as (v := .int _ _) rfl) rfl ?_
   refine L.nil ?_
   refine thn_n ?_
   refine W.seq ?_
   refine W.region ?_
   refine L.val (x_mv (v := .pointer _) rfl) rfl ?_
   refine L.val (x_mv (v := .int _ _) rfl) rfl ?_
   refine L.ret (x_call ksesw_en19 rfl) rfl (get_ok ow3 0 b bh bo sA2 _ lh _ _ 1 wK _ hN (by decide +kernel) (by decide)) ?_
   rintro v24 w24 ⟨rfl, hG4, hN⟩
   rw [if_pos a2.1] at hN ⊢
   rw [a2.2]
   have hN : BaseAt ow3 0 w24 b sA3 bh bo _ lh lo3 [] := hN
   refine L.val (x_mv (v := _) rfl) rfl ?_
   refine L.val (x_ext (v := S _) rfl rfl) rfl ?_
   refine L.val (x_ext (v := .bool _) rfl rfl) rfl ?_
   refine L.val (x_ext (v := .int _ _) rfl rfl) rfl ?_
   refine L.val (x_as (v := S _) rfl) rfl ?_
   refine L.val (x_as (v := .bool _) rfl) rfl ?_
   refine L.val (x_as (v := .int _ _) rfl) rfl ?_
   refine L.nil ?_
   refine thn_n ?_
   refine W.seq ?_
   refine W.region ?_
   refine L.val (x_mv (v := .pointer _) rfl) rfl ?_
   refine L.val (x_mv (v := .int _ _) rfl) rfl ?_
   refine L.ret (x_call ksesw_en19 rfl) rfl (get_ok ow3 0 b bh bo sA3 _ lh _ _ 2 wK _ hN (by decide +kernel) (by decide)) ?_
   rintro v31 w31 ⟨rfl, hG5, hN⟩
   rw [if_pos a3.1] at hN ⊢
   rw [a3.2]
   have hN : BaseAt ow3 0 w31 b sA4 bh bo _ lh lo3 [] := hN
   refine L.val (x_mv (v := _) rfl) rfl ?_
   refine L.val (x_ext (v := S _) rfl rfl) rfl ?_
   refine L.val (x_ext (v := .bool _) rfl rfl) rfl ?_
   refine L.val (x_ext (v := .int _ _) rfl rfl) rfl ?_
   refine L.val (x_as (v := S _) rfl) rfl ?_
   refine L.val (x_as (v := .bool _) rfl) rfl ?_
   refine L.val (x_as (v := .int _ _) rfl) rfl ?_
   refine L.nil ?_
   refine thn_n ?_
   refine W.seq ?_
   refine W.region ?_
   refine L.val (x_mv (v := .pointer _) rfl) rfl ?_
   refine L.val (x_mv (v := .int _ _) rfl) rfl ?_
   refine L.ret (x_call ksesw_en20 rfl) rfl (keysOk ow3 0 b bh bo sA4 _ lh _ _ 2 wK _ hN (by decide +kernel) (by decide) (by decide)) ?_
   rintro v38 w38 ⟨⟨u38, rfl, hu⟩, hG6, hN⟩
   rw [if_pos a4.1] at hN hu ⊢
   rw [a4.2] at hu
   obtain ⟨p38, c38, rfl, -⟩ := hu
   have hN : BaseAt ow3 0 w38 b sA5 bh bo _ lh lo3 [] := hN
   refine L.val (x_mv (v := _) rfl) rfl ?_
   refine L.val (x_ext (v := .slice _ _ _) rfl rfl) rfl ?_
   refine L.val (x_ext (v := .int _ _) rfl rfl) rfl ?_
   refine L.val (x_as (v := .slice _ _ _) rfl) rfl ?_
   refine L.val (x_as (v := .int _ _) rfl) rfl ?_
   refine L.nil ?_
   refine thn_n ?_
   refine W.seq ?_
   refine W.region ?_
   refine L.val (x_mv (v := .int _ _) rfl) rfl ?_
   refine L.val (x_eql rfl rfl) rfl ?_
   refine L.val (x_mv (v := .bool _) rfl) rfl ?_
   refine L.splitat (dj := 43) (b := _) rfl (fun g43 => ?_) (fun g43 => ?_)
   ·have h43 := of_decide_eq_true g43
    refine L.gyes' (dj := 43) (b := _) rfl rfl g43 ?_
    refine L.val (x_mv (v := .int _ _) rfl) rfl ?_
    refine L.gyes' (dj := 43) (b := _) rfl rfl g43 ?_
    refine L.val (x_eql rfl rfl) rfl ?_
    refine L.val (x_pick_t (v := .bool _) (congrArg Value.bool g43) rfl) rfl ?_
    refine L.val (x_mv (v := .bool _) rfl) rfl ?_
    refine L.splitat (dj := 47) (b := _) rfl (fun g47 => ?_) (fun g47 => ?_)
    ·have h47 := of_decide_eq_true g47
     refine L.gyes' (dj := 47) (b := _) rfl rfl g47 ?_
     refine L.val (x_mv (v := S _) rfl) rfl ?_
     refine L.gyes' (dj := 47) (b := _) rfl rfl g47 ?_
     refine L.val (x_eqs rfl rfl) rfl ?_
     refine L.val (x_pick_t (v := .bool _) (congrArg Value.bool g47) rfl) rfl ?_
     refine L.val (x_mv (v := .bool _) rfl) rfl ?_
     refine L.splitat (dj := 51) (b := _) rfl (fun g51 => ?_) (fun g51 => ?_)
     ·have h51 := seq_t g51
      refine L.gyes' (dj := 51) (b := _) rfl rfl g51 ?_
      refine L.val (x_mv (v := .bool _) rfl) rfl ?_
      refine L.val (x_pick_t (v := .bool _) (congrArg Value.bool g51) rfl) rfl ?_
      refine L.val (x_mv (v := .bool _) rfl) rfl ?_
      refine L.splitat (dj := 54) (b := _) rfl (fun g54 => ?_) (fun g54 => ?_)
      ·have h54 := g54
       refine L.gyes' (dj := 54) (b := _) rfl rfl g54 ?_
       refine L.val (x_mv (v := .int _ _) rfl) rfl ?_
       refine L.gyes' (dj := 54) (b := _) rfl rfl g54 ?_
       refine L.val (x_eql rfl rfl) rfl ?_
       refine L.val (x_pick_t (v := .bool _) (congrArg Value.bool g54) rfl) rfl ?_
       refine L.val (x_mv (v := .bool _) rfl) rfl ?_
       refine L.splitat (dj := 58) (b := _) rfl (fun g58 => ?_) (fun g58 => ?_)
       ·have h58 := of_decide_eq_true g58
        refine L.gyes' (dj := 58) (b := _) rfl rfl g58 ?_
        refine L.val (x_mv (v := .int _ _) rfl) rfl ?_
        refine L.gyes' (dj := 58) (b := _) rfl rfl g58 ?_
        refine L.val (x_eql rfl rfl) rfl ?_
        refine L.val (x_pick_t (v := .bool _) (congrArg Value.bool g58) rfl) rfl ?_
        refine L.val (x_mv (v := .bool _) rfl) rfl ?_
        refine L.splitat (dj := 62) (b := _) rfl (fun g62 => ?_) (fun g62 => ?_)
        ·have h62 := of_decide_eq_true g62
         refine L.gyes' (dj := 62) (b := _) rfl rfl g62 ?_
         refine L.val (x_mv (v := .slice _ _ _) rfl) rfl ?_
         refine L.gyes' (dj := 62) (b := _) rfl rfl g62 ?_
         refine L.val (x_len_slice Try.underlying37 rfl) rfl ?_
         refine L.gyes' (dj := 62) (b := _) rfl rfl g62 ?_
         refine L.val (x_eql rfl rfl) rfl ?_
         refine L.val (x_pick_t (v := .bool _) (congrArg Value.bool g62) rfl) rfl ?_
         refine L.val (x_mv (v := .bool _) rfl) rfl ?_
         refine L.splitat (dj := 67) (b := _) rfl (fun g67 => ?_) (fun g67 => ?_)
         ·have h67 := of_decide_eq_true g67
          refine L.gyes' (dj := 67) (b := _) rfl rfl g67 ?_
          refine L.val (x_mv (v := .int _ _) rfl) rfl ?_
          refine L.gyes' (dj := 67) (b := _) rfl rfl g67 ?_
          refine L.val (x_eql rfl rfl) rfl ?_
          refine L.val (x_pick_t (v := .bool _) (congrArg Value.bool g67) rfl) rfl ?_
          refine L.val (x_mv (v := .bool _) rfl) rfl ?_
          refine L.splitat (dj := 71) (b := _) rfl (fun g71 => ?_) (fun g71 => ?_)
          ·have h71 := of_decide_eq_true g71
           refine L.gyes' (dj := 71) (b := _) rfl rfl g71 ?_
           refine L.val (x_mv (v := .pointer _) rfl) rfl ?_
           refine L.gyes' (dj := 71) (b := _) rfl rfl g71 ?_
           refine L.val (x_mv (v := .int _ _) rfl) rfl ?_
           refine L.gyes' (dj := 71) (b := _) rfl rfl g71 ?_
           refine L.val (x_build (cells := [S _, S _, .bool _]) ksesw_si34 rfl rfl) rfl ?_
           refine L.gyes' (dj := 71) (b := _) rfl rfl g71 ?_
           refine L.ret (x_call ksesw_en40 rfl) rfl (put_ok ow3 0 b bh bo sA5 _ lh _ _ 1 ⟨wK, w2, false⟩ _ hN (by decide +kernel) (by decide)) ?_
           rintro v75 w75 ⟨rfl, ow4, hG7, hN⟩
           rw [if_pos ⟨a5, aOk.1⟩] at hN
           rw [if_pos a5, if_pos aOk.1]
           have hN : BaseAt ow4 0 w75 b sA6 bh bo _ lh lo3 [] := hN
           refine L.gyes' (dj := 71) (b := _) rfl rfl g71 ?_
           refine L.val (x_eql rfl rfl) rfl ?_
           refine L.val (x_pick_t (v := .bool _) (congrArg Value.bool g71) rfl) rfl ?_
           refine L.val (x_mv (v := .bool _) rfl) rfl ?_
           refine L.splitat (dj := 78) (b := _) rfl (fun g78 => ?_) (fun g78 => ?_)
           ·have h78 := of_decide_eq_true g78
            refine L.gyes' (dj := 78) (b := _) rfl rfl g78 ?_
            refine L.val (x_mv (v := .pointer _) rfl) rfl ?_
            refine L.gyes' (dj := 78) (b := _) rfl rfl g78 ?_
            refine L.val (x_mv (v := .int _ _) rfl) rfl ?_
            refine L.gyes' (dj := 78) (b := _) rfl rfl g78 ?_
            refine L.val (x_build (cells := [S _, S _, .bool _]) ksesw_si34 rfl rfl) rfl ?_
            refine L.gyes' (dj := 78) (b := _) rfl rfl g78 ?_
            refine L.ret (x_call ksesw_en40 rfl) rfl (put_ok ow4 0 b bh bo sA6 _ lh _ _ 2 ⟨wz, w3, false⟩ _ hN (by decide +kernel) (by decide)) ?_
            rintro v82 w82 ⟨rfl, ow5, hG8, hN⟩
            rw [if_pos ⟨a6, aOk.2⟩] at hN
            rw [if_pos a6, if_pos aOk.2]
            have hN : BaseAt ow5 0 w82 b sA7 bh bo _ lh lo3 [] := hN
            refine L.gyes' (dj := 78) (b := _) rfl rfl g78 ?_
            refine L.val (x_eql rfl rfl) rfl ?_
            refine L.val (x_pick_t (v := .bool _) (congrArg Value.bool g78) rfl) rfl ?_
            refine L.val (x_mv (v := .bool _) rfl) rfl ?_
            refine L.splitat (dj := 85) (b := _) rfl (fun g85 => ?_) (fun g85 => ?_)
            ·have h85 := of_decide_eq_true g85
             refine L.gyes' (dj := 85) (b := _) rfl rfl g85 ?_
             refine L.val (x_mv (v := .pointer _) rfl) rfl ?_
             refine L.gyes' (dj := 85) (b := _) rfl rfl g85 ?_
             refine L.val (x_mv (v := .int _ _) rfl) rfl ?_
             refine L.gyes' (dj := 85) (b := _) rfl rfl g85 ?_
             refine L.ret (x_call ksesw_en42 rfl) rfl (commit_ok ow5 0 b bh bo sA7 _ lh _ _ 1 _ hN (by decide +kernel) (by decide)) ?_
             rintro v88 w88 ⟨rfl, ow6, vl6, lh6, lo6, rows6, hG9, hN⟩
             rw [if_pos a7.1] at hN ⊢
             rw [a7.2]
             have hN : BaseAt ow6 0 w88 b sA8 bh bo vl6 lh6 lo6 rows6 := hN
             refine L.gyes' (dj := 85) (b := _) rfl rfl g85 ?_
             refine L.val (x_eql rfl rfl) rfl ?_
             refine L.val (x_pick_t (v := .bool _) (congrArg Value.bool g85) rfl) rfl ?_
             refine L.val (x_mv (v := .bool _) rfl) rfl ?_
             refine L.splitat (dj := 91) (b := _) rfl (fun g91 => ?_) (fun g91 => ?_)
             ·have h91 := of_decide_eq_true g91
              refine L.gyes' (dj := 91) (b := _) rfl rfl g91 ?_
              refine L.val (x_mv (v := .pointer _) rfl) rfl ?_
              refine L.gyes' (dj := 91) (b := _) rfl rfl g91 ?_
              refine L.val (x_mv (v := .int _ _) rfl) rfl ?_
              refine L.gyes' (dj := 91) (b := _) rfl rfl g91 ?_
              refine L.ret (x_call ksesw_en42 rfl) rfl (commit_ok ow6 0 b bh bo sA8 _ lh6 _ _ 2 _ hN (by decide +kernel) (by decide)) ?_
              rintro v94 w94 ⟨rfl, ow7, vl7, lh7, lo7, rows7, hG10, hN⟩
              rw [if_pos a8.1] at hN ⊢
              rw [a8.2]
              have hN : BaseAt ow7 0 w94 b sA9 bh bo vl7 lh7 lo7 rows7 := hN
              refine L.gyes' (dj := 91) (b := _) rfl rfl g91 ?_
              refine L.val (x_eql rfl rfl) rfl ?_
              refine L.val (x_pick_t (v := .bool _) (congrArg Value.bool g91) rfl) rfl ?_
              refine L.val (x_mv (v := .bool _) rfl) rfl ?_
              refine L.splitat (dj := 97) (b := _) rfl (fun g97 => ?_) (fun g97 => ?_)
              ·have h97 := of_decide_eq_true g97
               refine L.gyes' (dj := 97) (b := _) rfl rfl g97 ?_
               refine L.val (x_mv (v := .pointer _) rfl) rfl ?_
               refine L.gyes' (dj := 97) (b := _) rfl rfl g97 ?_
               refine L.val (x_mv (v := .int _ _) rfl) rfl ?_
               refine L.gyes' (dj := 97) (b := _) rfl rfl g97 ?_
               refine L.ret (x_call ksesw_en42 rfl) rfl (commit_ok ow7 0 b bh bo sA9 _ lh7 _ _ 2 _ hN (by decide +kernel) (by decide)) ?_
               rintro v100 w100 ⟨rfl, ow8, vl8, lh8, lo8, rows8, hG11, hN⟩
               rw [if_neg a9] at hN ⊢
               refine L.gyes' (dj := 97) (b := _) rfl rfl g97 ?_
               refine L.val (x_eql rfl rfl) rfl ?_
               refine L.val (x_pick_t (v := .bool _) (congrArg Value.bool g97) rfl) rfl ?_
               refine L.val (x_mv (v := .bool _) rfl) rfl ?_
               refine L.splitat (dj := 103) (b := _) rfl (fun g103 => ?_) (fun g103 => ?_)
               ·have h103 := of_decide_eq_true g103
                refine L.gyes' (dj := 103) (b := _) rfl rfl g103 ?_
                refine L.val (x_mv (v := .pointer _) rfl) rfl ?_
                refine L.gyes' (dj := 103) (b := _) rfl rfl g103 ?_
                refine L.ret (x_call ksesw_en16 rfl) rfl (log_ok ow8 0 b bh bo sA9 _ lh8 _ _ _ hN (by decide) aL.2) ?_
                rintro v105 w105 ⟨hL, hw⟩
                obtain ⟨p105, c105, row105, rfl, -⟩ := hL
                rw [aL.1]
                refine L.gyes' (dj := 103) (b := _) rfl rfl g103 ?_
                refine L.val (x_len_slice Try.underlying30 rfl) rfl ?_
                refine L.gyes' (dj := 103) (b := _) rfl rfl g103 ?_
                refine L.val (x_eql rfl rfl) rfl ?_
                refine L.val (x_pick_t (v := .bool _) (congrArg Value.bool g103) rfl) rfl ?_
                refine L.val (x_as (v := .bool _) rfl) rfl ?_
                refine L.nil ?_
                refine thn_n ?_
                refine W.ret (fin_mk (.inr rfl) ?_)
                have hGG := (((((((((hG.trans hG2).trans hG3).trans hG4).trans hG5).trans hG6).trans hG7).trans hG8).trans hG9).trans hG10).trans hG11
                exact ⟨rfl, hB.trans ((hGG.gr.mono (fun k _ ⟨p, e⟩ => by cases e)).carry hw)⟩
               ·have h103 := of_decide_eq_false g103
                exact absurd g103 (by decide +kernel)
              ·have h97 := of_decide_eq_false g97
               exact absurd g97 (by decide +kernel)
             ·have h91 := of_decide_eq_false g91
              exact absurd g91 (by decide +kernel)
            ·have h85 := of_decide_eq_false g85
             exact absurd g85 (by decide +kernel)
           ·have h78 := of_decide_eq_false g78
            exact absurd g78 (by decide +kernel)
          ·have h71 := of_decide_eq_false g71
           exact absurd g71 (by decide +kernel)
         ·have h67 := of_decide_eq_false g67
          exact absurd g67 (by decide +kernel)
        ·have h62 := of_decide_eq_false g62
         exact absurd g62 (by decide +kernel)
       ·have h58 := of_decide_eq_false g58
        exact absurd g58 (by decide +kernel)
      ·have h54 := g54
       exact absurd g54 (by decide +kernel)
     ·have h51 := seq_f g51
      exact absurd g51 (by decide +kernel)
    ·have h47 := of_decide_eq_false g47
     exact absurd g47 (by decide +kernel)
   ·have h43 := of_decide_eq_false g43
    exact absurd g43 (by decide +kernel)
end Go.Gx
namespace Go.Gx
open Go.Proofs
theorem ksesn_ag34 : aggT Try.prog 34 3 = true := by kernel_rfl
theorem ksesn_el27 : elT Try.prog 27 1 = true := by kernel_rfl
theorem ksesn_en14 : Go.Proofs.Enters Try.prog 14 := Go.Proofs.enters_of Try.func14 (by kernel_rfl) rfl
theorem ksesn_en16 : Go.Proofs.Enters Try.prog 16 := Go.Proofs.enters_of Try.func16 (by kernel_rfl) rfl
theorem ksesn_en18 : Go.Proofs.Enters Try.prog 18 := Go.Proofs.enters_of Try.func18 (by kernel_rfl) rfl
theorem ksesn_en19 : Go.Proofs.Enters Try.prog 19 := Go.Proofs.enters_of Try.func19 (by kernel_rfl) rfl
theorem ksesn_en20 : Go.Proofs.Enters Try.prog 20 := Go.Proofs.enters_of Try.func20 (by kernel_rfl) rfl
theorem ksesn_en22 : Go.Proofs.Enters Try.prog 22 := Go.Proofs.enters_of Try.func22 (by kernel_rfl) rfl
theorem ksesn_en40 : Go.Proofs.Enters Try.prog 40 := Go.Proofs.enters_of Try.func40 (by kernel_rfl) rfl
theorem ksesn_en42 : Go.Proofs.Enters Try.prog 42 := Go.Proofs.enters_of Try.func42 (by kernel_rfl) rfl
theorem ksesn_en47 : Go.Proofs.Enters Try.prog 47 := Go.Proofs.enters_of Try.func47 (by kernel_rfl) rfl
theorem ksesn_en53 : Go.Proofs.Enters Try.prog 53 := Go.Proofs.enters_of Try.func53 (by kernel_rfl) rfl
theorem ksesn_en55 : Go.Proofs.Enters Try.prog 55 := Go.Proofs.enters_of Try.func55 (by kernel_rfl) rfl
theorem ksesn_fo34_0 : fieldOff Try.prog 34 0 = some 0 := by kernel_rfl
theorem ksesn_fo36_1 : fieldOff Try.prog 36 1 = some 1 := by kernel_rfl
theorem ksesn_fo36_2 : fieldOff Try.prog 36 2 = some 2 := by kernel_rfl
theorem ksesn_oc27 : oneCellT Try.prog 27 = true := by kernel_rfl
theorem ksesn_oc3 : oneCellT Try.prog 3 = true := by kernel_rfl
theorem ksesn_oc9 : oneCellT Try.prog 9 = true := by kernel_rfl
theorem ksesn_si97 : structInfo Try.prog 97 = some ([(0, 1), (1, 1), (2, 1), (3, 1)], [Value.map none, Value.slice none 0 0, Value.map none, Value.int .i64 0]) := by kernel_rfl
theorem ksesn_sz27 : (Try.prog.info? 27).map (·.size) = some 1 := by kernel_rfl
def NoB (w : World) (p : Option Addr) : Prop := p = none ∨ ∃ b vl vo m, p = some ⟨b, 0, none⟩ ∧ Box w b 97 [.map none, vl, vo, .int .i64 m]
theorem NoB.carry {w w' : World} {p : Option Addr} (h : NoB w p) (g : Bel w w') : NoB w' p := by
  rcases h with h | ⟨b, vl, vo, m, h1, h2⟩
  · exact .inl h
  · exact .inr ⟨b, vl, vo, m, h1, h2.carry g⟩
theorem none_no (p : Option Addr) (w : World) (h : NoB w p) : Ret Try.prog 53 #[.pointer p] w fun v w' => v = .bool true ∧ w' = w := by
  rcases h with rfl | ⟨b, vl, vo, m, rfl, hb⟩
  · exact none_nil w
  · exact none_zero b vl vo m w hb
theorem find_no (p : Option Addr) (id : Int) (w : World) (h : NoB w p) : Ret Try.prog 55 #[.pointer p, .int .i64 id] w fun v w' => v = .tuple #[.pointer none, .int .i64 1] ∧ w' = w := by
  refine ret_of_W Try.func55 rfl (Nat.le_of_ble_eq_true rfl) (res2 rfl) ?_
  refine W.seq ?_
  refine W.region ?_
  refine L.val (x_as (v := .pointer _) rfl) rfl ?_
  refine L.val (x_as (v := .int _ _) rfl) rfl ?_
  refine L.nil ?_
  refine thn_n ?_
  refine W.seq ?_
  refine W.seq ?_
  refine W.region ?_
  refine L.val (x_mv (v := .pointer _) rfl) rfl ?_
  refine L.ret (x_call ksesn_en53 rfl) rfl (none_no p _ h) ?_
  rintro _ w9 ⟨rfl, rfl⟩
  refine L.nil ?_
  refine thn_n ?_
  refine W.cond (b := _) rfl (fun g9 => ?_) (fun g9 => ?_)
  ·have h9 := g9
   refine W.seq ?_
   refine W.region ?_
   refine L.val (x_as (v := .pointer _) rfl) rfl ?_
   refine L.val (x_as (v := .int _ _) rfl) rfl ?_
   refine L.nil ?_
   refine thn_n ?_
   refine W.ret (thn_r (fin_mk (.inr rfl) ?_))
   exact ⟨rfl, rfl⟩
  ·have h9 := g9
   cases g9
theorem begin_no (p : Option Addr) (w : World) (h : NoB w p) : Ret Try.prog 18 #[.pointer p] w fun v w' => v = .int .i64 0 ∧ w' = w := by
  refine ret_of_W Try.func18 rfl (Nat.le_of_ble_eq_true rfl) (res1 rfl) ?_
  refine W.seq ?_
  refine W.region ?_
  refine L.val (x_as (v := .int _ _) rfl) rfl ?_
  refine L.nil ?_
  refine thn_n ?_
  refine W.seq ?_
  refine W.seq ?_
  refine W.region ?_
  refine L.val (x_mv (v := .pointer _) rfl) rfl ?_
  refine L.ret (x_call ksesn_en53 rfl) rfl (none_no p _ h) ?_
  rintro _ w4 ⟨rfl, rfl⟩
  refine L.nil ?_
  refine thn_n ?_
  refine W.cond (b := _) rfl (fun g4 => ?_) (fun g4 => ?_)
  ·have h4 := g4
   refine W.seq ?_
   refine W.region ?_
   refine L.val (x_as (v := .int _ _) rfl) rfl ?_
   refine L.nil ?_
   refine thn_n ?_
   refine W.ret (thn_r (fin_mk (.inr rfl) ?_))
   exact ⟨rfl, rfl⟩
  ·have h4 := g4
   cases g4
theorem get_no (p : Option Addr) (id : Int) (key : Str) (w : World) (h : NoB w p) : Ret Try.prog 19 #[.pointer p, .int .i64 id, S key] w fun v w' => v = .tuple #[S [], .bool false, .int .i64 1] ∧ w' = w := by
  refine ret_of_W Try.func19 rfl (Nat.le_of_ble_eq_true rfl) (res3 rfl) ?_
  refine W.seq ?_
  refine W.region ?_
  refine L.val (x_as (v := S _) rfl) rfl ?_
  refine L.val (x_as (v := .bool _) rfl) rfl ?_
  refine L.val (x_as (v := .int _ _) rfl) rfl ?_
  refine L.nil ?_
  refine thn_n ?_
  refine W.seq ?_
  refine W.region ?_
  refine L.val (x_mv (v := .pointer _) rfl) rfl ?_
  refine L.val (x_mv (v := .int _ _) rfl) rfl ?_
  refine L.ret (x_call ksesn_en55 rfl) rfl (find_no p id _ h) ?_
  rintro _ w18 ⟨rfl, rfl⟩
  refine L.val (x_mv (v := _) rfl) rfl ?_
  refine L.val (x_ext (v := .pointer _) rfl rfl) rfl ?_
  refine L.val (x_ext (v := .int _ _) rfl rfl) rfl ?_
  refine L.val (x_as (v := .pointer _) rfl) rfl ?_
  refine L.val (x_as (v := .int _ _) rfl) rfl ?_
  refine L.nil ?_
  refine thn_n ?_
  refine W.seq ?_
  refine W.seq ?_
  refine W.region ?_
  refine L.val (x_mv (v := .int _ _) rfl) rfl ?_
  refine L.val (x_neq rfl rfl) rfl ?_
  refine L.nil ?_
  refine thn_n ?_
  refine W.cond (b := _) rfl (fun g22 => ?_) (fun g22 => ?_)
  ·have h22 := dne_t g22
   refine W.seq ?_
   refine W.region ?_
   refine L.val (x_mv (v := .int _ _) rfl) rfl ?_
   refine L.val (x_as (v := S _) rfl) rfl ?_
   refine L.val (x_as (v := .bool _) rfl) rfl ?_
   refine L.val (x_as (v := .int _ _) rfl) rfl ?_
   refine L.nil ?_
   refine thn_n ?_
   refine W.ret (thn_r (fin_mk (.inr rfl) ?_))
   exact ⟨rfl, rfl⟩
  ·have h22 := dne_f g22
   cases g22
theorem keys_no (p : Option Addr) (id : Int) (key : Str) (w : World) (h : NoB w p) : Ret Try.prog 20 #[.pointer p, .int .i64 id, S key] w fun v w' => v = .tuple #[.slice none 0 0, .int .i64 1] ∧ w' = w := by
  refine ret_of_W Try.func20 rfl (Nat.le_of_ble_eq_true rfl) (res2 rfl) ?_
  refine W.seq ?_
  refine W.region ?_
  refine L.val (x_as (v := .slice _ _ _) rfl) rfl ?_
  refine L.val (x_as (v := .int _ _) rfl) rfl ?_
  refine L.nil ?_
  refine thn_n ?_
  refine W.seq ?_
  refine W.region ?_
  refine L.val (x_mv (v := .pointer _) rfl) rfl ?_
  refine L.val (x_mv (v := .int _ _) rfl) rfl ?_
  refine L.ret (x_call ksesn_en55 rfl) rfl (find_no p id _ h) ?_
  rintro _ w22 ⟨rfl, rfl⟩
  refine L.val (x_mv (v := _) rfl) rfl ?_
  refine L.val (x_ext (v := .pointer _) rfl rfl) rfl ?_
  refine L.val (x_ext (v := .int _ _) rfl rfl) rfl ?_
  refine L.val (x_as (v := .pointer _) rfl) rfl ?_
  refine L.val (x_as (v := .int _ _) rfl) rfl ?_
  refine L.nil ?_
  refine thn_n ?_
  refine W.seq ?_
  refine W.seq ?_
  refine W.region ?_
  refine L.val (x_mv (v := .int _ _) rfl) rfl ?_
  refine L.val (x_neq rfl rfl) rfl ?_
  refine L.nil ?_
  refine thn_n ?_
  refine W.cond (b := _) rfl (fun g26 => ?_) (fun g26 => ?_)
  ·have h26 := dne_t g26
   refine W.seq ?_
   refine W.region ?_
   refine L.val (x_mv (v := .int _ _) rfl) rfl ?_
   refine L.val (x_as (v := .slice _ _ _) rfl) rfl ?_
   refine L.val (x_as (v := .int _ _) rfl) rfl ?_
   refine L.nil ?_
   refine thn_n ?_
   refine W.ret (thn_r (fin_mk (.inr rfl) ?_))
   exact ⟨rfl, rfl⟩
  ·have h26 := dne_f g26
   cases g26
theorem put_no (p : Option Addr) (id : Int) (e : Ed) (w : World) (h : NoB w p) : Ret Try.prog 40 #[.pointer p, .int .i64 id, .agg (edV e).toArray] w fun v w' => v = .int .i64 1 ∧ Bel w w' := by
  refine ret_of_W Try.func40 rfl (Nat.le_of_ble_eq_true rfl) (res1 rfl) ?_
  have hB := Gr.refl (fun _ => False) w
  refine W.seq ?_
  refine W.region ?_
  refine L.box (cs := edV e) rfl rfl (fun w5 bx5 hw hz5 => ?_)
  have hB := hB.carry hw; have h := h.carry hw
  refine L.val (x_as (v := .int _ _) rfl) rfl ?_
  refine L.nil ?_
  refine thn_n ?_
  refine W.seq ?_
  refine W.region ?_
  refine L.val (x_mv (v := .pointer _) rfl) rfl ?_
  refine L.val (x_mv (v := .int _ _) rfl) rfl ?_
  refine L.ret (x_call ksesn_en55 rfl) rfl (find_no p id _ h) ?_
  rintro v12 w12 ⟨rfl, hq⟩
  rw [hq]
  refine L.val (x_mv (v := _) rfl) rfl ?_
  refine L.val (x_ext (v := .pointer _) rfl rfl) rfl ?_
  refine L.val (x_ext (v := .int _ _) rfl rfl) rfl ?_
  refine L.val (x_as (v := .pointer _) rfl) rfl ?_
  refine L.val (x_as (v := .int _ _) rfl) rfl ?_
  refine L.nil ?_
  refine thn_n ?_
  refine W.seq ?_
  refine W.seq ?_
  refine W.region ?_
  refine L.val (x_mv (v := .int _ _) rfl) rfl ?_
  refine L.val (x_neq rfl rfl) rfl ?_
  refine L.nil ?_
  refine thn_n ?_
  refine W.cond (b := _) rfl (fun g16 => ?_) (fun g16 => ?_)
  ·have h16 := dne_t g16
   refine W.seq ?_
   refine W.region ?_
   refine L.val (x_mv (v := .int _ _) rfl) rfl ?_
   refine L.val (x_as (v := .int _ _) rfl) rfl ?_
   refine L.nil ?_
   refine thn_n ?_
   refine W.ret (thn_r (fin_mk (.inr rfl) ?_))
   exact ⟨rfl, hB⟩
  ·have h16 := dne_f g16
   cases g16
theorem commit_no (p : Option Addr) (id : Int) (w : World) (h : NoB w p) : Ret Try.prog 42 #[.pointer p, .int .i64 id] w fun v w' => v = .int .i64 1 ∧ w' = w := by
  refine ret_of_W Try.func42 rfl (Nat.le_of_ble_eq_true rfl) (res1 rfl) ?_
  refine W.seq ?_
  refine W.region ?_
  refine L.val (x_as (v := .int _ _) rfl) rfl ?_
  refine L.nil ?_
  refine thn_n ?_
  refine W.seq ?_
  refine W.region ?_
  refine L.val (x_mv (v := .pointer _) rfl) rfl ?_
  refine L.val (x_mv (v := .int _ _) rfl) rfl ?_
  refine L.ret (x_call ksesn_en55 rfl) rfl (find_no p id _ h) ?_
  rintro _ w10 ⟨rfl, rfl⟩
  refine L.val (x_mv (v := _) rfl) rfl ?_
  refine L.val (x_ext (v := .pointer _) rfl rfl) rfl ?_
  refine L.val (x_ext (v := .int _ _) rfl rfl) rfl ?_
  refine L.val (x_as (v := .pointer _) rfl) rfl ?_
  refine L.val (x_as (v := .int _ _) rfl) rfl ?_
  refine L.nil ?_
  refine thn_n ?_
  refine W.seq ?_
  refine W.seq ?_
  refine W.region ?_
  refine L.val (x_mv (v := .int _ _) rfl) rfl ?_
  refine L.val (x_neq rfl rfl) rfl ?_
  refine L.nil ?_
  refine thn_n ?_
  refine W.cond (b := _) rfl (fun g14 => ?_) (fun g14 => ?_)
  ·have h14 := dne_t g14
   refine W.seq ?_
   refine W.region ?_
   refine L.val (x_mv (v := .int _ _) rfl) rfl ?_
   refine L.val (x_as (v := .int _ _) rfl) rfl ?_
   refine L.nil ?_
   refine thn_n ?_
   refine W.ret (thn_r (fin_mk (.inr rfl) ?_))
   exact ⟨rfl, rfl⟩
  ·have h14 := dne_f g14
   cases g14
theorem abort_no (p : Option Addr) (id : Int) (w : World) (h : NoB w p) : Ret Try.prog 22 #[.pointer p, .int .i64 id] w fun v w' => v = .int .i64 1 ∧ w' = w := by
  refine ret_of_W Try.func22 rfl (Nat.le_of_ble_eq_true rfl) (res1 rfl) ?_
  refine W.seq ?_
  refine W.region ?_
  refine L.val (x_as (v := .int _ _) rfl) rfl ?_
  refine L.nil ?_
  refine thn_n ?_
  refine W.seq ?_
  refine W.region ?_
  refine L.val (x_mv (v := .pointer _) rfl) rfl ?_
  refine L.val (x_mv (v := .int _ _) rfl) rfl ?_
  refine L.ret (x_call ksesn_en55 rfl) rfl (find_no p id _ h) ?_
  rintro _ w10 ⟨rfl, rfl⟩
  refine L.val (x_mv (v := _) rfl) rfl ?_
  refine L.val (x_ext (v := .pointer _) rfl rfl) rfl ?_
  refine L.val (x_ext (v := .int _ _) rfl rfl) rfl ?_
  refine L.val (x_as (v := .pointer _) rfl) rfl ?_
  refine L.val (x_as (v := .int _ _) rfl) rfl ?_
  refine L.nil ?_
  refine thn_n ?_
  refine W.seq ?_
  refine W.seq ?_
  refine W.region ?_
  refine L.val (x_mv (v := .int _ _) rfl) rfl ?_
  refine L.val (x_eql rfl rfl) rfl ?_
  refine L.nil ?_
  refine thn_n ?_
  refine W.cond (b := _) rfl (fun g14 => ?_) (fun g14 => ?_)
  ·have h14 := of_decide_eq_true g14
   cases g14
  ·have h14 := of_decide_eq_false g14
   refine W.skip ?_
   refine thn_n ?_
   refine W.seq ?_
   refine W.region ?_
   refine L.val (x_mv (v := .int _ _) rfl) rfl ?_
   refine L.val (x_as (v := .int _ _) rfl) rfl ?_
   refine L.nil ?_
   refine thn_n ?_
   refine W.ret (fin_mk (.inr rfl) ?_)
   exact ⟨rfl, rfl⟩
theorem log_no (p : Option Addr) (w : World) (h : NoB w p) : Ret Try.prog 16 #[.pointer p] w fun v w' => v = .slice none 0 0 ∧ w' = w := by
  refine ret_of_W Try.func16 rfl (Nat.le_of_ble_eq_true rfl) (res1 rfl) ?_
  refine W.seq ?_
  refine W.region ?_
  refine L.val (x_as (v := .slice _ _ _) rfl) rfl ?_
  refine L.nil ?_
  refine thn_n ?_
  refine W.seq ?_
  refine W.seq ?_
  refine W.region ?_
  refine L.val (x_mv (v := .pointer _) rfl) rfl ?_
  refine L.ret (x_call ksesn_en53 rfl) rfl (none_no p _ h) ?_
  rintro _ w7 ⟨rfl, rfl⟩
  refine L.nil ?_
  refine thn_n ?_
  refine W.cond (b := _) rfl (fun g7 => ?_) (fun g7 => ?_)
  ·have h7 := g7
   refine W.seq ?_
   refine W.region ?_
   refine L.val (x_as (v := .slice _ _ _) rfl) rfl ?_
   refine L.nil ?_
   refine thn_n ?_
   refine W.ret (thn_r (fin_mk (.inr rfl) ?_))
   exact ⟨rfl, rfl⟩
  ·have h7 := g7
   cases g7
theorem state_no (p : Option Addr) (w : World) (h : NoB w p) : Ret Try.prog 47 #[.pointer p] w fun v w' => v = .slice none 0 0 ∧ w' = w := by
  refine ret_of_W Try.func47 rfl (Nat.le_of_ble_eq_true rfl) (res1 rfl) ?_
  refine W.seq ?_
  refine W.region ?_
  refine L.val (x_as (v := .slice _ _ _) rfl) rfl ?_
  refine L.nil ?_
  refine thn_n ?_
  refine W.seq ?_
  refine W.seq ?_
  refine W.region ?_
  refine L.val (x_mv (v := .pointer _) rfl) rfl ?_
  refine L.ret (x_call ksesn_en53 rfl) rfl (none_no p _ h) ?_
  rintro _ w9 ⟨rfl, rfl⟩
  refine L.nil ?_
  refine thn_n ?_
  refine W.cond (b := _) rfl (fun g9 => ?_) (fun g9 => ?_)
  ·have h9 := g9
   refine W.seq ?_
   refine W.region ?_
   refine L.val (x_as (v := .slice _ _ _) rfl) rfl ?_
   refine L.nil ?_
   refine thn_n ?_
   refine W.ret (thn_r (fin_mk (.inr rfl) ?_))
   exact ⟨rfl, rfl⟩
  ·have h9 := g9
   cases g9
structure Ac where
  kind : Int
  id : Int
  ed : Ed
instance : Inhabited Ac := ⟨⟨0, 0, default⟩⟩
def acV (a : Ac) : List Value := [.int .i64 a.kind, .int .i64 a.id, S a.ed.key, S a.ed.val, .bool a.ed.gone]
def AcC (_ : Nat → Prop) (_ : World) (cs : List Value) (a : Ac) : Prop := cs = acV a ∧ EdOk a.ed
theorem acV_one (a : Ac) : ∀ v ∈ acV a, v.oneCell' = true := fun v hv => by
  simp only [acV, List.mem_cons, List.not_mem_nil, or_false] at hv
  rcases hv with rfl | rfl | rfl | rfl | rfl <;> rfl
instance car_ac : Car AcC 5 where
  pos := by omega
  len := fun h => by rw [h.1]; rfl
  one := fun h => by rw [h.1]; exact acV_one _
  move := fun _ h => h
theorem nobody (a : Ac) (w : World) : Ret Try.prog 9 #[.agg (acV a).toArray] w fun v w' => v = .bool true ∧ Bel w w' := by
  refine ret_of_W Try.func9 rfl (Nat.le_of_ble_eq_true rfl) (res1 rfl) ?_
  have hB := Gr.refl (fun _ => False) w
  refine W.seq ?_
  refine W.region ?_
  refine L.box (cs := acV a) rfl rfl (fun w1 bx1 hw hz1 => ?_)
  have hB := hB.carry hw
  refine L.val (x_as (v := .bool _) rfl) rfl ?_
  refine L.nil ?_
  refine thn_n ?_
  refine W.seq ?_
  refine W.seq ?_
  refine W.region ?_
  refine L.val (x_build (cells := [.map _, .slice _ _ _, .map _, .int _ _]) ksesn_si97 rfl rfl) rfl ?_
  refine L.box (cs := [.map none, .slice none 0 0, .map none, .int .i64 0]) rfl rfl (fun w11 bx11 hw hz11 => ?_)
  have hB := hB.carry hw; have bx1 := bx1.carry hw
  refine L.bs (sz := 1) (cells := _) Try.underlying98 ksesn_el27 rfl rfl rfl rfl (fun w12 bx12 hw hz12 => ?_)
  have hB := hB.carry hw; have bx1 := bx1.carry hw; have bx11 := bx11.carry hw
  refine L.val (x_len_slice Try.underlying98 rfl) rfl ?_
  refine L.val (x_mv (v := .int _ _) rfl) rfl ?_
  refine L.nil ?_
  refine thn_n ?_
  refine W.block ?_
  refine W.loop (fun m' E w' => ∃ (k : Nat), m' = 2 - k ∧ E 1 = .pointer (some ⟨w.heap.size, 0, none⟩) ∧ E 12 = .slice (some ⟨w11.heap.size, 0, none⟩) 2 2 ∧ E 13 = .int .i64 2 ∧ E 14 = .int .i64 (k : Nat) ∧ (k ≤ 2) ∧ (Bel w w') ∧ (Box w' w.heap.size 36 (acV a)) ∧ (Box w' w1.heap.size 97 [.map none, .slice none 0 0, .map none, .int .i64 0]) ∧ (Box w' w11.heap.size 27 [.pointer none, .pointer (some ⟨w1.heap.size, 0, none⟩)])) (2) ?_ ?_
  ·exact ⟨0, by omega, by first | rfl | exact vi (by omega), by first | rfl | exact vi (by omega), by first | rfl | exact vi (by omega), by first | rfl | exact vi (by omega), (by first | assumption | omega | rfl), (by first | assumption | omega | rfl), (by first | assumption | omega | rfl), (by first | assumption | omega | rfl), (by first | assumption | omega | rfl)⟩
  ·rintro _ E wL15 ⟨k, em, e1, e12, e13, e14, hk, hB, bx1, bx11, bx12⟩
   rw [upd_self e1, upd_self e12, upd_self e13, upd_self e14]
   refine W.seq ?_
   refine W.region ?_
   refine L.val (x_lss rfl rfl) rfl ?_
   refine L.nil ?_
   refine thn_n ?_
   refine W.seq ?_
   refine W.cond (b := _) rfl (fun g15 => ?_) (fun g15 => ?_)
   ·have h15 := of_decide_eq_true g15
    have hlt : k < 2 := by omega
    obtain ⟨p, hp, hc, hno⟩ : ∃ p, p = (if k = 0 then none else some (⟨w1.heap.size, 0, none⟩ : Addr)) ∧ wL15.cell? ⟨w11.heap.size, 0 + k, none⟩ = some (.pointer p) ∧ NoB wL15 p := by
      refine ⟨_, rfl, ?_, ?_⟩
      · by_cases hk0 : k = 0
        · subst hk0; exact bx12.cell0 (i := 0) rfl
        · have : k = 1 := by omega
          subst this; exact bx12.cell0 (i := 1) rfl
      · by_cases hk0 : k = 0
        · exact .inl (by rw [if_pos hk0])
        · exact .inr ⟨_, _, _, _, by rw [if_neg hk0], bx11⟩
    refine W.skip ?_
    refine thn_n ?_
    refine W.seq ?_
    refine W.block ?_
    refine W.seq ?_
    refine W.region ?_
    refine L.val (x_ia1 (j := k) Try.underlying98 ksesn_sz27 rfl rfl (by omega) (by omega)) rfl ?_
    refine L.val (x_ld (v := .pointer _) ksesn_oc27 rfl hc) rfl ?_
    refine L.val (x_as (v := .pointer _) rfl) rfl ?_
    refine L.nil ?_
    refine thn_n ?_
    refine W.seq ?_
    refine W.region ?_
    refine L.val (x_mv (v := .pointer _) rfl) rfl ?_
    refine L.val (x_fa ksesn_fo36_1 rfl) rfl ?_
    refine L.val (x_ld (v := .int _ _) ksesn_oc3 rfl (bx1.cell0 rfl)) rfl ?_
    refine L.val (x_fa ksesn_fo36_2 rfl) rfl ?_
    refine L.val (x_fa ksesn_fo34_0 rfl) rfl ?_
    refine L.val (x_ld (v := S _) ksesn_oc9 rfl (bx1.cell (i := 0 + 2 + 0) rfl)) rfl ?_
    refine L.ret (x_call ksesn_en19 rfl) rfl (get_no p _ _ _ hno) ?_
    rintro v25 w25 ⟨rfl, hq⟩
    rw [hq]
    refine L.val (x_mv (v := _) rfl) rfl ?_
    refine L.val (x_ext (v := S _) rfl rfl) rfl ?_
    refine L.val (x_ext (v := .bool _) rfl rfl) rfl ?_
    refine L.val (x_ext (v := .int _ _) rfl rfl) rfl ?_
    refine L.val (x_as (v := S _) rfl) rfl ?_
    refine L.val (x_as (v := .bool _) rfl) rfl ?_
    refine L.val (x_as (v := .int _ _) rfl) rfl ?_
    refine L.nil ?_
    refine thn_n ?_
    refine W.seq ?_
    refine W.region ?_
    refine L.val (x_mv (v := .pointer _) rfl) rfl ?_
    refine L.val (x_fa ksesn_fo36_1 rfl) rfl ?_
    refine L.val (x_ld (v := .int _ _) ksesn_oc3 rfl (bx1.cell0 rfl)) rfl ?_
    refine L.val (x_fa ksesn_fo36_2 rfl) rfl ?_
    refine L.val (x_fa ksesn_fo34_0 rfl) rfl ?_
    refine L.val (x_ld (v := S _) ksesn_oc9 rfl (bx1.cell (i := 0 + 2 + 0) rfl)) rfl ?_
    refine L.ret (x_call ksesn_en20 rfl) rfl (keys_no p _ _ _ hno) ?_
    rintro v36 w36 ⟨rfl, hq⟩
    rw [hq]
    refine L.val (x_mv (v := _) rfl) rfl ?_
    refine L.val (x_ext (v := .slice _ _ _) rfl rfl) rfl ?_
    refine L.val (x_ext (v := .int _ _) rfl rfl) rfl ?_
    refine L.val (x_as (v := .slice _ _ _) rfl) rfl ?_
    refine L.val (x_as (v := .int _ _) rfl) rfl ?_
    refine L.nil ?_
    refine thn_n ?_
    refine W.seq ?_
    refine W.region ?_
    refine L.val (x_mv (v := .pointer _) rfl) rfl ?_
    refine L.ret (x_call ksesn_en18 rfl) rfl (begin_no p _ hno) ?_
    rintro v40 w40 ⟨rfl, hq⟩
    rw [hq]
    refine L.val (x_neq rfl rfl) rfl ?_
    refine L.val (x_mv (v := .bool _) rfl) rfl ?_
    refine L.splitat (dj := 42) (b := _) rfl (fun g42 => ?_) (fun g42 => ?_)
    ·have h42 := dne_t g42
     exact absurd g42 (by decide +kernel)
    ·have h42 := dne_f g42
     refine L.gyes' (dj := 42) (b := _) rfl rfl g42 ?_
     refine L.val (x_mv (v := S _) rfl) rfl ?_
     refine L.gyes' (dj := 42) (b := _) rfl rfl g42 ?_
     refine L.val (x_nes rfl rfl) rfl ?_
     refine L.val (x_pick_f (v := .bool _) (congrArg Value.bool g42) rfl) rfl ?_
     refine L.val (x_mv (v := .bool _) rfl) rfl ?_
     refine L.splitat (dj := 46) (b := _) rfl (fun g46 => ?_) (fun g46 => ?_)
     ·have h46 := sne_t g46
      exact absurd g46 (by decide +kernel)
     ·have h46 := sne_f g46
      refine L.gyes' (dj := 46) (b := _) rfl rfl g46 ?_
      refine L.val (x_mv (v := .bool _) rfl) rfl ?_
      refine L.val (x_pick_f (v := .bool _) (congrArg Value.bool g46) rfl) rfl ?_
      refine L.val (x_mv (v := .bool _) rfl) rfl ?_
      refine L.splitat (dj := 49) (b := _) rfl (fun g49 => ?_) (fun g49 => ?_)
      ·have h49 := g49
       exact absurd g49 (by decide +kernel)
      ·have h49 := g49
       refine L.gyes' (dj := 49) (b := _) rfl rfl g49 ?_
       refine L.val (x_mv (v := .int _ _) rfl) rfl ?_
       refine L.gyes' (dj := 49) (b := _) rfl rfl g49 ?_
       refine L.val (x_neq rfl rfl) rfl ?_
       refine L.val (x_pick_f (v := .bool _) (congrArg Value.bool g49) rfl) rfl ?_
       refine L.val (x_mv (v := .bool _) rfl) rfl ?_
       refine L.splitat (dj := 53) (b := _) rfl (fun g53 => ?_) (fun g53 => ?_)
       ·have h53 := dne_t g53
        exact absurd g53 (by decide +kernel)
       ·have h53 := dne_f g53
        refine L.gyes' (dj := 53) (b := _) rfl rfl g53 ?_
        refine L.val (x_mv (v := .slice _ _ _) rfl) rfl ?_
        refine L.gyes' (dj := 53) (b := _) rfl rfl g53 ?_
        refine L.val (x_len_slice Try.underlying37 rfl) rfl ?_
        refine L.gyes' (dj := 53) (b := _) rfl rfl g53 ?_
        refine L.val (x_neq rfl rfl) rfl ?_
        refine L.val (x_pick_f (v := .bool _) (congrArg Value.bool g53) rfl) rfl ?_
        refine L.val (x_mv (v := .bool _) rfl) rfl ?_
        refine L.splitat (dj := 58) (b := _) rfl (fun g58 => ?_) (fun g58 => ?_)
        ·have h58 := dne_t g58
         exact absurd g58 (by decide +kernel)
        ·have h58 := dne_f g58
         refine L.gyes' (dj := 58) (b := _) rfl rfl g58 ?_
         refine L.val (x_mv (v := .int _ _) rfl) rfl ?_
         refine L.gyes' (dj := 58) (b := _) rfl rfl g58 ?_
         refine L.val (x_neq rfl rfl) rfl ?_
         refine L.val (x_pick_f (v := .bool _) (congrArg Value.bool g58) rfl) rfl ?_
         refine L.val (x_mv (v := .bool _) rfl) rfl ?_
         refine L.splitat (dj := 62) (b := _) rfl (fun g62 => ?_) (fun g62 => ?_)
         ·have h62 := dne_t g62
          exact absurd g62 (by decide +kernel)
         ·have h62 := dne_f g62
          refine L.gyes' (dj := 62) (b := _) rfl rfl g62 ?_
          refine L.val (x_mv (v := .pointer _) rfl) rfl ?_
          refine L.gyes' (dj := 62) (b := _) rfl rfl g62 ?_
          refine L.val (x_fa ksesn_fo36_1 rfl) rfl ?_
          refine L.gyes' (dj := 62) (b := _) rfl rfl g62 ?_
          refine L.val (x_ld (v := .int _ _) ksesn_oc3 rfl (bx1.cell0 rfl)) rfl ?_
          refine L.gyes' (dj := 62) (b := _) rfl rfl g62 ?_
          refine L.val (x_fa ksesn_fo36_2 rfl) rfl ?_
          refine L.gyes' (dj := 62) (b := _) rfl rfl g62 ?_
          refine L.val (x_ldn (vs := edV a.ed) ksesn_ag34 rfl rfl (bx1.rowD 2 rfl)) rfl ?_
          refine L.gyes' (dj := 62) (b := _) rfl rfl g62 ?_
          refine L.ret (x_call ksesn_en40 rfl) rfl (put_no p _ a.ed _ hno) ?_
          rintro v68 w68 ⟨rfl, hw⟩
          have hB := hB.carry hw; have bx1 := bx1.carry hw; have bx11 := bx11.carry hw; have bx12 := bx12.carry hw
          have hno := hno.carry hw
          refine L.gyes' (dj := 62) (b := _) rfl rfl g62 ?_
          refine L.val (x_neq rfl rfl) rfl ?_
          refine L.val (x_pick_f (v := .bool _) (congrArg Value.bool g62) rfl) rfl ?_
          refine L.val (x_mv (v := .bool _) rfl) rfl ?_
          refine L.splitat (dj := 71) (b := _) rfl (fun g71 => ?_) (fun g71 => ?_)
          ·have h71 := dne_t g71
           exact absurd g71 (by decide +kernel)
          ·have h71 := dne_f g71
           refine L.gyes' (dj := 71) (b := _) rfl rfl g71 ?_
           refine L.val (x_mv (v := .pointer _) rfl) rfl ?_
           refine L.gyes' (dj := 71) (b := _) rfl rfl g71 ?_
           refine L.val (x_fa ksesn_fo36_1 rfl) rfl ?_
           refine L.gyes' (dj := 71) (b := _) rfl rfl g71 ?_
           refine L.val (x_ld (v := .int _ _) ksesn_oc3 rfl (bx1.cell0 rfl)) rfl ?_
           refine L.gyes' (dj := 71) (b := _) rfl rfl g71 ?_
           refine L.ret (x_call ksesn_en42 rfl) rfl (commit_no p _ _ hno) ?_
           rintro v75 w75 ⟨rfl, hq⟩
           rw [hq]
           refine L.gyes' (dj := 71) (b := _) rfl rfl g71 ?_
           refine L.val (x_neq rfl rfl) rfl ?_
           refine L.val (x_pick_f (v := .bool _) (congrArg Value.bool g71) rfl) rfl ?_
           refine L.val (x_mv (v := .bool _) rfl) rfl ?_
           refine L.splitat (dj := 78) (b := _) rfl (fun g78 => ?_) (fun g78 => ?_)
           ·have h78 := dne_t g78
            exact absurd g78 (by decide +kernel)
           ·have h78 := dne_f g78
            refine L.gyes' (dj := 78) (b := _) rfl rfl g78 ?_
            refine L.val (x_mv (v := .pointer _) rfl) rfl ?_
            refine L.gyes' (dj := 78) (b := _) rfl rfl g78 ?_
            refine L.val (x_fa ksesn_fo36_1 rfl) rfl ?_
            refine L.gyes' (dj := 78) (b := _) rfl rfl g78 ?_
            refine L.val (x_ld (v := .int _ _) ksesn_oc3 rfl (bx1.cell0 rfl)) rfl ?_
            refine L.gyes' (dj := 78) (b := _) rfl rfl g78 ?_
            refine L.ret (x_call ksesn_en22 rfl) rfl (abort_no p _ _ hno) ?_
            rintro v82 w82 ⟨rfl, hq⟩
            rw [hq]
            refine L.gyes' (dj := 78) (b := _) rfl rfl g78 ?_
            refine L.val (x_neq rfl rfl) rfl ?_
            refine L.val (x_pick_f (v := .bool _) (congrArg Value.bool g78) rfl) rfl ?_
            refine L.val (x_mv (v := .bool _) rfl) rfl ?_
            refine L.splitat (dj := 85) (b := _) rfl (fun g85 => ?_) (fun g85 => ?_)
            ·have h85 := dne_t g85
             exact absurd g85 (by decide +kernel)
            ·have h85 := dne_f g85
             refine L.gyes' (dj := 85) (b := _) rfl rfl g85 ?_
             refine L.val (x_mv (v := .pointer _) rfl) rfl ?_
             refine L.gyes' (dj := 85) (b := _) rfl rfl g85 ?_
             refine L.ret (x_call ksesn_en16 rfl) rfl (log_no p _ hno) ?_
             rintro v87 w87 ⟨rfl, hq⟩
             rw [hq]
             refine L.gyes' (dj := 85) (b := _) rfl rfl g85 ?_
             refine L.val (x_len_slice Try.underlying30 rfl) rfl ?_
             refine L.gyes' (dj := 85) (b := _) rfl rfl g85 ?_
             refine L.val (x_mv (v := .pointer _) rfl) rfl ?_
             refine L.gyes' (dj := 85) (b := _) rfl rfl g85 ?_
             refine L.ret (x_call ksesn_en47 rfl) rfl (state_no p _ hno) ?_
             rintro v90 w90 ⟨rfl, hq⟩
             rw [hq]
             refine L.gyes' (dj := 85) (b := _) rfl rfl g85 ?_
             refine L.val (x_len_slice Try.underlying22 rfl) rfl ?_
             refine L.gyes' (dj := 85) (b := _) rfl rfl g85 ?_
             refine L.val (x_add rfl rfl (wr64 (by omega))) rfl ?_
             refine L.gyes' (dj := 85) (b := _) rfl rfl g85 ?_
             refine L.val (x_neq rfl rfl) rfl ?_
             refine L.val (x_pick_f (v := .bool _) (congrArg Value.bool g85) rfl) rfl ?_
             refine L.nil ?_
             refine thn_n ?_
             refine W.cond (b := _) rfl (fun g93 => ?_) (fun g93 => ?_)
             ·have h93 := dne_t g93
              exact absurd g93 (by decide +kernel)
             ·have h93 := dne_f g93
              refine W.skip ?_
              refine blk_n ?_
              refine thn_n ?_
              refine W.region ?_
              refine L.val (x_add rfl rfl (wr64 (by omega))) rfl ?_
              refine L.val (x_mv (v := .int _ _) rfl) rfl ?_
              refine L.nil ?_
              refine thn_n ⟨rfl, ?_⟩
              refine ⟨_, ?_, k + 1, rfl, by first | rfl | exact vi (by omega), by first | rfl | exact vi (by omega), by first | rfl | exact vi (by omega), by first | rfl | exact vi (by omega), (by first | assumption | omega | rfl), (by first | assumption | omega | rfl), (by first | assumption | omega | rfl), (by first | assumption | omega | rfl), (by first | assumption | omega | rfl)⟩
              omega
   ·have h15 := dlt_f g15
    refine W.exit (thn_x (thn_x (blk_hit ?_)))
    refine thn_n ?_
    refine W.seq ?_
    refine W.region ?_
    refine L.ret (x_call ksesn_en14 rfl) rfl (awake40 _) ?_
    rintro v96 w96 ⟨rfl, hw⟩
    have hB := hB.carry hw; have bx1 := bx1.carry hw; have bx11 := bx11.carry hw; have bx12 := bx12.carry hw
    refine L.val (x_as (v := .bool _) rfl) rfl ?_
    refine L.nil ?_
    refine thn_n ?_
    refine W.ret (fin_mk (.inr rfl) ?_)
    exact ⟨rfl, hB⟩
theorem law_nobody (a : Ac) (w : World) (_ : EdOk a.ed) : Ret Try.prog 9 #[.agg (acV a).toArray] w fun v w' => v = .bool true ∧ Bel w w' := nobody a w
end Go.Gx
