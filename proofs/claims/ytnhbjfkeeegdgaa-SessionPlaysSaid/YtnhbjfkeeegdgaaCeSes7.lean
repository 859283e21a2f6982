/- Sessions: Get and Put. Conditions: none. -/
import Derived.Test.YtnhbjfkeeegdgaaCeSes5
import Derived.Test.YtnhbjfkeeegdgaaCeSrtK
namespace Go.Gx
open Go.Proofs
theorem kses7_ag34 : aggT Try.prog 34 3 = true := by kernel_rfl
theorem kses7_el34 : elT Try.prog 34 3 = true := by kernel_rfl
theorem kses7_en55 : Go.Proofs.Enters Try.prog 55 := Go.Proofs.enters_of Try.func55 (by kernel_rfl) rfl
theorem kses7_en56 : Go.Proofs.Enters Try.prog 56 := Go.Proofs.enters_of Try.func56 (by kernel_rfl) rfl
theorem kses7_fo110_0 : fieldOff Try.prog 110 0 = some 0 := by kernel_rfl
theorem kses7_fo110_1 : fieldOff Try.prog 110 1 = some 1 := by kernel_rfl
theorem kses7_fo110_2 : fieldOff Try.prog 110 2 = some 2 := by kernel_rfl
theorem kses7_fo110_3 : fieldOff Try.prog 110 3 = some 3 := by kernel_rfl
theorem kses7_fo34_0 : fieldOff Try.prog 34 0 = some 0 := by kernel_rfl
theorem kses7_fo34_1 : fieldOff Try.prog 34 1 = some 1 := by kernel_rfl
theorem kses7_fo34_2 : fieldOff Try.prog 34 2 = some 2 := by kernel_rfl
theorem kses7_mixed : Try.prog.follows .mixedOrders = true := by kernel_rfl
theorem kses7_oc107 : oneCellT Try.prog 107 = true := by kernel_rfl
theorem kses7_oc108 : oneCellT Try.prog 108 = true := by kernel_rfl
theorem kses7_oc22 : oneCellT Try.prog 22 = true := by kernel_rfl
theorem kses7_oc3 : oneCellT Try.prog 3 = true := by kernel_rfl
theorem kses7_oc4 : oneCellT Try.prog 4 = true := by kernel_rfl
theorem kses7_oc9 : oneCellT Try.prog 9 = true := by kernel_rfl
theorem kses7_sz22 : (Try.prog.info? 22).map (·.size) = some 1 := by kernel_rfl
theorem kses7_zr34 : (Try.prog.info? 34).bind (·.zero) = some (Value.agg [S [], S [], Value.bool false].toArray) := by kernel_rfl
theorem not_open {s : Bs} {id : Int} (ho : ¬ s.isOpen id) (i : Nat) (e1 : id = ((i + 1 : Nat) : Int)) (e2 : i < s.all.length) (e3 : (s.all.getD i default).opn = true) : False := ho ⟨by omega, by omega, by rw [show id.toNat - 1 = i by omega]; exact e3⟩
theorem lab_part2 {ow : Labels} {t k j : Nat} {p q : Part} (h : ow k = some (t, p)) (h2 : ow j = some (t, q)) (hne : p ≠ q) : ¬ k = j := fun e => by
  rw [← e, h] at h2; simp at h2; exact hne h2
theorem ses_succ (s : Bs) (i : Nat) : s.ses ((i + 1 : Nat) : Int) = s.all.getD i default := by simp [Bs.ses]
theorem getA_own {s : Bs} {id : Int} {k : Str} {e : Ed} (h : lastE (s.ses id).eds k = some e) (ho : okEd e = true) : s.getA id k = (e.val, !e.gone) := by
  unfold Bs.getA Bs.seesE valE
  rw [lastE_append, h, Option.some_or]
  unfold okEd at ho
  simp only [Bool.and_eq_true, Bool.or_eq_true, Bool.not_eq_true', decide_eq_true_eq] at ho
  cases hg : e.gone
  · simp [live, hg]
  · simp only [live, Option.bind_some, hg, if_true]
    rw [ho.2.resolve_left (by simp [hg])]
    rfl
theorem getA_seen {s : Bs} {id : Int} {k : Str} (h : lastE (s.ses id).eds k = none) : s.getA id k = ansV (valE (s.hist (s.ses id).at_) k) := by
  unfold Bs.getA Bs.seesE valE ansV
  rw [lastE_append, h, Option.none_or]
  cases live (lastE (s.hist (s.ses id).at_) k) <;> rfl
theorem last_ok {l : List Ed} (h : ∀ e ∈ l, EdOk e ∧ okEd e = true) {k : Str} {e : Ed} (he : lastE l k = some e) : okEd e = true := (h e (lastE_key he).2).2
theorem get_ok (ow : Labels) (t b bh bo : Nat) (s : Bs) (vl : Value) (lh : List (Str × Value)) (lo : List (Int × Value)) (rows : List (List Value)) (id : Int) (key : Str) (w : World) (h : BaseAt ow t w b s bh bo vl lh lo rows)
    (hq : ∀ x ∈ s.all, x.gets.length ≤ 1000000) (hs : (s.first :: s.log).length ≤ 100000) :
    Ret Try.prog 19 #[.pointer (some ⟨b, 0, none⟩), .int .i64 id, S key] w fun v w' => v = (if s.isOpen id then .tuple #[S (s.getA id key).1, .bool (s.getA id key).2, .int .i64 0] else .tuple #[S [], .bool false, .int .i64 400]) ∧
      Goes t w w' ow ow ∧ BaseAt ow t w' b (if s.isOpen id then s.getS id key else s) bh bo vl lh lo rows := by
  by_cases ho : s.isOpen id
  · rw [if_pos ho, if_pos ho]
    cases hle : lastE (s.ses id).eds key with
    | some e =>
      have hgs : s.getS id key = s := by unfold Bs.getS; rw [if_neg (by rw [hle]; simp)]
      rw [hgs]
      refine ret_of_W Try.func19 rfl (Nat.le_of_ble_eq_true rfl) (res3 rfl) ?_
      refine W.seq ?_
      refine W.region ?_
      refine L.val (x_as (v := S _) rfl) rfl ?_
      refine L.val (x_as (v := .bool _) rfl) rfl ?_
      refine L.val (x_as (v := .int _ _) rfl) rfl ?_
      refine L.nil ?_
      refine thn_n ?_
      refine W.seq ?_
      refine W.region ?_
      refine L.val (x_mv (v := .pointer _) rfl) rfl ?_
      refine L.val (x_mv (v := .int _ _) rfl) rfl ?_
      refine L.ret (x_call kses7_en55 rfl) rfl (find_ok ow t b bh bo s vl lh lo rows id _ h) ?_
      rintro v18 w18 ⟨hqq, hf⟩
      rw [hqq]
      obtain ⟨i, bs, e1, e2, e3, e4, e5, rfl⟩ := hf.resolve_left (fun hh => hh.1 ho)
      subst e1
      rw [ses_succ] at hle
      obtain ⟨ve, bw, ba, bd, lw, la, ld, l1, h1, h2, h3, l4, h4, h5, l6, h6, h7, l8, h8, h9⟩ := e5
      have hgw : getK lw key = some (.agg (edV e).toArray) := by rw [h5, hle]; rfl
      have hge := getA_own (s := s) (id := ((i + 1 : Nat) : Int)) (k := key) (by rw [ses_succ]; exact hle) (last_ok h3 hle)
      rw [hge]
      have hB := Gr.refl (fun _ => False) w
      have hb1 := h1.lt; have hb6 := h6.lt
      refine L.val (x_mv (v := _) rfl) rfl ?_
      refine L.val (x_ext (v := .pointer _) rfl rfl) rfl ?_
      refine L.val (x_ext (v := .int _ _) rfl rfl) rfl ?_
      refine L.val (x_as (v := .pointer _) rfl) rfl ?_
      refine L.val (x_as (v := .int _ _) rfl) rfl ?_
      refine L.nil ?_
      refine thn_n ?_
      refine W.seq ?_
      refine W.seq ?_
      refine W.region ?_
      refine L.val (x_mv (v := .int _ _) rfl) rfl ?_
      refine L.val (x_neq rfl rfl) rfl ?_
      refine L.nil ?_
      refine thn_n ?_
      refine W.cond (b := _) rfl (fun g22 => ?_) (fun g22 => ?_)
      ·have h22 := dne_t g22
       cases g22
      ·have h22 := dne_f g22
       refine W.skip ?_
       refine thn_n ?_
       refine W.seq ?_
       refine W.seq ?_
       refine W.region ?_
       refine L.val (x_mv (v := .pointer _) rfl) rfl ?_
       refine L.val (x_nil rfl) rfl ?_
       refine L.val (x_fa kses7_fo110_2 rfl) rfl ?_
       refine L.val (x_ld (v := .map _) kses7_oc107 rfl (h1.cell0 rfl)) rfl ?_
       refine L.val (x_mv (v := S _) rfl) rfl ?_
       refine L.val (x_lookKs (z := .agg #[S [], S [], .bool false]) Try.underlying107 (klawS Try.underlying9) (by kernel_rfl) rfl rfl trivial h4 hgw) rfl ?_
       refine L.val (x_mv (v := _) rfl) rfl ?_
       refine L.val (x_ext (v := _) rfl rfl) rfl ?_
       refine L.val (x_ext (v := .bool _) rfl rfl) rfl ?_
       refine L.alloc (cs := [S [], S [], Value.bool false]) kses7_zr34 rfl rfl (fun w11 bx11 hw hz11 => ?_)
       have hB := hB.carry hw
       refine L.setRow kses7_ag34 rfl rfl bx11 rfl rfl (edV_one _) (fun wl28 bx11 hw hzl28 => ?_)
       have hsz := hB.size
       have hB := hB.set hw (by omega)
       refine L.val (x_as (v := .bool _) rfl) rfl ?_
       refine L.nil ?_
       refine thn_n ?_
       refine W.seq ?_
       refine W.region ?_
       refine L.val (x_mv (v := .bool _) rfl) rfl ?_
       refine L.nil ?_
       refine thn_n ?_
       refine W.cond (b := _) rfl (fun g32 => ?_) (fun g32 => ?_)
       ·have h32 := g32
        refine W.seq ?_
        refine W.drawB kses7_mixed (by kernel_rfl) ?_
        refine LQ.val (fun w hw => x_fa kses7_fo34_1 rfl) rfl ?_
        refine LQ.val (fun w hw => x_ld (v := S _) kses7_oc9 rfl (hw.keep (bx11.cell0 rfl))) rfl ?_
        refine LQ.val (fun w hw => x_fa kses7_fo34_2 rfl) rfl ?_
        refine LQ.val (fun w hw => x_ld (v := .bool _) kses7_oc4 rfl (hw.keep (bx11.cell0 rfl))) rfl ?_
        refine LQ.val (fun w hw => x_not rfl) rfl ?_
        refine LQ.val (fun w hw => x_as (v := S _) rfl) rfl ?_
        refine LQ.val (fun w hw => x_as (v := .bool _) rfl) rfl ?_
        refine LQ.val (fun w hw => x_as (v := .int _ _) rfl) rfl ?_
        refine LQ.nil ?_
        intro w34 hw
        have hB := hB.carry hw; have bx11 := bx11.carry hw
        refine thn_n ?_
        refine W.ret (thn_r (fin_mk (.inr rfl) ?_))
        exact ⟨rfl, Goes.bel h.free hB, h.bel hB⟩
       ·have h32 := g32
        cases g32
    | none =>
      refine ret_of_W Try.func19 rfl (Nat.le_of_ble_eq_true rfl) (res3 rfl) ?_
      refine W.seq ?_
      refine W.region ?_
      refine L.val (x_as (v := S _) rfl) rfl ?_
      refine L.val (x_as (v := .bool _) rfl) rfl ?_
      refine L.val (x_as (v := .int _ _) rfl) rfl ?_
      refine L.nil ?_
      refine thn_n ?_
      refine W.seq ?_
      refine W.region ?_
      refine L.val (x_mv (v := .pointer _) rfl) rfl ?_
      refine L.val (x_mv (v := .int _ _) rfl) rfl ?_
      refine L.ret (x_call kses7_en55 rfl) rfl (find_ok ow t b bh bo s vl lh lo rows id _ h) ?_
      rintro v18 w18 ⟨hqq, hf⟩
      rw [hqq]
      obtain ⟨i, bs, e1, e2, e3, e4, e5, rfl⟩ := hf.resolve_left (fun hh => hh.1 ho)
      subst e1
      have hgs : s.getS ((i + 1 : Nat) : Int) key = s.upd ((i + 1 : Nat) : Int) { s.all.getD i default with gets := (s.all.getD i default).gets ++ [key] } := by unfold Bs.getS; rw [if_pos hle, ses_succ]
      have hge := getA_seen (s := s) hle
      rw [ses_succ] at hle hge
      rw [hge, hgs]
      obtain ⟨ve, bw, ba, bd, lw, la, ld, l1, h1, h2, h3, l4, h4, h5, l6, h6, h7, l8, h8, h9⟩ := e5
      have hgw : getK lw key = none := by rw [h5, hle]; rfl
      have h1o := h1
      obtain ⟨n, hn1, hn2, hn3, -⟩ := cnt_get h7 key
      have hgl := hq (s.all.getD i default) (by rw [List.getD_eq_getElem?_getD, List.getElem?_eq_getElem e2]; exact List.getElem_mem _)
      have hB := Gr.refl (fun _ => False) w
      have hb1 := h1.lt; have hb6 := h6.lt
      refine L.val (x_mv (v := _) rfl) rfl ?_
      refine L.val (x_ext (v := .pointer _) rfl rfl) rfl ?_
      refine L.val (x_ext (v := .int _ _) rfl rfl) rfl ?_
      refine L.val (x_as (v := .pointer _) rfl) rfl ?_
      refine L.val (x_as (v := .int _ _) rfl) rfl ?_
      refine L.nil ?_
      refine thn_n ?_
      refine W.seq ?_
      refine W.seq ?_
      refine W.region ?_
      refine L.val (x_mv (v := .int _ _) rfl) rfl ?_
      refine L.val (x_neq rfl rfl) rfl ?_
      refine L.nil ?_
      refine thn_n ?_
      refine W.cond (b := _) rfl (fun g22 => ?_) (fun g22 => ?_)
      ·have h22 := dne_t g22
       cases g22
      ·have h22 := dne_f g22
       refine W.skip ?_
       refine thn_n ?_
       refine W.seq ?_
       refine W.seq ?_
       refine W.region ?_
       refine L.val (x_mv (v := .pointer _) rfl) rfl ?_
       refine L.val (x_nil rfl) rfl ?_
       refine L.val (x_fa kses7_fo110_2 rfl) rfl ?_
       refine L.val (x_ld (v := .map _) kses7_oc107 rfl (h1.cell0 rfl)) rfl ?_
       refine L.val (x_mv (v := S _) rfl) rfl ?_
       refine L.val (x_lookKn (z := .agg #[S [], S [], .bool false]) Try.underlying107 (klawS Try.underlying9) (by kernel_rfl) rfl rfl trivial h4 hgw) rfl ?_
       refine L.val (x_mv (v := _) rfl) rfl ?_
       refine L.val (x_ext (v := _) rfl rfl) rfl ?_
       refine L.val (x_ext (v := .bool _) rfl rfl) rfl ?_
       refine L.alloc (cs := [S [], S [], Value.bool false]) kses7_zr34 rfl rfl (fun w11 bx11 hw hz11 => ?_)
       have hB := hB.carry hw; have h1 := h1.carry hw; have h6 := h6.carry hw
       refine L.setRow kses7_ag34 rfl rfl bx11 rfl rfl (edV_one ⟨[], [], false⟩) (fun wl28 bx11 hw hzl28 => ?_)
       have hsz := hB.size
       have hB := hB.set hw (by omega); have h1 := h1.carryR hw (by omega); have h6 := h6.carryR hw (by omega)
       refine L.val (x_as (v := .bool _) rfl) rfl ?_
       refine L.nil ?_
       refine thn_n ?_
       refine W.seq ?_
       refine W.region ?_
       refine L.val (x_mv (v := .bool _) rfl) rfl ?_
       refine L.nil ?_
       refine thn_n ?_
       refine W.cond (b := _) rfl (fun g32 => ?_) (fun g32 => ?_)
       ·have h32 := g32
        cases g32
       ·have h32 := g32
        refine W.skip ?_
        refine thn_n ?_
        refine W.seq ?_
        refine W.region ?_
        refine L.val (x_mv (v := .pointer _) rfl) rfl ?_
        refine L.val (x_nil rfl) rfl ?_
        refine L.val (x_fa kses7_fo110_3 rfl) rfl ?_
        refine L.val (x_ld (v := .map _) kses7_oc108 rfl (h1.cell0 rfl)) rfl ?_
        refine L.val (x_mv (v := S _) rfl) rfl ?_
        refine L.val (x_look0 (z := .int .i64 0) Try.underlying108 (klawS Try.underlying9) (by kernel_rfl) rfl rfl trivial h6 hn1) rfl ?_
        refine L.val (x_add rfl rfl (wr64 (by omega))) rfl ?_
        refine L.mapsetK Try.underlying108 (klawS Try.underlying9) rfl rfl trivial rfl h6 (fun w46 mp46 hw hz46 => ?_)
        have hG : Gr (fun k => k = ba) w w46 := (hB.mono (fun _ _ f => f.elim)).trans (hw.mono (fun _ _ e => e))
        have hK : Keeps t (SesC i) w w46 ow ow := ⟨hG.mono (fun k _ e => ⟨.asked i, by simp [SesC], by rw [e]; exact l6⟩), fun _ _ => .inl rfl, fun k hk => .inl (h.free k hk), fun k hk => h.free k (by have := hG.size; omega)⟩
        have hN : BaseAt ow t w46 b (s.upd ((i + 1 : Nat) : Int) { s.all.getD i default with gets := (s.all.getD i default).gets ++ [key] }) bh bo vl lh lo rows := by
          refine h.upd hK e2 e4 ⟨ve, bw, ba, bd, lw, _, ld, l1, ?_, ?_, h3, l4, ?_, h5, l6, mp46, cnt_more h7 hn3, l8, ?_, h9⟩ e3
          · exact h1o.carryR hG (lab_part2 l1 l6 (by simp))
          · exact ⟨h2.1.carryR hG (fun j hj => lab_part2 (h2.2 j hj) l6 (by simp)), h2.2⟩
          · exact h4.carryR hG (lab_part2 l4 l6 (by simp))
          · exact h8.carryR hG (lab_part2 l8 l6 (by simp))
        have h1 := h1o.carryR hG (lab_part2 l1 l6 (by simp))
        refine L.nil ?_
        refine thn_n ?_
        refine W.seq ?_
        refine W.region ?_
        refine L.val (x_mv (v := .pointer _) rfl) rfl ?_
        refine L.val (x_mv (v := S _) rfl) rfl ?_
        refine L.val (x_mv (v := .pointer _) rfl) rfl ?_
        refine L.val (x_nil rfl) rfl ?_
        refine L.val (x_fa kses7_fo110_0 rfl) rfl ?_
        refine L.val (x_ld (v := .int _ _) kses7_oc3 rfl (h1.cell0 rfl)) rfl ?_
        refine L.ret (x_call kses7_en56 rfl) rfl (seen_ok ow t b bh bo _ vl lh lo rows key (s.all.getD i default).at_ _ hN (show (s.first :: s.log).length ≤ _ from Nat.le_trans hs (by decide))) ?_
        rintro _ w53 ⟨rfl, hw⟩
        refine L.val (x_mv (v := _) rfl) rfl ?_
        refine L.val (x_ext (v := S _) rfl rfl) rfl ?_
        refine L.val (x_ext (v := .bool _) rfl rfl) rfl ?_
        refine L.val (x_as (v := S _) rfl) rfl ?_
        refine L.val (x_as (v := .bool _) rfl) rfl ?_
        refine L.nil ?_
        refine thn_n ?_
        refine W.seq ?_
        refine W.region ?_
        refine L.val (x_mv (v := S _) rfl) rfl ?_
        refine L.val (x_mv (v := .bool _) rfl) rfl ?_
        refine L.val (x_as (v := S _) rfl) rfl ?_
        refine L.val (x_as (v := .bool _) rfl) rfl ?_
        refine L.val (x_as (v := .int _ _) rfl) rfl ?_
        refine L.nil ?_
        refine thn_n ?_
        refine W.ret (fin_mk (.inr rfl) ?_)
        exact ⟨rfl, hK.goes.trans (Goes.bel hN.free hw), hN.bel hw⟩
  · rw [if_neg ho, if_neg ho]
    refine ret_of_W Try.func19 rfl (Nat.le_of_ble_eq_true rfl) (res3 rfl) ?_
    refine W.seq ?_
    refine W.region ?_
    refine L.val (x_as (v := S _) rfl) rfl ?_
    refine L.val (x_as (v := .bool _) rfl) rfl ?_
    refine L.val (x_as (v := .int _ _) rfl) rfl ?_
    refine L.nil ?_
    refine thn_n ?_
    refine W.seq ?_
    refine W.region ?_
    refine L.val (x_mv (v := .pointer _) rfl) rfl ?_
    refine L.val (x_mv (v := .int _ _) rfl) rfl ?_
    refine L.ret (x_call kses7_en55 rfl) rfl (find_ok ow t b bh bo s vl lh lo rows id _ h) ?_
    rintro v18 w18 ⟨hqq, hf⟩
    rw [hqq]
    obtain ⟨-, rfl⟩ := hf.resolve_right (fun ⟨i, bs, e1, e2, e3, _⟩ => not_open ho i e1 e2 e3)
    refine L.val (x_mv (v := _) rfl) rfl ?_
    refine L.val (x_ext (v := .pointer _) rfl rfl) rfl ?_
    refine L.val (x_ext (v := .int _ _) rfl rfl) rfl ?_
    refine L.val (x_as (v := .pointer _) rfl) rfl ?_
    refine L.val (x_as (v := .int _ _) rfl) rfl ?_
    refine L.nil ?_
    refine thn_n ?_
    refine W.seq ?_
    refine W.seq ?_
    refine W.region ?_
    refine L.val (x_mv (v := .int _ _) rfl) rfl ?_
    refine L.val (x_neq rfl rfl) rfl ?_
    refine L.nil ?_
    refine thn_n ?_
    refine W.cond (b := _) rfl (fun g22 => ?_) (fun g22 => ?_)
    ·have h22 := dne_t g22
     refine W.seq ?_
     refine W.region ?_
     refine L.val (x_mv (v := .int _ _) rfl) rfl ?_
     refine L.val (x_as (v := S _) rfl) rfl ?_
     refine L.val (x_as (v := .bool _) rfl) rfl ?_
     refine L.val (x_as (v := .int _ _) rfl) rfl ?_
     refine L.nil ?_
     refine thn_n ?_
     refine W.ret (thn_r (fin_mk (.inr rfl) ?_))
     exact ⟨rfl, Goes.refl h.free, h⟩
    ·have h22 := dne_f g22
     cases g22
theorem ownMap_put {lw : List (Str × Value)} {l : List Ed} (h : OwnMap lw l) (e : Ed) : OwnMap (putK lw e.key (.agg (edV e).toArray)) (l ++ [e]) := fun k => by
  rw [getK_put, lastE_append, lastE_one]
  by_cases hk : k = e.key
  · subst hk; simp
  · rw [if_neg hk, if_neg (fun x => hk x.symm), Option.none_or]; exact h k
theorem keeps_own {ow : Labels} {t : Nat} {C : Part → Prop} {w w' : World} {v v0 : Value} {p0 : Part} (g : Gr (fun j => ∃ p, C p ∧ ow j = some (t, p)) w w') (hf : ∀ k, w.heap.size ≤ k → ow k = none) (h0 : ∀ j, some j = v0.ownBlock → ow j = some (t, p0))
    (hob : v.ownBlock = v0.ownBlock ∨ ∃ j, v.ownBlock = some j ∧ w.heap.size ≤ j) (hlt : ∀ j, some j = v.ownBlock → j < w'.heap.size) :
    ∃ ow', Keeps t C w w' ow ow' ∧ (∀ k, k < w.heap.size → ow' k = ow k) ∧ ∀ j, some j = v.ownBlock → ow' j = some (t, p0) := by
  rcases hob with hob | ⟨j, hob, hj⟩
  · refine ⟨ow, ⟨g, fun _ _ => .inl rfl, fun k hk => .inl (hf k hk), fun k hk => hf k (by have := g.size; omega)⟩, fun _ _ => rfl, fun j hj => ?_⟩
    rw [hob] at hj
    exact h0 j hj
  · have hl := hlt j hob.symm
    refine ⟨relab ow t [(j, p0)], keeps_relab _ g hf ?_, fun k hk => relab_old ?_, fun i hi => ?_⟩
    · intro x hx; rw [List.mem_singleton.1 hx]; exact ⟨hj, hl⟩
    · intro x hx; rw [List.mem_singleton.1 hx]; exact fun e => by dsimp only at e; omega
    · rw [hob] at hi; cases hi; simp [relab]
theorem okEd_eq (e : Ed) : okEd e = !(e.key == [] || e.gone && !e.val == []) := by
  unfold okEd
  cases e.gone <;> by_cases h1 : e.key = [] <;> by_cases h2 : e.val = [] <;> simp [h1, h2]
theorem put_ok (ow : Labels) (t b bh bo : Nat) (s : Bs) (vl : Value) (lh : List (Str × Value)) (lo : List (Int × Value)) (rows : List (List Value)) (id : Int) (e : Ed) (w : World) (h : BaseAt ow t w b s bh bo vl lh lo rows)
    (hq : ∀ x ∈ s.all, x.eds.length ≤ 1000000) (he : EdOk e) :
    Ret Try.prog 40 #[.pointer (some ⟨b, 0, none⟩), .int .i64 id, .agg (edV e).toArray] w fun v w' => v = .int .i64 (if s.isOpen id then (if okEd e then 0 else 2) else 400) ∧
      ∃ ow', Goes t w w' ow ow' ∧ BaseAt ow' t w' b (if s.isOpen id ∧ okEd e = true then s.putS id e else s) bh bo vl lh lo rows := by
  by_cases ho : s.isOpen id
  · rw [if_pos ho]
    refine ret_of_W Try.func40 rfl (Nat.le_of_ble_eq_true rfl) (res1 rfl) ?_
    have hB := Gr.refl (fun _ => False) w
    refine W.seq ?_
    refine W.region ?_
    refine L.box (cs := edV e) rfl rfl (fun w5 bx5 hw hz5 => ?_)
    have hB := hB.carry hw
    have h0 := h
    have h := h.bel hB
    refine L.val (x_as (v := .int _ _) rfl) rfl ?_
    refine L.nil ?_
    refine thn_n ?_
    refine W.seq ?_
    refine W.region ?_
    refine L.val (x_mv (v := .pointer _) rfl) rfl ?_
    refine L.val (x_mv (v := .int _ _) rfl) rfl ?_
    refine L.ret (x_call kses7_en55 rfl) rfl (find_ok ow t b bh bo s vl lh lo rows id _ h) ?_
    rintro v12 w12 ⟨hqq, hf⟩
    rw [hqq]
    obtain ⟨i, bs, e1, e2, e3, e4, e5, rfl⟩ := hf.resolve_left (fun hh => hh.1 ho)
    subst e1
    obtain ⟨ve, bw, ba, bd, lw, la, ld, l1, h1, h2, h3, l4, h4, h5, l6, h6, h7, l8, h8, h9⟩ := e5
    obtain ⟨ae, ce, rfl, hce⟩ := own_shape h2.1
    have hlen := hq (s.all.getD i default) (by rw [List.getD_eq_getElem?_getD, List.getElem?_eq_getElem e2]; exact List.getElem_mem _)
    have hb1 := h1.lt
    have hbw := h4.lt
    have hb5 : w.heap.size < w5.heap.size := bx5.lt
    have hn5 : ow w.heap.size = none := h0.free _ (Nat.le_refl _)
    have hqe : ∀ j, some j = (Value.slice ae (s.all.getD i default).eds.length ce).ownBlock → j ≠ bs ∧ j ≠ w.heap.size ∧ j ≠ bw ∧ j < w5.heap.size := fun j hj =>
      ⟨fun e => lab_part2 (h2.2 j hj) l1 (by simp) e, fun e => (by have := h2.2 j hj; rw [e, hn5] at this; cases this), fun e => lab_part2 (h2.2 j hj) l4 (by simp) e, (Own.lt h2.1 hj).2⟩
    have hbn : bs ≠ w.heap.size ∧ bs ≠ bw := ⟨fun e => (by rw [e, hn5] at l1; cases l1), lab_part2 l1 l4 (by simp)⟩
    have hwn : w.heap.size ≠ bw := fun e => by rw [← e, hn5] at l4; cases l4
    have hE := h2.1
    have l2 := h2.2
    have h1o := h1
    refine L.val (x_mv (v := _) rfl) rfl ?_
    refine L.val (x_ext (v := .pointer _) rfl rfl) rfl ?_
    refine L.val (x_ext (v := .int _ _) rfl rfl) rfl ?_
    refine L.val (x_as (v := .pointer _) rfl) rfl ?_
    refine L.val (x_as (v := .int _ _) rfl) rfl ?_
    refine L.nil ?_
    refine thn_n ?_
    refine W.seq ?_
    refine W.seq ?_
    refine W.region ?_
    refine L.val (x_mv (v := .int _ _) rfl) rfl ?_
    refine L.val (x_neq rfl rfl) rfl ?_
    refine L.nil ?_
    refine thn_n ?_
    refine W.cond (b := _) rfl (fun g16 => ?_) (fun g16 => ?_)
    ·have h16 := dne_t g16
     cases g16
    ·have h16 := dne_f g16
     refine W.skip ?_
     refine thn_n ?_
     refine W.seq ?_
     refine W.seq ?_
     refine W.region ?_
     refine L.val (x_fa kses7_fo34_0 rfl) rfl ?_
     refine L.val (x_ld (v := S _) kses7_oc9 rfl (bx5.cell0 rfl)) rfl ?_
     refine L.val (x_eqs rfl rfl) rfl ?_
     refine L.val (x_mv (v := .bool _) rfl) rfl ?_
     refine' L.group0 7 22 28 28 21 false rfl ?_ ?_ ?_
     rotate_left 1
     ·intro g21
      have h21 := seq_f g21
      refine L.gyes' (dj := 21) (b := _) rfl rfl g21 ?_
      refine L.val (x_fa kses7_fo34_2 rfl) rfl ?_
      refine L.gyes' (dj := 21) (b := _) rfl rfl g21 ?_
      refine L.val (x_ld (v := .bool _) kses7_oc4 rfl (bx5.cell0 rfl)) rfl ?_
      refine L.gyes' (dj := 21) (b := _) rfl rfl g21 ?_
      refine L.val (x_mv (v := .bool _) rfl) rfl ?_
      refine' L.group0 3 25 27 27 24 true rfl ?_ ?_ ?_
      rotate_left 1
      ·intro g24
       have h24 := g24
       refine L.gyes' (dj := 24) (b := _) rfl rfl g24 ?_
       refine L.val (x_fa kses7_fo34_1 rfl) rfl ?_
       refine L.gyes' (dj := 24) (b := _) rfl rfl g24 ?_
       refine L.val (x_ld (v := S _) kses7_oc9 rfl (bx5.cell0 rfl)) rfl ?_
       refine L.gyes' (dj := 24) (b := _) rfl rfl g24 ?_
       refine L.val (x_nes rfl rfl) rfl ?_
       refine L.nil ?_
       refine thn_n ⟨rfl, rfl, ?_, rfl⟩
       repeat (first | exact jeq.refl _ _ _ | refine jeq.upd rfl ?_ | refine jeq.jk rfl rfl ?_)
      ·intro g24
       refine L.gno (dj := 24) (b := _) rfl rfl g24 rfl ?_
       refine L.gno (dj := 24) (b := _) rfl rfl g24 rfl ?_
       refine L.gno (dj := 24) (b := _) rfl rfl g24 rfl ?_
       refine L.nil (thn_n ⟨rfl, rfl, ?_⟩)
       repeat (first | exact jeq.refl _ _ _ | refine jeq.upd rfl ?_ | refine jeq.jk rfl rfl ?_)
      intro J24 j24
      refine L.gyes' (dj := 21) (b := _) rfl rfl g21 ?_
      refine L.val (x_and rfl j24) rfl ?_
      refine L.nil ?_
      refine thn_n ⟨rfl, rfl, ?_, rfl⟩
      repeat (first | exact jeq.refl _ _ _ | refine jeq.upd rfl ?_ | refine jeq.jk rfl rfl ?_)
     ·intro g21
      refine L.gno (dj := 21) (b := _) rfl rfl g21 rfl ?_
      refine L.gno (dj := 21) (b := _) rfl rfl g21 rfl ?_
      refine L.gno (dj := 21) (b := _) rfl rfl g21 rfl ?_
      refine L.gun (dj := 24) rfl rfl rfl ?_
      refine L.gun (dj := 24) rfl rfl rfl ?_
      refine L.gun (dj := 24) rfl rfl rfl ?_
      refine L.gno (dj := 21) (b := _) rfl rfl g21 rfl ?_
      refine L.nil (thn_n ⟨rfl, rfl, ?_⟩)
      repeat (first | exact jeq.refl _ _ _ | refine jeq.upd rfl ?_ | refine jeq.jk rfl rfl ?_)
     intro J21 j21
     refine L.val (x_or rfl j21) rfl ?_
     refine L.nil ?_
     refine thn_n ?_
     refine W.cond (b := _) rfl (fun g29 => ?_) (fun g29 => ?_)
     ·have h29 := g29
      refine W.seq ?_
      refine W.region ?_
      refine L.val (x_as (v := .int _ _) rfl) rfl ?_
      refine L.nil ?_
      refine thn_n ?_
      refine W.ret (thn_r (fin_mk (.inr rfl) ?_))
      have hk : okEd e = false := by rw [okEd_eq, g29]; rfl
      have hif : (if s.isOpen ((i + 1 : Nat) : Int) ∧ okEd e = true then s.putS ((i + 1 : Nat) : Int) e else s) = s := if_neg (fun hh => by rw [hk] at hh; cases hh.2)
      rw [hif, hk]
      exact ⟨rfl, ow, Goes.bel h0.free hB, h⟩
     ·have h29 := g29
      refine W.skip ?_
      refine thn_n ?_
      refine W.seq ?_
      refine W.drawD (fun j => some j = (Value.slice ae (s.all.getD i default).eds.length ce).ownBlock ∨ j = bs) (fun j => some j = (Value.slice ae (s.all.getD i default).eds.length ce).ownBlock) 10 kses7_mixed (fun wD30 hw => ?_)
      have h1 := h1.carry hw; have hE := hE.carry hw; have bx5 := bx5.carry hw
      have hB0 := Gr.refl (fun j => some j = (Value.slice ae (s.all.getD i default).eds.length ce).ownBlock) wD30; have hR0 := Gr.refl (fun j => some j = (Value.slice ae (s.all.getD i default).eds.length ce).ownBlock ∨ j = bs) wD30
      have hD := hw
      refine LAD.take0 (i := 0) rfl (by kernel_rfl) (by kernel_rfl) (by kernel_rfl) (by kernel_rfl) (fun w hw => x_mv (v := .pointer _) rfl) rfl ?_
      refine LAD.take0 (i := 1) rfl (by kernel_rfl) (by kernel_rfl) (by kernel_rfl) (by kernel_rfl) (fun w hw => x_mv (v := .pointer _) rfl) rfl ?_
      refine LAD.take0 (i := 2) rfl (by kernel_rfl) (by kernel_rfl) (by kernel_rfl) (by kernel_rfl) (fun w hw => x_nil rfl) rfl ?_
      refine LAD.take0 (i := 3) rfl (by kernel_rfl) (by kernel_rfl) (by kernel_rfl) (by kernel_rfl) (fun w hw => x_fa kses7_fo110_1 rfl) rfl ?_
      refine LAD.take1 (i := 4) rfl (by kernel_rfl) (by kernel_rfl) (by kernel_rfl) (by kernel_rfl) (by kernel_rfl) (by kernel_rfl) (fun w hw => x_ld (v := .slice _ _ _) kses7_oc22 rfl (hw.keepR (fun e => by have := hqe _ e; (try dsimp only at this); omega) (h1.cell0 rfl))) rfl ?_
      refine LAD.take0 (i := 5) rfl (by kernel_rfl) (by kernel_rfl) (by kernel_rfl) (by kernel_rfl) (fun w hw => x_ldn (vs := _) kses7_ag34 rfl rfl (hw.keepRowR (fun e => by rcases e with e | e; (have := hqe _ e; (try dsimp only at this); omega); (have e : (_ : Nat) = _ := e; (try dsimp only at e); omega)) rfl (bx5.row rfl))) rfl ?_
      refine LAD.step (rs := [6]) hR0 (fun _ => hB0) (by kernel_rfl) (by simp) ⟨⟨_, rfl, ?_⟩, trivial⟩
      refine L.bs (sz := 3) (cells := edV e) Try.underlying22 kses7_el34 rfl rfl rfl rfl (fun w36 bx36 hw hz36 => ?_)
      have hB0 := hB0.carry hw; have hR0 := hR0.carry hw; have h1 := h1.carry hw; have hE := hE.carry hw
      refine L.nil ?_
      refine thn_n ?_
      refine LAD.step (rs := [7]) hR0 (fun _ => hB0) (by kernel_rfl) (by simp) ⟨⟨_, rfl, ?_⟩, trivial⟩
      refine L.appendN (m := 1) Try.underlying22 kses7_el34 rfl rfl rfl hE rfl (holdsN_box bx36) (edV_one e) (by omega) (by omega) (fun v37 w37 hO37 hg hob37 => ?_)
      have hB0 := hB0.intoR hg (fun k e => e)
      have hR0 := hR0.intoR hg (fun k e => .inl e)
      have h1 := h1.carryR hg (fun e => (hqe _ e).1 rfl)
      obtain ⟨a37, c37, e37, -⟩ := own_shape hO37
      subst e37
      refine L.nil ?_
      refine thn_n ?_
      refine LAD.take0 (i := 8) rfl (by kernel_rfl) (by kernel_rfl) (by kernel_rfl) (by kernel_rfl) (fun w hw => x_nil rfl) rfl ?_
      refine LAD.take0 (i := 9) rfl (by kernel_rfl) (by kernel_rfl) (by kernel_rfl) (by kernel_rfl) (fun w hw => x_fa kses7_fo110_1 rfl) rfl ?_
      refine LAD.step (rs := [10]) hR0 (fun _ => hB0) (by kernel_rfl) (by simp) ⟨⟨_, rfl, ?_⟩, trivial⟩
      refine L.set (v := .slice _ _ _) kses7_sz22 rfl rfl rfl h1 rfl (fun wl38 h1 hw hzl38 => ?_)
      have hR0 := hR0.into hw (by first | exact .inl rfl | exact .inr rfl)
      have hobn : ∀ j, some j = (Value.slice a37 ((s.all.getD i default).eds.length + 1) c37).ownBlock → j ≠ bs ∧ j ≠ bw := fun j hj => by
        rcases hob37 with e | e
        · rw [e] at hj; exact ⟨(hqe j hj).1, (hqe j hj).2.2.1⟩
        · rw [e] at hj; cases hj; have := hD.size; omega
      have hO38 := Own.carryR hO37 hw (fun j hj e => (hobn j hj).1 e)
      refine L.nil ?_
      refine thn_n ?_
      refine LAD.done (by kernel_rfl) (by kernel_rfl) hR0 ?_
      have bx5 := bx5.carryR hR0 (fun e => by rcases e with e | e; exact (hqe _ e).2.1 rfl; exact hbn.1 e.symm)
      have hG6 : Gr (fun j => some j = (Value.slice ae (s.all.getD i default).eds.length ce).ownBlock ∨ j = bs) w5 wl38 := ((Gr.refl _ _).carry hD).trans hR0
      refine thn_n ?_
      refine W.seq ?_
      refine W.drawD (fun j => j = bw) (fun _ => False) 7 kses7_mixed (fun wD40 hw => ?_)
      have h1 := h1.carry hw; have bx5 := bx5.carry hw
      have hB0 := Gr.refl (fun _ => False) wD40; have hR0 := Gr.refl (fun j => j = bw) wD40
      have h4c := h4.carryR (hG6.carry hw) (fun e => by rcases e with e | e; exact (hqe _ e).2.2.1 rfl; exact hbn.2 e.symm)
      have hG7 := hG6.carry hw
      have hO38 := Own.carry hO38 hw
      refine LAD.take0 (i := 0) rfl (by kernel_rfl) (by kernel_rfl) (by kernel_rfl) (by kernel_rfl) (fun w hw => x_mv (v := .pointer _) rfl) rfl ?_
      refine LAD.take0 (i := 1) rfl (by kernel_rfl) (by kernel_rfl) (by kernel_rfl) (by kernel_rfl) (fun w hw => x_nil rfl) rfl ?_
      refine LAD.take0 (i := 2) rfl (by kernel_rfl) (by kernel_rfl) (by kernel_rfl) (by kernel_rfl) (fun w hw => x_fa kses7_fo110_2 rfl) rfl ?_
      refine LAD.take0 (i := 3) rfl (by kernel_rfl) (by kernel_rfl) (by kernel_rfl) (by kernel_rfl) (fun w hw => x_ld (v := .map _) kses7_oc107 rfl (hw.keepR (fun e => by have e : (_ : Nat) = _ := e; (try dsimp only at e); omega) (h1.cell0 rfl))) rfl ?_
      refine LAD.take0 (i := 4) rfl (by kernel_rfl) (by kernel_rfl) (by kernel_rfl) (by kernel_rfl) (fun w hw => x_fa kses7_fo34_0 rfl) rfl ?_
      refine LAD.take0 (i := 5) rfl (by kernel_rfl) (by kernel_rfl) (by kernel_rfl) (by kernel_rfl) (fun w hw => x_ld (v := S _) kses7_oc9 rfl (hw.keepR (fun e => by have e : (_ : Nat) = _ := e; (try dsimp only at e); omega) (bx5.cell0 rfl))) rfl ?_
      refine LAD.take0 (i := 6) rfl (by kernel_rfl) (by kernel_rfl) (by kernel_rfl) (by kernel_rfl) (fun w hw => x_ldn (vs := _) kses7_ag34 rfl rfl (hw.keepRowR (fun e => by have e : (_ : Nat) = _ := e; (try dsimp only at e); omega) rfl (bx5.row rfl))) rfl ?_
      refine LAD.step (rs := [7]) hR0 (fun _ => hB0) (by kernel_rfl) (by simp) ⟨⟨_, rfl, ?_⟩, trivial⟩
      refine L.mapsetK Try.underlying107 (klawS Try.underlying9) rfl rfl trivial rfl h4c (fun w46 mp46 hw hz46 => ?_)
      have hR0 := hR0.intoR hw (fun k e => e)
      have hall : Gr (fun j => (some j = (Value.slice ae (s.all.getD i default).eds.length ce).ownBlock ∨ j = bs) ∨ j = bw) w5 w46 := (hG7.mono (fun _ _ e => .inl e)).trans (hR0.mono (fun _ _ e => .inr e))
      have hO46 := Own.carryR hO38 hR0 (fun j hj e => (hobn j hj).2 e)
      refine L.nil ?_
      refine thn_n ?_
      refine LAD.done (by kernel_rfl) (by kernel_rfl) hR0 ?_
      have h1 := h1.carryR hR0 (fun e => by have e : (_ : Nat) = _ := e; omega)
      have bx5 := bx5.carryR hR0 (fun e => by have e : (_ : Nat) = _ := e; omega)
      refine thn_n ?_
      refine W.seq ?_
      refine W.region ?_
      refine L.val (x_as (v := .int _ _) rfl) rfl ?_
      refine L.nil ?_
      refine thn_n ?_
      refine W.ret (fin_mk (.inr rfl) ?_)
      have hk : okEd e = true := by rw [okEd_eq, g29]; rfl
      have hif : (if s.isOpen ((i + 1 : Nat) : Int) ∧ okEd e = true then s.putS ((i + 1 : Nat) : Int) e else s) = s.putS ((i + 1 : Nat) : Int) e := if_pos ⟨ho, hk⟩
      rw [hif, hk]
      refine ⟨rfl, ?_⟩
      obtain ⟨ow', hK, hko, hkn⟩ := keeps_own (C := SesC i) (p0 := .eds i) (v := .slice a37 ((s.all.getD i default).eds.length + 1) c37) (v0 := .slice ae (s.all.getD i default).eds.length ce) (hall.mono (fun k _ e => by
        rcases e with (e | e) | e
        · exact ⟨_, .inr (.inl rfl), l2 k e⟩
        · exact ⟨_, .inl rfl, by rw [e]; exact l1⟩
        · exact ⟨_, .inr (.inr (.inl rfl)), by rw [e]; exact l4⟩)) h.free l2 (hob37.imp id (fun e => ⟨_, e, by have := hD.size; omega⟩)) (fun j hj => (Own.lt hO46 hj).2)
      have hna : ∀ {k : Nat} {q : Part}, ow k = some (t, q) → q ≠ .ses i → q ≠ .eds i → q ≠ .own i → ¬ ((some k = (Value.slice ae (s.all.getD i default).eds.length ce).ownBlock ∨ k = bs) ∨ k = bw) := fun hl n1 n2 n3 e => by
        rcases e with (e | e) | e
        · exact lab_part2 hl (l2 _ e) n2 rfl
        · exact lab_part2 hl l1 n1 e
        · exact lab_part2 hl l4 n3 e
      refine ⟨ow', (Goes.bel h0.free hB).trans hK.goes, ?_⟩
      have hN := h.upd (s' := { s.all.getD i default with eds := (s.all.getD i default).eds ++ [e] }) hK e2 e4 ⟨_, bw, ba, bd, _, la, ld, (hko _ hb1).trans l1, h1, ⟨?_, hkn⟩, ?_, (hko _ hbw).trans l4, mp46, ownMap_put h5 e, (hko _ h6.lt).trans l6, h6.carryR hall (hna l6 (by simp) (by simp) (by simp)), h7, (hko _ h8.lt).trans l8, h8.carryR hall (hna l8 (by simp) (by simp) (by simp)), h9⟩ e3
      · unfold Bs.putS; rw [ses_succ]; exact hN
      · simpa using hO46
      · intro x hx
        rcases List.mem_append.1 hx with hx | hx
        · exact h3 x hx
        · rw [List.mem_singleton.1 hx]; exact ⟨he, hk⟩
  · rw [if_neg ho, if_neg (fun hh => ho hh.1)]
    refine ret_of_W Try.func40 rfl (Nat.le_of_ble_eq_true rfl) (res1 rfl) ?_
    have hB := Gr.refl (fun _ => False) w
    refine W.seq ?_
    refine W.region ?_
    refine L.box (cs := edV e) rfl rfl (fun w5 bx5 hw hz5 => ?_)
    have hB := hB.carry hw
    have h2 := h.bel hB
    refine L.val (x_as (v := .int _ _) rfl) rfl ?_
    refine L.nil ?_
    refine thn_n ?_
    refine W.seq ?_
    refine W.region ?_
    refine L.val (x_mv (v := .pointer _) rfl) rfl ?_
    refine L.val (x_mv (v := .int _ _) rfl) rfl ?_
    refine L.ret (x_call kses7_en55 rfl) rfl (find_ok ow t b bh bo s vl lh lo rows id _ h2) ?_
    rintro v12 w12 ⟨hqq, hf⟩
    rw [hqq]
    obtain ⟨-, rfl⟩ := hf.resolve_right (fun ⟨i, bs, e1, e2, e3, _⟩ => not_open ho i e1 e2 e3)
    refine L.val (x_mv (v := _) rfl) rfl ?_
    refine L.val (x_ext (v := .pointer _) rfl rfl) rfl ?_
    refine L.val (x_ext (v := .int _ _) rfl rfl) rfl ?_
    refine L.val (x_as (v := .pointer _) rfl) rfl ?_
    refine L.val (x_as (v := .int _ _) rfl) rfl ?_
    refine L.nil ?_
    refine thn_n ?_
    refine W.seq ?_
    refine W.seq ?_
    refine W.region ?_
    refine L.val (x_mv (v := .int _ _) rfl) rfl ?_
    refine L.val (x_neq rfl rfl) rfl ?_
    refine L.nil ?_
    refine thn_n ?_
    refine W.cond (b := _) rfl (fun g16 => ?_) (fun g16 => ?_)
    ·have h16 := dne_t g16
     refine W.seq ?_
     refine W.region ?_
     refine L.val (x_mv (v := .int _ _) rfl) rfl ?_
     refine L.val (x_as (v := .int _ _) rfl) rfl ?_
     refine L.nil ?_
     refine thn_n ?_
     refine W.ret (thn_r (fin_mk (.inr rfl) ?_))
     exact ⟨rfl, ow, Goes.bel h.free hB, h2⟩
    ·have h16 := dne_f g16
     cases g16
end Go.Gx
namespace Go.Gx
open Go.Proofs Go.Sort
theorem kmaps_oc108 : oneCellT Try.prog 108 = true := by kernel_rfl
theorem keys_it (l Bs n₀ b : Nat) (ks : List (Str × Value)) (J Jx : List Str → World → Prop) (w : World) (hAb : AbidesFrom w.heap.size J)
    (hY : ∀ pre x W, J pre W → pre.length < ks.length → YieldAt Fence.wide 0 Try.prog l #[S x] W fun e W' =>
      (e = .returned (.bool true) ∧ J (pre ++ [x]) W' ∧ KpB n₀ W W') ∨ (e = .returned (.bool false) ∧ Jx (pre ++ [x]) W'))
    (hBs : w.cell? ⟨Bs, 0, none⟩ = some (.map (some b))) (hs : MapAt w b ks) (h0 : J [] w) :
    Ret Try.prog 86 #[.func (.yield l) #[] #[], .pointer (some ⟨Bs, 0, none⟩)] w fun _ W' => (∃ xs : List Str, xs.Perm (ks.map (·.1)) ∧ J xs W') ∨ (∃ pre : List Str, True ∧ Jx pre W') := by
  refine ret_of_W Try.func86 rfl (Nat.le_of_ble_eq_true rfl) (res0 rfl) ?_
  refine W.seq ?_
  refine W.region ?_
  refine L.val (x_ld (v := .map _) kmaps_oc108 rfl hBs) rfl ?_
  refine L.rangeM Try.underlying108 rfl rfl hs (fun w5 it5 gn5 hw hz5 => ?_)
  have hJ := hAb _ _ _ _ h0 gn5 (fun r e => by cases e)
  refine L.nil ?_
  refine thn_n ?_
  refine W.block ?_
  refine W.loop (fun m' E w' => ∃ (vis : List (Str × Value)) (k : Nat), m' = ks.length - k ∧ E 0 = .func (.yield l) #[] #[] ∧ E 5 = .pointer (some ⟨w.heap.size, 0, none⟩) ∧ (J (vis.map (·.1)) w') ∧ (IterAt w' w.heap.size b ks vis) ∧ (k = vis.length)) (ks.length) ?_ ?_
  ·exact ⟨[], 0, by omega, by first | rfl | exact vi (by omega), by first | rfl | exact vi (by omega), (by exact hJ), (by first | assumption | omega | rfl), (by rfl)⟩
  ·rintro _ E wL6 ⟨vis, k, em, e0, e5, hJ, it5, hk⟩
   rw [upd_self e0, upd_self e5]
   refine W.seq ?_
   refine W.region ?_
   refine L.nextM rfl rfl it5 (fun hp6 => ?_) (fun kv6 w6 hkv6 hlt6 it5 gn6 hw hz6 => ?_)
   ·refine L.val (x_ext (v := .bool _) rfl rfl) rfl ?_
    refine L.nil ?_
    refine thn_n ?_
    refine W.seq ?_
    refine W.cond (b := false) rfl (fun h => nomatch h) (fun _ => ?_)
    refine W.exit (thn_x (thn_x (blk_hit ?_)))
    refine fin_mk (.inl rfl) ?_
    exact .inl ⟨_, hp6.map _, hJ⟩
   ·have hwk := IterAt.walk (r := w.heap.size) ‹IterAt wL6 w.heap.size b ks vis›
    have hJ := hAb _ _ _ _ hJ gn6 (fun r e => by cases e; exact ⟨Nat.le_refl _, hwk⟩)
    refine L.val (x_ext (v := .bool _) rfl rfl) rfl ?_
    refine L.nil ?_
    refine thn_n ?_
    refine W.seq ?_
    refine W.cond (b := true) rfl (fun _ => ?_) (fun h => nomatch h)
    refine W.skip ?_
    refine thn_n ?_
    refine W.block ?_
    refine W.seq ?_
    refine W.region ?_
    refine L.val (x_entry rfl it5) rfl ?_
    refine L.val (x_ext (v := S _) rfl rfl) rfl ?_
    refine L.val (x_as (v := S _) rfl) rfl ?_
    refine L.nil ?_
    refine thn_n ?_
    refine W.seq ?_
    refine W.wide (m := 1) (WI.region ?_)
    refine LI.val (fun _ => trivial) (fun _ h => by cases h) (x_mv (v := .func _ _ _) rfl) rfl ?_
    refine LI.val (fun _ => trivial) (fun _ h => by cases h) (x_mv (v := S _) rfl) rfl ?_
    refine LI.yield (R := fun e W' => ∃ z, e = .returned (.bool z) ∧ (z = true → J (vis.map (·.1) ++ [kv6.1]) W' ∧ KpB n₀ w6 W') ∧ (z = false → Jx (vis.map (·.1) ++ [kv6.1]) W')) (fun _ => trivial) rfl rfl rfl rfl ((hY (vis.map (·.1)) kv6.1 w6 hJ (by rw [List.length_map]; exact hlt6)).mono ?_) (fun e w' ⟨z, h, _⟩ => ⟨_, h⟩) ?_
    · rintro e W' (⟨rfl, a1, a2⟩ | ⟨rfl, a1⟩)
      · exact ⟨true, rfl, fun _ => ⟨a1, a2⟩, fun h => by cases h⟩
      · exact ⟨false, rfl, fun h => (by cases h), fun _ => a1⟩
    rintro u w12 ⟨z, hz, r1, r2⟩
    cases hz
    refine LI.val (fun _ => trivial) (fun _ h => by cases h) (x_not rfl) rfl ?_
    refine LI.nil ?_
    refine thn_n ?_
    refine W.cond (b := _) rfl (fun g13 => ?_) (fun g13 => ?_)
    ·have h13 := (not_t g13)
     refine W.ret (blk_r (thn_r (blk_r (fin_mk (.inr rfl) ?_))))
     exact .inr ⟨_, trivial, r2 (by simpa using g13)⟩
    ·have h13 := (not_f g13)
     have h13 := g13
     have it5 := it5.keep (r1 (by simpa using h13)).2.2
     refine W.skip ?_
     refine blk_n ?_
     refine thn_n ⟨rfl, ?_⟩
     refine ⟨_, ?_, vis ++ [kv6], k + 1, rfl, by first | rfl | exact vi (by omega), by first | rfl | exact vi (by omega), (by rw [List.map_append]; exact (r1 (by simpa using h13)).1), (by first | assumption | omega | rfl), (by simp [hk])⟩
     omega
theorem keys_seq (Bs n₀ b : Nat) (ks : List (Str × Value)) (w : World) (hBs : Bs < w.heap.size) (hc : w.cell? ⟨Bs, 0, none⟩ = some (.map (some b))) (hs : MapAt w b ks) :
    SeqStopsK Fence.wide 1 Try.prog 86 #[.pointer (some ⟨Bs, 0, none⟩)] (fun x : Str => #[S x]) (KpB n₀) (fun xs => xs.Perm (ks.map (·.1))) (fun _ => True) ks.length w := by
  intro l J Jx w1 hW hA _ hY h0
  have hlt := hs.lt
  have hs1 : MapAt w1 b ks := by
    obtain ⟨es, c, h, hm⟩ := hs
    exact ⟨es, c, (hW.block b hlt).trans h, hm⟩
  have hc1 := (hW.cell (p := ⟨Bs, 0, none⟩) hBs).trans hc
  rw [show (#[Value.func (.yield l) #[] #[]] ++ #[Value.pointer (some ⟨Bs, 0, none⟩)] : Array Value) = #[.func (.yield l) #[] #[], .pointer (some ⟨Bs, 0, none⟩)] from rfl]
  refine callsIn_wide.2 (Calls.mono (keys_it l Bs n₀ b ks J Jx w1 hA hY hc1 hs1 h0) ?_)
  rintro e w2 ⟨u, rfl, h⟩
  exact ⟨⟨u, rfl⟩, h⟩
theorem keys_ok (b : Nat) (w : World) : Ret Try.prog 58 #[.map (some b)] w fun r w' => r = .func (.func 86) #[] #[.pointer (some ⟨w.heap.size, 0, none⟩)] ∧ Box w' w.heap.size 108 [.map (some b)] ∧ Bel w w' := by
  refine ret_of_W Try.func58 rfl (Nat.le_of_ble_eq_true rfl) (res1 rfl) ?_
  have hB := Gr.refl (fun _ => False) w
  refine W.seq ?_
  refine W.region ?_
  refine L.box (cs := [.map (some b)]) rfl rfl (fun w1 bx1 hw hz1 => ?_)
  have hB := hB.carry hw
  refine L.val (x_as (v := _) rfl) rfl ?_
  refine L.nil ?_
  refine thn_n ?_
  refine W.seq ?_
  refine W.region ?_
  refine L.val (x_mkfn rfl rfl) rfl ?_
  refine L.val (x_as (v := _) rfl) rfl ?_
  refine L.nil ?_
  refine thn_n ?_
  refine W.ret (fin_mk (.inr rfl) ?_)
  exact ⟨rfl, bx1, hB⟩
end Go.Gx
