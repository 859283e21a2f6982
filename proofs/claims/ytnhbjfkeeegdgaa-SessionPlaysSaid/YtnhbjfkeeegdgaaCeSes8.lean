/- Sessions: has an answer changed? Conditions: none. -/
import Derived.Test.YtnhbjfkeeegdgaaCeSes7
namespace Go.Gx
open Go.Proofs
theorem kses8_ag34 : aggT Try.prog 34 3 = true := by kernel_rfl
theorem kses8_en59 : Go.Proofs.Enters Try.prog 59 := Go.Proofs.enters_of Try.func59 (by kernel_rfl) rfl
theorem kses8_fo110_0 : fieldOff Try.prog 110 0 = some 0 := by kernel_rfl
theorem kses8_fo110_3 : fieldOff Try.prog 110 3 = some 3 := by kernel_rfl
theorem kses8_fo110_4 : fieldOff Try.prog 110 4 = some 4 := by kernel_rfl
theorem kses8_fo34_0 : fieldOff Try.prog 34 0 = some 0 := by kernel_rfl
theorem kses8_fo97_1 : fieldOff Try.prog 97 1 = some 1 := by kernel_rfl
theorem kses8_mixed : Try.prog.follows .mixedOrders = true := by kernel_rfl
theorem kses8_oc108 : oneCellT Try.prog 108 = true := by kernel_rfl
theorem kses8_oc22 : oneCellT Try.prog 22 = true := by kernel_rfl
theorem kses8_oc3 : oneCellT Try.prog 3 = true := by kernel_rfl
theorem kses8_oc30 : oneCellT Try.prog 30 = true := by kernel_rfl
theorem kses8_oc9 : oneCellT Try.prog 9 = true := by kernel_rfl
theorem kses8_sz22 : (Try.prog.info? 22).map (·.size) = some 1 := by kernel_rfl
theorem kses8_sz34 : (Try.prog.info? 34).map (·.size) = some 3 := by kernel_rfl
theorem kses8_zr34 : (Try.prog.info? 34).bind (·.zero) = some (Value.agg [S [], S [], Value.bool false].toArray) := by kernel_rfl
theorem RecRow.drop {α : Type} [Inhabited α] {C : Thing α} {k : Nat} {A : Nat → Prop} {w : World} {p : Option Addr} {row : Nat → List Value} {l : List α} (h : RecRow C k A w p row l) {cap : Nat} (hc : l.length ≤ cap) (j : Nat) :
    RecRow C k A w (if cap = j then p else p.map (·.add (j * k))) (fun i => row (j + i)) (l.drop j) := by
  have hg : ∀ i, i < (l.drop j).length → (l.drop j).getD i default = l.getD (j + i) default := fun i hi => by
    simp only [List.getD_eq_getElem?_getD, List.getElem?_drop]
  refine ⟨fun hne => ?_, fun i hi => h.len _ (by rw [List.length_drop] at hi; omega), fun i hi => ?_⟩
  · have hlt : j < l.length := by
      refine Decidable.byContradiction fun hh => hne (List.drop_of_length_le (by omega))
    obtain ⟨b, o, rfl, hA, hcell⟩ := h.at_ (by rintro rfl; simp at hlt)
    rw [if_neg (by omega)]
    refine ⟨b, o + j * k, ?_, hA, fun i m hi hm => ?_⟩
    · simp only [Option.map_some, addp]
    · rw [List.length_drop] at hi
      rw [← hcell (j + i) m (by omega) hm, Nat.add_mul]
      congr 2; omega
  · rw [hg i hi]; exact h.each _ (by rw [List.length_drop] at hi; omega)
theorem BaseAt.logs {ow : Labels} {t b bh bo : Nat} {w : World} {s : Bs} {vl : Value} {lh : List (Str × Value)} {lo : List (Int × Value)} {rows : List (List Value)} (h : BaseAt ow t w b s bh bo vl lh lo rows) (hl : s.log.length ≤ 100000) : RecsAt EsC 1 (fun _ => False) w vl s.log :=
  h.rows.done (A' := fun _ => False) h.log.1 (by omega) (fun _ f => f.elim) (fun _ _ f => f)
def hitE (sx : Sx) (e : Ed) : Bool := sx.gets.contains e.key || sx.heads.any fun h => h.isPrefixOf e.key
theorem changed_hit (s : Bs) (sx : Sx) : s.changed sx = (s.log.drop sx.at_).flatten.any (hitE sx) := rfl
theorem any_take {α : Type} {l : List α} {p : α → Bool} {k : Nat} (h : k < l.length) (d : α) : (l.take (k + 1)).any p = ((l.take k).any p || p (l.getD k d)) := by
  rw [List.take_add_one, List.getElem?_eq_getElem h, List.any_append, List.getD_eq_getElem?_getD, List.getElem?_eq_getElem h]; simp
theorem any_flat_take {α : Type} {l : List (List α)} {p : α → Bool} {k : Nat} (h : k < l.length) : (l.take (k + 1)).flatten.any p = ((l.take k).flatten.any p || (l.getD k default).any p) := by
  rw [List.take_add_one, List.getElem?_eq_getElem h, List.flatten_append, List.any_append, List.getD_eq_getElem?_getD, List.getElem?_eq_getElem h]
  simp only [Option.toList_some, List.flatten_cons, List.flatten_nil, List.append_nil, Option.getD_some]
theorem hit_at {l : List (List Ed)} {p : Ed → Bool} {k j : Nat} (hk : k < l.length) (hj : j < (l.getD k default).length) (h : p ((l.getD k default).getD j default) = true) : l.flatten.any p = true := by
  rw [List.any_eq_true]
  refine ⟨_, List.mem_flatten.2 ⟨l.getD k default, ?_, ?_⟩, h⟩
  · rw [List.getD_eq_getElem?_getD, List.getElem?_eq_getElem hk]; exact List.getElem_mem hk
  · rw [List.getD_eq_getElem?_getD (l := l.getD k default), List.getElem?_eq_getElem hj]; exact List.getElem_mem hj
theorem getK_in {l : List (Str × Value)} {x : Str} {v : Value} (h : getK l x = some v) : (x, v) ∈ l := by
  unfold getK at h
  split at h
  · next hi =>
    rw [← idxK_key hi, ← Option.some.inj h, valK_at hi]
    exact List.getElem_mem hi
  · cases h
theorem getK_no {l : List (Str × Value)} {kv : Str × Value} (h : getK l kv.1 = none) : kv ∉ l := fun hm => by
  unfold getK at h
  rw [if_pos (idxK_mem.2 (List.mem_map_of_mem hm))] at h
  cases h
theorem hit_not {sx : Sx} {e : Ed} {ld vis : List (Str × Value)} (hng : sx.gets.contains e.key = false) (h9 : CntMap ld sx.heads) (hp : vis.Perm ld) (hnv : ∀ kv ∈ vis, kv.1.isPrefixOf e.key = false) : hitE sx e = false := by
  unfold hitE
  rw [hng, Bool.false_or, List.any_eq_false]
  intro x hx
  rcases h9 x with ⟨-, e1⟩ | ⟨n, e1, -⟩
  · exact absurd hx e1
  · rw [hnv _ (hp.mem_iff.2 (getK_in e1))]; simp
theorem changed_ok (ow : Labels) (t b bh bo i bs : Nat) (s : Bs) (sx : Sx) (vl : Value) (lh : List (Str × Value)) (lo : List (Int × Value)) (rows : List (List Value)) (w : World) (h : BaseAt ow t w b s bh bo vl lh lo rows) (hs : SesAt ow t w i bs sx)
    (hat : sx.at_ ≤ s.log.length) (hl : s.log.length ≤ 100000) :
    Ret Try.prog 78 #[.pointer (some ⟨b, 0, none⟩), .pointer (some ⟨bs, 0, none⟩)] w fun v w' => v = .bool (s.changed sx) ∧ Bel w w' := by
  obtain ⟨pl, cl, rowl, hvl, hc1, hc2, hc3, hR⟩ := h.logs hl
  have hM := hR.drop hc1 sx.at_
  subst hvl
  rw [changed_hit]
  obtain ⟨ve, bw, ba, bd, lw, la, ld, l1, h1, h2, h3, l4, h4, h5, l6, h6, h7, l8, h8, h9⟩ := hs
  have hb := h.box
  have hml : (s.log.drop sx.at_).length = s.log.length - sx.at_ := List.length_drop
  generalize hm : s.log.drop sx.at_ = ms at hM hml
  obtain ⟨pm, hpm⟩ : ∃ pm, pm = (if cl = sx.at_ then pl else pl.map (·.add (sx.at_ * 1))) := ⟨_, rfl⟩
  have hM0 := hM
  refine ret_of_W Try.func78 rfl (Nat.le_of_ble_eq_true rfl) (res1 rfl) ?_
  have hB := Gr.refl (fun _ => False) w
  refine W.seq ?_
  refine W.region ?_
  refine L.val (x_as (v := .bool _) rfl) rfl ?_
  refine L.nil ?_
  refine thn_n ?_
  refine W.seq ?_
  refine W.seq ?_
  refine W.drawB kses8_mixed (by kernel_rfl) ?_
  refine LQ.val (fun w hw => x_mv (v := .pointer _) rfl) rfl ?_
  refine LQ.val (fun w hw => x_nil rfl) rfl ?_
  refine LQ.val (fun w hw => x_fa kses8_fo97_1 rfl) rfl ?_
  refine LQ.val (fun w hw => x_ld (v := .slice _ _ _) kses8_oc30 rfl (hw.keep (hb.cell0 rfl))) rfl ?_
  refine LQ.val (fun w hw => x_mv (v := .pointer _) rfl) rfl ?_
  refine LQ.val (fun w hw => x_nil rfl) rfl ?_
  refine LQ.val (fun w hw => x_fa kses8_fo110_0 rfl) rfl ?_
  refine LQ.val (fun w hw => x_ld (v := .int _ _) kses8_oc3 rfl (hw.keep (h1.cell0 rfl))) rfl ?_
  refine LQ.val (fun w hw => x_slog Try.underlying30 kses8_sz22 rfl rfl rfl (by omega)) rfl ?_
  refine LQ.val (fun w hw => x_len_slice Try.underlying30 rfl) rfl ?_
  refine LQ.val (fun w hw => x_mv (v := .int _ _) rfl) rfl ?_
  refine LQ.nil ?_
  intro w10 hw
  have hB := hB.carry hw; have hb := hb.carry hw; have h1 := h1.carry hw
  refine thn_n ?_
  refine W.block ?_
  refine W.loop (fun m' E w' => ∃ (k : Nat), m' = ms.length - k ∧ E 0 = .pointer (some ⟨b, 0, none⟩) ∧ E 1 = .pointer (some ⟨bs, 0, none⟩) ∧ E 18 = .slice (if cl = sx.at_ then pl else pl.map (·.add (sx.at_ * 1))) (s.log.length - sx.at_) (cl - sx.at_) ∧ E 19 = .int .i64 (ms.length : Nat) ∧ E 20 = .int .i64 (k : Nat) ∧ (k ≤ ms.length) ∧ (Bel w w') ∧ ((ms.take k).flatten.any (hitE sx) = false) ∧ (Box w' b 97 [.map (some bh), .slice pl s.log.length cl, .map (some bo), .int .i64 (s.all.length : Nat)]) ∧ (Box w' bs 110 [.int .i64 (sx.at_ : Nat), ve, .map (some bw), .map (some ba), .map (some bd)])) (ms.length) ?_ ?_
  ·exact ⟨0, by omega, by first | rfl | exact vi (by omega), by first | rfl | exact vi (by omega), by first | rfl | exact vi (by omega), by first | rfl | exact vi (by omega), by first | rfl | exact vi (by omega), (by first | assumption | omega | rfl), (by first | assumption | omega | rfl), (by rfl), (by first | assumption | omega | rfl), (by first | assumption | omega | rfl)⟩
  ·rintro _ E wL21 ⟨k, em, e0, e1, e18, e19, e20, hk, hB, hany, hb, h1⟩
   rw [upd_self e0, upd_self e1, upd_self e18, upd_self e19, upd_self e20]
   refine W.seq ?_
   refine W.region ?_
   refine L.val (x_lss rfl rfl) rfl ?_
   refine L.nil ?_
   refine thn_n ?_
   refine W.seq ?_
   refine W.cond (b := _) rfl (fun g21 => ?_) (fun g21 => ?_)
   ·have h21 := of_decide_eq_true g21
    have hlt : k < ms.length := by omega
    obtain ⟨bm, om, epm, -, hcm⟩ := (hM.carry hB).elem hlt
    obtain ⟨vk, hvk, hEk⟩ := (hM.carry hB).each k hlt
    have hcm := hcm 0 (by omega)
    rw [hvk] at hcm
    obtain ⟨pk, ck, rowk, rfl, hk1, hk2, hk3, hRk⟩ := hEk
    have hcm : wL21.cell? ⟨bm, om + k, none⟩ = some (.slice pk (ms.getD k default).length ck) := by simpa using hcm
    refine W.skip ?_
    refine thn_n ?_
    refine W.seq ?_
    refine W.block ?_
    refine W.seq ?_
    refine W.region ?_
    refine L.val (x_ia1 (j := k) Try.underlying30 kses8_sz22 (by show Value.slice _ _ _ = _; rw [epm]) rfl rfl (by omega)) rfl ?_
    refine L.val (x_ld (v := .slice _ _ _) kses8_oc22 rfl hcm) rfl ?_
    refine L.val (x_as (v := .slice _ _ _) rfl) rfl ?_
    refine L.nil ?_
    refine thn_n ?_
    refine W.seq ?_
    refine W.region ?_
    refine L.val (x_mv (v := .slice _ _ _) rfl) rfl ?_
    refine L.val (x_len_slice Try.underlying22 rfl) rfl ?_
    refine L.val (x_mv (v := .int _ _) rfl) rfl ?_
    refine L.nil ?_
    refine thn_n ?_
    refine W.block ?_
    refine W.loop (fun m' E w' => ∃ (j : Nat), m' = (ms.getD k default).length - j ∧ E 0 = .pointer (some ⟨b, 0, none⟩) ∧ E 1 = .pointer (some ⟨bs, 0, none⟩) ∧ E 18 = .slice (if cl = sx.at_ then pl else pl.map (·.add (sx.at_ * 1))) (s.log.length - sx.at_) (cl - sx.at_) ∧ E 19 = .int .i64 (ms.length : Nat) ∧ E 20 = .int .i64 (k : Nat) ∧ E 24 = .slice pk (ms.getD k default).length ck ∧ E 25 = .int .i64 ((ms.getD k default).length : Nat) ∧ E 26 = .int .i64 (j : Nat) ∧ (j ≤ (ms.getD k default).length) ∧ (Bel w w') ∧ (Bel wL21 w') ∧ (((ms.getD k default).take j).any (hitE sx) = false) ∧ (Box w' b 97 [.map (some bh), .slice pl s.log.length cl, .map (some bo), .int .i64 (s.all.length : Nat)]) ∧ (Box w' bs 110 [.int .i64 (sx.at_ : Nat), ve, .map (some bw), .map (some ba), .map (some bd)])) ((ms.getD k default).length) ?_ ?_
    ·exact ⟨0, by omega, by first | rfl | exact vi (by omega), by first | rfl | exact vi (by omega), by first | rfl | exact vi (by omega), by first | rfl | exact vi (by omega), by first | rfl | exact vi (by omega), by first | rfl | exact vi (by omega), by first | rfl | exact vi (by omega), by first | rfl | exact vi (by omega), (by first | assumption | omega | rfl), (by first | assumption | omega | rfl), (by exact Gr.refl _ _), (by rfl), (by first | assumption | omega | rfl), (by first | assumption | omega | rfl)⟩
    ·rintro _ E wL27 ⟨j, em, e0, e1, e18, e19, e20, e24, e25, e26, hj, hB, hV, hany2, hb, h1⟩
     rw [upd_self e0, upd_self e1, upd_self e18, upd_self e19, upd_self e20, upd_self e24, upd_self e25, upd_self e26]
     refine W.seq ?_
     refine W.region ?_
     refine L.val (x_lss rfl rfl) rfl ?_
     refine L.nil ?_
     refine thn_n ?_
     refine W.seq ?_
     refine W.cond (b := _) rfl (fun g27 => ?_) (fun g27 => ?_)
     ·have h27 := of_decide_eq_true g27
      have hlt2 : j < (ms.getD k default).length := by omega
      obtain ⟨bk, ok, rfl, -, hck⟩ := (hRk.carry hV).elem hlt2
      have hver := ((hRk.carry hV).each j hlt2).1
      rw [hver] at hck
      have hb1 := h1.lt
      have hbb := hb.lt
      have hsv := hV.size
      have hsB := hB.size
      refine W.skip ?_
      refine thn_n ?_
      refine W.seq ?_
      refine W.block ?_
      refine W.seq ?_
      refine W.region ?_
      refine L.val (x_ia (j := j) Try.underlying22 kses8_sz34 rfl rfl (by omega) (by omega)) rfl ?_
      refine L.val (x_ldn (vs := edV ((ms.getD k default).getD j default)) kses8_ag34 rfl rfl hck) rfl ?_
      refine L.alloc (cs := [S [], S [], Value.bool false]) kses8_zr34 rfl rfl (fun w8 bx8 hw hz8 => ?_)
      have hB := hB.carry hw; have hb := hb.carry hw; have h1 := h1.carry hw; have hV := hV.carry hw
      refine L.setRow kses8_ag34 rfl rfl bx8 rfl rfl (edV_one _) (fun wl24 bx8 hw hzl24 => ?_)
      have hsz := hB.size
      have hB := hB.set hw (by omega); have hb := hb.carryR hw (by omega); have h1 := h1.carryR hw (by omega); have hV := hV.set hw (by omega)
      refine L.nil ?_
      refine thn_n ?_
      refine W.seq ?_
      refine W.seq ?_
      refine W.drawB kses8_mixed (by kernel_rfl) ?_
      obtain ⟨n, hn1, hn2, hn3, hn4⟩ := cnt_get h7 ((ms.getD k default).getD j default).key
      refine LQ.val (fun w hw => x_mv (v := .pointer _) rfl) rfl ?_
      refine LQ.val (fun w hw => x_nil rfl) rfl ?_
      refine LQ.val (fun w hw => x_fa kses8_fo110_3 rfl) rfl ?_
      refine LQ.val (fun w hw => x_ld (v := .map _) kses8_oc108 rfl (hw.keep (h1.cell0 rfl))) rfl ?_
      refine LQ.val (fun w hw => x_fa kses8_fo34_0 rfl) rfl ?_
      refine LQ.val (fun w hw => x_ld (v := S _) kses8_oc9 rfl (hw.keep (bx8.cell0 rfl))) rfl ?_
      refine LQ.val (fun w hw => x_look0 (z := .int .i64 0) Try.underlying108 (klawS Try.underlying9) (by kernel_rfl) rfl rfl trivial (h6.carry (hB.carry hw)) hn1) rfl ?_
      refine LQ.val (fun w hw => x_gtr rfl rfl) rfl ?_
      refine LQ.nil ?_
      intro w30 hw
      have hB := hB.carry hw; have hb := hb.carry hw; have h1 := h1.carry hw; have hV := hV.carry hw; have bx8 := bx8.carry hw
      have h30 := hw.size
      refine thn_n ?_
      refine W.cond (b := _) rfl (fun g37 => ?_) (fun g37 => ?_)
      ·have h37 := of_decide_eq_true g37
       refine W.seq ?_
       refine W.region ?_
       refine L.val (x_as (v := .bool _) rfl) rfl ?_
       refine L.nil ?_
       refine thn_n ?_
       refine W.ret (thn_r (blk_r (thn_r (thn_r (blk_r (blk_r (thn_r (thn_r (blk_r (thn_r (fin_mk (.inr rfl) ?_)))))))))))
       have hh : ms.flatten.any (hitE sx) = true := hit_at hlt hlt2 (by unfold hitE; rw [List.contains_iff_mem.2 (hn4.1 (by omega))]; rfl)
       rw [hh]
       exact ⟨rfl, hB⟩
      ·have h37 := dlt_f g37
       have hng : sx.gets.contains ((ms.getD k default).getD j default).key = false := by
         cases hc : sx.gets.contains ((ms.getD k default).getD j default).key
         · rfl
         · have := hn4.2 (List.contains_iff_mem.1 hc); omega
       refine W.skip ?_
       refine thn_n ?_
       refine W.seq ?_
       refine W.region ?_
       refine L.val (x_mv (v := .pointer _) rfl) rfl ?_
       refine L.val (x_nil rfl) rfl ?_
       refine L.val (x_fa kses8_fo110_4 rfl) rfl ?_
       refine L.val (x_ld (v := .map _) kses8_oc108 rfl (h1.cell0 rfl)) rfl ?_
       refine L.rangeM Try.underlying108 rfl rfl (h8.carry hB).str (fun w42 it42 gn42 hw hz42 => ?_)
       have hB := hB.carry hw; have hb := hb.carry hw; have h1 := h1.carry hw; have hV := hV.carry hw; have bx8 := bx8.carry hw
       have z42 := hz42
       have hl8 := h8.lt
       have hsv2 := hV.size
       refine L.nil ?_
       refine thn_n ?_
       refine W.block ?_
       refine W.loop (fun m' E w' => ∃ (vis : List (Str × Value)) (q : Nat), m' = ld.length - q ∧ E 0 = .pointer (some ⟨b, 0, none⟩) ∧ E 1 = .pointer (some ⟨bs, 0, none⟩) ∧ E 18 = .slice (if cl = sx.at_ then pl else pl.map (·.add (sx.at_ * 1))) (s.log.length - sx.at_) (cl - sx.at_) ∧ E 19 = .int .i64 (ms.length : Nat) ∧ E 20 = .int .i64 (k : Nat) ∧ E 24 = .slice (some ⟨bk, ok, none⟩) (ms.getD k default).length ck ∧ E 25 = .int .i64 ((ms.getD k default).length : Nat) ∧ E 26 = .int .i64 (j : Nat) ∧ E 8 = .pointer (some ⟨wL27.heap.size, 0, none⟩) ∧ E 42 = .pointer (some ⟨w30.heap.size, 0, none⟩) ∧ (Bel w w') ∧ (Bel wL21 w') ∧ (IterAt w' w30.heap.size bd ld vis) ∧ (q = vis.length) ∧ (∀ kv ∈ vis, kv.1.isPrefixOf ((ms.getD k default).getD j default).key = false) ∧ (Box w' b 97 [.map (some bh), .slice pl s.log.length cl, .map (some bo), .int .i64 (s.all.length : Nat)]) ∧ (Box w' bs 110 [.int .i64 (sx.at_ : Nat), ve, .map (some bw), .map (some ba), .map (some bd)]) ∧ (Box w' wL27.heap.size 34 (edV ((ms.getD k default).getD j default)))) (ld.length) ?_ ?_
       ·exact ⟨[], 0, by omega, by first | rfl | exact vi (by omega), by first | rfl | exact vi (by omega), by first | rfl | exact vi (by omega), by first | rfl | exact vi (by omega), by first | rfl | exact vi (by omega), by first | rfl | exact vi (by omega), by first | rfl | exact vi (by omega), by first | rfl | exact vi (by omega), by first | rfl | exact vi (by omega), by first | rfl | exact vi (by omega), (by first | assumption | omega | rfl), (by first | assumption | omega | rfl), (by first | assumption | omega | rfl), (by rfl), (by exact fun _ h => by cases h), (by first | assumption | omega | rfl), (by first | assumption | omega | rfl), (by first | assumption | omega | rfl)⟩
       ·rintro _ E wL43 ⟨vis, q, em, e0, e1, e18, e19, e20, e24, e25, e26, e8, e42, hB, hV, it42, hq, hnv, hb, h1, bx8⟩
        rw [upd_self e0, upd_self e1, upd_self e18, upd_self e19, upd_self e20, upd_self e24, upd_self e25, upd_self e26, upd_self e8, upd_self e42]
        refine W.seq ?_
        refine W.region ?_
        refine L.nextM rfl rfl it42 (fun hp43 => ?_) (fun kv43 w43 hkv43 hlt43 it42 gn43 hw hz43 => ?_)
        ·refine L.val (x_ext (v := .bool _) rfl rfl) rfl ?_
         refine L.nil ?_
         refine thn_n ?_
         refine W.seq ?_
         refine W.cond (b := false) rfl (fun h => nomatch h) (fun _ => ?_)
         refine W.exit (thn_x (thn_x (blk_hit ?_)))
         refine blk_n ?_
         refine thn_n ?_
         refine W.region ?_
         refine L.val (x_add rfl rfl (wr64 (by omega))) rfl ?_
         refine L.val (x_mv (v := .int _ _) rfl) rfl ?_
         refine L.nil ?_
         refine thn_n ⟨rfl, ?_⟩
         refine ⟨_, ?_, j + 1, rfl, by first | rfl | exact vi (by omega), by first | rfl | exact vi (by omega), by first | rfl | exact vi (by omega), by first | rfl | exact vi (by omega), by first | rfl | exact vi (by omega), by first | rfl | exact vi (by omega), by first | rfl | exact vi (by omega), by first | rfl | exact vi (by omega), (by first | assumption | omega | rfl), (by first | assumption | omega | rfl), (by first | assumption | omega | rfl), (by rw [any_take hlt2 default, hany2]; exact hit_not hng h9 hp43 hnv), (by first | assumption | omega | rfl), (by first | assumption | omega | rfl)⟩
         omega
        ·have hsz := hB.size
         have hB := hB.set hw (by omega); have hV := hV.set hw (by omega); have hb := hb.carryR hw (by omega); have h1 := h1.carryR hw (by omega); have bx8 := bx8.carryR hw (by omega)
         refine L.val (x_ext (v := .bool _) rfl rfl) rfl ?_
         refine L.nil ?_
         refine thn_n ?_
         refine W.seq ?_
         refine W.cond (b := true) rfl (fun _ => ?_) (fun h => nomatch h)
         refine W.skip ?_
         refine thn_n ?_
         refine W.block ?_
         refine W.seq ?_
         refine W.region ?_
         refine L.val (x_entry rfl it42) rfl ?_
         refine L.val (x_ext (v := S _) rfl rfl) rfl ?_
         refine L.val (x_as (v := S _) rfl) rfl ?_
         refine L.nil ?_
         refine thn_n ?_
         refine W.seq ?_
         refine W.region ?_
         refine L.val (x_fa kses8_fo34_0 rfl) rfl ?_
         refine L.val (x_ld (v := S _) kses8_oc9 rfl (bx8.cell0 rfl)) rfl ?_
         refine L.val (x_mv (v := S _) rfl) rfl ?_
         refine L.ret (x_call kses8_en59 rfl) rfl (prefix_ok ((ms.getD k default).getD j default).key kv43.1 _) ?_
         rintro _ w50 ⟨rfl, rfl⟩
         refine L.nil ?_
         refine thn_n ?_
         refine W.cond (b := _) rfl (fun g50 => ?_) (fun g50 => ?_)
         ·have h50 := g50
          refine W.seq ?_
          refine W.region ?_
          refine L.val (x_as (v := .bool _) rfl) rfl ?_
          refine L.nil ?_
          refine thn_n ?_
          refine W.ret (blk_r (thn_r (blk_r (blk_r (thn_r (thn_r (blk_r (blk_r (thn_r (thn_r (blk_r (thn_r (fin_mk (.inr rfl) ?_)))))))))))))
          have hm43 : kv43.1 ∈ sx.heads := by
            rcases h9 kv43.1 with ⟨e, -⟩ | ⟨_, _, _, _, e⟩
            · exact absurd hkv43 (getK_no e)
            · exact e
          have hh : ms.flatten.any (hitE sx) = true := hit_at hlt hlt2 (by unfold hitE; rw [Bool.or_eq_true]; exact .inr (List.any_eq_true.2 ⟨_, hm43, g50⟩))
          rw [hh]
          exact ⟨rfl, hB⟩
         ·have h50 := g50
          refine W.skip ?_
          refine blk_n ?_
          refine thn_n ⟨rfl, ?_⟩
          refine ⟨_, ?_, vis ++ [kv43], q + 1, rfl, by first | rfl | exact vi (by omega), by first | rfl | exact vi (by omega), by first | rfl | exact vi (by omega), by first | rfl | exact vi (by omega), by first | rfl | exact vi (by omega), by first | rfl | exact vi (by omega), by first | rfl | exact vi (by omega), by first | rfl | exact vi (by omega), by first | rfl | exact vi (by omega), by first | rfl | exact vi (by omega), (by first | assumption | omega | rfl), (by first | assumption | omega | rfl), (by first | assumption | omega | rfl), (by simp [hq]), (by exact fun x hx => (List.mem_append.1 hx).elim (hnv x) (fun hx => by rw [List.mem_singleton.1 hx]; exact g50)), (by first | assumption | omega | rfl), (by first | assumption | omega | rfl), (by first | assumption | omega | rfl)⟩
          omega
     ·have h27 := dlt_f g27
      refine W.exit (thn_x (thn_x (blk_hit ?_)))
      refine blk_n ?_
      refine thn_n ?_
      refine W.region ?_
      refine L.val (x_add rfl rfl (wr64 (by omega))) rfl ?_
      refine L.val (x_mv (v := .int _ _) rfl) rfl ?_
      refine L.nil ?_
      refine thn_n ⟨rfl, ?_⟩
      refine ⟨_, ?_, k + 1, rfl, by first | rfl | exact vi (by omega), by first | rfl | exact vi (by omega), by first | rfl | exact vi (by omega), by first | rfl | exact vi (by omega), by first | rfl | exact vi (by omega), (by first | assumption | omega | rfl), (by first | assumption | omega | rfl), (by rw [any_flat_take hlt, hany, Bool.false_or, ← List.take_length (l := ms.getD k default), ← show j = (ms.getD k default).length by omega]; exact hany2), (by first | assumption | omega | rfl), (by first | assumption | omega | rfl)⟩
      omega
   ·have h21 := dlt_f g21
    refine W.exit (thn_x (thn_x (blk_hit ?_)))
    refine thn_n ?_
    refine W.seq ?_
    refine W.region ?_
    refine L.val (x_as (v := .bool _) rfl) rfl ?_
    refine L.nil ?_
    refine thn_n ?_
    refine W.ret (fin_mk (.inr rfl) ?_)
    have hfin : ms.flatten.any (hitE sx) = false := by rw [show k = ms.length by omega, List.take_length] at hany; exact hany
    rw [hfin]
    exact ⟨rfl, hB⟩
end Go.Gx
namespace Go.Gx
open Go.Proofs
theorem kses9_el22 : elT Try.prog 22 1 = true := by kernel_rfl
theorem kses9_en52 : Go.Proofs.Enters Try.prog 52 := Go.Proofs.enters_of Try.func52 (by kernel_rfl) rfl
theorem kses9_en55 : Go.Proofs.Enters Try.prog 55 := Go.Proofs.enters_of Try.func55 (by kernel_rfl) rfl
theorem kses9_en78 : Go.Proofs.Enters Try.prog 78 := Go.Proofs.enters_of Try.func78 (by kernel_rfl) rfl
theorem kses9_fo110_1 : fieldOff Try.prog 110 1 = some 1 := by kernel_rfl
theorem kses9_fo97_1 : fieldOff Try.prog 97 1 = some 1 := by kernel_rfl
theorem kses9_fo97_2 : fieldOff Try.prog 97 2 = some 2 := by kernel_rfl
theorem kses9_mixed : Try.prog.follows .mixedOrders = true := by kernel_rfl
theorem kses9_oc22 : oneCellT Try.prog 22 = true := by kernel_rfl
theorem kses9_oc30 : oneCellT Try.prog 30 = true := by kernel_rfl
theorem kses9_oc95 : oneCellT Try.prog 95 = true := by kernel_rfl
theorem kses9_sz30 : (Try.prog.info? 30).map (·.size) = some 1 := by kernel_rfl
def LogC (i : Nat) (p : Part) : Prop := p = .base ∨ p = .log ∨ p = .eds i
theorem keeps_commit {ow : Labels} {t i : Nat} {w w' : World} {v v0 ve : Value} (g : Gr (fun j => ∃ p, LogC i p ∧ ow j = some (t, p)) w w') (hf : ∀ k, w.heap.size ≤ k → ow k = none) (h0 : ∀ j, some j = v0.ownBlock → ow j = some (t, .log))
    (hob : v.ownBlock = v0.ownBlock ∨ ∃ j, v.ownBlock = some j ∧ w.heap.size ≤ j) (hlt : ∀ j, some j = v.ownBlock → j < w'.heap.size) (he : ∀ j, some j = ve.ownBlock → ow j = some (t, .eds i) ∧ j < w.heap.size) :
    ∃ ow1, Keeps t (LogC i) w w' ow ow1 ∧ (∀ k, k < w.heap.size → some k ≠ ve.ownBlock → ow1 k = ow k) ∧ (∀ j, some j = ve.ownBlock → ow1 j = none) ∧ ∀ j, some j = v.ownBlock → ow1 j = some (t, .log) := by
  obtain ⟨ow', hK, ho, hn⟩ := keeps_own (p0 := .log) g hf h0 hob hlt
  have hd : ∀ j, some j = v.ownBlock → some j ≠ ve.ownBlock := fun j h1 h2 => by
    have a := hn j h1
    rw [ho j (he j h2).2, (he j h2).1] at a
    simp at a
  refine ⟨fun k => if some k = ve.ownBlock then none else ow' k, ⟨g, fun k hk => ?_, fun k hk => ?_, fun k hk => ?_⟩, fun k hk hne => (if_neg hne).trans (ho k hk), fun j hj => if_pos hj, fun j hj => (if_neg (hd j hj)).trans (hn j hj)⟩
  · by_cases h : some k = ve.ownBlock
    · rw [if_pos h]; exact .inr ⟨⟨_, .inr (.inr rfl), (he k h).1⟩, rfl⟩
    · rw [if_neg h]; exact .inl (ho k hk)
  · by_cases h : some k = ve.ownBlock
    · rw [if_pos h]; exact .inl rfl
    · rcases hK.new k hk with e | ⟨p, e⟩
      · rw [if_neg h]; exact .inl e
      · exact .inr ⟨p, by dsimp only; rw [if_neg h]; exact e⟩
  · by_cases h : some k = ve.ownBlock
    · rw [if_pos h]
    · rw [if_neg h]; exact hK.end_ k hk
theorem OpensAt.keep {ow ow' : Labels} {t : Nat} {C : Part → Prop} {w w' : World} {lo : List (Int × Value)} {all : List Sx} (h : OpensAt ow t w lo all) (g : Keeps t C w w' ow ow') (hne : ∀ j, j < all.length → (all.getD j default).opn = true → ¬ C (.ses j) ∧ ¬ C (.eds j) ∧ ¬ C (.own j) ∧ ¬ C (.asked j) ∧ ¬ C (.heads j)) : OpensAt ow' t w' lo all := fun id => by
  rcases h id with h1 | ⟨j, b1, h1, h2, h3, h4, h5⟩
  · exact .inl h1
  · exact .inr ⟨j, b1, h1, h2, h3, h4, h5.keep g (hne j h2 h3)⟩
theorem held_new {ow : Labels} {t : Nat} {w : World} {lh : List (Str × Value)} {gs : List (List Ed)} (h : HeldAt ow t w lh gs) : HeldAt ow t w lh (gs ++ [[]]) := fun k => by
  have e : vers 0 (gs ++ [[]]) k = vers 0 gs k := by rw [vers_append]; simp [vers, lastE]
  rw [e]; exact h k
theorem getD_shut {s : Bs} {i j : Nat} (hi : i < s.all.length) : (s.shut ((i + 1 : Nat) : Int)).all.getD j default = if j = i then { s.all.getD i default with opn := false } else s.all.getD j default := by
  simp only [Bs.shut, Bs.upd, Bs.ses, Int.toNat_natCast, Nat.add_sub_cancel]
  exact getD_set hi
theorem shut_len (s : Bs) (id : Int) : (s.shut id).all.length = s.all.length := by simp [Bs.shut, Bs.upd]
theorem commit_done {ow ow1 ow2 : Labels} {t b bh bo i : Nat} {w w1 w2 : World} {s : Bs} {sx : Sx} {vl v ve : Value} {lh lh2 : List (Str × Value)} {lo : List (Int × Value)} {rows : List (List Value)} (h : BaseAt ow t w b s bh bo vl lh lo rows)
    (_hi : i < s.all.length) (hcl : (s.all.getD i default).opn = false) (_hE : OwnP ow t (.eds i) w 34 3 ve sx.eds.length (sx.eds.map edV).flatten) (hok : ∀ e ∈ sx.eds, EdOk e ∧ okEd e = true) (hel : sx.eds.length ≤ 1000000)
    (hK : Keeps t (LogC i) w w1 ow ow1) (_hg1 : ∀ k, k < w.heap.size → some k ≠ ve.ownBlock → ow1 k = ow k) (hg2 : ∀ j, some j = ve.ownBlock → ow1 j = none) (hg3 : ∀ j, some j = v.ownBlock → ow1 j = some (t, .log))
    (gE : Own w1 0 34 3 ve sx.eds.length (sx.eds.map edV).flatten) (hb : Box w1 b 97 [.map (some bh), v, .map (some bo), .int .i64 (s.all.length : Nat)]) (hbl : ow1 b = some (t, .base))
    (hv : Own w1 0 22 1 v (s.log.length + 1) (rows.flatten ++ [ve])) (hK2 : Keeps t DoneC w1 w2 ow1 ow2) (mh : MapAtK S (fun _ => True) w2 bh lh2) (hh : HeldAt ow2 t w2 lh2 ((s.first :: s.log) ++ [sx.eds])) (hbh : ow2 bh = some (t, .held)) :
    BaseAt ow2 t w2 b { s with log := s.log ++ [sx.eds] } bh bo v lh2 lo (rows ++ [[ve]]) := by
  have hlo := h.mapO.lt
  have hs1 := hK.gr.size
  have dC : ∀ {p : Part}, p = .base ∨ p = .opens ∨ p = .log ∨ (∃ j, p = .ses j ∨ p = .eds j ∨ p = .own j ∨ p = .asked j ∨ p = .heads j) → ¬ DoneC p := fun {p} hp hd => by
    rcases hd with rfl | ⟨k, rfl⟩ <;> simp at hp
  have o1 : ow1 bo = some (t, .opens) := hK.lab h.labO hlo (by simp [LogC])
  refine ⟨hK2.lab hbl hb.lt (dC (by simp)), hb.keep hK2 hbl (dC (by simp)), hbh, mh, hh, hK2.lab o1 (by omega) (dC (by simp)), (h.mapO.keep hK h.labO (by simp [LogC])).keep hK2 o1 (dC (by simp)), ?_, ?_, ?_, ?_, hK2.end_⟩
  · refine (h.opens.keep hK (fun j hj ho => ?_)).keep hK2 (fun j _ _ => ⟨dC (by simp), dC (by simp), dC (by simp), dC (by simp), dC (by simp)⟩)
    have hne : j ≠ i := fun e => by rw [e, hcl] at ho; cases ho
    simp [LogC, hne]
  · have : OwnP ow1 t .log w1 22 1 v (s.log.length + 1) (rows.flatten ++ [ve]) := ⟨hv, hg3⟩
    have := this.keep hK2 (dC (by simp))
    simpa using this
  · have r1 := rows_keep (rows_keep h.rows hK) hK2
    refine RowsC.append r1 (RowsC.one ⟨ve, rfl, ?_⟩)
    have e2 : ∀ j, some j = ve.ownBlock → ow2 j = none := fun j hj => by
      have hlt := (Own.lt gE hj).2
      rcases hK2.old j hlt with e | ⟨-, e⟩
      · rw [e]; exact hg2 j hj
      · exact e
    refine (rows_pure (C := EdC) (A := fun _ => True) (w := w2) (f := edV) sx.eds fun e he => ⟨rfl, (hok e he).1⟩).doneB (Own.carryR gE hK2.gr (fun j hj ⟨p, _, hp⟩ => by rw [hg2 j hj] at hp; cases hp)) (by omega) (fun _ _ => trivial) (fun j hj hn => hn (e2 j hj))
  · intro e he
    have : (s.first :: (s.log ++ [sx.eds])).flatten = (s.first :: s.log).flatten ++ sx.eds := by simp
    rw [this] at he
    rcases List.mem_append.1 he with he | he
    · exact h.ok e he
    · exact (hok e he).1
theorem shutA {s : Bs} {i : Nat} (hi : i < s.all.length) : ((s.shut ((i + 1 : Nat) : Int)).all.getD i default).opn = false := by rw [getD_shut hi, if_pos rfl]
theorem commit_ok (ow : Labels) (t b bh bo : Nat) (s : Bs) (vl : Value) (lh : List (Str × Value)) (lo : List (Int × Value)) (rows : List (List Value)) (id : Int) (w : World) (h : BaseAt ow t w b s bh bo vl lh lo rows)
    (hw : ∀ x ∈ s.all, x.at_ ≤ s.log.length ∧ x.eds.length ≤ 1000000) (hl : s.log.length ≤ 10000) :
    Ret Try.prog 42 #[.pointer (some ⟨b, 0, none⟩), .int .i64 id] w fun v w' => v = .int .i64 (if s.isOpen id then s.commitA id else 400) ∧
      ∃ ow' vl' lh' lo' rows', Goes t w w' ow ow' ∧ BaseAt ow' t w' b (if s.isOpen id then s.commitS id else s) bh bo vl' lh' lo' rows' := by
  have hb := h.box
  by_cases ho : s.isOpen id
  · rw [if_pos ho, if_pos ho]
    obtain ⟨al, cl, rfl, hcl⟩ := own_shape h.log.1
    refine ret_of_W Try.func42 rfl (Nat.le_of_ble_eq_true rfl) (res1 rfl) ?_
    refine W.seq ?_
    refine W.region ?_
    refine L.val (x_as (v := .int _ _) rfl) rfl ?_
    refine L.nil ?_
    refine thn_n ?_
    refine W.seq ?_
    refine W.region ?_
    refine L.val (x_mv (v := .pointer _) rfl) rfl ?_
    refine L.val (x_mv (v := .int _ _) rfl) rfl ?_
    refine L.ret (x_call kses9_en55 rfl) rfl (find_ok ow t b bh bo s _ lh lo rows id _ h) ?_
    rintro v10 w10 ⟨hq, hf⟩
    rw [hq]
    obtain ⟨i, bs, e1, e2, e3, e4, e5, rfl⟩ := hf.resolve_left (fun hh => hh.1 ho)
    subst e1
    have hwi := hw (s.all.getD i default) (by rw [List.getD_eq_getElem?_getD, List.getElem?_eq_getElem e2]; exact List.getElem_mem _)
    refine L.val (x_mv (v := _) rfl) rfl ?_
    refine L.val (x_ext (v := .pointer _) rfl rfl) rfl ?_
    refine L.val (x_ext (v := .int _ _) rfl rfl) rfl ?_
    refine L.val (x_as (v := .pointer _) rfl) rfl ?_
    refine L.val (x_as (v := .int _ _) rfl) rfl ?_
    refine L.nil ?_
    refine thn_n ?_
    refine W.seq ?_
    refine W.seq ?_
    refine W.region ?_
    refine L.val (x_mv (v := .int _ _) rfl) rfl ?_
    refine L.val (x_neq rfl rfl) rfl ?_
    refine L.nil ?_
    refine thn_n ?_
    refine W.cond (b := _) rfl (fun g14 => ?_) (fun g14 => ?_)
    ·have h14 := dne_t g14
     cases g14
    ·have h14 := dne_f g14
     refine W.skip ?_
     refine thn_n ?_
     refine W.seq ?_
     refine W.region ?_
     refine L.val (x_mv (v := .pointer _) rfl) rfl ?_
     refine L.val (x_nil rfl) rfl ?_
     refine L.val (x_fa kses9_fo97_2 rfl) rfl ?_
     refine L.val (x_ld (v := .map _) kses9_oc95 rfl (hb.cell (i := 2) rfl)) rfl ?_
     refine L.val (x_mv (v := .int _ _) rfl) rfl ?_
     refine L.mapdelK Try.underlying95 (klawI Try.underlying3) rfl rfl trivial h.mapO (fun w17 mo hw hz17 => ?_)
     have hp : Gr (fun k => ow k = some (t, .opens)) w w17 := hw.mono (fun k _ e => by have e : k = bo := e; rw [e]; exact h.labO)
     have hm : Gr (Mine ow t) w w17 := hp.mono (fun k _ e => ⟨_, e⟩)
     have hG : Goes t w w17 ow ow := ⟨fun _ _ => .inl rfl, fun k hk => .inl (h.free k hk), hm, fun k hk => h.free k (by omega)⟩
     have hN : BaseAt ow t w17 b (s.shut ((i + 1 : Nat) : Int)) bh bo (.slice al s.log.length cl) lh (delK lo ((i + 1 : Nat) : Int)) rows := by
       refine ⟨h.lab, ?_, h.labH, h.mapH.carryR hp (lab_part h.labH (by simp)), h.held.part hp (by simp), h.labO, mo, OpensAt.shut h.opens h.mapO.nodup hp e2, h.log.part hp (by simp), h.rows.carryR hp (fun k e => by rw [e]; simp), h.ok, fun k hk => h.free k (by omega)⟩
       have : (s.shut ((i + 1 : Nat) : Int)).all.length = s.all.length := by simp [Bs.shut, Bs.upd]
       rw [this]
       exact h.box.carryR hp (lab_part h.lab (by simp))
     have e5 := e5.part hp ⟨by simp, by simp, by simp, by simp, by simp⟩
     have e5o := e5
     obtain ⟨ve, bw, ba, bd, lw, la, ld, l1, h1, h2, h3, l4, h4, h5, l6, h6, h7, l8, h8, h9⟩ := e5
     obtain ⟨ae, ce, rfl, hce⟩ := own_shape h2.1
     have hbn := hN.box
     refine L.nil ?_
     refine thn_n ?_
     refine W.seq ?_
     refine W.seq ?_
     refine W.region ?_
     refine L.val (x_mv (v := .pointer _) rfl) rfl ?_
     refine L.val (x_nil rfl) rfl ?_
     refine L.val (x_fa kses9_fo110_1 rfl) rfl ?_
     refine L.val (x_ld (v := .slice _ _ _) kses9_oc22 rfl (h1.cell0 rfl)) rfl ?_
     refine L.val (x_len_slice Try.underlying22 rfl) rfl ?_
     refine L.val (x_eql rfl rfl) rfl ?_
     refine L.nil ?_
     refine thn_n ?_
     refine W.cond (b := _) rfl (fun g26 => ?_) (fun g26 => ?_)
     ·have h26 := of_decide_eq_true g26
      have hnil : (s.ses ((i + 1 : Nat) : Int)).eds = [] := by rw [ses_succ]; exact List.eq_nil_of_length_eq_zero (by omega)
      refine W.seq ?_
      refine W.region ?_
      refine L.val (x_as (v := .int _ _) rfl) rfl ?_
      refine L.nil ?_
      refine thn_n ?_
      refine W.ret (thn_r (fin_mk (.inr rfl) ?_))
      unfold Bs.commitA Bs.commitS
      rw [if_neg (fun hh => hh.1 hnil), if_pos (.inl hnil)]
      exact ⟨rfl, ow, _, _, _, _, hG, hN⟩
     ·have h26 := of_decide_eq_false g26
      have hne : (s.ses ((i + 1 : Nat) : Int)).eds ≠ [] := by rw [ses_succ]; intro hh; rw [hh] at h26; simp at h26
      refine W.skip ?_
      refine thn_n ?_
      refine W.seq ?_
      refine W.seq ?_
      refine W.region ?_
      refine L.val (x_mv (v := .pointer _) rfl) rfl ?_
      refine L.val (x_mv (v := .pointer _) rfl) rfl ?_
      refine L.ret (x_call kses9_en78 rfl) rfl (changed_ok ow t b bh bo i bs (s.shut ((i + 1 : Nat) : Int)) (s.all.getD i default) _ lh _ rows _ hN e5o hwi.1 (by show s.log.length ≤ _; omega)) ?_
      rintro _ w29 ⟨rfl, hw⟩
      have h1 := h1.carry hw; have hbn := hbn.carry hw
      have hB29 := hw
      have hN := hN.bel hw
      refine L.nil ?_
      refine thn_n ?_
      refine W.cond (b := _) rfl (fun g29 => ?_) (fun g29 => ?_)
      ·have h29 := g29
       have hch : s.changed (s.ses ((i + 1 : Nat) : Int)) = true := by rw [ses_succ]; exact g29
       refine W.seq ?_
       refine W.region ?_
       refine L.val (x_as (v := .int _ _) rfl) rfl ?_
       refine L.nil ?_
       refine thn_n ?_
       refine W.ret (thn_r (fin_mk (.inr rfl) ?_))
       unfold Bs.commitA Bs.commitS
       rw [if_pos ⟨hne, hch⟩, if_pos (.inr hch)]
       exact ⟨rfl, ow, _, _, _, _, hG.trans (Goes.bel (fun k hk => h.free k (by omega)) hw), hN⟩
      ·have h29 := g29
       have hch : s.changed (s.ses ((i + 1 : Nat) : Int)) = false := by rw [ses_succ]; exact g29
       have h2 : OwnP ow t (.eds i) w29 34 3 (.slice ae (s.all.getD i default).eds.length ce) (s.all.getD i default).eds.length ((s.all.getD i default).eds.map edV).flatten := ⟨Own.carry h2.1 hB29, h2.2⟩
       have hE : Own w29 0 22 1 (.slice al s.log.length cl) s.log.length rows.flatten := hN.log.1
       have lL := hN.log.2
       have hb1 := h1.lt
       have hbb := hbn.lt
       have hql : ∀ j, some j = (Value.slice al s.log.length cl).ownBlock → j ≠ bs ∧ j ≠ b ∧ j < w29.heap.size := fun j hj => ⟨lab_part2 (lL j hj) l1 (by simp), lab_part2 (lL j hj) hN.lab (by simp), (Own.lt hE hj).2⟩
       have hbn2 : b ≠ bs := lab_part2 hN.lab l1 (by simp)
       refine W.skip ?_
       refine thn_n ?_
       refine W.seq ?_
       refine W.drawD (fun j => some j = (Value.slice al s.log.length cl).ownBlock ∨ j = b) (fun j => some j = (Value.slice al s.log.length cl).ownBlock) 13 kses9_mixed (fun wD30 hw => ?_)
       have hbn := hbn.carry hw; have hE := hE.carry hw; have h1 := h1.carry hw
       have hB0 := Gr.refl (fun j => some j = (Value.slice al s.log.length cl).ownBlock) wD30; have hR0 := Gr.refl (fun j => some j = (Value.slice al s.log.length cl).ownBlock ∨ j = b) wD30
       have hD := hw
       refine LAD.take0 (i := 0) rfl (by kernel_rfl) (by kernel_rfl) (by kernel_rfl) (by kernel_rfl) (fun w hw => x_mv (v := .pointer _) rfl) rfl ?_
       refine LAD.take0 (i := 1) rfl (by kernel_rfl) (by kernel_rfl) (by kernel_rfl) (by kernel_rfl) (fun w hw => x_mv (v := .pointer _) rfl) rfl ?_
       refine LAD.take0 (i := 2) rfl (by kernel_rfl) (by kernel_rfl) (by kernel_rfl) (by kernel_rfl) (fun w hw => x_nil rfl) rfl ?_
       refine LAD.take0 (i := 3) rfl (by kernel_rfl) (by kernel_rfl) (by kernel_rfl) (by kernel_rfl) (fun w hw => x_fa kses9_fo97_1 rfl) rfl ?_
       refine LAD.take1 (i := 4) rfl (by kernel_rfl) (by kernel_rfl) (by kernel_rfl) (by kernel_rfl) (by kernel_rfl) (by kernel_rfl) (fun w hw => x_ld (v := .slice _ _ _) kses9_oc30 rfl (hw.keepR (fun e => by have := hql _ e; (try dsimp only at this); omega) (hbn.cell0 rfl))) rfl ?_
       refine LAD.take0 (i := 5) rfl (by kernel_rfl) (by kernel_rfl) (by kernel_rfl) (by kernel_rfl) (fun w hw => x_mv (v := .pointer _) rfl) rfl ?_
       refine LAD.take0 (i := 6) rfl (by kernel_rfl) (by kernel_rfl) (by kernel_rfl) (by kernel_rfl) (fun w hw => x_nil rfl) rfl ?_
       refine LAD.take0 (i := 7) rfl (by kernel_rfl) (by kernel_rfl) (by kernel_rfl) (by kernel_rfl) (fun w hw => x_fa kses9_fo110_1 rfl) rfl ?_
       refine LAD.take0 (i := 8) rfl (by kernel_rfl) (by kernel_rfl) (by kernel_rfl) (by kernel_rfl) (fun w hw => x_ld (v := .slice _ _ _) kses9_oc22 rfl (hw.keepR (fun e => by rcases e with e | e; (have := hql _ e; (try dsimp only at this); omega); (have e : (_ : Nat) = _ := e; (try dsimp only at e); omega)) (h1.cell0 rfl))) rfl ?_
       refine LAD.step (rs := [9]) hR0 (fun _ => hB0) (by kernel_rfl) (by simp) ⟨⟨_, rfl, ?_⟩, trivial⟩
       refine L.bs (sz := 1) (cells := [.slice ae (s.all.getD i default).eds.length ce]) Try.underlying30 kses9_el22 rfl rfl rfl rfl (fun w39 bx39 hw hz39 => ?_)
       have hB0 := hB0.carry hw; have hR0 := hR0.carry hw; have hbn := hbn.carry hw; have hE := hE.carry hw
       refine L.nil ?_
       refine thn_n ?_
       refine LAD.step (rs := [10]) hR0 (fun _ => hB0) (by kernel_rfl) (by simp) ⟨⟨_, rfl, ?_⟩, trivial⟩
       refine L.appendN (m := 1) Try.underlying30 kses9_el22 rfl rfl rfl hE rfl (holdsN_box bx39) (by intro u hu; rw [List.mem_singleton.1 hu]; rfl) (by omega) (by omega) (fun v40 w40 hO40 hg hob40 => ?_)
       have hB0 := hB0.intoR hg (fun k e => e)
       have hR0 := hR0.intoR hg (fun k e => .inl e)
       have hbn := hbn.carryR hg (fun e => (hql _ e).2.1 rfl)
       obtain ⟨a40, c40, e40, -⟩ := own_shape hO40
       subst e40
       refine L.nil ?_
       refine thn_n ?_
       refine LAD.take0 (i := 11) rfl (by kernel_rfl) (by kernel_rfl) (by kernel_rfl) (by kernel_rfl) (fun w hw => x_nil rfl) rfl ?_
       refine LAD.take0 (i := 12) rfl (by kernel_rfl) (by kernel_rfl) (by kernel_rfl) (by kernel_rfl) (fun w hw => x_fa kses9_fo97_1 rfl) rfl ?_
       refine LAD.step (rs := [13]) hR0 (fun _ => hB0) (by kernel_rfl) (by simp) ⟨⟨_, rfl, ?_⟩, trivial⟩
       refine L.set (v := .slice _ _ _) kses9_sz30 rfl rfl rfl hbn rfl (fun wl44 hbn hw hzl44 => ?_)
       have hR0 := hR0.into hw (by first | exact .inl rfl | exact .inr rfl)
       have hobn : ∀ j, some j = (Value.slice a40 (s.log.length + 1) c40).ownBlock → j ≠ b ∧ j ≠ bs := fun j hj => by
         rcases hob40 with e | e
         · rw [e] at hj; exact ⟨(hql j hj).2.1, (hql j hj).1⟩
         · rw [e] at hj; cases hj; have := hD.size; omega
       have hO44 := Own.carryR hO40 hw (fun j hj e => (hobn j hj).1 e)
       refine L.nil ?_
       refine thn_n ?_
       refine LAD.done (by kernel_rfl) (by kernel_rfl) hR0 ?_
       have h1 := h1.carryR hR0 (fun e => by rcases e with e | e; exact (hql _ e).1 rfl; exact hbn2 e.symm)
       have hall : Gr (fun j => some j = (Value.slice al s.log.length cl).ownBlock ∨ j = b) w29 wl44 := ((Gr.refl _ _).carry hD).trans hR0
       have hnol : ∀ j, some j = (Value.slice ae (s.all.getD i default).eds.length ce).ownBlock → ¬ (some j = (Value.slice al s.log.length cl).ownBlock ∨ j = b) := fun j hj e => by
         rcases e with e | e
         · exact lab_part2 (h2.2 j hj) (lL j e) (by simp) rfl
         · exact lab_part2 (h2.2 j hj) hN.lab (by simp) e
       have gE := Own.carryR h2.1 hall hnol
       obtain ⟨ow1, hK, hg1, hg2, hg3⟩ := keeps_commit (i := i) (v := .slice a40 (s.log.length + 1) c40) (v0 := .slice al s.log.length cl) (ve := .slice ae (s.all.getD i default).eds.length ce) (hall.mono (fun k _ e => by
         rcases e with e | e
         · exact ⟨_, .inr (.inl rfl), lL k e⟩
         · exact ⟨_, .inl rfl, by rw [e]; exact hN.lab⟩)) hN.free lL (hob40.imp id (fun e => ⟨_, e, by have := hD.size; omega⟩)) (fun j hj => (Own.lt hO44 hj).2) (fun j hj => ⟨h2.2 j hj, (Own.lt h2.1 hj).2⟩)
       have hbl1 : ow1 b = some (t, .base) := (hg1 b hbb (fun e => hnol b e (.inr rfl))).trans hN.lab
       have hb1l := hbn.lt
       have hbn44 := hbn
       have h1l : ow1 bs = some (t, .ses i) := hK.lab l1 hb1 (by simp [LogC])
       have hbh1 : ow1 bh = some (t, .held) := hK.lab hN.labH hN.mapH.lt (by simp [LogC])
       have mh1 := hN.mapH.keep hK hN.labH (by simp [LogC])
       have hh1 := held_new (hN.held.keep hK (by simp [LogC]))
       have hlr : EdsAt (fun k => (∃ p, DoneC p ∧ ow1 k = some (t, p)) ∨ wl44.heap.size ≤ k) wl44 (.slice ae (s.all.getD i default).eds.length ce) (s.all.getD i default).eds :=
         (rows_pure (C := EdC) (A := fun _ => True) (w := wl44) (f := edV) (s.all.getD i default).eds fun e he => ⟨rfl, (h3 e he).1⟩).doneB gE (by omega) (fun _ _ => trivial) (fun j hj hn => by
           rcases hn with ⟨p, _, e⟩ | e
           · rw [hg2 j hj] at e; cases e
           · have := (Own.lt gE hj).2; omega)
       refine thn_n ?_
       refine W.seq ?_
       refine W.drawD (fun k => ∃ p, DoneC p ∧ ow1 k = some (t, p)) (fun _ => False) 10 kses9_mixed (fun wD43 hw => ?_)
       have hbn := hbn.carry hw; have h1 := h1.carry hw; have hlr := hlr.carry hw
       have hB0 := Gr.refl (fun _ => False) wD43; have hR0 := Gr.refl (fun k => ∃ p, DoneC p ∧ ow1 k = some (t, p)) wD43
       have hDD := hw
       refine LAD.take0 (i := 0) rfl (by kernel_rfl) (by kernel_rfl) (by kernel_rfl) (by kernel_rfl) (fun w hw => x_mv (v := .pointer _) rfl) rfl ?_
       refine LAD.take0 (i := 1) rfl (by kernel_rfl) (by kernel_rfl) (by kernel_rfl) (by kernel_rfl) (fun w hw => x_mv (v := .pointer _) rfl) rfl ?_
       refine LAD.take0 (i := 2) rfl (by kernel_rfl) (by kernel_rfl) (by kernel_rfl) (by kernel_rfl) (fun w hw => x_nil rfl) rfl ?_
       refine LAD.take0 (i := 3) rfl (by kernel_rfl) (by kernel_rfl) (by kernel_rfl) (by kernel_rfl) (fun w hw => x_fa kses9_fo97_1 rfl) rfl ?_
       refine LAD.take0 (i := 4) rfl (by kernel_rfl) (by kernel_rfl) (by kernel_rfl) (by kernel_rfl) (fun w hw => x_ld (v := .slice _ _ _) kses9_oc30 rfl (hw.keepR (fun ⟨p, hp, e⟩ => by first | exact Keeps.not hbl1 (by simp [DoneC]) ⟨p, hp, e⟩ | exact Keeps.not h1l (by simp [DoneC]) ⟨p, hp, e⟩) (hbn.cell0 rfl))) rfl ?_
       refine LAD.take0 (i := 5) rfl (by kernel_rfl) (by kernel_rfl) (by kernel_rfl) (by kernel_rfl) (fun w hw => x_len_slice Try.underlying30 rfl) rfl ?_
       refine LAD.take0 (i := 6) rfl (by kernel_rfl) (by kernel_rfl) (by kernel_rfl) (by kernel_rfl) (fun w hw => x_mv (v := .pointer _) rfl) rfl ?_
       refine LAD.take0 (i := 7) rfl (by kernel_rfl) (by kernel_rfl) (by kernel_rfl) (by kernel_rfl) (fun w hw => x_nil rfl) rfl ?_
       refine LAD.take0 (i := 8) rfl (by kernel_rfl) (by kernel_rfl) (by kernel_rfl) (by kernel_rfl) (fun w hw => x_fa kses9_fo110_1 rfl) rfl ?_
       refine LAD.take0 (i := 9) rfl (by kernel_rfl) (by kernel_rfl) (by kernel_rfl) (by kernel_rfl) (fun w hw => x_ld (v := .slice _ _ _) kses9_oc22 rfl (hw.keepR (fun ⟨p, hp, e⟩ => by first | exact Keeps.not hbl1 (by simp [DoneC]) ⟨p, hp, e⟩ | exact Keeps.not h1l (by simp [DoneC]) ⟨p, hp, e⟩) (h1.cell0 rfl))) rfl ?_
       refine LAD.step (rs := [10]) hR0 (fun _ => hB0) (by kernel_rfl) (by simp) ⟨⟨_, rfl, ?_⟩, trivial⟩
       refine L.ret (x_call kses9_en52 rfl) rfl (done_ok ow1 t b bh (s.log.length + 1) (s.first :: s.log) lh (s.all.getD i default).eds _ _ _ _ wD43 hbn hbl1 hbh1 (mh1.carry hDD) (HeldAt.keep hh1 (Keeps.bel (C := fun _ => False) hK.end_ hDD) (fun _ f => f)) rfl (hlr.mono (fun k hk e => e.imp id (fun e => by omega))) (fun k hk => hK.end_ k (by have := hDD.size; omega)) (by simp; omega)) ?_
       rintro _ w53 ⟨ow2, lh2, hK2, mh2, hh2, hbh2⟩
       have hR0 := hR0.trans hK2.gr
       refine L.nil ?_
       refine thn_n ?_
       refine LAD.done (by kernel_rfl) (by kernel_rfl) hR0 ?_
       have hbn := hbn.carryR hR0 (Keeps.not hbl1 (by simp [DoneC]))
       have h1 := h1.carryR hR0 (Keeps.not h1l (by simp [DoneC]))
       have hlr := trivial
       refine thn_n ?_
       refine W.seq ?_
       refine W.region ?_
       refine L.val (x_as (v := .int _ _) rfl) rfl ?_
       refine L.nil ?_
       refine thn_n ?_
       refine W.ret (fin_mk (.inr rfl) ?_)
       have hK3 : Keeps t DoneC wl44 w53 ow1 ow2 := (Keeps.bel hK.end_ hDD).trans hK2
       have hfin := commit_done (sx := s.all.getD i default) hN (by rw [shut_len]; exact e2) (shutA e2) h2 h3 hwi.2 hK hg1 hg2 hg3 gE hbn44 hbl1 hO44 hK3 mh2 hh2 hbh2
       have hcs : s.commitS ((i + 1 : Nat) : Int) = { s.shut ((i + 1 : Nat) : Int) with log := (s.shut ((i + 1 : Nat) : Int)).log ++ [(s.all.getD i default).eds] } := by
         unfold Bs.commitS
         rw [if_neg (fun hh => hh.elim hne (fun hc => by rw [hch] at hc; cases hc)), ses_succ]
         rfl
       rw [hcs]
       unfold Bs.commitA
       rw [if_neg (fun hh => by rw [hch] at hh; cases hh.2)]
       exact ⟨rfl, ow2, _, _, _, _, ((hG.trans (Goes.bel hG.end_ hB29)).trans hK.goes).trans hK3.goes, hfin⟩
  · rw [if_neg ho, if_neg ho]
    refine ret_of_W Try.func42 rfl (Nat.le_of_ble_eq_true rfl) (res1 rfl) ?_
    refine W.seq ?_
    refine W.region ?_
    refine L.val (x_as (v := .int _ _) rfl) rfl ?_
    refine L.nil ?_
    refine thn_n ?_
    refine W.seq ?_
    refine W.region ?_
    refine L.val (x_mv (v := .pointer _) rfl) rfl ?_
    refine L.val (x_mv (v := .int _ _) rfl) rfl ?_
    refine L.ret (x_call kses9_en55 rfl) rfl (find_ok ow t b bh bo s vl lh lo rows id _ h) ?_
    rintro v10 w10 ⟨hq, hf⟩
    rw [hq]
    obtain ⟨-, rfl⟩ := hf.resolve_right (fun ⟨i, bs, e1, e2, e3, _⟩ => not_open ho i e1 e2 e3)
    refine L.val (x_mv (v := _) rfl) rfl ?_
    refine L.val (x_ext (v := .pointer _) rfl rfl) rfl ?_
    refine L.val (x_ext (v := .int _ _) rfl rfl) rfl ?_
    refine L.val (x_as (v := .pointer _) rfl) rfl ?_
    refine L.val (x_as (v := .int _ _) rfl) rfl ?_
    refine L.nil ?_
    refine thn_n ?_
    refine W.seq ?_
    refine W.seq ?_
    refine W.region ?_
    refine L.val (x_mv (v := .int _ _) rfl) rfl ?_
    refine L.val (x_neq rfl rfl) rfl ?_
    refine L.nil ?_
    refine thn_n ?_
    refine W.cond (b := _) rfl (fun g14 => ?_) (fun g14 => ?_)
    ·have h14 := dne_t g14
     refine W.seq ?_
     refine W.region ?_
     refine L.val (x_mv (v := .int _ _) rfl) rfl ?_
     refine L.val (x_as (v := .int _ _) rfl) rfl ?_
     refine L.nil ?_
     refine thn_n ?_
     refine W.ret (thn_r (fin_mk (.inr rfl) ?_))
     exact ⟨rfl, ow, _, _, _, _, Goes.refl h.free, h⟩
    ·have h14 := dne_f g14
     cases g14
end Go.Gx
