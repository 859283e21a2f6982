/- Sessions: Keys. Conditions: none. -/
import Derived.Test.YtnhbjfkeeegdgaaCeSes10
namespace Go.Gx
open Go.Proofs Go.Sort
theorem kses12_ag34 : aggT Try.prog 34 3 = true := by kernel_rfl
theorem kses12_el9 : elT Try.prog 9 1 = true := by kernel_rfl
theorem kses12_en55 : Go.Proofs.Enters Try.prog 55 := Go.Proofs.enters_of Try.func55 (by kernel_rfl) rfl
theorem kses12_en56 : Go.Proofs.Enters Try.prog 56 := Go.Proofs.enters_of Try.func56 (by kernel_rfl) rfl
theorem kses12_en57 : Go.Proofs.Enters Try.prog 57 := Go.Proofs.enters_of Try.func57 (by kernel_rfl) rfl
theorem kses12_en58 : Go.Proofs.Enters Try.prog 58 := Go.Proofs.enters_of Try.func58 (by kernel_rfl) rfl
theorem kses12_en59 : Go.Proofs.Enters Try.prog 59 := Go.Proofs.enters_of Try.func59 (by kernel_rfl) rfl
theorem kses12_en86 : Go.Proofs.Enters Try.prog 86 := Go.Proofs.enters_of Try.func86 (by kernel_rfl) rfl
theorem kses12_fo110_0 : fieldOff Try.prog 110 0 = some 0 := by kernel_rfl
theorem kses12_fo110_2 : fieldOff Try.prog 110 2 = some 2 := by kernel_rfl
theorem kses12_fo110_4 : fieldOff Try.prog 110 4 = some 4 := by kernel_rfl
theorem kses12_fo34_2 : fieldOff Try.prog 34 2 = some 2 := by kernel_rfl
theorem kses12_fo97_0 : fieldOff Try.prog 97 0 = some 0 := by kernel_rfl
theorem kses12_oc107 : oneCellT Try.prog 107 = true := by kernel_rfl
theorem kses12_oc108 : oneCellT Try.prog 108 = true := by kernel_rfl
theorem kses12_oc3 : oneCellT Try.prog 3 = true := by kernel_rfl
theorem kses12_oc4 : oneCellT Try.prog 4 = true := by kernel_rfl
theorem kses12_oc9 : oneCellT Try.prog 9 = true := by kernel_rfl
theorem kses12_oc94 : oneCellT Try.prog 94 = true := by kernel_rfl
theorem kses12_sz9 : (Try.prog.info? 9).map (·.size) = some 1 := by kernel_rfl
theorem kses12_zr34 : (Try.prog.info? 34).bind (·.zero) = some (Value.agg [S [], S [], Value.bool false].toArray) := by kernel_rfl
theorem getK_mem {l : List (Str × Value)} (hn : (l.map (·.1)).Nodup) {kv : Str × Value} (h : kv ∈ l) : getK l kv.1 = some kv.2 := by
  cases hg : getK l kv.1 with
  | none => exact absurd h (getK_no hg)
  | some v =>
    have h2 := getK_in hg
    have hp := List.pairwise_iff_getElem.1 hn
    obtain ⟨i, hi, ei⟩ := List.getElem_of_mem h
    obtain ⟨j, hj, ej⟩ := List.getElem_of_mem h2
    have e1 : l[i].1 = l[j].1 := by rw [ei, ej]
    rcases Nat.lt_trichotomy i j with hlt | hlt | hlt
    · exact absurd (by rw [List.getElem_map, List.getElem_map]; exact e1) (hp i j (by simpa using hi) (by simpa using hj) hlt)
    · subst hlt; rw [ei] at ej; rw [ej]
    · exact absurd (by rw [List.getElem_map, List.getElem_map]; exact e1.symm) (hp j i (by simpa using hj) (by simpa using hi) hlt)
theorem getK_keys {l : List (Str × Value)} {k : Str} : getK l k ≠ none ↔ k ∈ l.map (·.1) := by
  rw [← idxK_mem]
  unfold getK
  split <;> simp_all
theorem filter_take {α : Type} {p : α → Bool} {l : List α} {k : Nat} (h : k < l.length) (d : α) : (l.take (k + 1)).filter p = (l.take k).filter p ++ (if p (l.getD k d) then [l.getD k d] else []) := by
  rw [List.take_add_one, List.getElem?_eq_getElem h, List.filter_append, List.getD_eq_getElem?_getD, List.getElem?_eq_getElem h]
  simp only [Option.toList_some, Option.getD_some, List.filter_cons, List.filter_nil]
theorem if_snoc {k x : Str} {v : Value} {vis : List (Str × Value)} {P Q : Prop} (hk : k ≠ x) : (if k ∈ (vis ++ [(x, v)]).map (·.1) then P else Q) = (if k ∈ vis.map (·.1) then P else Q) := by
  have e : k ∈ (vis ++ [(x, v)]).map (·.1) ↔ k ∈ vis.map (·.1) := by simp [hk]
  by_cases h : k ∈ vis.map (·.1)
  · rw [if_pos h, if_pos (e.2 h)]
  · rw [if_neg h, if_neg (fun h2 => h (e.1 h2))]
theorem if_last {x : Str} {v : Value} {vis : List (Str × Value)} {P Q : Prop} : (if x ∈ (vis ++ [(x, v)]).map (·.1) then P else Q) = P := by simp
theorem keysOk (ow : Labels) (t b bh bo : Nat) (s : Bs) (vl : Value) (lh : List (Str × Value)) (lo : List (Int × Value)) (rows : List (List Value)) (id : Int) (ahead : Str) (w : World) (h : BaseAt ow t w b s bh bo vl lh lo rows)
    (hq : ∀ x ∈ s.all, x.heads.length ≤ 1000000 ∧ x.eds.length ≤ 1000000) (hs : (s.first :: s.log).length ≤ 100000) (hn : (s.first :: s.log).flatten.length ≤ 1000000) :
    Ret Try.prog 20 #[.pointer (some ⟨b, 0, none⟩), .int .i64 id, S ahead] w fun v w' => (∃ u, v = .tuple #[u, .int .i64 (if s.isOpen id then 0 else 400)] ∧ StrsAt (fun k => k < w.heap.size) w' u (if s.isOpen id then s.keysA id ahead else [])) ∧
      Goes t w w' ow ow ∧ BaseAt ow t w' b (if s.isOpen id then s.keysS id ahead else s) bh bo vl lh lo rows := by
  by_cases ho : s.isOpen id
  · rw [if_pos ho, if_pos ho, if_pos ho]
    obtain ⟨hk1, hk2, hk3, hk4⟩ := held_keys h
    refine ret_of_W Try.func20 rfl (Nat.le_of_ble_eq_true rfl) (res2 rfl) ?_
    refine W.seq ?_
    refine W.region ?_
    refine L.val (x_as (v := .slice _ _ _) rfl) rfl ?_
    refine L.val (x_as (v := .int _ _) rfl) rfl ?_
    refine L.nil ?_
    refine thn_n ?_
    refine W.seq ?_
    refine W.region ?_
    refine L.val (x_mv (v := .pointer _) rfl) rfl ?_
    refine L.val (x_mv (v := .int _ _) rfl) rfl ?_
    refine L.ret (x_call kses12_en55 rfl) rfl (find_ok ow t b bh bo s vl lh lo rows id _ h) ?_
    rintro v22 w22 ⟨hqq, hf⟩
    rw [hqq]
    obtain ⟨i, bs, e1, e2, e3, e4, e5, rfl⟩ := hf.resolve_left (fun hh => hh.1 ho)
    subst e1
    have hks : s.keysS ((i + 1 : Nat) : Int) ahead = s.upd ((i + 1 : Nat) : Int) { s.all.getD i default with heads := (s.all.getD i default).heads ++ [ahead] } := by unfold Bs.keysS; rw [ses_succ]
    rw [hks]
    obtain ⟨ve, bw, ba, bd, lw, la, ld, l1, h1, h2, h3, l4, h4, h5, l6, h6, h7, l8, h8, h9⟩ := e5
    obtain ⟨n, hn1, hn2, hn3, -⟩ := cnt_get h9 ahead
    have hql := hq (s.all.getD i default) (by rw [List.getD_eq_getElem?_getD, List.getElem?_eq_getElem e2]; exact List.getElem_mem _)
    have h1o := h1
    have hb0 := h1.lt; have hb8 := h8.lt; have hb4 := h4.lt
    refine L.val (x_mv (v := _) rfl) rfl ?_
    refine L.val (x_ext (v := .pointer _) rfl rfl) rfl ?_
    refine L.val (x_ext (v := .int _ _) rfl rfl) rfl ?_
    refine L.val (x_as (v := .pointer _) rfl) rfl ?_
    refine L.val (x_as (v := .int _ _) rfl) rfl ?_
    refine L.nil ?_
    refine thn_n ?_
    refine W.seq ?_
    refine W.seq ?_
    refine W.region ?_
    refine L.val (x_mv (v := .int _ _) rfl) rfl ?_
    refine L.val (x_neq rfl rfl) rfl ?_
    refine L.nil ?_
    refine thn_n ?_
    refine W.cond (b := _) rfl (fun g26 => ?_) (fun g26 => ?_)
    ·have h26 := dne_t g26
     cases g26
    ·have h26 := dne_f g26
     refine W.skip ?_
     refine thn_n ?_
     refine W.seq ?_
     refine W.region ?_
     refine L.val (x_mv (v := .pointer _) rfl) rfl ?_
     refine L.val (x_nil rfl) rfl ?_
     refine L.val (x_fa kses12_fo110_4 rfl) rfl ?_
     refine L.val (x_ld (v := .map _) kses12_oc108 rfl (h1.cell0 rfl)) rfl ?_
     refine L.val (x_mv (v := S _) rfl) rfl ?_
     refine L.val (x_look0 (z := .int .i64 0) Try.underlying108 (klawS Try.underlying9) (by kernel_rfl) rfl rfl trivial h8 hn1) rfl ?_
     refine L.val (x_add rfl rfl (wr64 (by omega))) rfl ?_
     refine L.mapsetK Try.underlying108 (klawS Try.underlying9) rfl rfl trivial rfl h8 (fun wl23 mp23 hw hz23 => ?_)
     have hG : Gr (fun k => k = bd) w wl23 := hw
     have hK : Keeps t (SesC i) w wl23 ow ow := ⟨hG.mono (fun k _ e => ⟨.heads i, by simp [SesC], by rw [e]; exact l8⟩), fun _ _ => .inl rfl, fun k hk => .inl (h.free k hk), fun k hk => h.free k (by have := hG.size; omega)⟩
     have hN : BaseAt ow t wl23 b (s.upd ((i + 1 : Nat) : Int) { s.all.getD i default with heads := (s.all.getD i default).heads ++ [ahead] }) bh bo vl lh lo rows := by
       refine h.upd hK e2 e4 ⟨ve, bw, ba, bd, lw, la, _, l1, ?_, ?_, h3, l4, ?_, h5, l6, ?_, h7, l8, mp23, cnt_more h9 hn3⟩ e3
       · exact h1o.carryR hG (lab_part2 l1 l8 (by simp))
       · exact ⟨h2.1.carryR hG (fun j hj => lab_part2 (h2.2 j hj) l8 (by simp)), h2.2⟩
       · exact h4.carryR hG (lab_part2 l4 l8 (by simp))
       · exact h6.carryR hG (lab_part2 l6 l8 (by simp))
     have h1 := h1o.carryR hG (lab_part2 l1 l8 (by simp))
     have h4 := h4.carryR hG (lab_part2 l4 l8 (by simp))
     have hB := Gr.refl (fun _ => False) wl23
     have hbx := hN.box
     have hbl := hN.box.lt; have hhl := hN.mapH.lt
     refine L.nil ?_
     refine thn_n ?_
     refine W.seq ?_
     refine W.region ?_
     refine L.mkmapK (κ := Str) (K := S) (V := fun _ => True) Try.underlying108 rfl (fun w35 mp35 hw hz35 => ?_)
     have hB := hB.carry hw
     refine L.val (x_as (v := .map _) rfl) rfl ?_
     refine L.nil ?_
     refine thn_n ?_
     refine W.seq ?_
     refine W.seq ?_
     refine W.region ?_
     refine L.val (x_mv (v := .pointer _) rfl) rfl ?_
     refine L.val (x_nil rfl) rfl ?_
     refine L.val (x_fa kses12_fo97_0 rfl) rfl ?_
     refine L.val (x_ld (v := .map _) kses12_oc94 rfl ((hN.bel hB).box.cell0 (i := 0) rfl)) rfl ?_
     refine L.rangeM Try.underlying94 rfl rfl (hN.mapH.carry hB).str (fun w40 it40 gn40 hw hz40 => ?_)
     have hB := hB.carry hw; have mp35 := mp35.carry hw
     refine L.nil ?_
     refine thn_n ?_
     refine W.block ?_
     refine W.loop (fun m' E w' => ∃ (vis : List (Str × Value)) (q : Nat) (lc : List (Str × Value)), m' = lh.length - q ∧ E 0 = .pointer (some ⟨b, 0, none⟩) ∧ E 2 = S ahead ∧ E 8 = .pointer (some ⟨bs, 0, none⟩) ∧ E 10 = .map (some wl23.heap.size) ∧ E 40 = .pointer (some ⟨w35.heap.size, 0, none⟩) ∧ (Bel wl23 w') ∧ (MapAtK S (fun _ => True) w' wl23.heap.size lc) ∧ (IterAt w' w35.heap.size bh lh vis) ∧ (q = vis.length) ∧ (∀ k, getK lc k ≠ none ↔ k ∈ vis.map (·.1) ∧ valE (s.hist (s.all.getD i default).at_) k ≠ none)) (lh.length) ?_ ?_
     ·exact ⟨[], 0, [], by omega, by first | rfl | exact vi (by omega), by first | rfl | exact vi (by omega), by first | rfl | exact vi (by omega), by first | rfl | exact vi (by omega), by first | rfl | exact vi (by omega), (by first | assumption | omega | rfl), (by first | assumption | omega | rfl), (by first | assumption | omega | rfl), (by rfl), (by intro k; simp [getK, idxK])⟩
     ·rintro _ E wL41 ⟨vis, q, lc, em, e0, e2, e8, e10, e40, hB, mp35, it40, hqv, hlc⟩
      rw [upd_self e0, upd_self e2, upd_self e8, upd_self e10, upd_self e40]
      refine W.seq ?_
      refine W.region ?_
      refine L.nextM rfl rfl it40 (fun hp41 => ?_) (fun kv41 w41 hkv41 hlt41 it40 gn41 hw hz41 => ?_)
      ·refine L.val (x_ext (v := .bool _) rfl rfl) rfl ?_
       refine L.nil ?_
       refine thn_n ?_
       refine W.seq ?_
       refine W.cond (b := false) rfl (fun h => nomatch h) (fun _ => ?_)
       refine W.exit (thn_x (thn_x (blk_hit ?_)))
       refine thn_n ?_
       refine W.seq ?_
       refine W.seq ?_
       refine W.region ?_
       refine L.val (x_mv (v := .pointer _) rfl) rfl ?_
       refine L.val (x_nil rfl) rfl ?_
       refine L.val (x_fa kses12_fo110_2 rfl) rfl ?_
       refine L.val (x_ld (v := .map _) kses12_oc107 rfl ((h1.carry hB).cell0 (i := 2) rfl)) rfl ?_
       have hs41 := hB.size
       have hm41 := mp35.lt
       refine L.rangeM Try.underlying107 rfl rfl (h4.carry hB).str (fun w62 it62 gn62 hw hz62 => ?_)
       have hB := hB.carry hw; have mp35 := mp35.carry hw
       refine L.nil ?_
       refine thn_n ?_
       refine W.block ?_
       refine W.loop (fun m' E w' => ∃ (vis2 : List (Str × Value)) (q : Nat) (lc : List (Str × Value)), m' = lw.length - q ∧ E 2 = S ahead ∧ E 10 = .map (some wl23.heap.size) ∧ E 62 = .pointer (some ⟨wL41.heap.size, 0, none⟩) ∧ (Bel wl23 w') ∧ (MapAtK S (fun _ => True) w' wl23.heap.size lc) ∧ (IterAt w' wL41.heap.size bw lw vis2) ∧ (q = vis2.length) ∧ (∀ k, getK lc k ≠ none ↔ if k ∈ vis2.map (·.1) then live (lastE (s.all.getD i default).eds k) ≠ none else valE (s.hist (s.all.getD i default).at_) k ≠ none)) (lw.length) ?_ ?_
       ·exact ⟨[], 0, _, by omega, by first | rfl | exact vi (by omega), by first | rfl | exact vi (by omega), by first | rfl | exact vi (by omega), (by first | assumption | omega | rfl), (by first | assumption | omega | rfl), (by first | assumption | omega | rfl), (by rfl), (by intro k; rw [hlc]; simp only [List.map_nil, List.not_mem_nil, if_false]; exact ⟨fun h => h.2, fun h => ⟨(hp41.map _).mem_iff.2 ((hk2 k).2 (vers_live (n := (s.all.getD i default).at_ + 1) h)), h⟩⟩)⟩
       ·rintro _ E wL63 ⟨vis2, q, lc, em, e2, e10, e62, hB, mp35, it62, hqv, hlc⟩
        rw [upd_self e2, upd_self e10, upd_self e62]
        refine W.seq ?_
        refine W.region ?_
        refine L.nextM rfl rfl it62 (fun hp63 => ?_) (fun kv63 w63 hkv63 hlt63 it62 gn63 hw hz63 => ?_)
        ·refine L.val (x_ext (v := .bool _) rfl rfl) rfl ?_
         refine L.nil ?_
         refine thn_n ?_
         refine W.seq ?_
         refine W.cond (b := false) rfl (fun h => nomatch h) (fun _ => ?_)
         refine W.exit (thn_x (thn_x (blk_hit ?_)))
         refine thn_n ?_
         refine W.seq ?_
         refine W.region ?_
         refine L.val (x_as (v := .slice _ _ _) rfl) rfl ?_
         refine L.nil ?_
         refine thn_n ?_
         refine W.seq ?_
         refine W.seq ?_
         refine W.region ?_
         refine L.val (x_mv (v := .map _) rfl) rfl ?_
         have hse : ∀ k, k ∈ lc.map (·.1) ↔ valE (s.seesE (s.all.getD i default)) k ≠ none := fun k => by
           rw [← getK_keys, hlc]
           have e1 : valE (s.seesE (s.all.getD i default)) k = live ((lastE (s.all.getD i default).eds k).or (lastE (s.hist (s.all.getD i default).at_) k)) := by unfold Bs.seesE valE; rw [lastE_append]
           rw [e1]
           have e2 : k ∈ vis2.map (·.1) ↔ lastE (s.all.getD i default).eds k ≠ none := by
             rw [(hp63.map _).mem_iff, ← getK_keys, h5]
             cases lastE (s.all.getD i default).eds k <;> simp
           by_cases hk : k ∈ vis2.map (·.1)
           · rw [if_pos hk]
             obtain ⟨x, hx⟩ := Option.ne_none_iff_exists'.1 (e2.1 hk)
             rw [hx, Option.some_or]
           · rw [if_neg hk]
             have : lastE (s.all.getD i default).eds k = none := Decidable.byContradiction fun hh => hk (e2.2 hh)
             rw [this, Option.none_or]; rfl
         have hkx : ∀ k ∈ lc.map (·.1), ∃ e ∈ (s.first :: s.log).flatten ++ (s.all.getD i default).eds, e.key = k ∧ EdOk e := fun k hk => by
           have hv := (hse k).1 hk
           unfold valE live at hv
           obtain ⟨u, hu⟩ := Option.ne_none_iff_exists'.1 hv
           obtain ⟨x, hx, -⟩ := Option.bind_eq_some_iff.1 hu
           obtain ⟨h1, h2⟩ := lastE_key hx
           rcases List.mem_append.1 h2 with h2 | h2
           · exact ⟨x, List.mem_append_left _ (hist_sub h2), h1, h.ok x (hist_sub h2)⟩
           · exact ⟨x, List.mem_append_right _ h2, h1, (h3 x h2).1⟩
         have hkn := mp35.nodup
         have hlcl : lc.length ≤ 2000000 := by
           have := len_subS hkn (m := ((s.first :: s.log).flatten ++ (s.all.getD i default).eds).map (·.key)) (fun k hk => by obtain ⟨e, he, rfl, -⟩ := hkx k hk; exact List.mem_map_of_mem he)
           rw [List.length_map, List.length_map, List.length_append] at this
           omega
         refine L.ret (x_call kses12_en58 rfl) rfl (keys_ok wl23.heap.size _) ?_
         rintro v75 w75 ⟨rfl, bx75, hw⟩
         have hB := hB.carry hw; have mp35 := mp35.carry hw
         refine L.ret (x_call kses12_en57 rfl) rfl (sorted_ok _ _ (lc.map (·.1)) _ kses12_en86 (by rw [List.length_map]; omega) (fun xs hx => hx) (by have := keys_seq wL63.heap.size w75.heap.size wl23.heap.size lc w75 bx75.lt (bx75.cell (i := 0) rfl) mp35.str; rwa [List.length_map])) ?_
         rintro v76 w76 ⟨hN76, hw⟩
         have hB := hB.carry hw; have mp35 := mp35.carry hw; have bx75 := bx75.carry hw
         obtain ⟨ks, hkp, hks2, hka⟩ := sortedNew_strs hN76 hkn (fun x hx => by obtain ⟨e, -, rfl, he⟩ := hkx x hx; exact he.1) (by rw [List.length_map]; omega)
         have hka := hka.mono (A' := fun k => w76.heap.size ≤ k) (fun b hb h => absurd h (by omega))
         have hkst := keys_state hks2 (fun k => by rw [hkp.mem_iff]; exact hse k)
         obtain ⟨pk, ck, rfl, hka1, hka2, hka3, hka4, -⟩ := id hka
         have hkl : ks.length ≤ 2000000 := by have := hkp.length_eq; rw [List.length_map] at this; omega
         have hz76 : wl23.heap.size ≤ w76.heap.size := by have := hB.size; have := hw.size; omega
         refine L.val (x_len_slice Try.underlying37 rfl) rfl ?_
         refine L.val (x_mv (v := .int _ _) rfl) rfl ?_
         refine L.nil ?_
         refine thn_n ?_
         refine W.block ?_
         refine W.loop (fun m' E w' => ∃ (k : Nat) (v3 : Value), m' = ks.length - k ∧ E 2 = S ahead ∧ E 16 = v3 ∧ E 76 = .slice pk ks.length ck ∧ E 77 = .int .i64 (ks.length : Nat) ∧ E 78 = .int .i64 (k : Nat) ∧ (k ≤ ks.length) ∧ (Bel wl23 w') ∧ (w76.heap.size ≤ w'.heap.size) ∧ (StrsAt (fun k => w76.heap.size ≤ k) w' (.slice pk ks.length ck) ks) ∧ (Own w' w76.heap.size 9 1 v3 ((ks.take k).filter (fun x => ahead.isPrefixOf x)).length (((ks.take k).filter (fun x => ahead.isPrefixOf x)).map S))) (ks.length) ?_ ?_
         ·exact ⟨0, .slice none 0 0, by omega, by first | rfl | exact vi (by omega), by first | rfl | exact vi (by omega), by first | rfl | exact vi (by omega), by first | rfl | exact vi (by omega), by first | rfl | exact vi (by omega), (by first | assumption | omega | rfl), (by first | assumption | omega | rfl), (by first | assumption | omega | rfl), (by first | assumption | omega | rfl), (by exact own_nil)⟩
         ·rintro _ E wL79 ⟨k, v3, em, e2, e16, e76, e77, e78, hk, hB, hz15, hka, hO⟩
          rw [upd_self e2, upd_self e16, upd_self e76, upd_self e77, upd_self e78]
          refine W.seq ?_
          refine W.region ?_
          refine L.val (x_lss rfl rfl) rfl ?_
          refine L.nil ?_
          refine thn_n ?_
          refine W.seq ?_
          refine W.cond (b := _) rfl (fun g79 => ?_) (fun g79 => ?_)
          ·have h79 := of_decide_eq_true g79
           have hlt : k < ks.length := by omega
           obtain ⟨bk, ok, rfl, hck⟩ := hka.elem hlt
           obtain ⟨a3, c3, e3', -⟩ := own_shape hO
           subst e3'
           have hfl := filter_take (p := fun x => ahead.isPrefixOf x) hlt []
           have hll : ((ks.take k).filter (fun x => ahead.isPrefixOf x)).length ≤ 2000000 := by
             have h1 := List.length_filter_le (fun x => ahead.isPrefixOf x) (ks.take k)
             rw [List.length_take] at h1; omega
           have hq3 := fun j hj => (Own.lt hO (j := j) hj).1
           have hsz0 := hB.size
           refine W.skip ?_
           refine thn_n ?_
           refine W.seq ?_
           refine W.block ?_
           refine W.seq ?_
           refine W.region ?_
           refine L.val (x_ia1 (j := k) Try.underlying37 kses12_sz9 rfl rfl (by omega) (by omega)) rfl ?_
           refine L.val (x_ld (v := S _) kses12_oc9 rfl hck) rfl ?_
           refine L.val (x_as (v := S _) rfl) rfl ?_
           refine L.nil ?_
           refine thn_n ?_
           refine W.seq ?_
           refine W.region ?_
           refine L.val (x_mv (v := S _) rfl) rfl ?_
           refine L.val (x_mv (v := S _) rfl) rfl ?_
           refine L.ret (x_call kses12_en59 rfl) rfl (prefix_ok (ks.getD k []) ahead _) ?_
           rintro v84 w84 ⟨rfl, rfl⟩
           refine L.nil ?_
           refine thn_n ?_
           refine W.cond (b := _) rfl (fun g84 => ?_) (fun g84 => ?_)
           ·have h84 := g84
            rw [if_pos (by exact g84)] at hfl
            refine W.region ?_
            refine L.val (x_mv (v := .slice _ _ _) rfl) rfl ?_
            refine L.val (x_mv (v := S _) rfl) rfl ?_
            refine L.bs (sz := 1) (cells := [S (ks.getD k [])]) Try.underlying37 kses12_el9 rfl rfl rfl rfl (fun w87 bx87 hw hz87 => ?_)
            have hB := hB.carry hw; have hka := hka.carry hw; have hO := hO.carry hw
            refine L.appendN (m := 1) Try.underlying37 kses12_el9 rfl rfl rfl hO rfl (holdsN_box bx87) (by intro u hu; rw [List.mem_singleton.1 hu]; rfl) (by omega) (by omega) (fun v88 w88 hO88 hg hob88 => ?_)
            have hO2 : Own w88 w76.heap.size 9 1 v88 ((ks.take (k + 1)).filter (fun x => ahead.isPrefixOf x)).length (((ks.take (k + 1)).filter (fun x => ahead.isPrefixOf x)).map S) := by
              rw [hfl]; simpa using hO88
            have hz2 : w76.heap.size ≤ w88.heap.size := by have := hg.size; omega
            have hB := hB.step hg (fun i hi e => by have := hq3 i e; omega)
            have hka := hka.carryR (R := fun j => some j = (Value.slice a3 ((ks.take k).filter (fun x => ahead.isPrefixOf x)).length c3).ownBlock) hg (fun j e => hq3 j e)
            obtain ⟨a88, c88, e88, -⟩ := own_shape hO88
            subst e88
            refine L.val (x_as (v := .slice _ _ _) rfl) rfl ?_
            refine L.nil ?_
            refine blk_n ?_
            refine thn_n ?_
            refine W.region ?_
            refine L.val (x_add rfl rfl (wr64 (by omega))) rfl ?_
            refine L.val (x_mv (v := .int _ _) rfl) rfl ?_
            refine L.nil ?_
            refine thn_n ⟨rfl, ?_⟩
            refine ⟨_, ?_, k + 1, _, rfl, by first | rfl | exact vi (by omega), by first | rfl | exact vi (by omega), by first | rfl | exact vi (by omega), by first | rfl | exact vi (by omega), by first | rfl | exact vi (by omega), (by first | assumption | omega | rfl), (by first | assumption | omega | rfl), (by exact hz2), (by first | assumption | omega | rfl), (by exact hO2)⟩
            omega
           ·have h84 := g84
            rw [if_neg (by rw [show (List.isPrefixOf ahead (ks.getD k [])) = false from g84]; simp)] at hfl
            have hz2 := hz15
            have hO2 : Own w84 w76.heap.size 9 1 (.slice a3 ((ks.take k).filter (fun x => ahead.isPrefixOf x)).length c3) ((ks.take (k + 1)).filter (fun x => ahead.isPrefixOf x)).length (((ks.take (k + 1)).filter (fun x => ahead.isPrefixOf x)).map S) := by
              rw [hfl]; simpa using hO
            refine W.skip ?_
            refine blk_n ?_
            refine thn_n ?_
            refine W.region ?_
            refine L.val (x_add rfl rfl (wr64 (by omega))) rfl ?_
            refine L.val (x_mv (v := .int _ _) rfl) rfl ?_
            refine L.nil ?_
            refine thn_n ⟨rfl, ?_⟩
            refine ⟨_, ?_, k + 1, _, rfl, by first | rfl | exact vi (by omega), by first | rfl | exact vi (by omega), by first | rfl | exact vi (by omega), by first | rfl | exact vi (by omega), by first | rfl | exact vi (by omega), (by first | assumption | omega | rfl), (by first | assumption | omega | rfl), (by exact hz2), (by first | assumption | omega | rfl), (by exact hO2)⟩
            omega
          ·have h79 := dlt_f g79
           refine W.exit (thn_x (thn_x (blk_hit ?_)))
           refine thn_n ?_
           refine W.seq ?_
           refine W.region ?_
           have hk2' : k = ks.length := by omega
           have hfx : ∀ x ∈ ks.filter (fun x => ahead.isPrefixOf x), x.length ≤ 9223372036854775807 := fun x hx => by
             obtain ⟨e, -, rfl, he⟩ := hkx x (hkp.mem_iff.1 (List.mem_filter.1 hx).1)
             exact he.1
           have hfl2 : (ks.filter (fun x => ahead.isPrefixOf x)).length ≤ 2000000 := Nat.le_trans (List.length_filter_le _ _) hkl
           rw [hk2', List.take_length] at hO
           obtain ⟨a3, c3, e3', -⟩ := own_shape hO
           subst e3'
           refine L.val (x_mv (v := .slice _ _ _) rfl) rfl ?_
           refine L.val (x_as (v := .slice _ _ _) rfl) rfl ?_
           refine L.val (x_as (v := .int _ _) rfl) rfl ?_
           refine L.nil ?_
           refine thn_n ?_
           refine W.ret (fin_mk (.inr rfl) ?_)
           refine ⟨⟨_, rfl, ?_⟩, hK.goes.trans (Goes.bel hN.free hB), hN.bel hB⟩
           have hks3 : s.keysA ((i + 1 : Nat) : Int) ahead = ks.filter (fun x => ahead.isPrefixOf x) := by unfold Bs.keysA; rw [ses_succ, ← hkst]
           rw [hks3]
           exact strs_done hO (by omega) hfx (fun j h1 h2 => by have := hK.gr.size; omega)
        ·have hsz := hB.size
         have hB := hB.set hw (by omega); have mp35 := mp35.carryR hw (by omega)
         refine L.val (x_ext (v := .bool _) rfl rfl) rfl ?_
         refine L.nil ?_
         refine thn_n ?_
         refine W.seq ?_
         refine W.cond (b := true) rfl (fun _ => ?_) (fun h => nomatch h)
         refine W.skip ?_
         refine thn_n ?_
         refine W.block ?_
         refine W.seq ?_
         refine W.region ?_
         obtain ⟨e, hle, hve⟩ : ∃ e, lastE (s.all.getD i default).eds kv63.1 = some e ∧ kv63.2 = .agg (edV e).toArray := by
           have h1 := getK_mem h4.nodup hkv63
           rw [h5] at h1
           obtain ⟨e, he, hv⟩ := Option.map_eq_some_iff.1 h1
           exact ⟨e, he, hv.symm⟩
         obtain ⟨k63, v63⟩ := kv63
         dsimp only at hle hve
         subst hve
         have hit := it62.lt
         have hmp := mp35.lt
         refine L.val (x_entry rfl it62) rfl ?_
         refine L.val (x_ext (v := S _) rfl rfl) rfl ?_
         refine L.val (x_ext (v := _) rfl rfl) rfl ?_
         refine L.alloc (cs := [S [], S [], Value.bool false]) kses12_zr34 rfl rfl (fun w15 bx15 hw hz15 => ?_)
         have hB := hB.carry hw; have mp35 := mp35.carry hw; have it62 := it62.carry hw
         refine L.val (x_as (v := S _) rfl) rfl ?_
         refine L.setRow kses12_ag34 rfl rfl bx15 rfl rfl (edV_one _) (fun wl64 bx15 hw hzl64 => ?_)
         have hsz := hB.size
         have hB := hB.set hw (by omega); have mp35 := mp35.carryR hw (by omega); have it62 := it62.carryR hw (by omega) (by omega)
         refine L.nil ?_
         refine thn_n ?_
         refine W.seq ?_
         refine W.region ?_
         refine L.val (x_fa kses12_fo34_2 rfl) rfl ?_
         refine L.val (x_ld (v := .bool _) kses12_oc4 rfl (bx15.cell0 rfl)) rfl ?_
         refine L.nil ?_
         refine thn_n ?_
         refine W.cond (b := _) rfl (fun g69 => ?_) (fun g69 => ?_)
         ·have h69 := g69
          refine W.region ?_
          refine L.val (x_mv (v := .map _) rfl) rfl ?_
          refine L.val (x_mv (v := S _) rfl) rfl ?_
          refine L.mapdelK Try.underlying108 (klawS Try.underlying9) rfl rfl trivial mp35 (fun wl69 mp69 hw hzl69 => ?_)
          have hB := hB.set hw (Nat.le_refl _)
          have hlc2 : ∀ k, getK (delK lc k63) k ≠ none ↔ if k ∈ (vis2 ++ [(k63, Value.agg (edV e).toArray)]).map (·.1) then live (lastE (s.all.getD i default).eds k) ≠ none else valE (s.hist (s.all.getD i default).at_) k ≠ none := fun k => by
            rw [getK_del mp35.nodup]
            by_cases hk : k = k63
            · subst hk
              have g : e.gone = true := g69
              rw [if_last, hle]; simp [live, g]
            · rw [if_neg hk, hlc, if_snoc hk]
          have it62 := it62.carryR hw (by omega) (by omega)
          have mp35 := mp69
          refine L.nil ?_
          refine blk_n ?_
          refine thn_n ⟨rfl, ?_⟩
          refine ⟨_, ?_, vis2 ++ [(k63, .agg (edV e).toArray)], q + 1, _, rfl, by first | rfl | exact vi (by omega), by first | rfl | exact vi (by omega), by first | rfl | exact vi (by omega), (by first | assumption | omega | rfl), (by first | assumption | omega | rfl), (by first | assumption | omega | rfl), (by simp [hqv]), (by exact hlc2)⟩
          omega
         ·have h69 := g69
          refine W.region ?_
          refine L.val (x_mv (v := .map _) rfl) rfl ?_
          refine L.val (x_mv (v := S _) rfl) rfl ?_
          refine L.mapsetK Try.underlying108 (klawS Try.underlying9) rfl rfl trivial rfl mp35 (fun wl72 mp72 hw hzl72 => ?_)
          have hB := hB.set hw (Nat.le_refl _)
          have hlc2 : ∀ k, getK (putK lc k63 (.int .i64 1)) k ≠ none ↔ if k ∈ (vis2 ++ [(k63, Value.agg (edV e).toArray)]).map (·.1) then live (lastE (s.all.getD i default).eds k) ≠ none else valE (s.hist (s.all.getD i default).at_) k ≠ none := fun k => by
            rw [getK_put]
            by_cases hk : k = k63
            · subst hk
              have g : e.gone = false := g69
              rw [if_last, hle]; simp [live, g]
            · rw [if_neg hk, hlc, if_snoc hk]
          have it62 := it62.carryR hw (by omega) (by omega)
          have mp35 := mp72
          refine L.nil ?_
          refine blk_n ?_
          refine thn_n ⟨rfl, ?_⟩
          refine ⟨_, ?_, vis2 ++ [(k63, .agg (edV e).toArray)], q + 1, _, rfl, by first | rfl | exact vi (by omega), by first | rfl | exact vi (by omega), by first | rfl | exact vi (by omega), (by first | assumption | omega | rfl), (by first | assumption | omega | rfl), (by first | assumption | omega | rfl), (by simp [hqv]), (by exact hlc2)⟩
          omega
      ·have hsz := hB.size
       have hB := hB.set hw (by omega); have mp35 := mp35.carryR hw (by omega)
       refine L.val (x_ext (v := .bool _) rfl rfl) rfl ?_
       refine L.nil ?_
       refine thn_n ?_
       refine W.seq ?_
       refine W.cond (b := true) rfl (fun _ => ?_) (fun h => nomatch h)
       refine W.skip ?_
       refine thn_n ?_
       refine W.block ?_
       refine W.seq ?_
       refine W.region ?_
       refine L.val (x_entry rfl it40) rfl ?_
       refine L.val (x_ext (v := S _) rfl rfl) rfl ?_
       refine L.val (x_as (v := S _) rfl) rfl ?_
       refine L.nil ?_
       refine thn_n ?_
       refine W.seq ?_
       refine W.region ?_
       refine L.val (x_mv (v := .pointer _) rfl) rfl ?_
       refine L.val (x_mv (v := S _) rfl) rfl ?_
       refine L.val (x_mv (v := .pointer _) rfl) rfl ?_
       refine L.val (x_nil rfl) rfl ?_
       refine L.val (x_fa kses12_fo110_0 rfl) rfl ?_
       refine L.val (x_ld (v := .int _ _) kses12_oc3 rfl ((h1.carry hB).cell0 rfl)) rfl ?_
       refine L.ret (x_call kses12_en56 rfl) rfl (seen_ok ow t b bh bo _ vl lh lo rows kv41.1 (s.all.getD i default).at_ _ (hN.bel hB) (show (s.first :: s.log).length ≤ _ from Nat.le_trans hs (by decide))) ?_
       rintro v52 w52 ⟨rfl, hw⟩
       have hB := hB.carry hw; have mp35 := mp35.carry hw; have it40 := it40.carry hw
       refine L.val (x_mv (v := _) rfl) rfl ?_
       refine L.val (x_ext (v := S _) rfl rfl) rfl ?_
       refine L.val (x_ext (v := .bool _) rfl rfl) rfl ?_
       refine L.val (x_as (v := S _) rfl) rfl ?_
       refine L.val (x_as (v := .bool _) rfl) rfl ?_
       refine L.nil ?_
       refine thn_n ?_
       refine W.seq ?_
       refine W.region ?_
       refine L.val (x_mv (v := .bool _) rfl) rfl ?_
       refine L.nil ?_
       refine thn_n ?_
       refine W.cond (b := _) rfl (fun g54 => ?_) (fun g54 => ?_)
       ·have h54 := g54
        have hv54 : valE (s.hist (s.all.getD i default).at_) kv41.1 ≠ none := fun e => by
          have g : (ansV (valE (s.hist (s.all.getD i default).at_) kv41.1)).2 = true := g54
          rw [e] at g; cases g
        refine W.region ?_
        refine L.val (x_mv (v := .map _) rfl) rfl ?_
        refine L.val (x_mv (v := S _) rfl) rfl ?_
        refine L.mapsetK Try.underlying108 (klawS Try.underlying9) rfl rfl trivial rfl mp35 (fun wl51 mp51 hw hzl51 => ?_)
        have hB := hB.set hw (Nat.le_refl _)
        have it40 := it40.carryR hw (by omega) (by omega)
        have mp35 := mp51
        have hlc2 : ∀ k, getK (putK lc kv41.1 (.int .i64 1)) k ≠ none ↔ k ∈ (vis ++ [kv41]).map (·.1) ∧ valE (s.hist (s.all.getD i default).at_) k ≠ none := fun k => by
          rw [getK_put]
          by_cases hk : k = kv41.1
          · subst hk; rw [if_pos rfl]; exact ⟨fun _ => ⟨by simp, hv54⟩, fun _ => by simp⟩
          · rw [if_neg hk, hlc]; simp [hk]
        refine L.nil ?_
        refine blk_n ?_
        refine thn_n ⟨rfl, ?_⟩
        refine ⟨_, ?_, vis ++ [kv41], q + 1, _, rfl, by first | rfl | exact vi (by omega), by first | rfl | exact vi (by omega), by first | rfl | exact vi (by omega), by first | rfl | exact vi (by omega), by first | rfl | exact vi (by omega), (by first | assumption | omega | rfl), (by first | assumption | omega | rfl), (by first | assumption | omega | rfl), (by simp [hqv]), (by exact hlc2)⟩
        omega
       ·have h54 := g54
        have hv54 : valE (s.hist (s.all.getD i default).at_) kv41.1 = none := by
          have g : (ansV (valE (s.hist (s.all.getD i default).at_) kv41.1)).2 = false := g54
          cases hv : valE (s.hist (s.all.getD i default).at_) kv41.1 with
          | none => rfl
          | some u => rw [hv] at g; cases g
        have hlc2 : ∀ k, getK lc k ≠ none ↔ k ∈ (vis ++ [kv41]).map (·.1) ∧ valE (s.hist (s.all.getD i default).at_) k ≠ none := fun k => by
          rw [hlc]
          by_cases hk : k = kv41.1
          · subst hk; exact ⟨fun h => absurd hv54 h.2, fun h => absurd hv54 h.2⟩
          · simp [hk]
        refine W.skip ?_
        refine blk_n ?_
        refine thn_n ⟨rfl, ?_⟩
        refine ⟨_, ?_, vis ++ [kv41], q + 1, _, rfl, by first | rfl | exact vi (by omega), by first | rfl | exact vi (by omega), by first | rfl | exact vi (by omega), by first | rfl | exact vi (by omega), by first | rfl | exact vi (by omega), (by first | assumption | omega | rfl), (by first | assumption | omega | rfl), (by first | assumption | omega | rfl), (by simp [hqv]), (by exact hlc2)⟩
        omega
  · rw [if_neg ho, if_neg ho, if_neg ho]
    refine ret_of_W Try.func20 rfl (Nat.le_of_ble_eq_true rfl) (res2 rfl) ?_
    refine W.seq ?_
    refine W.region ?_
    refine L.val (x_as (v := .slice _ _ _) rfl) rfl ?_
    refine L.val (x_as (v := .int _ _) rfl) rfl ?_
    refine L.nil ?_
    refine thn_n ?_
    refine W.seq ?_
    refine W.region ?_
    refine L.val (x_mv (v := .pointer _) rfl) rfl ?_
    refine L.val (x_mv (v := .int _ _) rfl) rfl ?_
    refine L.ret (x_call kses12_en55 rfl) rfl (find_ok ow t b bh bo s vl lh lo rows id _ h) ?_
    rintro v22 w22 ⟨hqq, hf⟩
    rw [hqq]
    obtain ⟨-, rfl⟩ := hf.resolve_right (fun ⟨i, bs, e1, e2, e3, _⟩ => not_open ho i e1 e2 e3)
    refine L.val (x_mv (v := _) rfl) rfl ?_
    refine L.val (x_ext (v := .pointer _) rfl rfl) rfl ?_
    refine L.val (x_ext (v := .int _ _) rfl rfl) rfl ?_
    refine L.val (x_as (v := .pointer _) rfl) rfl ?_
    refine L.val (x_as (v := .int _ _) rfl) rfl ?_
    refine L.nil ?_
    refine thn_n ?_
    refine W.seq ?_
    refine W.seq ?_
    refine W.region ?_
    refine L.val (x_mv (v := .int _ _) rfl) rfl ?_
    refine L.val (x_neq rfl rfl) rfl ?_
    refine L.nil ?_
    refine thn_n ?_
    refine W.cond (b := _) rfl (fun g26 => ?_) (fun g26 => ?_)
    ·have h26 := dne_t g26
     refine W.seq ?_
     refine W.region ?_
     refine L.val (x_mv (v := .int _ _) rfl) rfl ?_
     refine L.val (x_as (v := .slice _ _ _) rfl) rfl ?_
     refine L.val (x_as (v := .int _ _) rfl) rfl ?_
     refine L.nil ?_
     refine thn_n ?_
     refine W.ret (thn_r (fin_mk (.inr rfl) ?_))
     exact ⟨⟨_, rfl, StrsAt.nil _ _ _ _ (by simp)⟩, Goes.refl h.free, h⟩
    ·have h26 := dne_f g26
     cases g26
end Go.Gx
