/- A disk that loses its power. Conditions: none. -/
import Derived.Test.YtfbcmonbmkafpaaCjWal12
namespace Go.Gx
open Go.Proofs
theorem L.cpV {P : Program} {n : Nat} {Q : Post} {D : List Deferred} {E : Env} {w : World} {ops : Array Oper} {r : List Oper} {d : Nat} {x y : Operand} {dT sT e t T : TypeId} {p : String} {af : Array Edge} {b o dl dc b2 o2 sl sc : Nat} {vs cs : List Value} (hu : P.underlying dT = some (.slice e)) (hs : (P.info? e).map (·.size) = some 1)
    (hx : ev E x = .slice (some ⟨b, o, none⟩) dl dc) (hy : ev E y = .slice (some ⟨b2, o2, none⟩) sl sc) (hd : Nat.blt d n = true) (hb : Box w b T cs) (hl : vs.length = Nat.min sl dl) (hsrc : ∀ j, j < vs.length → w.cell? ⟨b2, o2 + j, none⟩ = vs[j]?) (hfit : o + vs.length ≤ cs.length) (h1 : ∀ v ∈ vs, v.oneCell' = true)
    (kk : ∀ w1, Box w1 b T (cs.take o ++ vs ++ cs.drop (o + vs.length)) → Gr (· = b) w w1 → w1.heap.size = w.heap.size → L P n ops Q r D (upd E d (.int .i64 (vs.length : Nat))) w1) :
    L P n ops Q (⟨some d, .call ⟨.builtin .copy, #[x, y], #[dT, sT]⟩, t, p, af, none⟩ :: r) D E w := by
  have hrun := run_copy_row (P := P) w dT sT t e b o dl dc ⟨b2, o2, none⟩ sl sc cs.toArray T vs hu hs hb hl (fun j v hv => by
    have hj := (List.getElem?_eq_some_iff.1 hv).1
    rw [show (⟨b2, o2, none⟩ : Addr).add j = ⟨b2, o2 + j, none⟩ by simp [Addr.add], hsrc j hj, hv]) (by simpa using hfit) h1
  rw [List.toList_toArray] at hrun
  refine L.val (v := .int .i64 (vs.length : Nat)) (w' := w.setRow b (cs.take o ++ vs ++ cs.drop (o + vs.length)).toArray) ?_ hd (kk _ (setRow_heap w b cs.toArray _ T (0, 0) hb) ⟨rfl, rfl, rfl, by simp [World.setRow], fun k _ hk => setRow_other w b k _ hk⟩ (by simp [World.setRow]))
  unfold X
  have hg : goInt vs.length = Value.int .i64 (vs.length : Nat) := rfl
  simp [execOp, resolve, invoke, builtin, hx, hy, hrun, Result.andThen, hg]
def ptk (K : Fl) (pl : List Str) (x : Nat × Str) (k : Nat) : Str := x.2.take (ndrop K k) ++ (pl.getD x.1 []).drop (ndrop K k)
theorem dropL_take (K : Fl) : ∀ (l : List (Nat × Str)) (k0 j : Nat) (pl : List Str), j < l.length → dropL K k0 (l.take (j + 1)) pl = (dropL K k0 (l.take j) pl).set (l.getD j default).1 (ptk K (dropL K k0 (l.take j) pl) (l.getD j default) (k0 + j))
  | [], _, _, _, h => by simp at h
  | x :: l, k0, 0, pl, _ => rfl
  | x :: l, k0, j + 1, pl, h => by
    have ih := dropL_take K l (k0 + 1) j (pl.set x.1 (x.2.take (ndrop K k0) ++ (pl.getD x.1 []).drop (ndrop K k0))) (by simpa using h)
    rw [List.take_succ_cons, List.take_succ_cons, dropL, dropL, ih]
    rw [show k0 + 1 + j = k0 + (j + 1) by omega]; rfl
theorem dropL_sec {K : Fl} : ∀ {l : List (Nat × Str)} {k : Nat} {pl : List Str}, (∀ s ∈ pl, s.length = 64) → (∀ x ∈ l, x.2.length = 64 ∧ x.1 < pl.length) → ∀ s ∈ dropL K k l pl, s.length = 64
  | [], _, _, h, _ => h
  | x :: l, k, pl, h, hl => by
    obtain ⟨h1, h2⟩ := hl x (by simp)
    refine dropL_sec (l := l) (fun s hs => ?_) (fun y hy => by rw [List.length_set]; exact hl y (List.mem_cons_of_mem _ hy))
    rcases List.mem_or_eq_of_mem_set hs with hs | rfl
    · exact h s hs
    · have h3 : (pl.getD x.1 []).length = 64 := h _ (by rw [List.getD_eq_getElem?_getD, List.getElem?_eq_getElem h2]; exact List.getElem_mem h2)
      have := ndrop_le K k
      rw [List.length_append, List.length_take, List.length_drop]; omega
theorem plV_part {pl : List Str} {i n : Nat} {s : Str} (h : ∀ s ∈ pl, s.length = 64) (hi : i < pl.length) (hn : n ≤ 64) (hs : s.length = 64) :
    (plV pl).take (0 + i * 64) ++ (s.take n).map B8 ++ (plV pl).drop (0 + i * 64 + (s.take n).length) = plV (pl.set i (s.take n ++ (pl.getD i []).drop n)) := by
  rw [← plV_set h hi, List.map_append, ← List.append_assoc, List.append_assoc _ _ (List.drop (0 + i * 64 + 64) (plV pl)), List.append_assoc, List.append_assoc]
  congr 2
  have hm : (s.take n).length = n := by rw [List.length_take]; omega
  rw [hm]
  have h3 : (pl.getD i []).length = 64 := h _ (by rw [List.getD_eq_getElem?_getD, List.getElem?_eq_getElem hi]; exact List.getElem_mem hi)
  have e := plV_set (s := pl.getD i []) h hi
  have e2 : pl.set i (pl.getD i []) = pl := by
    rw [List.getD_eq_getElem?_getD, List.getElem?_eq_getElem hi]; simp
  rw [e2] at e
  have hL := plV_len h
  have e3 : (plV pl).drop (0 + i * 64) = (pl.getD i []).map B8 ++ (plV pl).drop (0 + i * 64 + 64) := by
    conv => lhs; rw [← e]
    rw [List.append_assoc, List.drop_left' (by rw [List.length_take]; have := Nat.mul_le_mul_right 64 (Nat.le_of_lt hi); omega)]
  rw [← List.drop_drop, e3, List.drop_append_of_le_length (by rw [List.length_map]; omega), List.map_drop]
end Go.Gx
namespace Go.Gx
open Go.Proofs
theorem kdsf3_ag40 : aggT Try.prog 40 3 = true := by kernel_rfl
theorem kdsf3_ag88 : aggT Try.prog 88 65 = true := by kernel_rfl
theorem kdsf3_fo40_0 : fieldOff Try.prog 40 0 = some 0 := by kernel_rfl
theorem kdsf3_fo40_1 : fieldOff Try.prog 40 1 = some 1 := by kernel_rfl
theorem kdsf3_fo40_2 : fieldOff Try.prog 40 2 = some 2 := by kernel_rfl
theorem kdsf3_fo42_0 : fieldOff Try.prog 42 0 = some 0 := by kernel_rfl
theorem kdsf3_fo42_1 : fieldOff Try.prog 42 1 = some 1 := by kernel_rfl
theorem kdsf3_fo42_2 : fieldOff Try.prog 42 2 = some 2 := by kernel_rfl
theorem kdsf3_fo42_3 : fieldOff Try.prog 42 3 = some 5 := by kernel_rfl
theorem kdsf3_fo42_5 : fieldOff Try.prog 42 5 = some 7 := by kernel_rfl
theorem kdsf3_fo88_0 : fieldOff Try.prog 88 0 = some 0 := by kernel_rfl
theorem kdsf3_fo88_1 : fieldOff Try.prog 88 1 = some 1 := by kernel_rfl
theorem kdsf3_mixed : Try.prog.follows .mixedOrders = true := by kernel_rfl
theorem kdsf3_oc3 : oneCellT Try.prog 3 = true := by kernel_rfl
theorem kdsf3_oc36 : oneCellT Try.prog 36 = true := by kernel_rfl
theorem kdsf3_oc37 : oneCellT Try.prog 37 = true := by kernel_rfl
theorem kdsf3_oc38 : oneCellT Try.prog 38 = true := by kernel_rfl
theorem kdsf3_oc4 : oneCellT Try.prog 4 = true := by kernel_rfl
theorem kdsf3_si40 : structInfo Try.prog 40 = some ([(0, 1), (1, 1), (2, 1)], [Value.slice none 0 0, Value.int .i64 0, Value.int .i64 0]) := by kernel_rfl
theorem kdsf3_sz3 : (Try.prog.info? 3).map (·.size) = some 1 := by kernel_rfl
theorem kdsf3_sz37 : (Try.prog.info? 37).map (·.size) = some 1 := by kernel_rfl
theorem kdsf3_sz4 : (Try.prog.info? 4).map (·.size) = some 1 := by kernel_rfl
theorem kdsf3_sz5 : (Try.prog.info? 5).map (·.size) = some 1 := by kernel_rfl
theorem kdsf3_sz86 : (Try.prog.info? 86).map (·.size) = some 64 := by kernel_rfl
theorem kdsf3_sz88 : (Try.prog.info? 88).map (·.size) = some 65 := by kernel_rfl
theorem kdsf3_zr88 : (Try.prog.info? 88).bind (·.zero) = some (Value.agg [Value.int .i64 0, Value.int .u8 0, Value.int .u8 0, Value.int .u8 0, Value.int .u8 0, Value.int .u8 0, Value.int .u8 0, Value.int .u8 0, Value.int .u8 0, Value.int .u8 0, Value.int .u8 0, Value.int .u8 0, Value.int .u8 0, Value.int .u8 0, Value.int .u8 0, Value.int .u8 0, Value.int .u8 0, Value.int .u8 0, Value.int .u8 0, Value.int .u8 0, Value.int .u8 0, Value.int .u8 0, Value.int .u8 0, Value.int .u8 0, Value.int .u8 0, Value.int .u8 0, Value.int .u8 0, Value.int .u8 0, Value.int .u8 0, Value.int .u8 0, Value.int .u8 0, Value.int .u8 0, Value.int .u8 0, Value.int .u8 0, Value.int .u8 0, Value.int .u8 0, Value.int .u8 0, Value.int .u8 0, Value.int .u8 0, Value.int .u8 0, Value.int .u8 0, Value.int .u8 0, Value.int .u8 0, Value.int .u8 0, Value.int .u8 0, Value.int .u8 0, Value.int .u8 0, Value.int .u8 0, Value.int .u8 0, Value.int .u8 0, Value.int .u8 0, Value.int .u8 0, Value.int .u8 0, Value.int .u8 0, Value.int .u8 0, Value.int .u8 0, Value.int .u8 0, Value.int .u8 0, Value.int .u8 0, Value.int .u8 0, Value.int .u8 0, Value.int .u8 0, Value.int .u8 0, Value.int .u8 0, Value.int .u8 0].toArray) := by kernel_rfl
theorem drop_f (n0 b bp : Nat) (vc vk vk0 : Value) (tn ct : Int) (D : Dk) (K : Fl) (w : World) (h1 : n0 ≤ b) (h3 : n0 ≤ bp) (h2 : DkOk D) (hb : Box w b 42 (dkV (.slice (some ⟨bp, 0, none⟩) D.pl.length D.pl.length) vc vk0 tn ct D)) (hk : BlsAt (DkB lgTy n0 w) w vk K.keep)
    (hp : Box w bp 86 (plV D.pl)) (hc : Own w n0 88 65 vc D.ca.length (D.ca.map waV).flatten) :
    Ret Try.prog 69 #[.pointer (some ⟨b, 0, none⟩), .agg #[vk, .int .i64 K.torn, .int .i64 K.cut]] w fun _ w' => Box w' b 42 (dkV (.slice (some ⟨bp, 0, none⟩) D.pl.length D.pl.length) (.slice none 0 0) (.slice none 0 0) 0 0 (dropD D K)) ∧ Box w' bp 86 (plV (dropL K 0 D.ca D.pl)) ∧ Dg dkTy n0 w w' := by
  obtain ⟨ac, cc, rfl, hcc⟩ := own_shape hc
  obtain ⟨pk, ck, rfl, -, -, hkl, -⟩ := id hk
  have hbpne : bp ≠ b := box_ne hp hb (by decide)
  have hqc : ∀ j, some j = (Value.slice ac D.ca.length cc).ownBlock → j ≠ b ∧ j ≠ bp := fun j hj => ⟨fun e => own_box_ne hc hb (by decide) (e ▸ hj), fun e => own_box_ne hc hp (by decide) (e ▸ hj)⟩
  have hca : ∀ x ∈ D.ca, x.2.length = 64 := fun x hx => (h2.cac x hx).2
  have hfew := h2.few
  refine ret_of_W Try.func69 rfl (Nat.le_of_ble_eq_true rfl) (res0 rfl) ?_
  have hG := Dg.refl dkTy n0 w
  have hk : AllBl n0 w _ K.keep := hk
  refine W.seq ?_
  refine W.region ?_
  refine L.box (cs := [.slice pk K.keep.length ck, .int .i64 K.torn, .int .i64 K.cut]) rfl rfl (fun w3 bx3 hw hz3 => ?_)
  have hG := hG.carry hw; have hb := hb.carry hw; have hp := hp.carry hw; have hc := hc.carry hw; have hk := hk.carry hw
  refine L.nil ?_
  refine thn_n ?_
  refine W.seq ?_
  refine W.seq ?_
  refine W.region ?_
  refine L.val (x_mv (v := .pointer _) rfl) rfl ?_
  refine L.val (x_nil rfl) rfl ?_
  refine L.val (x_fa kdsf3_fo42_1 rfl) rfl ?_
  refine L.val (x_ld (v := .slice _ _ _) kdsf3_oc37 rfl (hb.cell0 rfl)) rfl ?_
  refine L.val (x_len_slice Try.underlying37 rfl) rfl ?_
  refine L.val (x_mv (v := .int _ _) rfl) rfl ?_
  refine L.nil ?_
  refine thn_n ?_
  refine W.block ?_
  refine W.loop (fun m' E w' => ∃ (j : Nat), m' = D.ca.length - j ∧ E 0 = .pointer (some ⟨b, 0, none⟩) ∧ E 3 = .pointer (some ⟨w.heap.size, 0, none⟩) ∧ E 10 = .slice ac D.ca.length cc ∧ E 11 = .int .i64 (D.ca.length : Nat) ∧ E 12 = .int .i64 (j : Nat) ∧ (j ≤ D.ca.length) ∧ (Dg dkTy n0 w w') ∧ (Box w' b 42 (dkV (.slice (some ⟨bp, 0, none⟩) D.pl.length D.pl.length) (.slice ac D.ca.length cc) vk0 tn ct D)) ∧ (Box w' bp 86 (plV (dropL K 0 (D.ca.take j) D.pl))) ∧ (Own w' n0 88 65 (.slice ac D.ca.length cc) D.ca.length (D.ca.map waV).flatten) ∧ (AllBl n0 w' (.slice pk K.keep.length ck) K.keep) ∧ (Box w' w.heap.size 40 [.slice pk K.keep.length ck, .int .i64 K.torn, .int .i64 K.cut])) (D.ca.length) ?_ ?_
  ·exact ⟨0, by omega, by first | rfl | exact vi (by omega) | exact vs (by first | assumption | (rw [hst]; done) | (rw [hst]; simp only [List.append_assoc])), by first | rfl | exact vi (by omega) | exact vs (by first | assumption | (rw [hst]; done) | (rw [hst]; simp only [List.append_assoc])), by first | rfl | exact vi (by omega) | exact vs (by first | assumption | (rw [hst]; done) | (rw [hst]; simp only [List.append_assoc])), by first | rfl | exact vi (by omega) | exact vs (by first | assumption | (rw [hst]; done) | (rw [hst]; simp only [List.append_assoc])), by first | rfl | exact vi (by omega) | exact vs (by first | assumption | (rw [hst]; done) | (rw [hst]; simp only [List.append_assoc])), (by first | assumption | omega | rfl), (by first | assumption | omega | rfl), (by first | assumption | omega | rfl), (by first | assumption | omega | rfl), (by first | assumption | omega | rfl), (by first | assumption | omega | rfl), (by first | assumption | omega | rfl)⟩
  ·rintro _ E wL13 ⟨j, em, e0, e3, e10, e11, e12, hj, hG, hb, hp, hc, hk, bx3⟩
   rw [upd_self e0, upd_self e3, upd_self e10, upd_self e11, upd_self e12]
   refine W.seq ?_
   refine W.region ?_
   refine L.val (x_lss rfl rfl) rfl ?_
   refine L.nil ?_
   refine thn_n ?_
   refine W.seq ?_
   refine W.cond (b := _) rfl (fun g13 => ?_) (fun g13 => ?_)
   ·have h13 := of_decide_eq_true g13
    have hlt : j < D.ca.length := by omega
    obtain ⟨bc, rfl⟩ := own_pos hc (by omega)
    have hrow := own_rowK hc (ca_lens hca) (i := j) (by rw [List.length_map]; exact hlt)
    rw [ca_get hlt] at hrow
    obtain ⟨x, hx⟩ : ∃ x, x = D.ca.getD j default := ⟨_, rfl⟩
    rw [← hx] at hrow
    have hxm : x ∈ D.ca := by rw [hx, List.getD_eq_getElem?_getD, List.getElem?_eq_getElem hlt]; exact List.getElem_mem hlt
    obtain ⟨hx1, hx2⟩ := h2.cac x hxm
    have hwl : (waV x).length = 65 := waV_len hx2
    have hst := dropL_take K D.ca 0 j D.pl hlt
    rw [← hx, Nat.zero_add] at hst
    have hsec : ∀ s ∈ dropL K 0 (D.ca.take j) D.pl, s.length = 64 := dropL_sec h2.sec (fun y hy => ⟨hca y (List.mem_of_mem_take hy), (h2.cac y (List.mem_of_mem_take hy)).1⟩)
    have hapl := dropL_len K (D.ca.take j) 0 D.pl
    have hbl := hb.lt; have hbpl := hp.lt; have hb3l := bx3.lt
    have hB := Gr.refl (fun _ => False) wL13
    have hne3 : bp ≠ w.heap.size := box_ne hp bx3 (by decide)
    have hnd := ndrop_le K j
    refine W.skip ?_
    refine thn_n ?_
    refine W.seq ?_
    refine W.block ?_
    refine W.seq ?_
    refine W.region ?_
    refine L.val (x_mv (v := .int _ _) rfl) rfl ?_
    have hc0 := hc
    refine L.val (x_ia (j := j) Try.underlying37 kdsf3_sz88 rfl rfl (by omega) (by omega)) rfl ?_
    refine L.val (x_ldn (vs := waV x) kdsf3_ag88 rfl hwl hrow) rfl ?_
    refine L.alloc (cs := [Value.int .i64 0, Value.int .u8 0, Value.int .u8 0, Value.int .u8 0, Value.int .u8 0, Value.int .u8 0, Value.int .u8 0, Value.int .u8 0, Value.int .u8 0, Value.int .u8 0, Value.int .u8 0, Value.int .u8 0, Value.int .u8 0, Value.int .u8 0, Value.int .u8 0, Value.int .u8 0, Value.int .u8 0, Value.int .u8 0, Value.int .u8 0, Value.int .u8 0, Value.int .u8 0, Value.int .u8 0, Value.int .u8 0, Value.int .u8 0, Value.int .u8 0, Value.int .u8 0, Value.int .u8 0, Value.int .u8 0, Value.int .u8 0, Value.int .u8 0, Value.int .u8 0, Value.int .u8 0, Value.int .u8 0, Value.int .u8 0, Value.int .u8 0, Value.int .u8 0, Value.int .u8 0, Value.int .u8 0, Value.int .u8 0, Value.int .u8 0, Value.int .u8 0, Value.int .u8 0, Value.int .u8 0, Value.int .u8 0, Value.int .u8 0, Value.int .u8 0, Value.int .u8 0, Value.int .u8 0, Value.int .u8 0, Value.int .u8 0, Value.int .u8 0, Value.int .u8 0, Value.int .u8 0, Value.int .u8 0, Value.int .u8 0, Value.int .u8 0, Value.int .u8 0, Value.int .u8 0, Value.int .u8 0, Value.int .u8 0, Value.int .u8 0, Value.int .u8 0, Value.int .u8 0, Value.int .u8 0, Value.int .u8 0]) kdsf3_zr88 rfl rfl (fun w5 bx5 hw hz5 => ?_)
    have hB := hB.carry hw; have hb := hb.carry hw; have hp := hp.carry hw; have hc := hc.carry hw; have hk := hk.carry hw; have bx3 := bx3.carry hw
    have bx5o := bx5
    refine L.val (x_as (v := .int _ _) rfl) rfl ?_
    refine L.setRow kdsf3_ag88 rfl rfl bx5 rfl hwl (waV_one x) (fun wl14 bx5 hw hzl14 => ?_)
    have hsz := hB.size
    have hB := hB.set hw (by omega); have hb := hb.carryR hw (by omega); have hp := hp.carryR hw (by first | exact fun e => hbpne e | omega); have hc := Own.carryR hc hw (fun i hi e => by have e : i = _ := e; have := (Own.lt hc0 hi).2; omega); have hk := hk.box bx5o (by kernel_rfl) (by omega) hw; have bx3 := bx3.carryR hw (by omega)
    have hB14 := hB
    refine L.nil ?_
    refine thn_n ?_
    refine W.seq ?_
    refine W.region ?_
    refine L.val (x_as (v := .int _ _) rfl) rfl ?_
    refine L.nil ?_
    refine thn_n ?_
    refine W.cut (fun D' E' w' => D' = [] ∧ E' 0 = .pointer (some ⟨b, 0, none⟩) ∧ E' 3 = .pointer (some ⟨w.heap.size, 0, none⟩) ∧ E' 5 = .pointer (some ⟨wL13.heap.size, 0, none⟩) ∧ E' 6 = .int .i64 (ndrop K j : Nat) ∧ E' 10 = .slice (some ⟨bc, 0, none⟩) D.ca.length cc ∧ E' 11 = .int .i64 (D.ca.length : Nat) ∧ E' 12 = .int .i64 (j : Nat) ∧ w' = wl14) ?_ ?_
    ·refine W.block ?_
     refine W.seq ?_
     refine W.region ?_
     refine L.val (x_mv (v := .int _ _) rfl) rfl ?_
     refine L.val (x_add rfl rfl (wr64 (by omega))) rfl ?_
     refine L.val (x_fa kdsf3_fo40_1 rfl) rfl ?_
     refine L.val (x_ld (v := .int _ _) kdsf3_oc3 rfl (bx3.cell0 rfl)) rfl ?_
     refine L.val (x_eql rfl rfl) rfl ?_
     refine L.val (x_as (v := .bool _) rfl) rfl ?_
     refine L.nil ?_
     refine thn_n ?_
     refine W.cond (b := _) rfl (fun g22 => ?_) (fun g22 => ?_)
     ·have h22 := of_decide_eq_true g22
      have e6 : min (max K.cut 0) 64 = ((ndrop K j : Nat) : Int) := by unfold ndrop; rw [if_pos (by omega)]; omega
      refine W.region ?_
      refine L.val (x_fa kdsf3_fo40_2 rfl) rfl ?_
      refine L.val (x_ld (v := .int _ _) kdsf3_oc3 rfl (bx3.cell0 rfl)) rfl ?_
      refine L.val (x_max rfl rfl) rfl ?_
      refine L.val (x_min rfl rfl) rfl ?_
      refine L.val (x_as (v := .int _ _) rfl) rfl ?_
      refine L.nil ?_
      refine blk_n ?_
      refine thn_n ?_
      exact ⟨rfl, rfl, rfl, rfl, congrArg (Value.int .i64) e6, rfl, rfl, rfl, rfl⟩
     ·have h22 := of_decide_eq_false g22
      have hnt : ¬ ((j : Nat) : Int) + 1 = K.torn := by omega
      refine W.seq ?_
      refine W.region ?_
      refine L.val (x_mv (v := .int _ _) rfl) rfl ?_
      refine L.val (x_fa kdsf3_fo40_0 rfl) rfl ?_
      refine L.val (x_ld (v := .slice _ _ _) kdsf3_oc38 rfl (bx3.cell0 rfl)) rfl ?_
      refine L.val (x_len_slice Try.underlying38 rfl) rfl ?_
      refine L.val (x_lss rfl rfl) rfl ?_
      refine L.val (x_mv (v := .bool _) rfl) rfl ?_
      refine L.splitat (dj := 33) (b := _) rfl (fun g33 => ?_) (fun g33 => ?_)
      ·have h33 := of_decide_eq_true g33
       have hjk : j < K.keep.length := by omega
       obtain ⟨bk, ok, rfl, -, hck⟩ := BlsAt.elem hk hjk
       refine L.gyes' (dj := 33) (b := _) rfl rfl g33 ?_
       refine L.val (x_fa kdsf3_fo40_0 rfl) rfl ?_
       refine L.gyes' (dj := 33) (b := _) rfl rfl g33 ?_
       refine L.val (x_ld (v := .slice _ _ _) kdsf3_oc38 rfl (bx3.cell0 rfl)) rfl ?_
       refine L.gyes' (dj := 33) (b := _) rfl rfl g33 ?_
       refine L.val (x_mv (v := .int _ _) rfl) rfl ?_
       refine L.gyes' (dj := 33) (b := _) rfl rfl g33 ?_
       refine L.val (x_ia1 (j := j) Try.underlying38 kdsf3_sz4 rfl rfl (by omega) (by omega)) rfl ?_
       refine L.gyes' (dj := 33) (b := _) rfl rfl g33 ?_
       refine L.val (x_ld (v := .bool _) kdsf3_oc4 rfl hck) rfl ?_
       refine L.val (x_pick_t (v := .bool _) (congrArg Value.bool g33) rfl) rfl ?_
       refine L.val (x_as (v := .bool _) rfl) rfl ?_
       refine L.nil ?_
       refine thn_n ?_
       refine W.cond (b := _) rfl (fun g38 => ?_) (fun g38 => ?_)
       ·have h38 := g38
        have e6 : (64 : Int) = ((ndrop K j : Nat) : Int) := by unfold ndrop; rw [if_neg hnt, g38]; rfl
        refine W.region ?_
        refine L.val (x_as (v := .int _ _) rfl) rfl ?_
        refine L.nil ?_
        refine blk_n ?_
        refine thn_n ?_
        exact ⟨rfl, rfl, rfl, rfl, congrArg (Value.int .i64) e6, rfl, rfl, rfl, rfl⟩
       ·have h38 := g38
        have e6 : (0 : Int) = ((ndrop K j : Nat) : Int) := by unfold ndrop; rw [if_neg hnt, g38]; rfl
        refine W.skip ?_
        refine blk_n ?_
        refine thn_n ?_
        exact ⟨rfl, rfl, rfl, rfl, congrArg (Value.int .i64) e6, rfl, rfl, rfl, rfl⟩
      ·have h33 := dlt_f g33
       have e6 : (0 : Int) = ((ndrop K j : Nat) : Int) := by
         unfold ndrop
         rw [if_neg hnt, List.getD_eq_getElem?_getD, List.getElem?_eq_none (by omega)]; rfl
       refine L.gno (dj := 33) (b := _) rfl rfl g33 rfl ?_
       refine L.gno (dj := 33) (b := _) rfl rfl g33 rfl ?_
       refine L.gno (dj := 33) (b := _) rfl rfl g33 rfl ?_
       refine L.gno (dj := 33) (b := _) rfl rfl g33 rfl ?_
       refine L.gno (dj := 33) (b := _) rfl rfl g33 rfl ?_
       refine L.val (x_pick_f (v := .bool _) (congrArg Value.bool g33) rfl) rfl ?_
       refine L.val (x_as (v := .bool _) rfl) rfl ?_
       refine L.nil ?_
       refine thn_n ?_
       refine W.cond (b := false) rfl (fun h => nomatch h) (fun _ => ?_)
       refine W.skip ?_
       refine blk_n ?_
       refine thn_n ?_
       exact ⟨rfl, rfl, rfl, rfl, congrArg (Value.int .i64) e6, rfl, rfl, rfl, rfl⟩
    ·rintro D' E w40 ⟨rfl, e0, e3, e5, e6, e10, e11, e12, rfl⟩
     rw [upd_self e0, upd_self e3, upd_self e5, upd_self e6, upd_self e10, upd_self e11, upd_self e12]
     refine W.drawD (fun i => i = bp ∨ i = bp) (fun _ => False) 11 kdsf3_mixed (fun wD40 hw => ?_)
     have hb := hb.carry hw; have bx5 := bx5.carry hw; have hc := hc.carry hw; have hB := hB.carry hw; have hk := hk.carry hw; have bx3 := bx3.carry hw
     have hB0 := Gr.refl (fun _ => False) wD40; have hR0 := Gr.refl (fun i => i = bp ∨ i = bp) wD40
     have hD := hw
     refine LAD.take0 (i := 0) rfl (by kernel_rfl) (by kernel_rfl) (by kernel_rfl) (by kernel_rfl) (fun w hw => x_mv (v := .pointer _) rfl) rfl ?_
     refine LAD.take0 (i := 1) rfl (by kernel_rfl) (by kernel_rfl) (by kernel_rfl) (by kernel_rfl) (fun w hw => x_nil rfl) rfl ?_
     refine LAD.take0 (i := 2) rfl (by kernel_rfl) (by kernel_rfl) (by kernel_rfl) (by kernel_rfl) (fun w hw => x_fa kdsf3_fo42_0 rfl) rfl ?_
     refine LAD.take0 (i := 3) rfl (by kernel_rfl) (by kernel_rfl) (by kernel_rfl) (by kernel_rfl) (fun w hw => x_ld (v := .slice _ _ _) kdsf3_oc36 rfl (hw.keepR (fun e => by have e : (_ : Nat) = _ := e.elim id id; (try dsimp only at e); omega) (hb.cell0 rfl))) rfl ?_
     refine LAD.take0 (i := 4) rfl (by kernel_rfl) (by kernel_rfl) (by kernel_rfl) (by kernel_rfl) (fun w hw => x_fa kdsf3_fo88_0 rfl) rfl ?_
     refine LAD.take0 (i := 5) rfl (by kernel_rfl) (by kernel_rfl) (by kernel_rfl) (by kernel_rfl) (fun w hw => x_ld (v := .int _ _) kdsf3_oc3 rfl (hw.keepR (fun e => by have e : (_ : Nat) = _ := e.elim id id; (try dsimp only at e); omega) (bx5.cell0 rfl))) rfl ?_
     refine LAD.take0 (i := 6) rfl (by kernel_rfl) (by kernel_rfl) (by kernel_rfl) (by kernel_rfl) (fun w hw => x_ia (j := x.1) Try.underlying36 kdsf3_sz86 rfl rfl (by omega) (by omega)) rfl ?_
     refine LAD.take0 (i := 7) rfl (by kernel_rfl) (by kernel_rfl) (by kernel_rfl) (by kernel_rfl) (fun w hw => x_slArr Try.underlying86 kdsf3_sz5 rfl rfl) rfl ?_
     refine LAD.take0 (i := 8) rfl (by kernel_rfl) (by kernel_rfl) (by kernel_rfl) (by kernel_rfl) (fun w hw => x_fa kdsf3_fo88_1 rfl) rfl ?_
     refine LAD.take0 (i := 9) rfl (by kernel_rfl) (by kernel_rfl) (by kernel_rfl) (by kernel_rfl) (fun w hw => x_mv (v := .int _ _) rfl) rfl ?_
     refine LAD.take0 (i := 10) rfl (by kernel_rfl) (by kernel_rfl) (by kernel_rfl) (by kernel_rfl) (fun w hw => x_slArrN (j := ndrop K j) Try.underlying86 kdsf3_sz5 rfl rfl rfl hnd) rfl ?_
     refine LAD.step (rs := [11]) hR0 (fun _ => hB0) (by kernel_rfl) (by simp) ⟨⟨_, rfl, ?_⟩, trivial⟩
     refine L.cpV (vs := (x.2.take (ndrop K j)).map B8) Try.underlying67 kdsf3_sz5 rfl rfl rfl (hp.carry hD) (by rw [List.length_map, List.length_take, hx2]) (fun m hm => ?_) (by rw [plV_len hsec, hapl, List.length_map, List.length_take]; omega) (B8_one _) (fun w51 hpN hw hz51 => ?_)
     · rw [List.length_map, List.length_take, hx2] at hm
       have hs := bx5.rowD 1 (k := 64) (by simp [waV, hx2]) m (by omega)
       rw [List.map_take, List.getElem?_take, if_pos (by omega)]
       exact hs
     rw [List.length_map, plV_part hsec (by omega) hnd hx2] at hpN
     have hR0 := hR0.into hw (.inr rfl)
     refine L.nil ?_
     refine thn_n ?_
     refine LAD.done (by kernel_rfl) (by kernel_rfl) hR0 ?_
     have hb := hb.carryR hR0 (fun e => hbpne (e.elim id id).symm)
     have bx5 := trivial
     have hc := Own.carryR hc hR0 (fun i hi e => (hqc i hi).2 (e.elim id id))
     have hB := trivial
     have hk := hk.box (hp.carry hD) (by kernel_rfl) h3 (hR0.mono (fun _ _ e => e.elim id id))
     have bx3 := bx3.carryR hR0 (fun e => hne3 (e.elim id id).symm)
     have hp2 : Box w51 bp 86 (plV (dropL K 0 (D.ca.take (j + 1)) D.pl)) := by rw [hst]; exact hpN
     have hall : Gr (fun i => i = bp ∨ i = bp) w40 w51 := ((Gr.refl _ _).carry hD).trans hR0
     have hG2 : Dg dkTy n0 w w51 := (hG.trans (Dg.of_bel hB14)).trans (hall.mono fun k _ e => by rw [e.elim id id]; exact DkB.box hp (by kernel_rfl) h3)
     refine blk_n ?_
     refine thn_n ?_
     refine W.region ?_
     refine L.val (x_add rfl rfl (wr64 (by omega))) rfl ?_
     refine L.val (x_mv (v := .int _ _) rfl) rfl ?_
     refine L.nil ?_
     refine thn_n ⟨rfl, ?_⟩
     refine ⟨_, ?_, j + 1, rfl, by first | rfl | exact vi (by omega) | exact vs (by first | assumption | (rw [hst]; done) | (rw [hst]; simp only [List.append_assoc])), by first | rfl | exact vi (by omega) | exact vs (by first | assumption | (rw [hst]; done) | (rw [hst]; simp only [List.append_assoc])), by first | rfl | exact vi (by omega) | exact vs (by first | assumption | (rw [hst]; done) | (rw [hst]; simp only [List.append_assoc])), by first | rfl | exact vi (by omega) | exact vs (by first | assumption | (rw [hst]; done) | (rw [hst]; simp only [List.append_assoc])), by first | rfl | exact vi (by omega) | exact vs (by first | assumption | (rw [hst]; done) | (rw [hst]; simp only [List.append_assoc])), (by first | assumption | omega | rfl), (by exact hG2), (by first | assumption | omega | rfl), (by exact hp2), (by first | assumption | omega | rfl), (by first | assumption | omega | rfl), (by first | assumption | omega | rfl)⟩
     omega
   ·have h13 := dlt_f g13
    have hjn : j = D.ca.length := by omega
    subst hjn
    rw [List.take_length] at hp
    have hb13 := hb
    have hGc := Gr.refl (fun k => k = b) wL13
    refine W.exit (thn_x (thn_x (blk_hit ?_)))
    refine thn_n ?_
    refine W.region ?_
    refine L.val (x_mv (v := .pointer _) rfl) rfl ?_
    refine L.val (x_mv (v := .pointer _) rfl) rfl ?_
    refine L.val (x_mv (v := .pointer _) rfl) rfl ?_
    refine L.val (x_mv (v := .pointer _) rfl) rfl ?_
    refine L.val (x_build (cells := [.slice _ _ _, .int _ _, .int _ _]) kdsf3_si40 rfl rfl) rfl ?_
    refine L.val (x_nil rfl) rfl ?_
    refine L.val (x_fa kdsf3_fo42_1 rfl) rfl ?_
    refine L.set (v := .slice _ _ _) kdsf3_sz37 rfl rfl rfl hb rfl (fun wl62 hb hw hzl62 => ?_)
    have hp := hp.carryR hw (by first | exact fun e => hbpne e | omega); have hGc := hGc.trans hw
    refine L.val (x_nil rfl) rfl ?_
    refine L.val (x_fa kdsf3_fo42_3 rfl) rfl ?_
    refine L.set (v := .int _ _) kdsf3_sz3 rfl rfl rfl hb rfl (fun wl65 hb hw hzl65 => ?_)
    have hp := hp.carryR hw (by first | exact fun e => hbpne e | omega); have hGc := hGc.trans hw
    refine L.val (x_nil rfl) rfl ?_
    refine L.val (x_fa kdsf3_fo42_2 rfl) rfl ?_
    refine L.setPart (o := 2) (k := 3) (new := [.slice none 0 0, .int .i64 0, .int .i64 0]) kdsf3_ag40 rfl rfl hb (by show 2 + 3 ≤ 8; omega) rfl (by simp [Value.oneCell']) (fun wl68 hb hw hzl68 => ?_)
    have hp := hp.carryR hw (fun e => hbpne e); have hGc := hGc.trans hw
    refine L.val (x_nil rfl) rfl ?_
    refine L.val (x_fa kdsf3_fo42_5 rfl) rfl ?_
    refine L.set (v := .bool _) kdsf3_sz4 rfl rfl rfl hb rfl (fun wl71 hb hw hzl71 => ?_)
    have hp := hp.carryR hw (by first | exact fun e => hbpne e | omega); have hGc := hGc.trans hw
    refine L.nil ?_
    refine fin_mk (.inl rfl) ?_
    refine ⟨hb, hp, hG.trans (hGc.mono fun k _ e => ?_)⟩
    have e : k = b := e
    rw [e]; exact DkB.box hb13 (by kernel_rfl) h1
end Go.Gx
namespace Go.Gx
open Go.Proofs
theorem kdsf4_ag40 : aggT Try.prog 40 3 = true := by kernel_rfl
theorem kdsf4_ag88 : aggT Try.prog 88 65 = true := by kernel_rfl
theorem kdsf4_el88 : elT Try.prog 88 65 = true := by kernel_rfl
theorem kdsf4_en40 : Go.Proofs.Enters Try.prog 40 := Go.Proofs.enters_of Try.func40 (by kernel_rfl) rfl
theorem kdsf4_en68 : Go.Proofs.Enters Try.prog 68 := Go.Proofs.enters_of Try.func68 (by kernel_rfl) rfl
theorem kdsf4_en69 : Go.Proofs.Enters Try.prog 69 := Go.Proofs.enters_of Try.func69 (by kernel_rfl) rfl
theorem kdsf4_fo42_1 : fieldOff Try.prog 42 1 = some 1 := by kernel_rfl
theorem kdsf4_fo42_2 : fieldOff Try.prog 42 2 = some 2 := by kernel_rfl
theorem kdsf4_fo88_1 : fieldOff Try.prog 88 1 = some 1 := by kernel_rfl
theorem kdsf4_mixed : Try.prog.follows .mixedOrders = true := by kernel_rfl
theorem kdsf4_oc37 : oneCellT Try.prog 37 = true := by kernel_rfl
theorem kdsf4_sz37 : (Try.prog.info? 37).map (·.size) = some 1 := by kernel_rfl
theorem kdsf4_sz5 : (Try.prog.info? 5).map (·.size) = some 1 := by kernel_rfl
theorem kdsf4_zr88 : (Try.prog.info? 88).bind (·.zero) = some (Value.agg [Value.int .i64 0, Value.int .u8 0, Value.int .u8 0, Value.int .u8 0, Value.int .u8 0, Value.int .u8 0, Value.int .u8 0, Value.int .u8 0, Value.int .u8 0, Value.int .u8 0, Value.int .u8 0, Value.int .u8 0, Value.int .u8 0, Value.int .u8 0, Value.int .u8 0, Value.int .u8 0, Value.int .u8 0, Value.int .u8 0, Value.int .u8 0, Value.int .u8 0, Value.int .u8 0, Value.int .u8 0, Value.int .u8 0, Value.int .u8 0, Value.int .u8 0, Value.int .u8 0, Value.int .u8 0, Value.int .u8 0, Value.int .u8 0, Value.int .u8 0, Value.int .u8 0, Value.int .u8 0, Value.int .u8 0, Value.int .u8 0, Value.int .u8 0, Value.int .u8 0, Value.int .u8 0, Value.int .u8 0, Value.int .u8 0, Value.int .u8 0, Value.int .u8 0, Value.int .u8 0, Value.int .u8 0, Value.int .u8 0, Value.int .u8 0, Value.int .u8 0, Value.int .u8 0, Value.int .u8 0, Value.int .u8 0, Value.int .u8 0, Value.int .u8 0, Value.int .u8 0, Value.int .u8 0, Value.int .u8 0, Value.int .u8 0, Value.int .u8 0, Value.int .u8 0, Value.int .u8 0, Value.int .u8 0, Value.int .u8 0, Value.int .u8 0, Value.int .u8 0, Value.int .u8 0, Value.int .u8 0, Value.int .u8 0].toArray) := by kernel_rfl
def Kn (D : Dk) (K : Fl) : Fl := if D.armed = 1 then K0 else K
theorem dropD_ok {D : Dk} {K : Fl} (h : DkOk D) : DkOk (dropD D K) := by
  refine ⟨?_, ?_, dropL_sec h.sec (fun x hx => ⟨(h.cac x hx).2, (h.cac x hx).1⟩), fun x hx => (by cases hx), ?_⟩
  · show 0 < (dropL K 0 D.ca D.pl).length; rw [dropL_len]; exact h.pos
  · show (dropL K 0 D.ca D.pl).length ≤ _; rw [dropL_len]; exact h.small
  · show 0 ≤ 100000 ∧ D.ops ≤ _; have := h.few; omega
theorem diskF_drop {n0 b bp : Nat} {w : World} {D : Dk} {K : Fl} (h1 : n0 ≤ b) (h3 : n0 ≤ bp) (h2 : DkOk D) (hb : Box w b 42 (dkV (.slice (some ⟨bp, 0, none⟩) D.pl.length D.pl.length) (.slice none 0 0) (.slice none 0 0) 0 0 (dropD D K))) (hp : Box w bp 86 (plV (dropL K 0 D.ca D.pl))) : DiskF n0 w b (dropD D K) K0 := by
  have e : (dropD D K).pl.length = D.pl.length := dropL_len _ _ _ _
  exact ⟨h1, dropD_ok h2, bp, .slice none 0 0, .slice none 0 0, h3, by rw [e]; exact hb, ⟨none, 0, rfl, Nat.le_refl _, by omega, by simp [K0], fun e => absurd rfl e⟩, hp, own_nil⟩
theorem fall_row {w : World} {b : Nat} {T : TypeId} {vp vc vk : Value} {tn ct : Int} {D : Dk} (h : Box w b T (dkV vp vc vk tn ct D)) : ∀ j, j < 3 → w.cell? ⟨b, 0 + 2 + j, none⟩ = [vk, .int .i64 tn, .int .i64 ct][j]? := fun j hj => by
  match j, hj with
  | 0, _ => exact h.cell (i := 2) rfl
  | 1, _ => exact h.cell (i := 3) rfl
  | 2, _ => exact h.cell (i := 4) rfl
theorem write_f (n0 b : Nat) (D : Dk) (K : Fl) (i : Nat) (s : Str) (w : World) (h : DiskF n0 w b D K) (ha : D.armed ≤ 9223372036854775807) (hd : D.dead = false) (hi : i < D.pl.length) (hs : s.length = 64) (hn : n0 ≤ w.heap.size) (hf : D.ca.length < 100000 ∧ D.ops < 1000000000) :
    Ret Try.prog 55 #[.pointer (some ⟨b, 0, none⟩), .int .i64 (i : Nat), S s] w fun v w' => v = .int .i64 (if D.armed = 1 then 190 else 0) ∧ DiskF n0 w' b (wrF D K i s) (Kn D K) ∧ Dg dkTy n0 w w' := by
  obtain ⟨h1, h2, bp, vc, vk, h3, hb, hk, hp, hc⟩ := id h
  have hk : AllBl n0 w vk K.keep := hk
  obtain ⟨pk, ck, rfl, -⟩ := id hk
  obtain ⟨ac, cc, rfl, hcc⟩ := own_shape hc
  have hr : readyD D (i : Nat) = 0 := by unfold readyD; rw [hd, if_neg (by decide), if_pos (by omega)]
  have hbl := hb.lt
  have hwl : (waV (i, s)).length = 65 := waV_len (x := (i, s)) hs
  have hqc : ∀ j, some j = (Value.slice ac D.ca.length cc).ownBlock → n0 ≤ j ∧ j < w.heap.size ∧ j ≠ b ∧ j ≠ bp := fun j hj => ⟨(Own.lt hc hj).1, (Own.lt hc hj).2, fun e => own_box_ne hc hb (by decide) (e ▸ hj), fun e => own_box_ne hc hp (by decide) (e ▸ hj)⟩
  have hbpne : bp ≠ b := box_ne hp hb (by decide)
  have hpl := hp.lt
  have hD1 : DkOk { wrD D i s with armed := D.armed - 1 } := ⟨h2.pos, h2.small, h2.sec, fun x hx => by
      rcases List.mem_append.1 hx with hx | hx
      · exact h2.cac x hx
      · rw [List.mem_singleton.1 hx]; exact ⟨hi, hs⟩, by simp only [wrD, List.length_append, List.length_singleton]; omega⟩
  refine ret_of_W Try.func55 rfl (Nat.le_of_ble_eq_true rfl) (res1 rfl) ?_
  have hB := Gr.refl (fun _ => False) w
  refine W.seq ?_
  refine W.region ?_
  refine L.val (x_as (v := .int _ _) rfl) rfl ?_
  refine L.nil ?_
  refine thn_n ?_
  refine W.seq ?_
  refine W.seq ?_
  refine W.region ?_
  refine L.val (x_mv (v := .pointer _) rfl) rfl ?_
  refine L.val (x_mv (v := .int _ _) rfl) rfl ?_
  refine L.ret (x_call kdsf4_en40 rfl) rfl (ready_d n0 b D _ _ h.at) ?_
  rintro _ w11 ⟨rfl, hq⟩
  rw [hq, hr]
  refine L.val (x_as (v := .int _ _) rfl) rfl ?_
  refine L.nil ?_
  refine thn_n ?_
  refine W.seq ?_
  refine W.region ?_
  refine L.val (x_mv (v := .int _ _) rfl) rfl ?_
  refine L.val (x_neq rfl rfl) rfl ?_
  refine L.nil ?_
  refine thn_n ?_
  refine W.cond (b := _) rfl (fun g13 => ?_) (fun g13 => ?_)
  ·have h13 := dne_t g13
   cases g13
  ·have h13 := dne_f g13
   refine W.skip ?_
   refine thn_n ?_
   refine W.seq ?_
   refine W.seq ?_
   refine W.region ?_
   refine L.val (x_mv (v := S _) rfl) rfl ?_
   refine L.val (x_len_str Try.underlying9 rfl) rfl ?_
   refine L.val (x_neq rfl rfl) rfl ?_
   refine L.nil ?_
   refine thn_n ?_
   refine W.cond (b := _) rfl (fun g17 => ?_) (fun g17 => ?_)
   ·have h17 := dne_t g17
    omega
   ·have h17 := dne_f g17
    refine W.skip ?_
    refine thn_n ?_
    refine W.seq ?_
    refine W.region ?_
    refine L.val (x_mv (v := .int _ _) rfl) rfl ?_
    refine L.val (x_build (cells := waV (i, zeros 64)) (places := [(0, 1), (1, 64)]) (zero := Value.int .i64 0 :: (zeros 64).map B8) (by kernel_rfl) rfl (fill0 rfl)) rfl ?_
    refine L.alloc (cs := [Value.int .i64 0, Value.int .u8 0, Value.int .u8 0, Value.int .u8 0, Value.int .u8 0, Value.int .u8 0, Value.int .u8 0, Value.int .u8 0, Value.int .u8 0, Value.int .u8 0, Value.int .u8 0, Value.int .u8 0, Value.int .u8 0, Value.int .u8 0, Value.int .u8 0, Value.int .u8 0, Value.int .u8 0, Value.int .u8 0, Value.int .u8 0, Value.int .u8 0, Value.int .u8 0, Value.int .u8 0, Value.int .u8 0, Value.int .u8 0, Value.int .u8 0, Value.int .u8 0, Value.int .u8 0, Value.int .u8 0, Value.int .u8 0, Value.int .u8 0, Value.int .u8 0, Value.int .u8 0, Value.int .u8 0, Value.int .u8 0, Value.int .u8 0, Value.int .u8 0, Value.int .u8 0, Value.int .u8 0, Value.int .u8 0, Value.int .u8 0, Value.int .u8 0, Value.int .u8 0, Value.int .u8 0, Value.int .u8 0, Value.int .u8 0, Value.int .u8 0, Value.int .u8 0, Value.int .u8 0, Value.int .u8 0, Value.int .u8 0, Value.int .u8 0, Value.int .u8 0, Value.int .u8 0, Value.int .u8 0, Value.int .u8 0, Value.int .u8 0, Value.int .u8 0, Value.int .u8 0, Value.int .u8 0, Value.int .u8 0, Value.int .u8 0, Value.int .u8 0, Value.int .u8 0, Value.int .u8 0, Value.int .u8 0]) kdsf4_zr88 rfl rfl (fun w8 bx8 hw hz8 => ?_)
    have hB := hB.carry hw; have hb := hb.carry hw; have hc := hc.carry hw; have hp := hp.carry hw; have hk := hk.carry hw
    have bx8o := bx8
    refine L.setRow kdsf4_ag88 rfl rfl bx8 rfl rfl (waV_one (i, zeros 64)) (fun wl17 bx8 hw hzl17 => ?_)
    have hsz := hB.size
    have hB := hB.set hw (by omega); have hb := hb.carryR hw (by omega); have hc := Own.carryR hc hw (fun j hj e => by have e : j = _ := e; have := hqc j hj; omega); have hp := hp.carryR hw (by omega); have hk := hk.box bx8o (by kernel_rfl) (by omega) hw
    refine L.nil ?_
    refine thn_n ?_
    refine W.seq ?_
    refine W.region ?_
    have bx8o := bx8
    refine L.val (x_fa kdsf4_fo88_1 rfl) rfl ?_
    refine L.val (x_slArr Try.underlying86 kdsf4_sz5 rfl rfl) rfl ?_
    refine L.val (x_mv (v := S _) rfl) rfl ?_
    refine L.cpS Try.underlying67 kdsf4_sz5 rfl rfl rfl bx8 (by omega) (by rw [hs]; exact Nat.le_refl _) (fun w23 bx8 hw hz23 => ?_)
    have hsB := hB.size
    have hB := hB.set hw (by omega); have hb := hb.carryR hw (by omega); have hp := hp.carryR hw (by omega)
    have hk := hk.box bx8o (by kernel_rfl) (by omega) hw
    have hc := Own.carryR hc hw (fun j hj e => by have e : j = _ := e; have := hqc j hj; omega)
    have e8 : (waV (i, zeros 64)).take (0 + 1) ++ s.map B8 ++ (waV (i, zeros 64)).drop (0 + 1 + s.length) = waV (i, s) := by
      rw [hs, List.drop_of_length_le (by rw [waV_len (zeros_len 64)]; exact Nat.le_refl _), List.append_nil]
      rfl
    rw [e8] at bx8
    have hb23 := hb
    have hc23 := hc
    have hk23 := hk
    refine L.nil ?_
    refine thn_n ?_
    refine W.seq ?_
    refine W.drawD (fun j => some j = (Value.slice ac D.ca.length cc).ownBlock ∨ j = b) (fun j => some j = (Value.slice ac D.ca.length cc).ownBlock) 10 kdsf4_mixed (fun wD24 hw => ?_)
    have hb := hb.carry hw; have hc := hc.carry hw; have hp := hp.carry hw; have bx8 := bx8.carry hw
    have hB0 := Gr.refl (fun j => some j = (Value.slice ac D.ca.length cc).ownBlock) wD24; have hR0 := Gr.refl (fun j => some j = (Value.slice ac D.ca.length cc).ownBlock ∨ j = b) wD24
    have hD := hw
    refine LAD.take0 (i := 0) rfl (by kernel_rfl) (by kernel_rfl) (by kernel_rfl) (by kernel_rfl) (fun w hw => x_mv (v := .pointer _) rfl) rfl ?_
    refine LAD.take0 (i := 1) rfl (by kernel_rfl) (by kernel_rfl) (by kernel_rfl) (by kernel_rfl) (fun w hw => x_mv (v := .pointer _) rfl) rfl ?_
    refine LAD.take0 (i := 2) rfl (by kernel_rfl) (by kernel_rfl) (by kernel_rfl) (by kernel_rfl) (fun w hw => x_nil rfl) rfl ?_
    refine LAD.take0 (i := 3) rfl (by kernel_rfl) (by kernel_rfl) (by kernel_rfl) (by kernel_rfl) (fun w hw => x_fa kdsf4_fo42_1 rfl) rfl ?_
    refine LAD.take1 (i := 4) rfl (by kernel_rfl) (by kernel_rfl) (by kernel_rfl) (by kernel_rfl) (by kernel_rfl) (by kernel_rfl) (fun w hw => x_ld (v := .slice _ _ _) kdsf4_oc37 rfl (hw.keepR (fun e => by have := hqc _ e; (try dsimp only at this); omega) (hb.cell0 rfl))) rfl ?_
    refine LAD.take0 (i := 5) rfl (by kernel_rfl) (by kernel_rfl) (by kernel_rfl) (by kernel_rfl) (fun w hw => x_ldn (vs := waV (i, s)) kdsf4_ag88 rfl hwl (hw.keepRowR (fun e => by rcases e with e | e; (have := hqc _ e; (try dsimp only at this); omega); (have e : (_ : Nat) = _ := e; (try dsimp only at e); omega)) hwl (bx8.row hwl))) rfl ?_
    refine LAD.step (rs := [6]) hR0 (fun _ => hB0) (by kernel_rfl) (by simp) ⟨⟨_, rfl, ?_⟩, trivial⟩
    refine L.bs (sz := 65) (cells := waV (i, s)) Try.underlying37 kdsf4_el88 rfl (by show (partsOk 65 0 [(0, Value.agg (waV (i, s)).toArray)] && decide ([((0 : Nat), Value.agg (waV (i, s)).toArray)].length = 1) && decide (0 < 1) && decide (1 * 65 ≤ 16777216)) = true; simp [partsOk, hwl, Value.cells]) (List.append_nil (waV (i, s))) rfl (fun w30 bx30 hw hz30 => ?_)
    have hB0 := hB0.carry hw; have hR0 := hR0.carry hw; have hb := hb.carry hw; have hc := hc.carry hw
    refine L.nil ?_
    refine thn_n ?_
    refine LAD.step (rs := [7]) hR0 (fun _ => hB0) (by kernel_rfl) (by simp) ⟨⟨_, rfl, ?_⟩, trivial⟩
    refine L.appendN (m := 1) Try.underlying37 kdsf4_el88 rfl rfl rfl hc (by rw [hwl]) (holdsN_box bx30) (waV_one (i, s)) (by omega) (by have := hB.size; have := hB0.size; have := hD.size; omega) (fun v31 w31 hO31 hg hob31 => ?_)
    have hB0 := hB0.intoR hg (fun k e => e)
    have hR0 := hR0.intoR hg (fun k e => .inl e)
    have hb := hb.carryR hg (fun e => (hqc _ e).2.2.1 rfl)
    have hb31 := hb
    obtain ⟨a31, c31, e31, -⟩ := own_shape hO31
    subst e31
    refine L.nil ?_
    refine thn_n ?_
    refine LAD.take0 (i := 8) rfl (by kernel_rfl) (by kernel_rfl) (by kernel_rfl) (by kernel_rfl) (fun w hw => x_nil rfl) rfl ?_
    refine LAD.take0 (i := 9) rfl (by kernel_rfl) (by kernel_rfl) (by kernel_rfl) (by kernel_rfl) (fun w hw => x_fa kdsf4_fo42_1 rfl) rfl ?_
    refine LAD.step (rs := [10]) hR0 (fun _ => hB0) (by kernel_rfl) (by simp) ⟨⟨_, rfl, ?_⟩, trivial⟩
    refine L.set (v := .slice _ _ _) kdsf4_sz37 rfl rfl rfl hb rfl (fun wl32 hb hw hzl32 => ?_)
    have hR0 := hR0.into hw (by first | exact .inl rfl | exact .inr rfl)
    have hn31 : ∀ j, some j = (Value.slice a31 (D.ca.length + 1) c31).ownBlock → j ≠ b := fun j hj e => own_box_ne hO31 hb31 (by decide) (e ▸ hj)
    have hO32 := Own.carryR hO31 hw (fun j hj e => hn31 j hj e)
    refine L.nil ?_
    refine thn_n ?_
    refine LAD.done (by kernel_rfl) (by kernel_rfl) hR0 ?_
    have hp := hp.carryR hR0 (fun e => by rcases e with e | e; exact (hqc _ e).2.2.2 rfl; exact hbpne e)
    have bx8 := trivial
    have hall : Gr (fun j => some j = (Value.slice ac D.ca.length cc).ownBlock ∨ j = b) w23 wl32 := ((Gr.refl _ _).carry hD).trans hR0
    have hdk : ∀ k, (some k = (Value.slice ac D.ca.length cc).ownBlock ∨ k = b) → DkB dkTy n0 w23 k := fun k e => by
      rcases e with e | rfl
      · exact DkB.own hc23 (by kernel_rfl) (Nat.le_refl _) k e
      · exact DkB.box hb23 (by kernel_rfl) h1
    have hk : AllBl n0 wl32 _ K.keep := hk23.dg (hall.mono fun k _ e => DkB.mono (hdk k e) lg_of_dk)
    have hDg : Dg dkTy n0 w wl32 := (Dg.of_bel hB).trans (hall.mono fun k _ e => hdk k e)
    have hOca : Own wl32 n0 88 65 (.slice a31 (D.ca.length + 1) c31) (D.ca ++ [(i, s)]).length ((D.ca ++ [(i, s)]).map waV).flatten := by simpa using hO32
    refine thn_n ?_
    refine W.seq ?_
    refine W.seq ?_
    refine W.region ?_
    refine L.val (x_mv (v := .pointer _) rfl) rfl ?_
    refine L.ret (x_call kdsf4_en68 rfl) rfl (falls_f b _ _ _ _ _ D _ hb (by omega) ha) ?_
    rintro _ w35 ⟨rfl, hb35, hG35⟩
    have hDg := hDg.trans (hG35.mono (R' := DkB dkTy n0 _) fun k _ e => by have e : k = b := e; rw [e]; exact DkB.box hb (by kernel_rfl) h1)
    have hk := hk.box hb (by kernel_rfl) h1 hG35
    have hp := hp.carryR hG35 (fun e => hbpne e)
    have hO35 := Own.carryR hOca hG35 (fun j hj e => hn31 j hj e)
    have hb := hb35
    refine L.nil ?_
    refine thn_n ?_
    refine W.cond (b := _) rfl (fun g35 => ?_) (fun g35 => ?_)
    ·have h35 := g35
     have ha1 : D.armed = 1 := by simpa using g35
     refine W.seq ?_
     refine W.region ?_
     refine L.val (x_mv (v := .pointer _) rfl) rfl ?_
     refine L.val (x_mv (v := .pointer _) rfl) rfl ?_
     refine L.val (x_nil rfl) rfl ?_
     refine L.val (x_fa kdsf4_fo42_2 rfl) rfl ?_
     refine L.val (x_ldn (vs := [.slice pk K.keep.length ck, .int .i64 K.torn, .int .i64 K.cut]) kdsf4_ag40 rfl rfl (fall_row hb)) rfl ?_
     refine L.ret (x_call kdsf4_en69 rfl) rfl (drop_f n0 b bp _ _ _ _ _ { wrD D i s with armed := D.armed - 1 } K _ h1 h3 hD1 hb hk hp hO35) ?_
     rintro _ w41 ⟨hb41, hp41, hG41⟩
     refine L.nil ?_
     refine thn_n ?_
     refine W.seq ?_
     refine W.region ?_
     refine L.val (x_as (v := .int _ _) rfl) rfl ?_
     refine L.nil ?_
     refine thn_n ?_
     refine W.ret (thn_r (fin_mk (.inr rfl) ?_))
     have e : wrF D K i s = dropD { wrD D i s with armed := D.armed - 1 } K := by unfold wrF; rw [if_pos ha1]; rfl
     rw [e, if_pos ha1]
     unfold Kn
     rw [if_pos ha1]
     exact ⟨rfl, diskF_drop h1 h3 hD1 hb41 hp41, hDg.trans hG41⟩
    ·have h35 := g35
     have ha1 : ¬ D.armed = 1 := by simpa using g35
     refine W.skip ?_
     refine thn_n ?_
     refine W.seq ?_
     refine W.region ?_
     refine L.val (x_as (v := .int _ _) rfl) rfl ?_
     refine L.nil ?_
     refine thn_n ?_
     refine W.ret (fin_mk (.inr rfl) ?_)
     have e : wrF D K i s = { wrD D i s with armed := D.armed - 1 } := by unfold wrF; rw [if_neg ha1]
     rw [e, if_neg ha1]
     unfold Kn
     rw [if_neg ha1]
     exact ⟨rfl, ⟨h1, hD1, bp, _, _, h3, hb, hk, hp, hO35⟩, hDg⟩
end Go.Gx
