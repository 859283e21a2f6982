/- Sessions: edits are done as of a commit; New. Conditions: none. -/
import Derived.Test.YtnhbjfkeeegdgaaCeSes4
namespace Go.Gx
open Go.Proofs
theorem kses5_ag34 : aggT Try.prog 34 3 = true := by kernel_rfl
theorem kses5_el151 : elT Try.prog 151 4 = true := by kernel_rfl
theorem kses5_fo151_0 : fieldOff Try.prog 151 0 = some 0 := by kernel_rfl
theorem kses5_fo34_0 : fieldOff Try.prog 34 0 = some 0 := by kernel_rfl
theorem kses5_fo97_0 : fieldOff Try.prog 97 0 = some 0 := by kernel_rfl
theorem kses5_mixed : Try.prog.follows .mixedOrders = true := by kernel_rfl
theorem kses5_oc3 : oneCellT Try.prog 3 = true := by kernel_rfl
theorem kses5_oc9 : oneCellT Try.prog 9 = true := by kernel_rfl
theorem kses5_oc94 : oneCellT Try.prog 94 = true := by kernel_rfl
theorem kses5_si151 : structInfo Try.prog 151 = some ([(0, 1), (1, 3)], [Value.int .i64 0, S [], S [], Value.bool false]) := by kernel_rfl
theorem kses5_sz151 : (Try.prog.info? 151).map (·.size) = some 4 := by kernel_rfl
theorem kses5_sz34 : (Try.prog.info? 34).map (·.size) = some 3 := by kernel_rfl
theorem kses5_zr34 : (Try.prog.info? 34).bind (·.zero) = some (Value.agg [S [], S [], Value.bool false].toArray) := by kernel_rfl
theorem Own.cut {w : World} {base sz k cap : Nat} {e : TypeId} {p : Option Addr} {xs : List Value} (h : Own w base e sz (.slice p k cap) k xs) {j : Nat} (hj : j ≤ k) : Own w base e sz (.slice p j cap) j (xs.take (j * sz)) := by
  have hl := h.1
  rcases h.2 with ⟨e1, e2⟩ | ⟨b, c, cur, e1, hb, hg, h1, h2, h3, h4⟩
  · simp only [Value.slice.injEq] at e1
    obtain ⟨rfl, rfl, rfl⟩ := e1
    have : j = 0 := by omega
    subst this
    exact ⟨by simp, .inl ⟨rfl, rfl⟩⟩
  · simp only [Value.slice.injEq] at e1
    obtain ⟨rfl, -, rfl⟩ := e1
    have hjk : j * sz ≤ k * sz := Nat.mul_le_mul_right _ hj
    refine ⟨by rw [List.length_take, hl]; omega, .inr ⟨b, cap, cur, rfl, hb, hg, by omega, h2, h3, ?_⟩⟩
    rw [← h4, List.take_take, Nat.min_eq_left hjk]
theorem ver_flat {l : List (Nat × Ed)} : ((l.map verV).flatten).length = l.length * 4 := by
  rw [flat_len (k := 4) (fun r hr => by obtain ⟨x, -, rfl⟩ := List.mem_map.1 hr; rfl)]; simp
theorem ver_cut {l m : List (Nat × Ed)} : (((l ++ m).map verV).flatten).take (l.length * 4) = (l.map verV).flatten := by
  rw [List.map_append, List.flatten_append, ← ver_flat, List.take_left]
theorem ver_cell {w : World} {base cap b : Nat} {l : List (Nat × Ed)} (h : Own w base 151 4 (.slice (some ⟨b, 0, none⟩) l.length cap) l.length (l.map verV).flatten) {i : Nat} (hi : i < l.length) : w.cell? ⟨b, 0 + i * 4 + 0, none⟩ = some (.int .i64 ((l.getD i default).1 : Nat)) := by
  rcases Own.open h with ⟨e, -⟩ | ⟨b', c, tl, e, -, -, -, hb⟩
  · cases e
  · simp only [Value.slice.injEq, Option.some.injEq, Addr.mk.injEq, and_true] at e
    obtain ⟨rfl, -⟩ := e
    have hr : ∀ r ∈ l.map verV, r.length = 4 := fun r hr => by obtain ⟨x, -, rfl⟩ := List.mem_map.1 hr; rfl
    have hf := flatk hr (i := i) (j := 0) (by omega) (by simpa using hi)
    have hd : (l.map verV).getD i [] = verV (l.getD i default) := by simp [List.getD_eq_getElem?_getD, hi]
    rw [hd] at hf
    rw [show 0 + i * 4 + 0 = i * 4 + 0 by omega]
    refine hb.cell ?_
    rw [List.getElem?_append_left (by rw [ver_flat]; omega), hf]
    rfl
theorem Keeps.trans {t : Nat} {C : Part → Prop} {w w1 w2 : World} {ow ow1 ow2 : Labels} (h : Keeps t C w w1 ow ow1) (h2 : Keeps t C w1 w2 ow1 ow2) : Keeps t C w w2 ow ow2 := by
  have hs := h.gr.size
  have back : ∀ k, k < w.heap.size → (∃ p, C p ∧ ow1 k = some (t, p)) → ∃ p, C p ∧ ow k = some (t, p) := fun k hk ⟨p, hp, e⟩ => by
    rcases h.old k hk with e1 | ⟨m, e1⟩
    · exact ⟨p, hp, by rw [← e1]; exact e⟩
    · exact m
  refine ⟨⟨h2.gr.os.trans h.gr.os, h2.gr.tape.trans h.gr.tape, h2.gr.output.trans h.gr.output, Nat.le_trans hs h2.gr.size, fun k hk hn => (h2.gr.block k (by omega) (fun m => hn (back k hk m))).trans (h.gr.block k hk hn)⟩, fun k hk => ?_, fun k hk => ?_, h2.end_⟩
  · rcases h2.old k (by omega) with e2 | ⟨m2, e2⟩
    · rcases h.old k hk with e | ⟨m, e⟩
      · exact .inl (e2.trans e)
      · exact .inr ⟨m, e2.trans e⟩
    · exact .inr ⟨back k hk m2, e2⟩
  · by_cases hlt : k < w1.heap.size
    · rcases h2.old k hlt with e | ⟨-, e⟩
      · rcases h.new k hk with e1 | ⟨p, m⟩
        · exact .inl (e.trans e1)
        · exact .inr ⟨p, e.trans m⟩
      · exact .inl e
    · exact h2.new k (by omega)
def DoneC (p : Part) : Prop := p = .held ∨ ∃ key, p = .ver key
theorem done_step {ow : Labels} {t bh : Nat} {w w' : World} {G : List (List Ed)} {pre : List Ed} {lh : List (Str × Value)} {e : Ed} {p : Option Addr} {cap : Nat} {v : Value} (hh : HeldAt ow t w lh (G ++ [pre])) (hbh : ow bh = some (t, .held))
    (hp : ∀ j, some j = (Value.slice p (vers 0 G e.key).length cap).ownBlock → ow j = some (t, .ver e.key)) (hO : Own w' 0 151 4 v (vers 0 (G ++ [pre ++ [e]]) e.key).length ((vers 0 (G ++ [pre ++ [e]]) e.key).map verV).flatten)
    (hob : v.ownBlock = (Value.slice p (vers 0 G e.key).length cap).ownBlock ∨ ∃ j, v.ownBlock = some j ∧ w.heap.size ≤ j) (g : Gr (fun j => some j = (Value.slice p (vers 0 G e.key).length cap).ownBlock ∨ j = bh) w w') (hf : ∀ k, w.heap.size ≤ k → ow k = none) (hbl : bh < w.heap.size) :
    ∃ ow', Keeps t DoneC w w' ow ow' ∧ HeldAt ow' t w' (putK lh e.key v) (G ++ [pre ++ [e]]) ∧ ow' bh = some (t, .held) := by
  have hC : ∀ k, k < w.heap.size → (some k = (Value.slice p (vers 0 G e.key).length cap).ownBlock ∨ k = bh) → ∃ q, (q = Part.held ∨ q = .ver e.key) ∧ ow k = some (t, q) := fun k _ h => by
    rcases h with h | rfl
    · exact ⟨_, .inr rfl, hp k h⟩
    · exact ⟨_, .inl rfl, hbh⟩
  have key : ∃ ow', Keeps t (fun q => q = Part.held ∨ q = .ver e.key) w w' ow ow' ∧ (∀ k, k < w.heap.size → ow' k = ow k) ∧ ∀ j, some j = v.ownBlock → ow' j = some (t, .ver e.key) := by
    rcases hob with hob | ⟨j, hob, hj⟩
    · refine ⟨ow, ⟨g.mono hC, fun _ _ => .inl rfl, fun k hk => .inl (hf k hk), fun k hk => hf k (by have := g.size; omega)⟩, fun _ _ => rfl, fun j hj => ?_⟩
      rw [hob] at hj
      exact hp j hj
    · have hlt := (Own.lt hO hob.symm).2
      refine ⟨relab ow t [(j, .ver e.key)], keeps_relab _ (g.mono hC) hf ?_, fun k hk => relab_old ?_, fun i hi => ?_⟩
      · intro x hx; rw [List.mem_singleton.1 hx]; exact ⟨hj, hlt⟩
      · intro x hx; rw [List.mem_singleton.1 hx]; exact fun e => by dsimp only at e; omega
      · rw [hob] at hi; cases hi; simp [relab]
  obtain ⟨ow', hK, ho, hn⟩ := key
  refine ⟨ow', ?_, fun k => ?_, (ho bh hbl).trans hbh⟩
  · refine ⟨hK.gr.mono (fun k _ ⟨q, hq, e⟩ => ⟨q, hq.imp id (fun e => ⟨_, e⟩), e⟩), fun k hk => (hK.old k hk).imp id (fun ⟨⟨q, hq, e⟩, e2⟩ => ⟨⟨q, hq.imp id (fun e => ⟨_, e⟩), e⟩, e2⟩), hK.new, hK.end_⟩
  · rw [getK_put]
    by_cases hk : k = e.key
    · subst hk
      rw [if_pos rfl]
      refine .inr ⟨?_, v, rfl, hO, hn⟩
      rw [vers_more, if_pos rfl]; simp
    · rw [if_neg hk, vers_more, if_neg (fun e => hk e.symm)]
      rcases hh k with h1 | ⟨h1, u, h2, h3⟩
      · exact .inl h1
      · exact .inr ⟨h1, u, h2, h3.keep hK (by simp [hk])⟩
theorem vers_ahead {G : List (List Ed)} {pre : List Ed} {k : Str} : vers 0 (G ++ [pre]) k = vers 0 G k ++ ((lastE pre k).map fun e => (G.length, e)).toList := by
  rw [vers_append, vers, vers, List.append_nil, Nat.zero_add]
theorem held_get {ow : Labels} {t : Nat} {w : World} {lh : List (Str × Value)} {gs : List (List Ed)} (hh : HeldAt ow t w lh gs) (k : Str) :
    ∃ p cap, (getK lh k).getD (.slice none 0 0) = .slice p (vers 0 gs k).length cap ∧ OwnP ow t (.ver k) w 151 4 (.slice p (vers 0 gs k).length cap) (vers 0 gs k).length ((vers 0 gs k).map verV).flatten := by
  rcases hh k with ⟨h1, h2⟩ | ⟨h1, v, h2, h3⟩
  · rw [h1, h2]; exact ⟨none, 0, rfl, own_nil, fun j hj => by simp [Value.ownBlock] at hj⟩
  · obtain ⟨p, cap, rfl, -⟩ := own_shape h3.1
    exact ⟨p, cap, by rw [h2]; rfl, h3⟩
theorem getD_take_snoc {l : List Ed} {k : Nat} (h : k < l.length) : l.take (k + 1) = l.take k ++ [l.getD k default] := by
  rw [List.take_add_one, List.getElem?_eq_getElem h, List.getD_eq_getElem?_getD, List.getElem?_eq_getElem h]; rfl
theorem ownB {p : Option Addr} {n c m c' : Nat} : (Value.slice p n c).ownBlock = (Value.slice p m c').ownBlock := by cases p <;> rfl
theorem edV_one (e : Ed) : ∀ v ∈ edV e, v.oneCell' = true := fun v hv => by
  simp only [edV, List.mem_cons, List.not_mem_nil, or_false] at hv
  rcases hv with rfl | rfl | rfl <;> rfl
theorem done_ok (ow : Labels) (t b bh at_ : Nat) (G : List (List Ed)) (lh : List (Str × Value)) (l : List Ed) (vl vo m ve : Value) (w : World) (hb : Box w b 97 [.map (some bh), vl, vo, m]) (hbl : ow b = some (t, .base)) (hbh : ow bh = some (t, .held))
    (mh : MapAtK S (fun _ => True) w bh lh) (hh : HeldAt ow t w lh (G ++ [[]])) (hat : at_ = G.length) (hl : RecsAt EdC 3 (fun k => (∃ p, DoneC p ∧ ow k = some (t, p)) ∨ w.heap.size ≤ k) w ve l) (hf : ∀ k, w.heap.size ≤ k → ow k = none) (hsz : G.length ≤ 100000) :
    Ret Try.prog 52 #[.pointer (some ⟨b, 0, none⟩), .int .i64 (at_ : Nat), ve] w fun _ w' => ∃ ow' lh', Keeps t DoneC w w' ow ow' ∧ MapAtK S (fun _ => True) w' bh lh' ∧ HeldAt ow' t w' lh' (G ++ [l]) ∧ ow' bh = some (t, .held) := by
  obtain ⟨pl, cl, rowl, rfl, hl1, hl2, hl3, hR⟩ := hl
  have hbw := hb.lt
  have hmw := mh.lt
  refine ret_of_W Try.func52 rfl (Nat.le_of_ble_eq_true rfl) (res0 rfl) ?_
  refine W.seq ?_
  refine W.region ?_
  refine L.val (x_mv (v := .slice _ _ _) rfl) rfl ?_
  refine L.val (x_len_slice Try.underlying22 rfl) rfl ?_
  refine L.val (x_mv (v := .int _ _) rfl) rfl ?_
  refine L.nil ?_
  refine thn_n ?_
  refine W.block ?_
  refine W.loop (fun m' E w' => ∃ (k : Nat) (owk : Labels) (lhk : List (Str × Value)), m' = l.length - k ∧ E 0 = .pointer (some ⟨b, 0, none⟩) ∧ E 1 = .int .i64 (at_ : Nat) ∧ E 10 = .slice pl l.length cl ∧ E 11 = .int .i64 (l.length : Nat) ∧ E 12 = .int .i64 (k : Nat) ∧ (k ≤ l.length) ∧ (Keeps t DoneC w w' ow owk) ∧ (MapAtK S (fun _ => True) w' bh lhk) ∧ (HeldAt owk t w' lhk (G ++ [l.take k])) ∧ (owk bh = some (t, .held)) ∧ (RecRow EdC 3 (fun k => (∃ p, DoneC p ∧ owk k = some (t, p)) ∨ w'.heap.size ≤ k) w' pl rowl l)) (l.length) ?_ ?_
  ·exact ⟨0, ow, lh, by omega, by first | rfl | exact vi (by omega), by first | rfl | exact vi (by omega), by first | rfl | exact vi (by omega), by first | rfl | exact vi (by omega), by first | rfl | exact vi (by omega), (by first | assumption | omega | rfl), (by exact Keeps.refl hf), (by first | assumption | omega | rfl), (by first | assumption | omega | rfl), (by first | assumption | omega | rfl), (by first | assumption | omega | rfl)⟩
  ·rintro _ E wL13 ⟨k, owk, lhk, em, e0, e1, e10, e11, e12, hk, hK, mh, hh, hbh, hR⟩
   rw [upd_self e0, upd_self e1, upd_self e10, upd_self e11, upd_self e12]
   refine W.seq ?_
   refine W.region ?_
   refine L.val (x_lss rfl rfl) rfl ?_
   refine L.nil ?_
   refine thn_n ?_
   refine W.seq ?_
   refine W.cond (b := _) rfl (fun g13 => ?_) (fun g13 => ?_)
   ·have h13 := of_decide_eq_true g13
    have hlt : k < l.length := by omega
    obtain ⟨bb, o, rfl, hAb, hc⟩ := hR.elem hlt
    have hver := (hR.each k hlt).1
    rw [hver] at hc
    have hb := hb.keep hK hbl (by simp [DoneC])
    have hsk := hK.gr.size
    have hbl2 := hb.lt
    have hml := mh.lt
    obtain ⟨p, cap, hget, hO⟩ := held_get hh (l.getD k default).key
    have hcap : (vers 0 (G ++ [l.take k]) (l.getD k default).key).length ≤ cap := by
      obtain ⟨_, _, e, h⟩ := own_shape hO.1
      cases e; exact h
    have hva := vers_ahead (G := G) (pre := l.take k) (k := (l.getD k default).key)
    have hvl : (vers 0 (G ++ [l.take k]) (l.getD k default).key).length ≤ 100001 := by
      have := vers_len (n := 0) (g := G ++ [l.take k]) (k := (l.getD k default).key)
      simp only [List.length_append, List.length_singleton] at this
      omega
    have hv0 : (vers 0 G (l.getD k default).key).length ≤ 100000 := by
      have := vers_len (n := 0) (g := G) (k := (l.getD k default).key)
      omega
    have hfr : ∀ x ∈ vers 0 G (l.getD k default).key, x.1 < G.length := fun x hx => by have := (vers_from x hx).2.1; omega
    have hV := Gr.refl (fun _ => False) wL13
    generalize hvs : vers 0 (G ++ [l.take k]) (l.getD k default).key = vs at hget hO hva hvl hcap
    refine W.skip ?_
    refine thn_n ?_
    refine W.seq ?_
    refine W.block ?_
    refine W.seq ?_
    refine W.region ?_
    refine L.val (x_ia (j := k) Try.underlying22 kses5_sz34 rfl rfl (by omega) (by omega)) rfl ?_
    refine L.val (x_ldn (vs := edV (l.getD k default)) kses5_ag34 rfl rfl hc) rfl ?_
    refine L.alloc (cs := [S [], S [], Value.bool false]) kses5_zr34 rfl rfl (fun w7 bx7 hw hz7 => ?_)
    have hb := hb.carry hw; have hV := hV.carry hw
    refine L.setRow kses5_ag34 rfl rfl bx7 rfl rfl (edV_one _) (fun wl8 bx7 hw hzl8 => ?_)
    have hb := hb.carryR hw (by omega); have hV := hV.set hw (by omega)
    have hw8 : wL13.heap.size + 1 ≤ wl8.heap.size := by omega
    refine L.nil ?_
    refine thn_n ?_
    refine W.seq ?_
    refine W.drawB kses5_mixed (by kernel_rfl) ?_
    refine LQ.val (fun w hw => x_mv (v := .pointer _) rfl) rfl ?_
    refine LQ.val (fun w hw => x_nil rfl) rfl ?_
    refine LQ.val (fun w hw => x_fa kses5_fo97_0 rfl) rfl ?_
    refine LQ.val (fun w hw => x_ld (v := .map _) kses5_oc94 rfl (hw.keep (hb.cell0 rfl))) rfl ?_
    refine LQ.val (fun w hw => x_fa kses5_fo34_0 rfl) rfl ?_
    refine LQ.val (fun w hw => x_ld (v := S _) kses5_oc9 rfl (hw.keep (bx7.cell0 rfl))) rfl ?_
    refine LQ.val (fun w hw => x_look0 (z := .slice none 0 0) Try.underlying94 (klawS Try.underlying9) (by kernel_rfl) rfl rfl trivial (mh.carry (hV.carry hw)) hget) rfl ?_
    refine LQ.val (fun w hw => x_as (v := .slice _ _ _) rfl) rfl ?_
    refine LQ.nil ?_
    intro w16 hw
    have hb := hb.carry hw; have hV := hV.carry hw; have bx7 := bx7.carry hw
    have hw8 : wL13.heap.size + 1 ≤ w16.heap.size := Nat.le_trans hw8 hw.size
    refine thn_n ?_
    refine W.cut (fun D' E' w' => D' = [] ∧ ∃ p' cap', E' 0 = .pointer (some ⟨b, 0, none⟩) ∧ E' 1 = .int .i64 (at_ : Nat) ∧ E' 7 = .pointer (some ⟨wL13.heap.size, 0, none⟩) ∧ E' 8 = .slice p' (vers 0 G (l.getD k default).key).length cap' ∧ E' 10 = .slice (some ⟨bb, o, none⟩) l.length cl ∧ E' 11 = .int .i64 (l.length : Nat) ∧ E' 12 = .int .i64 (k : Nat) ∧
      Box w' b 97 [.map (some bh), vl, vo, m] ∧ Box w' wL13.heap.size 34 (edV (l.getD k default)) ∧ Bel wL13 w' ∧ wL13.heap.size + 1 ≤ w'.heap.size ∧
      OwnP owk t (.ver (l.getD k default).key) w' 151 4 (.slice p' (vers 0 G (l.getD k default).key).length cap') (vers 0 G (l.getD k default).key).length ((vers 0 G (l.getD k default).key).map verV).flatten) ?_ ?_
    ·refine W.seq ?_
     refine W.region ?_
     refine L.val (x_mv (v := .slice _ _ _) rfl) rfl ?_
     refine L.val (x_len_slice Try.underlying148 rfl) rfl ?_
     refine L.val (x_as (v := .int _ _) rfl) rfl ?_
     refine L.nil ?_
     refine thn_n ?_
     refine W.seq ?_
     refine W.region ?_
     refine L.val (x_mv (v := .int _ _) rfl) rfl ?_
     refine L.val (x_gtr rfl rfl) rfl ?_
     refine L.val (x_mv (v := .bool _) rfl) rfl ?_
     refine' L.group0 8 28 35 35 27 true rfl ?_ ?_ ?_
     rotate_left 1
     ·intro g27
      have h27 := of_decide_eq_true g27
      obtain ⟨bv, hbv⟩ := own_pos hO.1 (by omega)
      rw [hbv] at hO
      have hcv := ver_cell (hO.1.carry hV) (i := vs.length - 1) (by omega)
      refine L.gyes' (dj := 27) (b := _) rfl rfl g27 ?_
      refine L.val (x_mv (v := .slice _ _ _) rfl) rfl ?_
      refine L.gyes' (dj := 27) (b := _) rfl rfl g27 ?_
      refine L.val (x_mv (v := .int _ _) rfl) rfl ?_
      refine L.gyes' (dj := 27) (b := _) rfl rfl g27 ?_
      refine L.val (x_sub rfl rfl (wr64 (by omega))) rfl ?_
      refine L.gyes' (dj := 27) (b := _) rfl rfl g27 ?_
      refine L.val (x_ia (j := vs.length - 1) Try.underlying148 kses5_sz151 (by show Value.slice p _ _ = _; rw [hbv]) rfl (by omega) (by omega)) rfl ?_
      refine L.gyes' (dj := 27) (b := _) rfl rfl g27 ?_
      refine L.val (x_fa kses5_fo151_0 rfl) rfl ?_
      refine L.gyes' (dj := 27) (b := _) rfl rfl g27 ?_
      refine L.val (x_ld (v := .int _ _) kses5_oc3 rfl hcv) rfl ?_
      refine L.gyes' (dj := 27) (b := _) rfl rfl g27 ?_
      refine L.val (x_mv (v := .int _ _) rfl) rfl ?_
      refine L.gyes' (dj := 27) (b := _) rfl rfl g27 ?_
      refine L.val (x_eql rfl rfl) rfl ?_
      refine L.nil ?_
      refine thn_n ⟨rfl, rfl, ?_, rfl⟩
      repeat (first | exact jeq.refl _ _ _ | refine jeq.upd rfl ?_ | refine jeq.jk rfl rfl ?_)
     ·intro g27
      refine L.gno (dj := 27) (b := _) rfl rfl g27 rfl ?_
      refine L.gno (dj := 27) (b := _) rfl rfl g27 rfl ?_
      refine L.gno (dj := 27) (b := _) rfl rfl g27 rfl ?_
      refine L.gno (dj := 27) (b := _) rfl rfl g27 rfl ?_
      refine L.gno (dj := 27) (b := _) rfl rfl g27 rfl ?_
      refine L.gno (dj := 27) (b := _) rfl rfl g27 rfl ?_
      refine L.gno (dj := 27) (b := _) rfl rfl g27 rfl ?_
      refine L.gno (dj := 27) (b := _) rfl rfl g27 rfl ?_
      refine L.nil (thn_n ⟨rfl, rfl, ?_⟩)
      repeat (first | exact jeq.refl _ _ _ | refine jeq.upd rfl ?_ | refine jeq.jk rfl rfl ?_)
     intro J27 j27
     refine L.val (x_and rfl j27) rfl ?_
     refine L.nil ?_
     refine thn_n ?_
     refine W.cond (b := _) rfl (fun g36 => ?_) (fun g36 => ?_)
     ·have h36 := g36
      simp only [Bool.and_eq_true, decide_eq_true_eq] at g36
      have hn0 : 0 < vs.length := by omega
      obtain ⟨e0', hvs0⟩ : ∃ e0', vs = vers 0 G (l.getD k default).key ++ [(G.length, e0')] := by
        cases hle : lastE (l.take k) (l.getD k default).key with
        | none =>
          rw [hle] at hva
          have hva : vs = vers 0 G (l.getD k default).key := by simpa using hva
          have := hfr (vs.getD (vs.length - 1) default) (by rw [← hva, List.getD_eq_getElem?_getD, List.getElem?_eq_getElem (by omega)]; exact List.getElem_mem _)
          omega
        | some e0' => exact ⟨e0', by rw [hva, hle]; rfl⟩
      have hn : vs.length - 1 = (vers 0 G (l.getD k default).key).length := by rw [hvs0]; simp
      have hE8 : Value.slice p (vs.length - 1) cap = .slice p (vers 0 G (l.getD k default).key).length cap := by rw [hn]
      have hO2 : OwnP owk t (.ver (l.getD k default).key) wL13 151 4 (.slice p (vers 0 G (l.getD k default).key).length cap) (vers 0 G (l.getD k default).key).length ((vers 0 G (l.getD k default).key).map verV).flatten := by
        refine ⟨?_, fun j hj => hO.2 j (by rw [ownB (m := (vers 0 G (l.getD k default).key).length) (c' := cap)]; exact hj)⟩
        have h1 := Own.cut hO.1 (j := (vers 0 G (l.getD k default).key).length) (by omega)
        rw [hvs0, ver_cut] at h1
        exact h1
      refine W.region ?_
      refine L.val (x_mv (v := .slice _ _ _) rfl) rfl ?_
      refine L.val (x_mv (v := .int _ _) rfl) rfl ?_
      refine L.val (x_sub rfl rfl (wr64 (by omega))) rfl ?_
      refine L.val (x_shi (j := vs.length - 1) Try.underlying148 kses5_sz151 rfl rfl (by omega) (by omega)) rfl ?_
      refine L.val (x_as (v := .slice _ _ _) rfl) rfl ?_
      refine L.nil ?_
      refine thn_n ?_
      exact ⟨rfl, p, cap, rfl, rfl, rfl, hE8, rfl, rfl, rfl, hb, bx7, hV, hw8, hO2.1.carry hV, hO2.2⟩
     ·have h36 := g36
      have hvs0 : vs = vers 0 G (l.getD k default).key := by
        cases hle : lastE (l.take k) (l.getD k default).key with
        | none => rw [hle] at hva; simpa using hva
        | some e0' =>
          exfalso
          rw [hle] at hva
          have hva : vs = vers 0 G (l.getD k default).key ++ [(G.length, e0')] := hva
          have h1 : 0 < vs.length := by rw [hva]; simp
          have h2 : (vs.getD (vs.length - 1) default).1 = G.length := by rw [hva]; simp
          rw [h2] at g36
          simp only [Bool.and_eq_false_iff, decide_eq_false_iff_not] at g36
          omega
      have hE8 : Value.slice p vs.length cap = .slice p (vers 0 G (l.getD k default).key).length cap := by rw [← hvs0]
      have hO2 : OwnP owk t (.ver (l.getD k default).key) wL13 151 4 (.slice p (vers 0 G (l.getD k default).key).length cap) (vers 0 G (l.getD k default).key).length ((vers 0 G (l.getD k default).key).map verV).flatten := by rw [hvs0] at hO; exact hO
      refine W.skip ?_
      refine thn_n ?_
      exact ⟨rfl, p, cap, rfl, rfl, rfl, hE8, rfl, rfl, rfl, hb, bx7, hV, hw8, hO2.1.carry hV, hO2.2⟩
    ·rintro D E w8 ⟨rfl, p2, cap2, e0, e1, e7, e8, e10, e11, e12, hb, bx7, hV, hw8, hO2, hL2⟩
     rw [upd_self e0, upd_self e1, upd_self e7, upd_self e8, upd_self e10, upd_self e11, upd_self e12]
     have mh := mh.carry hV
     have hb2 := hb.lt
     have hR0' := hR
     have hne : b ≠ bh := fun e => by have := (hK.lab hbl (by omega) (by simp [DoneC])); rw [e, hbh] at this; simp at this
     have hq : ∀ j, some j = (Value.slice p2 (vers 0 G (l.getD k default).key).length cap2).ownBlock → j ≠ b ∧ j ≠ bh ∧ j ≠ wL13.heap.size := fun j hj => by
       have h1 := hL2 j hj
       refine ⟨fun e => ?_, fun e => ?_, fun e => ?_⟩
       · have := (hK.lab hbl (by omega) (by simp [DoneC])); rw [← e, h1] at this; simp at this
       · rw [← e, h1] at hbh; simp at hbh
       · have := hK.end_ j (by omega); rw [h1] at this; cases this
     refine W.drawD (fun j => some j = (Value.slice p2 (vers 0 G (l.getD k default).key).length cap2).ownBlock ∨ j = bh) (fun j => some j = (Value.slice p2 (vers 0 G (l.getD k default).key).length cap2).ownBlock) 12 kses5_mixed (fun wD41 hw => ?_)
     have hb := hb.carry hw; have bx7 := bx7.carry hw; have hO2 := hO2.carry hw; have mh := mh.carry hw
     have hB0 := Gr.refl (fun j => some j = (Value.slice p2 (vers 0 G (l.getD k default).key).length cap2).ownBlock) wD41; have hR0 := Gr.refl (fun j => some j = (Value.slice p2 (vers 0 G (l.getD k default).key).length cap2).ownBlock ∨ j = bh) wD41
     have hD := hw
     refine LAD.take0 (i := 0) rfl (by kernel_rfl) (by kernel_rfl) (by kernel_rfl) (by kernel_rfl) (fun w hw => x_mv (v := .pointer _) rfl) rfl ?_
     refine LAD.take0 (i := 1) rfl (by kernel_rfl) (by kernel_rfl) (by kernel_rfl) (by kernel_rfl) (fun w hw => x_nil rfl) rfl ?_
     refine LAD.take0 (i := 2) rfl (by kernel_rfl) (by kernel_rfl) (by kernel_rfl) (by kernel_rfl) (fun w hw => x_fa kses5_fo97_0 rfl) rfl ?_
     refine LAD.take0 (i := 3) rfl (by kernel_rfl) (by kernel_rfl) (by kernel_rfl) (by kernel_rfl) (fun w hw => x_ld (v := .map _) kses5_oc94 rfl (hw.keepR (fun e => by rcases e with e | e; (have := hq _ e; (try dsimp only at this); omega); (have e : (_ : Nat) = _ := e; (try dsimp only at e); omega)) (hb.cell0 rfl))) rfl ?_
     refine LAD.take0 (i := 4) rfl (by kernel_rfl) (by kernel_rfl) (by kernel_rfl) (by kernel_rfl) (fun w hw => x_fa kses5_fo34_0 rfl) rfl ?_
     refine LAD.take0 (i := 5) rfl (by kernel_rfl) (by kernel_rfl) (by kernel_rfl) (by kernel_rfl) (fun w hw => x_ld (v := S _) kses5_oc9 rfl (hw.keepR (fun e => by rcases e with e | e; (have := hq _ e; (try dsimp only at this); omega); (have e : (_ : Nat) = _ := e; (try dsimp only at e); omega)) (bx7.cell0 rfl))) rfl ?_
     refine LAD.take0 (i := 6) rfl (by kernel_rfl) (by kernel_rfl) (by kernel_rfl) (by kernel_rfl) (fun w hw => x_mv (v := .slice _ _ _) rfl) rfl ?_
     refine LAD.take0 (i := 7) rfl (by kernel_rfl) (by kernel_rfl) (by kernel_rfl) (by kernel_rfl) (fun w hw => x_mv (v := .int _ _) rfl) rfl ?_
     refine LAD.take0 (i := 8) rfl (by kernel_rfl) (by kernel_rfl) (by kernel_rfl) (by kernel_rfl) (fun w hw => x_ldn (vs := _) kses5_ag34 rfl rfl (hw.keepRowR (fun e => by rcases e with e | e; (have := hq _ e; (try dsimp only at this); omega); (have e : (_ : Nat) = _ := e; (try dsimp only at e); omega)) rfl (bx7.row rfl))) rfl ?_
     refine LAD.take0 (i := 9) rfl (by kernel_rfl) (by kernel_rfl) (by kernel_rfl) (by kernel_rfl) (fun w hw => x_build (cells := [.int _ _, S _, S _, .bool _]) kses5_si151 rfl rfl) rfl ?_
     refine LAD.step (rs := [10]) hR0 (fun _ => hB0) (by kernel_rfl) (by simp) ⟨⟨_, rfl, ?_⟩, trivial⟩
     refine L.bs (sz := 4) (cells := _) Try.underlying148 kses5_el151 rfl rfl rfl rfl (fun w51 bx51 hw hz51 => ?_)
     have hB0 := hB0.carry hw; have hR0 := hR0.carry hw; have hO2 := hO2.carry hw; have mh := mh.carry hw
     refine L.nil ?_
     refine thn_n ?_
     refine LAD.step (rs := [11]) hR0 (fun _ => hB0) (by kernel_rfl) (by simp) ⟨⟨_, rfl, ?_⟩, trivial⟩
     refine L.appendN (m := 1) Try.underlying148 kses5_el151 rfl rfl rfl hO2 rfl (holdsN_box bx51) (verV_one (at_, l.getD k default)) (by omega) (by omega) (fun v52 w52 hO52 hg hob52 => ?_)
     have hB0 := hB0.intoR hg (fun k e => e)
     have hR0 := hR0.intoR hg (fun k e => .inl e)
     have mh := mh.carryR hg (fun e => (hq _ e).2.1 rfl)
     refine L.nil ?_
     refine thn_n ?_
     refine LAD.step (rs := [12]) hR0 (fun _ => hB0) (by kernel_rfl) (by simp) ⟨⟨_, rfl, ?_⟩, trivial⟩
     refine L.mapsetK Try.underlying94 (klawS Try.underlying9) rfl rfl trivial rfl mh (fun w49 mh49 hw hz49 => ?_)
     have hR0 := hR0.intoR hw (fun k e => .inr e)
     have hall : Gr (fun j => some j = (Value.slice p2 (vers 0 G (l.getD k default).key).length cap2).ownBlock ∨ j = bh) wL13 w49 := ((hV.mono (fun _ _ f => f.elim)).carry hD).trans hR0
     have hvm : vers 0 (G ++ [l.take k ++ [l.getD k default]]) (l.getD k default).key = vers 0 G (l.getD k default).key ++ [(at_, l.getD k default)] := by rw [vers_more, if_pos rfl, hat]
     have hobn : ∀ j, some j = v52.ownBlock → j ≠ bh := fun j hj => by
       rcases hob52 with e | e
       · rw [e] at hj; exact (hq j hj).2.1
       · rw [e] at hj; cases hj; have := hD.size; omega
     have hO49 : Own w49 0 151 4 v52 (vers 0 (G ++ [l.take k ++ [l.getD k default]]) (l.getD k default).key).length ((vers 0 (G ++ [l.take k ++ [l.getD k default]]) (l.getD k default).key).map verV).flatten := by
       rw [hvm, List.length_append, List.map_append, List.flatten_append]
       exact Own.carryR hO52 hw (fun j hj e => hobn j hj e)
     obtain ⟨ow2, hK2', hh2, hbh2⟩ := done_step hh hbh hL2 hO49 (hob52.imp id (fun e => ⟨_, e, by have := hD.size; omega⟩)) hall hK.end_ hml
     have hK2 := hK.trans hK2'
     have mh2 := mh49
     have hR2 : RecRow EdC 3 (fun k => (∃ p, DoneC p ∧ ow2 k = some (t, p)) ∨ w49.heap.size ≤ k) w49 (some ⟨bb, o, none⟩) rowl l := by
       refine (RecRow.carryR (A := fun k => (∃ p, DoneC p ∧ owk k = some (t, p)) ∨ wL13.heap.size ≤ k) (hR0' : RecRow EdC 3 (fun k => (∃ p, DoneC p ∧ owk k = some (t, p)) ∨ wL13.heap.size ≤ k) wL13 (some ⟨bb, o, none⟩) rowl l) hall (fun j e => ?_)).mono (fun j hj e => ?_)
       · rcases e with e | e
         · exact .inl ⟨_, .inr ⟨_, rfl⟩, hL2 j e⟩
         · exact .inl ⟨_, .inl rfl, by rw [e]; exact hbh⟩
       · rcases e with ⟨q, hq, e⟩ | e
         · by_cases hlt : j < wL13.heap.size
           · rcases hK2'.old j hlt with e2 | ⟨-, e2⟩
             · exact .inl ⟨q, hq, by rw [← e2]; exact e⟩
             · rw [e2] at e; cases e
           · exact .inr (by omega)
         · omega
     refine L.nil ?_
     refine thn_n ?_
     refine LAD.done (by kernel_rfl) (by kernel_rfl) hR0 ?_
     have hb := hb
     have bx7 := bx7
     refine blk_n ?_
     refine thn_n ?_
     refine W.region ?_
     refine L.val (x_add rfl rfl (wr64 (by omega))) rfl ?_
     refine L.val (x_mv (v := .int _ _) rfl) rfl ?_
     refine L.nil ?_
     refine thn_n ⟨rfl, ?_⟩
     refine ⟨_, ?_, k + 1, ow2, _, rfl, by first | rfl | exact vi (by omega), by first | rfl | exact vi (by omega), by first | rfl | exact vi (by omega), by first | rfl | exact vi (by omega), by first | rfl | exact vi (by omega), (by first | assumption | omega | rfl), (by exact hK2), (by exact mh2), (by rw [getD_take_snoc hlt]; exact hh2), (by exact hbh2), (by exact hR2)⟩
     omega
   ·have h13 := dlt_f g13
    refine W.exit (thn_x (thn_x (blk_hit ?_)))
    refine fin_mk (.inl rfl) ?_
    exact ⟨owk, lhk, hK, mh, by rw [show k = l.length by omega, List.take_length] at hh; exact hh, hbh⟩
end Go.Gx
namespace Go.Gx
open Go.Proofs
theorem kses6_en52 : Go.Proofs.Enters Try.prog 52 := Go.Proofs.enters_of Try.func52 (by kernel_rfl) rfl
theorem kses6_si97 : structInfo Try.prog 97 = some ([(0, 1), (1, 1), (2, 1), (3, 1)], [Value.map none, Value.slice none 0 0, Value.map none, Value.int .i64 0]) := by kernel_rfl
theorem new_ok (ow : Labels) (t : Nat) (v : Value) (l : List Ed) (w : World) (hl : RecsAt EdC 3 (fun k => w.heap.size ≤ k) w v l) (hf : ∀ k, w.heap.size ≤ k → ow k = none) (ht : ∀ k p, ow k ≠ some (t, p)) (he : ∀ e ∈ l, EdOk e) :
    Ret Try.prog 15 #[v] w fun r w' => ∃ b bh bo lh ow', r = .pointer (some ⟨b, 0, none⟩) ∧ Goes t w w' ow ow' ∧ BaseAt ow' t w' b ⟨l, [], []⟩ bh bo (.slice none 0 0) lh [] [] := by
  obtain ⟨pl, cl, rowl, rfl, hl1, hl2, hl3, hR⟩ := hl
  refine ret_of_W Try.func15 rfl (Nat.le_of_ble_eq_true rfl) (res1 rfl) ?_
  have hB := Gr.refl (fun _ => False) w
  refine W.seq ?_
  refine W.region ?_
  refine L.val (x_as (v := .pointer _) rfl) rfl ?_
  refine L.nil ?_
  refine thn_n ?_
  refine W.seq ?_
  refine W.region ?_
  refine L.mkmapK (κ := Str) (K := S) (V := fun _ => True) Try.underlying94 rfl (fun w4 mp4 hw hz4 => ?_)
  have hB := hB.carry hw; have hR := hR.carry hw
  refine L.mkmapK (κ := Int) (K := I64) (V := fun _ => True) Try.underlying95 rfl (fun w5 mp5 hw hz5 => ?_)
  have hB := hB.carry hw; have hR := hR.carry hw; have mp4 := mp4.carry hw
  refine L.val (x_build (cells := [.map _, .slice _ _ _, .map _, .int _ _]) kses6_si97 rfl rfl) rfl ?_
  refine L.box (cs := _) rfl rfl (fun w7 bx7 hw hz7 => ?_)
  have hB := hB.carry hw; have hR := hR.carry hw; have mp4 := mp4.carry hw; have mp5 := mp5.carry hw
  have hsz := hB.size
  have r7 : relab ow t [(w5.heap.size, .base), (w.heap.size, .held), (w4.heap.size, .opens)] w5.heap.size = some (t, .base) := by simp [relab]
  have r4 : relab ow t [(w5.heap.size, .base), (w.heap.size, .held), (w4.heap.size, .opens)] w.heap.size = some (t, .held) := by simp [relab, List.find?, beq_eq_false_iff_ne.2 (show w5.heap.size ≠ w.heap.size by omega)]
  have r5 : relab ow t [(w5.heap.size, .base), (w.heap.size, .held), (w4.heap.size, .opens)] w4.heap.size = some (t, .opens) := by simp [relab, List.find?, beq_eq_false_iff_ne.2 (show w5.heap.size ≠ w4.heap.size by omega), beq_eq_false_iff_ne.2 (show w.heap.size ≠ w4.heap.size by omega)]
  have hK : Keeps t (fun _ => False) w w7 ow (relab ow t [(w5.heap.size, .base), (w.heap.size, .held), (w4.heap.size, .opens)]) := by
    refine keeps_relab _ (hB.mono (fun _ _ f => f.elim)) hf (fun x hx => ?_)
    simp only [List.mem_cons, List.not_mem_nil, or_false] at hx
    rcases hx with rfl | rfl | rfl <;> (dsimp only; omega)
  refine L.val (x_as (v := .pointer _) rfl) rfl ?_
  refine L.nil ?_
  refine thn_n ?_
  refine W.seq ?_
  refine W.region ?_
  refine L.val (x_mv (v := .pointer _) rfl) rfl ?_
  refine L.val (x_mv (v := .slice _ _ _) rfl) rfl ?_
  refine L.ret (x_call kses6_en52 rfl) rfl (done_ok (relab ow t [(w5.heap.size, .base), (w.heap.size, .held), (w4.heap.size, .opens)]) t w5.heap.size w.heap.size 0 [] [] l _ _ _ _ w7 bx7 r7 r4 mp4 (fun k => .inl ⟨rfl, rfl⟩) rfl ⟨pl, cl, rowl, rfl, hl1, hl2, hl3, hR.mono (fun j hj h => by
  show w.heap.size ≤ j
  rcases h with ⟨p, -, h⟩ | h
  · by_cases hlt : w.heap.size ≤ j
    · exact hlt
    · exfalso
      rw [relab_old (fun x hx => by
        simp only [List.mem_cons, List.not_mem_nil, or_false] at hx
        rcases hx with rfl | rfl | rfl <;> (dsimp only; omega))] at h
      exact ht _ _ h
  · omega)⟩ hK.end_ (by simp)) ?_
  rintro _ w10 ⟨ow2, lh2, hK2, mh2, hh2, hl2⟩
  refine L.nil ?_
  refine thn_n ?_
  refine W.seq ?_
  refine W.region ?_
  refine L.val (x_mv (v := .pointer _) rfl) rfl ?_
  refine L.val (x_as (v := .pointer _) rfl) rfl ?_
  refine L.nil ?_
  refine thn_n ?_
  refine W.ret (fin_mk (.inr rfl) ?_)
  have hs7 := bx7.lt
  refine ⟨_, w.heap.size, w4.heap.size, lh2, ow2, rfl, hK.goes.trans hK2.goes, ?_⟩
  exact ⟨hK2.lab r7 hs7 (by simp [DoneC]), bx7.keep hK2 r7 (by simp [DoneC]), hl2, mh2, hh2, hK2.lab r5 (by omega) (by simp [DoneC]), mp5.keep hK2 r5 (by simp [DoneC]), fun id => .inl ⟨rfl, fun h => by simp at h⟩, ⟨own_nil, fun j hj => by simp [Value.ownBlock] at hj⟩, RowsC.nil, fun e h => he e (by simpa using h), hK2.end_⟩
theorem getD_set {α : Type} {l : List α} {i j : Nat} {x d : α} (hi : i < l.length) : (l.set i x).getD j d = if j = i then x else l.getD j d := by
  simp only [List.getD_eq_getElem?_getD, List.getElem?_set]
  by_cases h : i = j
  · subst h; simp [hi]
  · rw [if_neg h, if_neg (fun e => h e.symm)]
def SesC (i : Nat) (p : Part) : Prop := p = .ses i ∨ p = .eds i ∨ p = .own i ∨ p = .asked i ∨ p = .heads i
theorem BaseAt.upd {ow ow' : Labels} {t b bh bo i bs : Nat} {w w' : World} {s : Bs} {vl : Value} {lh : List (Str × Value)} {lo : List (Int × Value)} {rows : List (List Value)} {s' : Sx} (h : BaseAt ow t w b s bh bo vl lh lo rows) (g : Keeps t (SesC i) w w' ow ow')
    (hi : i < s.all.length) (hlo : getK lo ((i + 1 : Nat) : Int) = some (.pointer (some ⟨bs, 0, none⟩))) (hs : SesAt ow' t w' i bs s') (ho : s'.opn = true) : BaseAt ow' t w' b (s.upd ((i + 1 : Nat) : Int) s') bh bo vl lh lo rows := by
  have hlen : (s.upd ((i + 1 : Nat) : Int) s').all.length = s.all.length := by simp [Bs.upd]
  have hat : ∀ j, (s.upd ((i + 1 : Nat) : Int) s').all.getD j default = if j = i then s' else s.all.getD j default := fun j => by
    simp only [Bs.upd, Int.toNat_natCast, Nat.add_sub_cancel]
    exact getD_set hi
  refine ⟨g.lab h.lab h.box.lt (by simp [SesC]), ?_, g.lab h.labH h.mapH.lt (by simp [SesC]), h.mapH.keep g h.labH (by simp [SesC]), h.held.keep g (by simp [SesC]), g.lab h.labO h.mapO.lt (by simp [SesC]), h.mapO.keep g h.labO (by simp [SesC]), fun id => ?_, h.log.keep g (by simp [SesC]), rows_keep h.rows g, h.ok, g.end_⟩
  · rw [hlen]; exact h.box.keep g h.lab (by simp [SesC])
  · rw [hlen]
    by_cases hid : id = ((i + 1 : Nat) : Int)
    · refine .inr ⟨i, bs, hid, hi, ?_, by rw [hid]; exact hlo, ?_⟩
      · rw [hat, if_pos rfl]; exact ho
      · rw [hat, if_pos rfl]; exact hs
    · rcases h.opens id with ⟨h1, h2⟩ | ⟨j, b1, h1, h2, h3, h4, h5⟩
      · refine .inl ⟨h1, fun ⟨a1, a2, a3⟩ => h2 ⟨a1, a2, ?_⟩⟩
        rw [hat, if_neg (by omega)] at a3
        exact a3
      · have hj : j ≠ i := fun e => hid (by rw [h1, e])
        refine .inr ⟨j, b1, h1, h2, ?_, h4, ?_⟩
        · rw [hat, if_neg hj]; exact h3
        · rw [hat, if_neg hj]
          exact h5.keep g ⟨by simp [SesC, hj], by simp [SesC, hj], by simp [SesC, hj], by simp [SesC, hj], by simp [SesC, hj]⟩
theorem BaseAt.bel {ow : Labels} {t b bh bo : Nat} {w w' : World} {s : Bs} {vl : Value} {lh : List (Str × Value)} {lo : List (Int × Value)} {rows : List (List Value)} (h : BaseAt ow t w b s bh bo vl lh lo rows) (g : Bel w w') : BaseAt ow t w' b s bh bo vl lh lo rows := by
  have hK : Keeps t (fun _ => False) w w' ow ow := Keeps.bel h.free g
  refine ⟨h.lab, h.box.carry g, h.labH, h.mapH.carry g, h.held.keep hK (by simp), h.labO, h.mapO.carry g, fun id => ?_, h.log.keep hK (by simp), rows_keep h.rows hK, h.ok, hK.end_⟩
  rcases h.opens id with h1 | ⟨j, b1, h1, h2, h3, h4, h5⟩
  · exact .inl h1
  · exact .inr ⟨j, b1, h1, h2, h3, h4, h5.keep hK ⟨by simp, by simp, by simp, by simp, by simp⟩⟩
theorem cnt_more {la : List (Str × Value)} {ks : List Str} {k : Str} {n : Nat} (h : CntMap la ks) (hn : getK la k = none ∧ n = 0 ∨ getK la k = some (.int .i64 (n : Nat))) : CntMap (putK la k (.int .i64 ((n + 1 : Nat) : Int))) (ks ++ [k]) := fun x => by
  rw [getK_put]
  by_cases hx : x = k
  · subst hx
    rw [if_pos rfl]
    refine .inr ⟨n + 1, rfl, by omega, ?_, by simp⟩
    rw [List.length_append, List.length_singleton]
    rcases hn with ⟨-, rfl⟩ | hn
    · omega
    · rcases h x with ⟨h1, -⟩ | ⟨m, h1, -, h2, -⟩
      · rw [h1] at hn; cases hn
      · rw [h1] at hn
        simp only [Option.some.injEq, Value.int.injEq, true_and] at hn
        omega
  · rw [if_neg hx]
    rcases h x with ⟨h1, h2⟩ | ⟨m, h1, h2, h3, h4⟩
    · exact .inl ⟨h1, by simp [h2, hx]⟩
    · exact .inr ⟨m, h1, h2, by simp; omega, by simp [h4]⟩
theorem cnt_get {la : List (Str × Value)} {ks : List Str} (h : CntMap la ks) (k : Str) : ∃ n : Nat, (getK la k).getD (.int .i64 0) = .int .i64 (n : Nat) ∧ n ≤ ks.length ∧ (getK la k = none ∧ n = 0 ∨ getK la k = some (.int .i64 (n : Nat))) ∧ (0 < n ↔ k ∈ ks) := by
  rcases h k with ⟨h1, h2⟩ | ⟨m, h1, h2, h3, h4⟩
  · exact ⟨0, by rw [h1]; rfl, by omega, .inl ⟨h1, rfl⟩, by simp [h2]⟩
  · exact ⟨m, by rw [h1]; rfl, h3, .inr h1, by simp [h4]; omega⟩
end Go.Gx
