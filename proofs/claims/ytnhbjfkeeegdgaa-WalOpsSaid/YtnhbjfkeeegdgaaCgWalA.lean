/- Arguments that are acts of the laws of logs, opened as they are read. Conditions: none. -/
import Derived.Test.YtnhbjfkeeegdgaaCgDef
import Derived.Test.YtnhbjfkeeegdgaaCgWal9
namespace Go.Gx
open Go.ChangeShapes Go.WideShapes Go.Deep Go.RowKit
section
variable {H : Type} {enc : TypeId × Value → H} {P : Program} {w : World} {base : Nat} {spare : Nat → Bool} {held : Bool}
def StzC (_ : Nat → Prop) (_ : World) (cs : List Value) (x : Str) : Prop := cs = [S x] ∧ x.length ≤ 140737488355328
theorem stz_open {e : TypeId} (he : P.underlying e = some .string) (fuel : Nat) (cs : List Value) (x : DataW H × List MemPlace) (h : DataW.trod enc P w base spare held fuel e cs = some x) (hw : (x.1.weights P e).all (· ≤ reachBytes) = true) : ∃ s, StzC (fun _ => False) w cs s := by
  obtain ⟨s, e1, e2, -⟩ := DataW.trod_string he (x := x) h
  refine ⟨s.data.toList, by rw [e1]; simp [S], ?_⟩
  rw [e2] at hw
  have h3 := reachBytes_lt
  have : s.data.toList.length ≤ reachBytes := by simpa [DataW.weights] using hw
  omega
theorem strz_open {t e : TypeId} {fuel : Nat} {v : Value} {x : DataW H × List MemPlace} (ht : P.underlying t = some (.slice e)) (he : P.underlying e = some .string) (hc : P.cellsOf e = 1) (hb : 2 ≤ P.bytesOf e)
    (h : DataW.trod enc P w base spare held fuel t [v] = some x) (hw : (x.1.weights P t).all (· ≤ reachBytes) = true) : ∃ l, StrsAt (fun _ => False) w v l ∧ ∀ s ∈ l, s.length ≤ 140737488355328 := by
  obtain ⟨l, p, cap, row, rfl, h1, h2, h3, hR⟩ := recs_open (Cc := StzC) ht hc (by omega) hb (stz_open he) h hw
  have hlen : ∀ s ∈ l, s.length ≤ 140737488355328 := fun s hs => by
    obtain ⟨i, hi, rfl⟩ := List.getElem_of_mem hs
    have := (hR.each i hi).2
    rwa [List.getD_eq_getElem?_getD, List.getElem?_eq_getElem hi] at this
  refine ⟨l, ⟨p, cap, rfl, h1, h2, h3, fun s hs => by have := hlen s hs; omega, fun hne => ?_⟩, hlen⟩
  obtain ⟨b, o, hp, hA, hcell⟩ := hR.at_ hne
  refine ⟨b, o, hp, hA, fun i hi => ?_⟩
  have := hcell i 0 hi (by omega)
  rw [(hR.each i hi).1, Nat.mul_one, Nat.add_zero] at this
  rw [this, List.getD_eq_getElem?_getD]; simp [List.getElem?_eq_getElem hi]
theorem bls_open {t e : TypeId} {fuel : Nat} {v : Value} {x : DataW H × List MemPlace} (ht : P.underlying t = some (.slice e)) (he : P.underlying e = some .bool) (hc : P.cellsOf e = 1) (hb : 1 ≤ P.bytesOf e)
    (h : DataW.trod enc P w base spare held fuel t [v] = some x) (hw : (x.1.weights P t).all (· ≤ reachBytes) = true) : ∃ l, BlsAt (fun _ => False) w v l := by
  rcases open_slice1 ht hc h with ⟨h1, rfl⟩ | ⟨a, len, cap, m, n, V, D, Pl, h1, -, hl, hm, hmm, rfl, hx⟩
  · simp only [List.cons.injEq, and_true] at h1
    exact ⟨[], none, 0, h1, Nat.le_refl _, by simp, by simp, fun h => absurd rfl h⟩
  · simp only [List.cons.injEq, and_true] at h1
    subst h1
    have hlm : len ≤ m := by rw [hmm]; split <;> omega
    have hs : ∀ i, i < len → ∃ s : Bool, V i = .bool s := fun i hi => by
      obtain ⟨s, h1, -⟩ := DataW.trod_bool he (hx i (by omega)).2
      simp only [List.cons.injEq, and_true] at h1
      exact ⟨s, h1⟩
    obtain ⟨f, hf⟩ := choose_lt (α := Bool) hs
    have hby := (weights_slice ht hw).1
    have hlen : len ≤ 140737488355328 := by
      have h1 : len * P.bytesOf e ≤ reachBytes := Nat.le_trans (Nat.mul_le_mul_right _ (by simp)) hby
      have h2 : len * 1 ≤ len * P.bytesOf e := Nat.mul_le_mul_left _ hb
      have h3 := reachBytes_lt
      omega
    have e0 : ((List.range len).map f).length = len := by simp
    refine ⟨(List.range len).map f, some a, cap, by rw [e0], by rw [e0]; exact hl, hm, by rw [e0]; exact hlen, fun hne => ?_⟩
    have h0 : 0 < len := by rcases Nat.eq_zero_or_pos len with h | h; exact absurd (by rw [h]; rfl) hne; exact h
    have hc0 := (hx 0 (by omega)).1
    obtain ⟨b, o, spot⟩ := a
    have hspot : spot = none := by simpa [Addr.add] using World.cell?_spot hc0
    subst hspot
    refine ⟨b, o, rfl, fun f => f, fun i hi => ?_⟩
    rw [e0] at hi
    have hci := (hx i (by omega)).1
    rw [add_plain] at hci
    rw [hci, hf i hi, List.getD_eq_getElem?_getD, List.getElem?_map, List.getElem?_range hi]; rfl
structure FaT (P : Program) (tF eB : TypeId) (f0 f1 f2 : Field) : Prop where
  hB : P.underlying tF = some (.struct #[f0, f1, f2])
  h0 : P.underlying f0.type = some (.slice eB)
  hb : P.underlying eB = some .bool
  h1 : P.underlying f1.type = some (.int .i64)
  h2 : P.underlying f2.type = some (.int .i64)
  o : f0.offset = 0 ∧ f1.offset = 1 ∧ f2.offset = 2
  c : P.cellsOf f0.type = 1 ∧ P.cellsOf f1.type = 1 ∧ P.cellsOf f2.type = 1 ∧ P.cellsOf tF = 3 ∧ P.cellsOf eB = 1 ∧ 1 ≤ P.bytesOf eB
theorem fa_open {tF eB : TypeId} {f0 f1 f2 : Field} (G : FaT P tF eB f0 f1 f2) (fuel : Nat) (cs : List Value) (x : DataW H × List MemPlace) (h : DataW.trod enc P w base spare held fuel tF cs = some x) (hw : (x.1.weights P tF).all (· ≤ reachBytes) = true) :
    ∃ vk, ∃ l : List Bool, ∃ t c : Int, cs = [vk, .int .i64 t, .int .i64 c] ∧ BlsAt (fun _ => False) w vk l := by
  obtain ⟨xs, n, rfl, rfl, hlen, hxl, hf⟩ := DataW.trod_struct G.hB h
  obtain ⟨o0, o1, o2⟩ := G.o
  obtain ⟨c0, c1, c2, c3, c4, c5⟩ := G.c
  rw [c3] at hlen
  match cs, hlen with
  | [v0, v1, v2], _ =>
    match xs, hxl with
    | [x0, x1, x2], _ =>
      have g0' := hf 0 f0 rfl
      have g1' := hf 1 f1 rfl
      have g2' := hf 2 f2 rfl
      rw [o0, c0] at g0'; rw [o1, c1] at g1'; rw [o2, c2] at g2'
      have w0 := weights_at G.hB hw (i := 0) (f := f0) (d := x0.1) rfl rfl
      obtain ⟨l, hl⟩ := bls_open G.h0 G.hb c4 c5 (x := x0) g0' w0
      obtain ⟨k1, e1, -, -⟩ := DataW.trod_int G.h1 (x := x1) g1'
      obtain ⟨k2, e2, -, -⟩ := DataW.trod_int G.h2 (x := x2) g2'
      simp at e1 e2
      exact ⟨v0, l, k1, k2, by rw [e1, e2], hl⟩
structure WcT (P : Program) (tB tF eS : TypeId) (g0 g1 g2 g3 : Field) : Prop where
  hB : P.underlying tB = some (.struct #[g0, g1, g2, g3])
  h0 : P.underlying g0.type = some (.int .i64)
  h1 : P.underlying g1.type = some (.slice eS)
  hs : P.underlying eS = some .string
  h2 : P.underlying g2.type = some (.int .i64)
  h3 : g3.type = tF
  o : g0.offset = 0 ∧ g1.offset = 1 ∧ g2.offset = 2 ∧ g3.offset = 3
  c : P.cellsOf g0.type = 1 ∧ P.cellsOf g1.type = 1 ∧ P.cellsOf g2.type = 1 ∧ P.cellsOf tF = 3 ∧ P.cellsOf tB = 6 ∧ P.cellsOf eS = 1 ∧ 2 ≤ P.bytesOf eS
theorem wc_open {tB tF eS eB : TypeId} {g0 g1 g2 g3 f0 f1 f2 : Field} (G : WcT P tB tF eS g0 g1 g2 g3) (F : FaT P tF eB f0 f1 f2) (fuel : Nat) (cs : List Value) (x : DataW H × List MemPlace) (h : DataW.trod enc P w base spare held fuel tB cs = some x) (hw : (x.1.weights P tB).all (· ≤ reachBytes) = true) :
    ∃ a, WcC (fun _ => False) w cs a := by
  obtain ⟨xs, n, rfl, rfl, hlen, hxl, hf⟩ := DataW.trod_struct G.hB h
  obtain ⟨o0, o1, o2, o3⟩ := G.o
  obtain ⟨c0, c1, c2, c3, c4, c5, c6⟩ := G.c
  rw [c4] at hlen
  match cs, hlen with
  | [v0, v1, v2, v3, v4, v5], _ =>
    match xs, hxl with
    | [x0, x1, x2, x3], _ =>
      have g0' := hf 0 g0 rfl
      have g1' := hf 1 g1 rfl
      have g2' := hf 2 g2 rfl
      have g3' := hf 3 g3 rfl
      rw [o0, c0] at g0'; rw [o1, c1] at g1'; rw [o2, c2] at g2'; rw [o3, G.h3, c3] at g3'
      have w1 := weights_at G.hB hw (i := 1) (f := g1) (d := x1.1) rfl rfl
      have w3 := weights_at G.hB hw (i := 3) (f := g3) (d := x3.1) rfl rfl
      rw [G.h3] at w3
      obtain ⟨k0, e0, -, -⟩ := DataW.trod_int G.h0 (x := x0) g0'
      obtain ⟨bs, hbs, hbl⟩ := strz_open G.h1 G.hs c5 c6 (x := x1) g1' w1
      obtain ⟨k2, e2, -, -⟩ := DataW.trod_int G.h2 (x := x2) g2'
      obtain ⟨vk, ks, t, c, e3, hk⟩ := fa_open F _ _ x3 g3' w3
      simp at e0 e2
      have e3 : [v3, v4, v5] = [vk, .int .i64 t, .int .i64 c] := e3
      simp only [List.cons.injEq, and_true] at e3
      exact ⟨⟨k0, bs, k2, ks, t, c⟩, v1, vk, by rw [e0, e2, e3.1, e3.2.1, e3.2.2]; rfl, hbs, hk, hbl⟩
theorem wcs_arg {tE tB tF eS eB : TypeId} {g0 g1 g2 g3 f0 f1 f2 : Field} (hE : P.underlying tE = some (.slice tB)) (hb : 2 ≤ P.bytesOf tB) (G : WcT P tB tF eS g0 g1 g2 g3) (F : FaT P tF eB f0 f1 f2) {W : World} {base : Nat} {v : Value} {d : DataW H} {p : List MemPlace}
    (hv : Value.okWide P W .any base tE v) (h : DataW.Trod enc P W 0 (fun _ => true) true tE v d p) (hw : (d.weights P tE).all (· ≤ reachBytes) = true) : ∃ l, RecsAt WcC 6 (fun _ => False) W v l :=
  recs_arg hE G.c.2.2.2.2.1 (by omega) hb (fun fuel cs x h hw => wc_open G F fuel cs x h hw) hv h hw
theorem int_arg {tT : TypeId} (ht : P.underlying tT = some (.int .i64)) {W : World} {base : Nat} {v : Value} {d : DataW H} {p : List MemPlace}
    (hv : Value.okWide P W .any base tT v) (h : DataW.Trod enc P W 0 (fun _ => true) true tT v d p) : ∃ n : Int, v = .int .i64 n ∧ True := by
  obtain ⟨fuel, h⟩ := h
  have hcells : v.cells.toList = [v] := by
    unfold Value.okWide at hv
    rw [ht] at hv
    cases v <;> simp_all [Value.cells, Cell.okWide, Cell.ok]
  rw [hcells] at h
  obtain ⟨k0, e0, -, -⟩ := DataW.trod_int ht h
  simp at e0
  exact ⟨k0, e0, trivial⟩
end
end Go.Gx
namespace Go.Gx
open Go.Proofs
def sumN (l : List Str) : Nat := (l.map fun s => s.length + 13).sum
theorem sumN_take {l : List Str} {k : Nat} (h : k < l.length) : sumN (l.take (k + 1)) = sumN (l.take k) + ((l.getD k []).length + 13) := by
  unfold sumN
  rw [take_snoc (d := []) h, List.map_append, List.sum_append]; simp
theorem need_sumN (l : List Str) : need l ≤ sumN l := by
  unfold need sumN
  induction l with
  | nil => simp
  | cons s l ih => simp only [List.map_cons, List.sum_cons]; omega
theorem sumN_le {l : List Str} (h : ∀ s ∈ l, s.length ≤ 140737488355328) : sumN l ≤ l.length * 140737488355341 := by
  unfold sumN
  induction l with
  | nil => simp
  | cons s l ih =>
    have h1 := h s (by simp)
    have h2 := ih (fun x hx => h x (List.mem_cons_of_mem _ hx))
    simp only [List.map_cons, List.sum_cons, List.length_cons]; omega
theorem comD_len (D : Dk) (p : Pt) (at' : Nat) (s : Str) : (comD D p at' s).pl.length = D.pl.length := by
  unfold comD
  show (apD (wrD (flD (wrD (wrs D p at' s) (p.ep % 2) (zeros 64))) (p.ep % 2) (hdrS p)).pl _).length = _
  rw [apD_len]
  show (apD (wrD (wrs D p at' s) (p.ep % 2) (zeros 64)).pl _).length = _
  rw [apD_len]
  rfl
theorem comD_ops {D : Dk} (hok : DkOk D) {p : Pt} {at' : Nat} {s : Str} (h6 : 6 ≤ D.pl.length) (hh : p.half ≤ 1) (hr : at' + s.length ≤ roomN D.pl.length) : (comD D p at' s).ops ≤ D.ops + s.length / 64 + 6 ∧ D.ops ≤ (comD D p at' s).ops := by
  have hal := allS_len hok (s := s) h6 hh (at' := at') (by omega)
  have e : (comD D p at' s).ops = D.ops + (if s = [] then 0 else ((allS D p at' s).length + 63) / 64) + 1 + 1 + 1 + 1 := rfl
  rw [e, hal]
  split
  · omega
  · omega
structure After (D : Dk) (q : Pt) (l : List Str) (r : Int × Dk × Pt) : Prop where
  len : r.2.1.pl.length = D.pl.length
  ops : r.2.1.ops ≤ D.ops + need l / 64 + 6 ∧ D.ops ≤ r.2.1.ops
  err : r.1 ≠ 0 → r.2.1 = D ∧ r.2.2 = q
  ep : r.2.2.ep ≤ q.ep + 1
  cnt : r.2.2.cnt ≤ q.cnt + l.length
  ok : q.ep + 1 < 1000000000 → q.cnt + l.length < 2000000000 → D.ops + need l / 64 + 6 < 900000000 → QOk r.2.1 r.2.2
theorem After.same {D : Dk} {q : Pt} (h : QOk D q) (l : List Str) (e : Int) : After D q l (e, D, q) :=
  ⟨rfl, by dsimp only; omega, fun _ => ⟨rfl, rfl⟩, by dsimp only; omega, by dsimp only; omega, fun _ _ _ => h⟩
theorem After.com {D : Dk} {q p : Pt} {l : List Str} {at' : Nat} {s : Str} (h : QOk D q) (hok : DkOk D) (hs : s.length ≤ need l) (hh : p.half ≤ 1) (hr : at' + s.length ≤ roomN D.pl.length) (ht : p.tail ≤ roomN D.pl.length) (hep : p.ep ≤ q.ep + 1) (hcn : p.cnt ≤ q.cnt + l.length) : After D q l (0, comD D p at' s, p) := by
  have ho := comD_ops hok (s := s) (at' := at') h.h6 hh hr
  have hl := comD_len D p at' s
  have hd : s.length / 64 ≤ need l / 64 := Nat.div_le_div_right hs
  refine ⟨hl, by dsimp only; omega, fun e => absurd rfl e, hep, hcn, fun h1 h2 h3 => ⟨by dsimp only; rw [hl]; exact h.h6, h.arm, h.live, rfl, by dsimp only; omega, hh, by dsimp only; rw [hl]; exact ht, by dsimp only; omega, by dsimp only; omega⟩⟩
theorem app_after {D : Dk} {q : Pt} (h : QOk D q) (hok : DkOk D) (l : List Str) : After D q l (appA D q l) := by
  unfold appA
  split
  · split
    · exact After.same h l _
    · rename_i h2
      exact After.com h hok (makeS_le l) h.half (by omega) (by show q.tail + _ ≤ _; omega) (Nat.le_refl _) (Nat.le_refl _)
  · exact After.same h l _
theorem turn_after {D : Dk} {q : Pt} (h : QOk D q) (hok : DkOk D) (l : List Str) : After D q l (turnA D q l) := by
  unfold turnA
  split
  · split
    · exact After.same h l _
    · rename_i h2
      exact After.com h hok (makeS_le l) (by show 1 - q.half ≤ 1; omega) (by omega) (by show (makeS l).1.length ≤ _; omega) (Nat.le_refl _) (by show l.length ≤ _; omega)
  · exact After.same h l _
theorem does_after {D : Dk} {q : Pt} (h : QOk D q) (hok : DkOk D) (a : Wc) : After D q a.bods (doesA D q a) := by
  unfold doesA
  split
  · exact app_after h hok _
  · split
    · exact turn_after h hok _
    · exact After.same h _ _
theorem open_new : ∀ m : Fin 66, 6 ≤ m.val → openA (newD m.val) = (0, pt0, []) := by decide +kernel
theorem q_new {m : Nat} (h : 6 ≤ m) : QOk (newD m) pt0 := by
  have e : (newD m).pl.length = m := by simp [newD]
  exact ⟨by rw [e]; exact h, rfl, rfl, rfl, by show 0 < _; omega, by decide, by show 0 ≤ _; omega, by decide, by decide⟩
end Go.Gx
namespace Go.Gx
open Go.Proofs
theorem kwal13_ag76 : aggT Try.prog 76 6 = true := by kernel_rfl
theorem kwal13_en28 : Go.Proofs.Enters Try.prog 28 := Go.Proofs.enters_of Try.func28 (by kernel_rfl) rfl
theorem kwal13_en29 : Go.Proofs.Enters Try.prog 29 := Go.Proofs.enters_of Try.func29 (by kernel_rfl) rfl
theorem kwal13_en30 : Go.Proofs.Enters Try.prog 30 := Go.Proofs.enters_of Try.func30 (by kernel_rfl) rfl
theorem kwal13_en31 : Go.Proofs.Enters Try.prog 31 := Go.Proofs.enters_of Try.func31 (by kernel_rfl) rfl
theorem kwal13_en32 : Go.Proofs.Enters Try.prog 32 := Go.Proofs.enters_of Try.func32 (by kernel_rfl) rfl
theorem kwal13_en34 : Go.Proofs.Enters Try.prog 34 := Go.Proofs.enters_of Try.func34 (by kernel_rfl) rfl
theorem kwal13_en36 : Go.Proofs.Enters Try.prog 36 := Go.Proofs.enters_of Try.func36 (by kernel_rfl) rfl
theorem kwal13_fo76_1 : fieldOff Try.prog 76 1 = some 1 := by kernel_rfl
theorem kwal13_oc37 : oneCellT Try.prog 37 = true := by kernel_rfl
theorem kwal13_oc9 : oneCellT Try.prog 9 = true := by kernel_rfl
theorem kwal13_sz76 : (Try.prog.info? 76).map (·.size) = some 6 := by kernel_rfl
theorem kwal13_sz9 : (Try.prog.info? 9).map (·.size) = some 1 := by kernel_rfl
theorem costW_len (l : List Wc) : 100 * l.length ≤ costW l := by
  unfold costW
  induction l with
  | nil => simp
  | cons a l ih => simp only [List.map_cons, List.sum_cons, List.length_cons]; omega
theorem ops21 (A : Nat → Prop) (n : Int) (v : Value) (l : List Wc) (w : World) (h0 : WcsAt A w v l) : Ret Try.prog 7 #[.int .i64 n, v] w fun v w' => v = .bool true ∧ Bel w w' := by
  have hs := (h0.up).mono (A' := fun k => w.heap.size ≤ k) (fun _ _ hk => .inr hk)
  obtain ⟨pv, cv, row, rfl, -, -, hln, -⟩ := id h0
  have hsec := secN_le n
  refine ret_of_W Try.func7 rfl (Nat.le_of_ble_eq_true rfl) (res1 rfl) ?_
  have hB := Gr.refl (fun _ => False) w
  refine W.seq ?_
  refine W.region ?_
  refine L.val (x_as (v := .bool _) rfl) rfl ?_
  refine L.nil ?_
  refine thn_n ?_
  refine W.seq ?_
  refine W.seq ?_
  refine W.region ?_
  refine L.val (x_mv (v := .slice _ _ _) rfl) rfl ?_
  refine L.ret (x_call kwal13_en30 rfl) rfl (few21 _ _ l _ h0) ?_
  rintro v16 w16 ⟨rfl, hq⟩
  rw [hq]
  refine L.val (x_not rfl) rfl ?_
  refine L.nil ?_
  refine thn_n ?_
  refine W.cond (b := _) rfl (fun g17 => ?_) (fun g17 => ?_)
  ·have h17 := (not_t g17)
   refine W.seq ?_
   refine W.region ?_
   refine L.ret (x_call kwal13_en29 rfl) rfl (awake21 _) ?_
   rintro v18 w18 ⟨rfl, hw⟩
   have hB := hB.carry hw; have hs := hs.carry hw
   refine L.val (x_as (v := .bool _) rfl) rfl ?_
   refine L.nil ?_
   refine thn_n ?_
   refine W.ret (thn_r (fin_mk (.inr rfl) ?_))
   exact ⟨rfl, hB⟩
  ·have h17 := (not_f g17)
   have hfew : costW l ≤ 60000 := by unfold fewA at g17; simpa using g17
   refine W.skip ?_
   refine thn_n ?_
   refine W.seq ?_
   refine W.region ?_
   refine L.val (x_mv (v := .int _ _) rfl) rfl ?_
   refine L.ret (x_call kwal13_en32 rfl) rfl (sectors21 n _) ?_
   rintro v21 w21 ⟨rfl, hq⟩
   rw [hq]
   refine L.ret (x_call kwal13_en31 rfl) rfl (newdisk_ok (secN n) (by omega) _) ?_
   rintro v22 w22 ⟨b, rfl, h, hw⟩
   have hB := hB.carry hw; have hs := hs.carry hw
   refine L.val (x_mv (v := _) rfl) rfl ?_
   refine L.val (x_ext (v := .pointer _) rfl rfl) rfl ?_
   refine L.val (x_ext (v := .int _ _) rfl rfl) rfl ?_
   refine L.val (x_as (v := .pointer _) rfl) rfl ?_
   refine L.val (x_as (v := .int _ _) rfl) rfl ?_
   refine L.nil ?_
   refine thn_n ?_
   refine W.seq ?_
   refine W.region ?_
   have hs22 := hB.size
   refine L.val (x_mv (v := .pointer _) rfl) rfl ?_
   refine L.ret (x_call kwal13_en28 rfl) rfl (open_w w.heap.size b (newD (secN n)) _ h rfl (by show 6 ≤ (List.replicate _ _).length; rw [List.length_replicate]; omega)) ?_
   rintro v27 w27 ⟨hw, hr⟩
   have hB := hB.carry hw; have hs := hs.carry hw; have h := h.carry hw
   rw [open_new ⟨secN n, by omega⟩ (by show 6 ≤ secN n; omega)] at hr
   obtain ⟨-, bl, u, rfl, hl, hU⟩ := hr.resolve_left (fun e => e.1 rfl)
   have hl : LogAt w.heap.size w27 bl b pt0 := hl.le hs22
   obtain ⟨pu, cu, rfl, -⟩ := id hU
   refine L.val (x_mv (v := _) rfl) rfl ?_
   refine L.val (x_ext (v := .pointer _) rfl rfl) rfl ?_
   refine L.val (x_ext (v := .slice _ _ _) rfl rfl) rfl ?_
   refine L.val (x_ext (v := .int _ _) rfl rfl) rfl ?_
   refine L.val (x_as (v := .pointer _) rfl) rfl ?_
   refine L.val (x_as (v := .slice _ _ _) rfl) rfl ?_
   refine L.val (x_as (v := .int _ _) rfl) rfl ?_
   refine L.nil ?_
   refine thn_n ?_
   refine W.seq ?_
   refine W.seq ?_
   refine W.region ?_
   refine L.val (x_mv (v := .int _ _) rfl) rfl ?_
   refine L.val (x_neq rfl rfl) rfl ?_
   refine L.val (x_mv (v := .bool _) rfl) rfl ?_
   refine L.splitat (dj := 33) (b := _) rfl (fun g33 => ?_) (fun g33 => ?_)
   ·have h33 := dne_t g33
    cases g33
   ·have h33 := dne_f g33
    refine L.gyes' (dj := 33) (b := _) rfl rfl g33 ?_
    refine L.val (x_mv (v := .int _ _) rfl) rfl ?_
    refine L.gyes' (dj := 33) (b := _) rfl rfl g33 ?_
    refine L.val (x_neq rfl rfl) rfl ?_
    refine L.val (x_pick_f (v := .bool _) (congrArg Value.bool g33) rfl) rfl ?_
    refine L.val (x_mv (v := .bool _) rfl) rfl ?_
    refine L.splitat (dj := 37) (b := _) rfl (fun g37 => ?_) (fun g37 => ?_)
    ·have h37 := dne_t g37
     cases g37
    ·have h37 := dne_f g37
     refine L.gyes' (dj := 37) (b := _) rfl rfl g37 ?_
     refine L.val (x_mv (v := .pointer _) rfl) rfl ?_
     refine L.gyes' (dj := 37) (b := _) rfl rfl g37 ?_
     refine L.val (x_eqp0 Try.underlying52 rfl rfl) rfl ?_
     refine L.val (x_pick_f (v := .bool _) (congrArg Value.bool g37) rfl) rfl ?_
     refine L.nil ?_
     refine thn_n ?_
     refine W.cond (b := _) rfl (fun g39 => ?_) (fun g39 => ?_)
     ·have h39 := g39
      cases g39
     ·have h39 := g39
      refine W.skip ?_
      refine thn_n ?_
      refine W.seq ?_
      refine W.seq ?_
      refine W.region ?_
      refine L.val (x_as (v := .int _ _) rfl) rfl ?_
      refine L.nil ?_
      refine thn_n ?_
      refine W.block ?_
      refine W.loop (fun m' E w' => ∃ (i : Nat) (D : Dk) (q : Pt), m' = l.length - i ∧ E 1 = .slice pv l.length cv ∧ E 5 = .pointer (some ⟨b, 0, none⟩) ∧ E 7 = .pointer (some ⟨bl, 0, none⟩) ∧ E 10 = .int .i64 (i : Nat) ∧ (i ≤ l.length) ∧ (QOk D q) ∧ (D.ops ≤ 2000 * i ∧ q.ep ≤ i ∧ q.cnt ≤ costW (l.take i)) ∧ (WcsAt (fun k => w.heap.size ≤ k) w' (.slice pv l.length cv) l) ∧ (DiskAt w.heap.size w' b D) ∧ (LogAt w.heap.size w' bl b q) ∧ (Bel w w')) (l.length) ?_ ?_
      ·exact ⟨0, newD (secN n), pt0, by omega, by first | rfl | exact vi (by omega) | exact vs (by first | assumption | (rw [hst]; done) | (rw [hst]; simp only [List.append_assoc])), by first | rfl | exact vi (by omega) | exact vs (by first | assumption | (rw [hst]; done) | (rw [hst]; simp only [List.append_assoc])), by first | rfl | exact vi (by omega) | exact vs (by first | assumption | (rw [hst]; done) | (rw [hst]; simp only [List.append_assoc])), by first | rfl | exact vi (by omega) | exact vs (by first | assumption | (rw [hst]; done) | (rw [hst]; simp only [List.append_assoc])), (by first | assumption | omega | rfl), (by exact q_new (by omega)), (by exact ⟨Nat.le_refl _, Nat.le_refl _, Nat.zero_le _⟩), (by first | assumption | omega | rfl), (by first | assumption | omega | rfl), (by first | assumption | omega | rfl), (by first | assumption | omega | rfl)⟩
      ·rintro _ E wL41 ⟨i, D, q, em, e1, e5, e7, e10, hi, hq, hbd, hs, h, hl, hB⟩
       rw [upd_self e1, upd_self e5, upd_self e7, upd_self e10]
       refine W.seq ?_
       refine W.seq ?_
       refine W.region ?_
       refine L.val (x_mv (v := .int _ _) rfl) rfl ?_
       refine L.val (x_mv (v := .slice _ _ _) rfl) rfl ?_
       refine L.val (x_len_slice Try.underlying70 rfl) rfl ?_
       refine L.val (x_lss rfl rfl) rfl ?_
       refine L.nil ?_
       refine thn_n ?_
       refine W.cond (b := _) rfl (fun g44 => ?_) (fun g44 => ?_)
       ·have h44 := of_decide_eq_true g44
        have hlt : i < l.length := by omega
        obtain ⟨p2, c2, row2, e2, -, -, -, hR⟩ := id hs
        cases e2
        obtain ⟨bb, o, rfl, -, hc⟩ := hR.elem hlt
        obtain ⟨vb, vk, hrow, hsb, hk, hbig⟩ := hR.each i hlt
        obtain ⟨pb, cb, rfl, s1, s2, s3, s4, -⟩ := id hsb
        have hcb : wL41.cell? ⟨bb, o + i * 6 + 1, none⟩ = some (.slice pb (l.getD i default).bods.length cb) := by rw [hc 1 (by omega), hrow]; rfl
        have hst := costW_take hlt
        have hle := costW_le l (i + 1)
        have hlb := len_costB (l.getD i default).bods
        have hlw := costW_len l
        have hnb := need_le (l := (l.getD i default).bods)
        have hns := need_sumN (l.getD i default).bods
        have hbs := sumN_le hbig
        have A := does_after hq h.2.1 (l.getD i default)
        refine W.skip ?_
        refine thn_n ?_
        refine W.seq ?_
        refine W.block ?_
        refine W.seq ?_
        refine W.region ?_
        refine L.val (x_as (v := .int _ _) rfl) rfl ?_
        refine L.nil ?_
        refine thn_n ?_
        refine W.seq ?_
        refine W.seq ?_
        refine W.region ?_
        refine L.val (x_as (v := .int _ _) rfl) rfl ?_
        refine L.nil ?_
        refine thn_n ?_
        refine W.block ?_
        refine W.loop (fun m' E w' => ∃ (j : Nat), m' = (l.getD i default).bods.length - j ∧ E 1 = .slice (some ⟨bb, o, none⟩) l.length cv ∧ E 5 = .pointer (some ⟨b, 0, none⟩) ∧ E 7 = .pointer (some ⟨bl, 0, none⟩) ∧ E 10 = .int .i64 (i : Nat) ∧ E 11 = .int .i64 (sumN ((l.getD i default).bods.take j) : Nat) ∧ E 12 = .int .i64 (j : Nat) ∧ (j ≤ (l.getD i default).bods.length) ∧ (w' = wL41)) ((l.getD i default).bods.length) ?_ ?_
        ·exact ⟨0, by omega, by first | rfl | exact vi (by omega) | exact vs (by first | assumption | (rw [hst]; done) | (rw [hst]; simp only [List.append_assoc])), by first | rfl | exact vi (by omega) | exact vs (by first | assumption | (rw [hst]; done) | (rw [hst]; simp only [List.append_assoc])), by first | rfl | exact vi (by omega) | exact vs (by first | assumption | (rw [hst]; done) | (rw [hst]; simp only [List.append_assoc])), by first | rfl | exact vi (by omega) | exact vs (by first | assumption | (rw [hst]; done) | (rw [hst]; simp only [List.append_assoc])), by first | rfl | exact vi (by omega) | exact vs (by first | assumption | (rw [hst]; done) | (rw [hst]; simp only [List.append_assoc])), by first | rfl | exact vi (by omega) | exact vs (by first | assumption | (rw [hst]; done) | (rw [hst]; simp only [List.append_assoc])), (by first | assumption | omega | rfl), (by first | assumption | omega | rfl)⟩
        ·rintro _ E wL47 ⟨j, em, e1, e5, e7, e10, e11, e12, hj, hw1⟩
         rw [upd_self e1, upd_self e5, upd_self e7, upd_self e10, upd_self e11, upd_self e12]
         refine W.seq ?_
         refine W.seq ?_
         refine W.region ?_
         subst hw1
         refine L.val (x_mv (v := .int _ _) rfl) rfl ?_
         refine L.val (x_mv (v := .slice _ _ _) rfl) rfl ?_
         refine L.val (x_mv (v := .int _ _) rfl) rfl ?_
         refine L.val (x_ia (j := i) Try.underlying70 kwal13_sz76 rfl rfl (by omega) (by omega)) rfl ?_
         refine L.val (x_fa kwal13_fo76_1 rfl) rfl ?_
         refine L.val (x_ld (v := .slice _ _ _) kwal13_oc37 rfl hcb) rfl ?_
         refine L.val (x_len_slice Try.underlying37 rfl) rfl ?_
         refine L.val (x_lss rfl rfl) rfl ?_
         refine L.nil ?_
         refine thn_n ?_
         refine W.cond (b := _) rfl (fun g54 => ?_) (fun g54 => ?_)
         ·have h54 := of_decide_eq_true g54
          have hltj : j < (l.getD i default).bods.length := by omega
          obtain ⟨bj, oj, rfl, hcj⟩ := hsb.elem hltj
          have hstj := sumN_take hltj
          have hbj := sumN_le (l := (l.getD i default).bods.take (j + 1)) (fun s hs => hbig s (List.mem_of_mem_take hs))
          rw [List.length_take] at hbj
          refine W.skip ?_
          refine thn_n ?_
          refine W.seq ?_
          refine W.block ?_
          refine W.region ?_
          refine L.val (x_mv (v := .int _ _) rfl) rfl ?_
          refine L.val (x_mv (v := .slice _ _ _) rfl) rfl ?_
          refine L.val (x_mv (v := .int _ _) rfl) rfl ?_
          refine L.val (x_ia (j := i) Try.underlying70 kwal13_sz76 rfl rfl (by omega) (by omega)) rfl ?_
          refine L.val (x_fa kwal13_fo76_1 rfl) rfl ?_
          refine L.val (x_ld (v := .slice _ _ _) kwal13_oc37 rfl hcb) rfl ?_
          refine L.val (x_mv (v := .int _ _) rfl) rfl ?_
          refine L.val (x_ia1 (j := j) Try.underlying37 kwal13_sz9 rfl rfl (by omega) (by omega)) rfl ?_
          refine L.val (x_ld (v := S _) kwal13_oc9 rfl hcj) rfl ?_
          refine L.val (x_len_str Try.underlying9 rfl) rfl ?_
          refine L.val (x_add rfl rfl (wr64 (by omega))) rfl ?_
          refine L.val (x_add rfl rfl (wr64 (by omega))) rfl ?_
          refine L.val (x_as (v := .int _ _) rfl) rfl ?_
          refine L.nil ?_
          refine blk_n ?_
          refine thn_n ?_
          refine W.region ?_
          refine L.val (x_mv (v := .int _ _) rfl) rfl ?_
          refine L.val (x_add rfl rfl (wr64 (by omega))) rfl ?_
          refine L.val (x_as (v := .int _ _) rfl) rfl ?_
          refine L.nil ?_
          refine thn_n ⟨rfl, ?_⟩
          refine ⟨_, ?_, j + 1, rfl, by first | rfl | exact vi (by omega) | exact vs (by first | assumption | (rw [hst]; done) | (rw [hst]; simp only [List.append_assoc])), by first | rfl | exact vi (by omega) | exact vs (by first | assumption | (rw [hst]; done) | (rw [hst]; simp only [List.append_assoc])), by first | rfl | exact vi (by omega) | exact vs (by first | assumption | (rw [hst]; done) | (rw [hst]; simp only [List.append_assoc])), by first | rfl | exact vi (by omega) | exact vs (by first | assumption | (rw [hst]; done) | (rw [hst]; simp only [List.append_assoc])), by first | rfl | exact vi (by omega) | exact vs (by first | assumption | (rw [hst]; done) | (rw [hst]; simp only [List.append_assoc])), by first | rfl | exact vi (by omega) | exact vs (by first | assumption | (rw [hst]; done) | (rw [hst]; simp only [List.append_assoc])), (by first | assumption | omega | rfl), (by first | assumption | omega | rfl)⟩
          omega
         ·have h54 := dlt_f g54
          have hje : j = (l.getD i default).bods.length := by omega
          subst hje
          rw [List.take_length]
          refine W.exit (thn_x (thn_x (blk_hit ?_)))
          refine thn_n ?_
          refine W.seq ?_
          refine W.region ?_
          refine L.val (x_mv (v := .pointer _) rfl) rfl ?_
          refine L.ret (x_call kwal13_en36 rfl) rfl (ops_d w.heap.size b D _ h) ?_
          rintro v70 w70 ⟨rfl, hq70⟩
          rw [hq70]
          refine L.val (x_as (v := .int _ _) rfl) rfl ?_
          refine L.nil ?_
          refine thn_n ?_
          refine W.seq ?_
          refine W.region ?_
          refine L.val (x_mv (v := .pointer _) rfl) rfl ?_
          refine L.val (x_mv (v := .slice _ _ _) rfl) rfl ?_
          refine L.val (x_mv (v := .int _ _) rfl) rfl ?_
          refine L.val (x_ia (j := i) Try.underlying70 kwal13_sz76 rfl rfl (by omega) (by omega)) rfl ?_
          refine L.val (x_ldn (vs := row2 i) kwal13_ag76 rfl (hR.len i hlt) hc) rfl ?_
          refine L.ret (x_call kwal13_en34 rfl) rfl (does21 w.heap.size bl b (row2 i) (l.getD i default) D q _ h hl hq (hR.each i hlt) hB.size (by omega)) ?_
          rintro v76 w76 ⟨rfl, h76, hl76, hg76⟩
          have hB := hg76.bel hB
          have hs := hs.carryR hg76 (fun j hj => hj.1)
          have h := h76; have hl := hl76
          have hAo := A.ops
          have hd64 : need (l.getD i default).bods / 64 ≤ sumN (l.getD i default).bods / 64 := Nat.div_le_div_right hns
          refine L.val (x_as (v := .int _ _) rfl) rfl ?_
          refine L.nil ?_
          refine thn_n ?_
          refine W.seq ?_
          refine W.region ?_
          refine L.val (x_mv (v := .pointer _) rfl) rfl ?_
          refine L.ret (x_call kwal13_en36 rfl) rfl (ops_d w.heap.size b _ _ h) ?_
          rintro v78 w78 ⟨rfl, hq78⟩
          rw [hq78]
          refine L.val (x_mv (v := .int _ _) rfl) rfl ?_
          refine L.val (x_sub rfl rfl (wr64 (by omega))) rfl ?_
          refine L.val (x_mv (v := .int _ _) rfl) rfl ?_
          refine L.val (x_quo rfl rfl (by decide) (wq64 (by omega) (by decide))) rfl ?_
          refine L.val (x_add rfl rfl (wr64 (by omega))) rfl ?_
          refine L.val (x_gtr rfl rfl) rfl ?_
          refine L.val (x_mv (v := .bool _) rfl) rfl ?_
          refine L.splitat (dj := 85) (b := _) rfl (fun g85 => ?_) (fun g85 => ?_)
          ·have h85 := of_decide_eq_true g85
           omega
          ·have h85 := dlt_f g85
           refine L.gyes' (dj := 85) (b := _) rfl rfl g85 ?_
           refine L.val (x_mv (v := .int _ _) rfl) rfl ?_
           refine L.gyes' (dj := 85) (b := _) rfl rfl g85 ?_
           refine L.val (x_neq rfl rfl) rfl ?_
           refine L.gyes' (dj := 85) (b := _) rfl rfl g85 ?_
           refine L.val (x_mv (v := .bool _) rfl) rfl ?_
           refine L.splitat (dj := 88) (b := _) rfl (fun g88 => ?_) (fun g88 => ?_)
           ·have h88 := dne_t g88
            have hE := A.err h88
            refine L.gyes' (dj := 88) (b := _) rfl rfl g88 ?_
            refine L.val (x_mv (v := .pointer _) rfl) rfl ?_
            refine L.gyes' (dj := 88) (b := _) rfl rfl g88 ?_
            refine L.ret (x_call kwal13_en36 rfl) rfl (ops_d w.heap.size b _ _ h) ?_
            rintro v90 w90 ⟨rfl, hq90⟩
            rw [hq90]
            refine L.gyes' (dj := 88) (b := _) rfl rfl g88 ?_
            refine L.val (x_mv (v := .int _ _) rfl) rfl ?_
            refine L.gyes' (dj := 88) (b := _) rfl rfl g88 ?_
            refine L.val (x_neq rfl rfl) rfl ?_
            refine L.gyes' (dj := 85) (b := _) rfl rfl g85 ?_
            refine L.val (x_pick_t (v := .bool _) (congrArg Value.bool g88) rfl) rfl ?_
            refine L.val (x_pick_f (v := .bool _) (congrArg Value.bool g85) rfl) rfl ?_
            refine L.nil ?_
            refine thn_n ?_
            refine W.cond (b := _) rfl (fun g92 => ?_) (fun g92 => ?_)
            ·have h92 := dne_t g92
             exact absurd (by rw [hE.1]) h92
            ·have h92 := dne_f g92
             refine W.skip ?_
             refine blk_n ?_
             refine thn_n ?_
             refine W.region ?_
             refine L.val (x_mv (v := .int _ _) rfl) rfl ?_
             refine L.val (x_add rfl rfl (wr64 (by omega))) rfl ?_
             refine L.val (x_as (v := .int _ _) rfl) rfl ?_
             refine L.nil ?_
             refine thn_n ⟨rfl, ?_⟩
             refine ⟨_, ?_, i + 1, (doesA D q (l.getD i default)).2.1, (doesA D q (l.getD i default)).2.2, rfl, by first | rfl | exact vi (by omega) | exact vs (by first | assumption | (rw [hst]; done) | (rw [hst]; simp only [List.append_assoc])), by first | rfl | exact vi (by omega) | exact vs (by first | assumption | (rw [hst]; done) | (rw [hst]; simp only [List.append_assoc])), by first | rfl | exact vi (by omega) | exact vs (by first | assumption | (rw [hst]; done) | (rw [hst]; simp only [List.append_assoc])), by first | rfl | exact vi (by omega) | exact vs (by first | assumption | (rw [hst]; done) | (rw [hst]; simp only [List.append_assoc])), (by first | assumption | omega | rfl), (by exact A.ok (by omega) (by omega) (by omega)), (by have := A.ops; have := A.ep; have := A.cnt; omega), (by first | assumption | omega | rfl), (by first | assumption | omega | rfl), (by first | assumption | omega | rfl), (by first | assumption | omega | rfl)⟩
             omega
           ·have h88 := dne_f g88
            refine L.gno (dj := 88) (b := _) rfl rfl g88 rfl ?_
            refine L.gno (dj := 88) (b := _) rfl rfl g88 rfl ?_
            refine L.gno (dj := 88) (b := _) rfl rfl g88 rfl ?_
            refine L.gno (dj := 88) (b := _) rfl rfl g88 rfl ?_
            refine L.gyes' (dj := 85) (b := _) rfl rfl g85 ?_
            refine L.val (x_pick_f (v := .bool _) (congrArg Value.bool g88) rfl) rfl ?_
            refine L.val (x_pick_f (v := .bool _) (congrArg Value.bool g85) rfl) rfl ?_
            refine L.nil ?_
            refine thn_n ?_
            refine W.cond (b := false) rfl (fun h => nomatch h) (fun _ => ?_)
            refine W.skip ?_
            refine blk_n ?_
            refine thn_n ?_
            refine W.region ?_
            refine L.val (x_mv (v := .int _ _) rfl) rfl ?_
            refine L.val (x_add rfl rfl (wr64 (by omega))) rfl ?_
            refine L.val (x_as (v := .int _ _) rfl) rfl ?_
            refine L.nil ?_
            refine thn_n ⟨rfl, ?_⟩
            refine ⟨_, ?_, i + 1, (doesA D q (l.getD i default)).2.1, (doesA D q (l.getD i default)).2.2, rfl, by first | rfl | exact vi (by omega) | exact vs (by first | assumption | (rw [hst]; done) | (rw [hst]; simp only [List.append_assoc])), by first | rfl | exact vi (by omega) | exact vs (by first | assumption | (rw [hst]; done) | (rw [hst]; simp only [List.append_assoc])), by first | rfl | exact vi (by omega) | exact vs (by first | assumption | (rw [hst]; done) | (rw [hst]; simp only [List.append_assoc])), by first | rfl | exact vi (by omega) | exact vs (by first | assumption | (rw [hst]; done) | (rw [hst]; simp only [List.append_assoc])), (by first | assumption | omega | rfl), (by exact A.ok (by omega) (by omega) (by omega)), (by have := A.ops; have := A.ep; have := A.cnt; omega), (by first | assumption | omega | rfl), (by first | assumption | omega | rfl), (by first | assumption | omega | rfl), (by first | assumption | omega | rfl)⟩
            omega
       ·have h44 := dlt_f g44
        refine W.exit (thn_x (thn_x (blk_hit ?_)))
        refine thn_n ?_
        refine W.seq ?_
        refine W.region ?_
        refine L.ret (x_call kwal13_en29 rfl) rfl (awake21 _) ?_
        rintro v95 w95 ⟨rfl, hw⟩
        have hB := hB.carry hw; have hs := hs.carry hw; have h := h.carry hw; have hl := hl.carry hw
        refine L.val (x_as (v := .bool _) rfl) rfl ?_
        refine L.nil ?_
        refine thn_n ?_
        refine W.ret (fin_mk (.inr rfl) ?_)
        exact ⟨rfl, hB⟩
theorem law_ops21 (A : Nat → Prop) (n : Int) (l : List Wc) (v : Value) (w : World) (_ : True) (h : WcsAt A w v l) : Ret Try.prog 7 #[.int .i64 n, v] w fun v w' => v = .bool true ∧ Bel w w' := ops21 A n v l w h
end Go.Gx
