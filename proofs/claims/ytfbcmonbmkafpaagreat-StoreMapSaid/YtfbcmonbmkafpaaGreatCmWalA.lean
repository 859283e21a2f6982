/- Arguments that are acts of the laws of logs, opened as they are read. Conditions: none. -/
import Derived.Test.YtfbcmonbmkafpaaGreatCmRowG
import Derived.Test.YtfbcmonbmkafpaaGreatCmWal9
import Derived.Test.YtfbcmonbmkafpaaGreatCmOct5
import Derived.Test.YtfbcmonbmkafpaaGreatCmDsk4
namespace Go.Gx
open Go.ChangeShapes Go.WideShapes Go.Deep Go.RowKit
section
variable {H : Type} {enc : TypeId × Value → H} {P : Program} {w : World} {base : Nat} {spare : Nat → Bool} {held : Bool}
theorem bls_open {t e : TypeId} {fuel : Nat} {v : Value} {x : DataW H × List MemPlace} (ht : P.underlying t = some (.slice e)) (he : P.underlying e = some .bool) (hc : P.cellsOf e = 1) (hb : 1 ≤ P.bytesOf e)
    (h : DataW.trod enc P w base spare held fuel t [v] = some x) (hw : (x.1.weights P t).all (· ≤ reachBytes) = true) : ∃ l, BlsAt (fun _ => False) w v l := by
  rcases open_slice1 ht hc h with ⟨h1, rfl⟩ | ⟨a, len, cap, m, n, V, D, Pl, h1, -, hl, hm, hmm, rfl, hx⟩
  · simp only [List.cons.injEq, and_true] at h1
    exact ⟨[], none, 0, h1, Nat.le_refl _, by simp, by simp, fun h => absurd rfl h⟩
  · simp only [List.cons.injEq, and_true] at h1
    subst h1
    have hlm : len ≤ m := by rw [hmm]; split <;> omega
    have hs : ∀ i, i < len → ∃ s : Bool, V i = .bool s := fun i hi => by
      obtain ⟨s, h1, -⟩ := DataW.trod_bool he (hx i (by omega)).2
      simp only [List.cons.injEq, and_true] at h1
      exact ⟨s, h1⟩
    obtain ⟨f, hf⟩ := choose_lt (α := Bool) hs
    have hby := (weights_slice ht hw).1
    have hlen : len ≤ 140737488355328 := by
      have h1 : len * P.bytesOf e ≤ reachBytes := Nat.le_trans (Nat.mul_le_mul_right _ (by simp)) hby
      have h2 : len * 1 ≤ len * P.bytesOf e := Nat.mul_le_mul_left _ hb
      have h3 := reachBytes_lt
      omega
    have e0 : ((List.range len).map f).length = len := by simp
    refine ⟨(List.range len).map f, some a, cap, by rw [e0], by rw [e0]; exact hl, hm, by rw [e0]; exact hlen, fun hne => ?_⟩
    have h0 : 0 < len := by rcases Nat.eq_zero_or_pos len with h | h; exact absurd (by rw [h]; rfl) hne; exact h
    have hc0 := (hx 0 (by omega)).1
    obtain ⟨b, o, spot⟩ := a
    have hspot : spot = none := by simpa [Addr.add] using World.cell?_spot hc0
    subst hspot
    refine ⟨b, o, rfl, fun f => f, fun i hi => ?_⟩
    rw [e0] at hi
    have hci := (hx i (by omega)).1
    rw [add_plain] at hci
    rw [hci, hf i hi, List.getD_eq_getElem?_getD, List.getElem?_map, List.getElem?_range hi]; rfl
structure FaT (P : Program) (tF eB : TypeId) (f0 f1 f2 : Field) : Prop where
  hB : P.underlying tF = some (.struct #[f0, f1, f2])
  h0 : P.underlying f0.type = some (.slice eB)
  hb : P.underlying eB = some .bool
  h1 : P.underlying f1.type = some (.int .i64)
  h2 : P.underlying f2.type = some (.int .i64)
  o : f0.offset = 0 ∧ f1.offset = 1 ∧ f2.offset = 2
  c : P.cellsOf f0.type = 1 ∧ P.cellsOf f1.type = 1 ∧ P.cellsOf f2.type = 1 ∧ P.cellsOf tF = 3 ∧ P.cellsOf eB = 1 ∧ 1 ≤ P.bytesOf eB
theorem fa_open {tF eB : TypeId} {f0 f1 f2 : Field} (G : FaT P tF eB f0 f1 f2) (fuel : Nat) (cs : List Value) (x : DataW H × List MemPlace) (h : DataW.trod enc P w base spare held fuel tF cs = some x) (hw : (x.1.weights P tF).all (· ≤ reachBytes) = true) :
    ∃ vk, ∃ l : List Bool, ∃ t c : Int, cs = [vk, .int .i64 t, .int .i64 c] ∧ BlsAt (fun _ => False) w vk l := by
  obtain ⟨xs, n, rfl, rfl, hlen, hxl, hf⟩ := DataW.trod_struct G.hB h
  obtain ⟨o0, o1, o2⟩ := G.o
  obtain ⟨c0, c1, c2, c3, c4, c5⟩ := G.c
  rw [c3] at hlen
  match cs, hlen with
  | [v0, v1, v2], _ =>
    match xs, hxl with
    | [x0, x1, x2], _ =>
      have g0' := hf 0 f0 rfl
      have g1' := hf 1 f1 rfl
      have g2' := hf 2 f2 rfl
      rw [o0, c0] at g0'; rw [o1, c1] at g1'; rw [o2, c2] at g2'
      have w0 := weights_at G.hB hw (i := 0) (f := f0) (d := x0.1) rfl rfl
      obtain ⟨l, hl⟩ := bls_open G.h0 G.hb c4 c5 (x := x0) g0' w0
      obtain ⟨k1, e1, -, -⟩ := DataW.trod_int G.h1 (x := x1) g1'
      obtain ⟨k2, e2, -, -⟩ := DataW.trod_int G.h2 (x := x2) g2'
      simp at e1 e2
      exact ⟨v0, l, k1, k2, by rw [e1, e2], hl⟩
theorem int_arg {tT : TypeId} (ht : P.underlying tT = some (.int .i64)) {W : World} {base : Nat} {v : Value} {d : DataW H} {p : List MemPlace}
    (hv : Value.okWide P W .any base tT v) (h : DataW.Trod enc P W 0 (fun _ => true) true tT v d p) : ∃ n : Int, v = .int .i64 n ∧ True := by
  obtain ⟨fuel, h⟩ := h
  have hcells : v.cells.toList = [v] := by
    unfold Value.okWide at hv
    rw [ht] at hv
    cases v <;> simp_all [Value.cells, Cell.okWide, Cell.ok]
  rw [hcells] at h
  obtain ⟨k0, e0, -, -⟩ := DataW.trod_int ht h
  simp at e0
  exact ⟨k0, e0, trivial⟩
end
end Go.Gx
namespace Go.Gx
open Go.ChangeShapes Go.WideShapes Go.Deep Go.RowKit
structure Sa where
  kind : Int
  eds : List Ed
  at' : Int
  keep : List Bool
  torn : Int
  cut : Int
  data : Str
instance : Inhabited Sa := ⟨⟨0, [], 0, [], 0, 0, []⟩⟩
def saV (a : Sa) (ve vk : Value) : List Value := [.int .i64 a.kind, ve, .int .i64 a.at', vk, .int .i64 a.torn, .int .i64 a.cut, S a.data]
def SaC (A : Nat → Prop) (w : World) (cs : List Value) (a : Sa) : Prop := ∃ ve vk, cs = saV a ve vk ∧ EdsAt A w ve a.eds ∧ BlsAt A w vk a.keep ∧ a.at' ≤ 9223372036854775807
instance car_sa : Car SaC 7 where
  pos := by omega
  len := fun ⟨_, _, h, _⟩ => by rw [h]; rfl
  one := fun ⟨ve, vk, h, h1, h2, _⟩ => by
    rw [h]; intro v hv
    simp only [saV, List.mem_cons, List.not_mem_nil, or_false] at hv
    rcases hv with rfl | rfl | rfl | rfl | rfl | rfl | rfl
    · rfl
    · exact h1.one
    · rfl
    · exact h2.one
    · rfl
    · rfl
    · rfl
  move := fun hc ⟨ve, vk, h, h1, h2, h3⟩ => ⟨ve, vk, h, h1.move hc, h2.move hc, h3⟩
abbrev SasAt (A : Nat → Prop) (w : World) (v : Value) (l : List Sa) : Prop := RecsAt SaC 7 A w v l
section
variable {H : Type} {enc : TypeId × Value → H} {P : Program} {w : World} {base : Nat} {spare : Nat → Bool} {held : Bool}
structure EdT (P : Program) (tB : TypeId) (g0 g1 g2 : Field) : Prop where
  hB : P.underlying tB = some (.struct #[g0, g1, g2])
  h0 : P.underlying g0.type = some .string
  h1 : P.underlying g1.type = some .string
  h2 : P.underlying g2.type = some .bool
  o : g0.offset = 0 ∧ g1.offset = 1 ∧ g2.offset = 2
  c : P.cellsOf g0.type = 1 ∧ P.cellsOf g1.type = 1 ∧ P.cellsOf g2.type = 1 ∧ P.cellsOf tB = 3
theorem ed_open {tB : TypeId} {g0 g1 g2 : Field} (G : EdT P tB g0 g1 g2) (fuel : Nat) (cs : List Value) (x : DataW H × List MemPlace) (h : DataW.trod enc P w base spare held fuel tB cs = some x) : ∃ e, EdC (fun _ => False) w cs e := by
  obtain ⟨xs, n, rfl, rfl, hlen, hxl, hf⟩ := DataW.trod_struct G.hB h
  obtain ⟨o0, o1, o2⟩ := G.o
  obtain ⟨c0, c1, c2, c3⟩ := G.c
  rw [c3] at hlen
  match cs, hlen with
  | [v0, v1, v2], _ =>
    match xs, hxl with
    | [x0, x1, x2], _ =>
      have g0' := hf 0 g0 rfl
      have g1' := hf 1 g1 rfl
      have g2' := hf 2 g2 rfl
      rw [o0, c0] at g0'; rw [o1, c1] at g1'; rw [o2, c2] at g2'
      obtain ⟨s0, e0, -, l0⟩ := DataW.trod_string G.h0 (x := x0) g0'
      obtain ⟨s1, e1, -, l1⟩ := DataW.trod_string G.h1 (x := x1) g1'
      obtain ⟨b2, e2, -⟩ := DataW.trod_bool G.h2 (x := x2) g2'
      simp at e0 e1 e2
      refine ⟨⟨s0.data.toList, s1.data.toList, b2⟩, ?_, max_le l0, max_le l1⟩
      rw [e0, e1, e2]; simp [edV, S]
theorem edz_open {tE tB : TypeId} {g0 g1 g2 : Field} (hE : P.underlying tE = some (.slice tB)) (hb : 2 ≤ P.bytesOf tB) (G : EdT P tB g0 g1 g2) {fuel : Nat} {v : Value} {x : DataW H × List MemPlace}
    (h : DataW.trod enc P w base spare held fuel tE [v] = some x) (hw : (x.1.weights P tE).all (· ≤ reachBytes) = true) : ∃ l, EdsAt (fun _ => False) w v l :=
  recs_open (Cc := EdC) hE G.c.2.2.2 (by omega) hb (fun fuel cs x h _ => ed_open G fuel cs x h) h hw
theorem wf64s {n : Int} (h : (Lit.int .i64 n).wf = true) : n ≤ 9223372036854775807 := by
  simp only [Lit.wf, Bool.and_eq_true, decide_eq_true_eq] at h
  exact h.2
structure SaT (P : Program) (tB tF tL tS : TypeId) (g0 g1 g2 g3 g4 : Field) : Prop where
  hB : P.underlying tB = some (.struct #[g0, g1, g2, g3, g4])
  h0 : P.underlying g0.type = some (.int .i64)
  h1 : g1.type = tL
  h2 : P.underlying g2.type = some (.int .i64)
  h3 : g3.type = tF
  h4 : P.underlying g4.type = some .string
  o : g0.offset = 0 ∧ g1.offset = 1 ∧ g2.offset = 2 ∧ g3.offset = 3 ∧ g4.offset = 6
  c : P.cellsOf g0.type = 1 ∧ P.cellsOf tL = 1 ∧ P.cellsOf g2.type = 1 ∧ P.cellsOf tF = 3 ∧ P.cellsOf tB = 7 ∧ P.cellsOf g4.type = 1
theorem sa_open {tB tF tL tS eB : TypeId} {g0 g1 g2 g3 g4 f0 f1 f2 d0 d1 d2 : Field} (G : SaT P tB tF tL tS g0 g1 g2 g3 g4) (F : FaT P tF eB f0 f1 f2) (hL : P.underlying tL = some (.slice tS)) (hb : 2 ≤ P.bytesOf tS) (E : EdT P tS d0 d1 d2) (fuel : Nat) (cs : List Value) (x : DataW H × List MemPlace) (h : DataW.trod enc P w base spare held fuel tB cs = some x) (hw : (x.1.weights P tB).all (· ≤ reachBytes) = true) :
    ∃ a, SaC (fun _ => False) w cs a := by
  obtain ⟨xs, n, rfl, rfl, hlen, hxl, hf⟩ := DataW.trod_struct G.hB h
  obtain ⟨o0, o1, o2, o3, o4⟩ := G.o
  obtain ⟨c0, c1, c2, c3, c4, c5⟩ := G.c
  rw [c4] at hlen
  match cs, hlen with
  | [v0, v1, v2, v3, v4, v5, v6], _ =>
    match xs, hxl with
    | [x0, x1, x2, x3, x4], _ =>
      have g0' := hf 0 g0 rfl
      have g1' := hf 1 g1 rfl
      have g2' := hf 2 g2 rfl
      have g3' := hf 3 g3 rfl
      have g4' := hf 4 g4 rfl
      rw [o0, c0] at g0'; rw [o1, G.h1, c1] at g1'; rw [o2, c2] at g2'; rw [o3, G.h3, c3] at g3'; rw [o4, c5] at g4'
      have w1 := weights_at G.hB hw (i := 1) (f := g1) (d := x1.1) rfl rfl
      rw [G.h1] at w1
      have w3 := weights_at G.hB hw (i := 3) (f := g3) (d := x3.1) rfl rfl
      rw [G.h3] at w3
      obtain ⟨k0, e0, -, -⟩ := DataW.trod_int G.h0 (x := x0) g0'
      obtain ⟨bs, hbs⟩ := edz_open hL hb E (x := x1) g1' w1
      obtain ⟨k2, e2, -, b2⟩ := DataW.trod_int G.h2 (x := x2) g2'
      obtain ⟨vk, ks, t, c, e3, hk⟩ := fa_open F _ _ x3 g3' w3
      obtain ⟨s4, e4, -, -⟩ := DataW.trod_string G.h4 (x := x4) g4'
      simp at e0 e2 e4
      have e3 : [v3, v4, v5] = [vk, .int .i64 t, .int .i64 c] := e3
      simp only [List.cons.injEq, and_true] at e3
      exact ⟨⟨k0, bs, k2, ks, t, c, s4.data.toList⟩, v1, vk, by rw [e0, e2, e4, e3.1, e3.2.1, e3.2.2]; simp [saV, S], hbs, hk, wf64s b2⟩
theorem sas_arg {tE tB tF tL tS eB : TypeId} {g0 g1 g2 g3 g4 f0 f1 f2 d0 d1 d2 : Field} (hE : P.underlying tE = some (.slice tB)) (hbB : 2 ≤ P.bytesOf tB) (G : SaT P tB tF tL tS g0 g1 g2 g3 g4) (F : FaT P tF eB f0 f1 f2) (hL : P.underlying tL = some (.slice tS)) (hb : 2 ≤ P.bytesOf tS) (E : EdT P tS d0 d1 d2) {W : World} {base : Nat} {v : Value} {d : DataW H} {p : List MemPlace}
    (hv : Value.okWide P W .any base tE v) (h : DataW.Trod enc P W 0 (fun _ => true) true tE v d p) (hw : (d.weights P tE).all (· ≤ reachBytes) = true) : ∃ l, RecsAt SaC 7 (fun _ => False) W v l :=
  recs_arg hE G.c.2.2.2.2.1 (by omega) hbB (fun fuel cs x h hw => sa_open G F hL hb E fuel cs x h hw) hv h hw
end
end Go.Gx
namespace Go.Gx
open Go.Proofs
theorem kstob_ag95 : aggT Tryz.prog 95 3 = true := by kernel_rfl
theorem kstob_en110 : Go.Proofs.Enters Tryz.prog 110 := Go.Proofs.enters_of Tryz.func110 (by kernel_rfl) rfl
theorem kstob_en77 : Go.Proofs.Enters Tryz.prog 77 := Go.Proofs.enters_of Tryz.func77 (by kernel_rfl) rfl
theorem kstob_en78 : Go.Proofs.Enters Tryz.prog 78 := Go.Proofs.enters_of Tryz.func78 (by kernel_rfl) rfl
theorem kstob_fo95_0 : fieldOff Tryz.prog 95 0 = some 0 := by kernel_rfl
theorem kstob_fo95_1 : fieldOff Tryz.prog 95 1 = some 1 := by kernel_rfl
theorem kstob_fo95_2 : fieldOff Tryz.prog 95 2 = some 2 := by kernel_rfl
theorem kstob_oc4 : oneCellT Tryz.prog 4 = true := by kernel_rfl
theorem kstob_oc9 : oneCellT Tryz.prog 9 = true := by kernel_rfl
theorem kstob_sz95 : (Tryz.prog.info? 95).map (·.size) = some 3 := by kernel_rfl
theorem may1_ok (e : Ed) (w : World) : Ret Tryz.prog 78 #[.agg (edV e).toArray] w fun v w' => v = .bool (!mayE e) ∧ Bel w w' := by
  have e1 : decide ((100 : Int) < ((e.key.length : Nat) : Int)) = decide (100 < e.key.length) := by rw [decide_eq_decide]; omega
  have e2 : decide ((8100 : Int) < ((e.val.length : Nat) : Int)) = decide (8100 < e.val.length) := by rw [decide_eq_decide]; omega
  refine ret_of_W Tryz.func78 rfl (Nat.le_of_ble_eq_true rfl) (res1 rfl) ?_
  have hB := Gr.refl (fun _ => False) w
  refine W.seq ?_
  refine W.region ?_
  refine L.box (cs := edV e) rfl rfl (fun w1 bx1 hw hz1 => ?_)
  have hB := hB.carry hw
  refine L.val (x_as (v := .bool _) rfl) rfl ?_
  refine L.nil ?_
  refine thn_n ?_
  refine W.seq ?_
  refine W.region ?_
  refine L.val (x_fa kstob_fo95_0 rfl) rfl ?_
  refine L.val (x_ld (v := S _) kstob_oc9 rfl (bx1.cell0 rfl)) rfl ?_
  refine L.val (x_eqs rfl rfl) rfl ?_
  refine L.val (x_mv (v := .bool _) rfl) rfl ?_
  refine' L.group0 4 7 10 10 6 false rfl ?_ ?_ ?_
  rotate_left 1
  ·intro g6
   have h6 := seq_f g6
   refine L.gyes' (dj := 6) (b := _) rfl rfl g6 ?_
   refine L.val (x_fa kstob_fo95_0 rfl) rfl ?_
   refine L.gyes' (dj := 6) (b := _) rfl rfl g6 ?_
   refine L.val (x_ld (v := S _) kstob_oc9 rfl (bx1.cell0 rfl)) rfl ?_
   refine L.gyes' (dj := 6) (b := _) rfl rfl g6 ?_
   refine L.val (x_len_str Tryz.underlying9 rfl) rfl ?_
   refine L.gyes' (dj := 6) (b := _) rfl rfl g6 ?_
   refine L.val (x_gtr rfl rfl) rfl ?_
   refine L.nil ?_
   refine thn_n ⟨rfl, rfl, ?_, rfl⟩
   repeat (first | exact jeq.refl _ _ _ | refine jeq.upd rfl ?_ | refine jeq.jk rfl rfl ?_)
  ·intro g6
   refine L.gno (dj := 6) (b := _) rfl rfl g6 rfl ?_
   refine L.gno (dj := 6) (b := _) rfl rfl g6 rfl ?_
   refine L.gno (dj := 6) (b := _) rfl rfl g6 rfl ?_
   refine L.gno (dj := 6) (b := _) rfl rfl g6 rfl ?_
   refine L.nil (thn_n ⟨rfl, rfl, ?_⟩)
   repeat (first | exact jeq.refl _ _ _ | refine jeq.upd rfl ?_ | refine jeq.jk rfl rfl ?_)
  intro J6 j6
  refine L.val (x_or rfl j6) rfl ?_
  refine L.val (x_mv (v := .bool _) rfl) rfl ?_
  refine' L.group0 4 13 16 16 12 false rfl ?_ ?_ ?_
  rotate_left 1
  ·intro g12
   have h12 := g12
   refine L.gyes' (dj := 12) (b := _) rfl rfl g12 ?_
   refine L.val (x_fa kstob_fo95_1 rfl) rfl ?_
   refine L.gyes' (dj := 12) (b := _) rfl rfl g12 ?_
   refine L.val (x_ld (v := S _) kstob_oc9 rfl (bx1.cell0 rfl)) rfl ?_
   refine L.gyes' (dj := 12) (b := _) rfl rfl g12 ?_
   refine L.val (x_len_str Tryz.underlying9 rfl) rfl ?_
   refine L.gyes' (dj := 12) (b := _) rfl rfl g12 ?_
   refine L.val (x_gtr rfl rfl) rfl ?_
   refine L.nil ?_
   refine thn_n ⟨rfl, rfl, ?_, rfl⟩
   repeat (first | exact jeq.refl _ _ _ | refine jeq.upd rfl ?_ | refine jeq.jk rfl rfl ?_)
  ·intro g12
   refine L.gno (dj := 12) (b := _) rfl rfl g12 rfl ?_
   refine L.gno (dj := 12) (b := _) rfl rfl g12 rfl ?_
   refine L.gno (dj := 12) (b := _) rfl rfl g12 rfl ?_
   refine L.gno (dj := 12) (b := _) rfl rfl g12 rfl ?_
   refine L.nil (thn_n ⟨rfl, rfl, ?_⟩)
   repeat (first | exact jeq.refl _ _ _ | refine jeq.upd rfl ?_ | refine jeq.jk rfl rfl ?_)
  intro J12 j12
  refine L.val (x_or rfl j12) rfl ?_
  refine L.val (x_mv (v := .bool _) rfl) rfl ?_
  refine' L.group0 7 19 25 25 18 false rfl ?_ ?_ ?_
  rotate_left 1
  ·intro g18
   have h18 := g18
   refine L.gyes' (dj := 18) (b := _) rfl rfl g18 ?_
   refine L.val (x_fa kstob_fo95_2 rfl) rfl ?_
   refine L.gyes' (dj := 18) (b := _) rfl rfl g18 ?_
   refine L.val (x_ld (v := .bool _) kstob_oc4 rfl (bx1.cell0 rfl)) rfl ?_
   refine L.gyes' (dj := 18) (b := _) rfl rfl g18 ?_
   refine L.val (x_mv (v := .bool _) rfl) rfl ?_
   refine' L.group0 3 22 24 24 21 true rfl ?_ ?_ ?_
   rotate_left 1
   ·intro g21
    have h21 := g21
    refine L.gyes' (dj := 21) (b := _) rfl rfl g21 ?_
    refine L.val (x_fa kstob_fo95_1 rfl) rfl ?_
    refine L.gyes' (dj := 21) (b := _) rfl rfl g21 ?_
    refine L.val (x_ld (v := S _) kstob_oc9 rfl (bx1.cell0 rfl)) rfl ?_
    refine L.gyes' (dj := 21) (b := _) rfl rfl g21 ?_
    refine L.val (x_nes rfl rfl) rfl ?_
    refine L.nil ?_
    refine thn_n ⟨rfl, rfl, ?_, rfl⟩
    repeat (first | exact jeq.refl _ _ _ | refine jeq.upd rfl ?_ | refine jeq.jk rfl rfl ?_)
   ·intro g21
    refine L.gno (dj := 21) (b := _) rfl rfl g21 rfl ?_
    refine L.gno (dj := 21) (b := _) rfl rfl g21 rfl ?_
    refine L.gno (dj := 21) (b := _) rfl rfl g21 rfl ?_
    refine L.nil (thn_n ⟨rfl, rfl, ?_⟩)
    repeat (first | exact jeq.refl _ _ _ | refine jeq.upd rfl ?_ | refine jeq.jk rfl rfl ?_)
   intro J21 j21
   refine L.gyes' (dj := 18) (b := _) rfl rfl g18 ?_
   refine L.val (x_and rfl j21) rfl ?_
   refine L.nil ?_
   refine thn_n ⟨rfl, rfl, ?_, rfl⟩
   repeat (first | exact jeq.refl _ _ _ | refine jeq.upd rfl ?_ | refine jeq.jk rfl rfl ?_)
  ·intro g18
   refine L.gno (dj := 18) (b := _) rfl rfl g18 rfl ?_
   refine L.gno (dj := 18) (b := _) rfl rfl g18 rfl ?_
   refine L.gno (dj := 18) (b := _) rfl rfl g18 rfl ?_
   refine L.gun (dj := 21) rfl rfl rfl ?_
   refine L.gun (dj := 21) rfl rfl rfl ?_
   refine L.gun (dj := 21) rfl rfl rfl ?_
   refine L.gno (dj := 18) (b := _) rfl rfl g18 rfl ?_
   refine L.nil (thn_n ⟨rfl, rfl, ?_⟩)
   repeat (first | exact jeq.refl _ _ _ | refine jeq.upd rfl ?_ | refine jeq.jk rfl rfl ?_)
  intro J18 j18
  refine L.val (x_or rfl j18) rfl ?_
  refine L.val (x_as (v := .bool _) rfl) rfl ?_
  refine L.nil ?_
  refine thn_n ?_
  refine W.ret (fin_mk (.inr rfl) ?_)
  refine ⟨vb ?_, hB⟩
  unfold mayE
  rw [e1, e2]
  cases (e.key == []) <;> cases decide (100 < e.key.length) <;> cases decide (8100 < e.val.length) <;> cases e.gone <;> cases (e.val == []) <;> rfl
theorem any_notmay (l : List Ed) : (List.range l.length).any (fun i => !mayE (l.getD i default)) = !mayL l := by
  unfold mayL
  cases h : l.all mayE with
  | false =>
    rw [Bool.not_false, List.any_eq_true]
    obtain ⟨x, hx, hp⟩ := List.all_eq_false.1 h
    obtain ⟨i, hi, rfl⟩ := List.getElem_of_mem hx
    exact ⟨i, List.mem_range.2 hi, by rw [List.getD_eq_getElem?_getD, List.getElem?_eq_getElem hi]; simpa using hp⟩
  | true =>
    rw [Bool.not_true, List.any_eq_false]
    intro i hi
    have hi := List.mem_range.1 hi
    have := List.all_eq_true.1 h (l.getD i default) (by rw [List.getD_eq_getElem?_getD, List.getElem?_eq_getElem hi]; exact List.getElem_mem hi)
    rw [this]; decide
theorem anyE_succ {q : Nat → Bool} {k : Nat} : (List.range (k + 1)).any q = ((List.range k).any q || q k) := by rw [List.range_succ, List.any_append]; simp
theorem ifed_ok (A : Nat → Prop) (v : Value) (l : List Ed) (w : World) (h : EdsAt A w v l) :
    Ret Tryz.prog 110 #[v, .func (.func 78) #[] #[]] w fun r w' => (∃ i : Int, r = .int .i64 i ∧ decide (0 ≤ i) = !mayL l) ∧ Bel w w' := by
  obtain ⟨p, cap, row, rfl, h1, h2, h3, -⟩ := id h
  refine ret_of_W Tryz.func110 rfl (Nat.le_of_ble_eq_true rfl) (res1 rfl) ?_
  have hB := Gr.refl (fun _ => False) w
  refine W.seq ?_
  refine W.region ?_
  refine L.val (x_as (v := .int _ _) rfl) rfl ?_
  refine L.nil ?_
  refine thn_n ?_
  refine W.seq ?_
  refine W.seq ?_
  refine W.region ?_
  refine L.val (x_mv (v := .slice _ _ _) rfl) rfl ?_
  refine L.val (x_len_slice Tryz.underlying22 rfl) rfl ?_
  refine L.val (x_mv (v := .int _ _) rfl) rfl ?_
  refine L.nil ?_
  refine thn_n ?_
  refine W.block ?_
  refine W.loop (fun m' E w' => ∃ (k : Nat), m' = l.length - k ∧ E 0 = .slice p l.length cap ∧ E 1 = .func (.func 78) #[] #[] ∧ E 7 = .int .i64 (l.length : Nat) ∧ E 8 = .int .i64 (k : Nat) ∧ (Bel w w') ∧ (EdsAt A w' (.slice p l.length cap) l) ∧ (k ≤ l.length) ∧ ((List.range k).any (fun i => !mayE (l.getD i default)) = false)) (l.length) ?_ ?_
  ·exact ⟨0, by omega, by first | rfl | exact vi (by omega), by first | rfl | exact vi (by omega), by first | rfl | exact vi (by omega), by first | rfl | exact vi (by omega), (by first | assumption | omega | rfl), (by first | assumption | omega | rfl), (by first | assumption | omega | rfl), (by rfl)⟩
  ·rintro _ E wL9 ⟨k, em, e0, e1, e7, e8, hB, h, hk, hne⟩
   rw [upd_self e0, upd_self e1, upd_self e7, upd_self e8]
   refine W.seq ?_
   refine W.region ?_
   refine L.val (x_lss rfl rfl) rfl ?_
   refine L.nil ?_
   refine thn_n ?_
   refine W.seq ?_
   refine W.cond (b := _) rfl (fun g9 => ?_) (fun g9 => ?_)
   ·have h9 := of_decide_eq_true g9
    have hlt : k < l.length := by omega
    obtain ⟨-, b, o, rfl, -, hc⟩ := eds_elem h hlt
    refine W.skip ?_
    refine thn_n ?_
    refine W.seq ?_
    refine W.block ?_
    refine W.seq ?_
    refine W.region ?_
    refine L.val (x_mv (v := .int _ _) rfl) rfl ?_
    refine L.val (x_as (v := .int _ _) rfl) rfl ?_
    refine L.nil ?_
    refine thn_n ?_
    refine W.seq ?_
    refine W.region ?_
    refine L.val (x_mv (v := .func _ _ _) rfl) rfl ?_
    refine L.val (x_mv (v := .slice _ _ _) rfl) rfl ?_
    refine L.val (x_mv (v := .int _ _) rfl) rfl ?_
    refine L.val (x_ia (j := k) Tryz.underlying22 kstob_sz95 rfl rfl (by omega) (by omega)) rfl ?_
    refine L.val (x_ldn (vs := edV (l.getD k default)) kstob_ag95 rfl rfl hc) rfl ?_
    refine L.ret (x_callv kstob_en78 rfl rfl) rfl (may1_ok (l.getD k default) _) ?_
    rintro _ w16 ⟨rfl, hw⟩
    have hB := hB.carry hw; have h := h.carry hw
    refine L.nil ?_
    refine thn_n ?_
    refine W.cond (b := _) rfl (fun g16 => ?_) (fun g16 => ?_)
    ·have h16 := g16
     refine W.seq ?_
     refine W.region ?_
     refine L.val (x_mv (v := .int _ _) rfl) rfl ?_
     refine L.val (x_as (v := .int _ _) rfl) rfl ?_
     refine L.nil ?_
     refine thn_n ?_
     refine W.ret (blk_r (thn_r (thn_r (blk_r (thn_r (fin_mk (.inr rfl) ?_))))))
     refine ⟨⟨_, rfl, ?_⟩, hB⟩
     rw [← any_notmay]
     have e : (List.range l.length).any (fun i => !mayE (l.getD i default)) = true := List.any_eq_true.2 ⟨k, List.mem_range.2 hlt, h16⟩
     rw [e]; exact decide_eq_true (by omega)
    ·have h16 := g16
     refine W.skip ?_
     refine blk_n ?_
     refine thn_n ?_
     refine W.region ?_
     refine L.val (x_add rfl rfl (wr64 (by omega))) rfl ?_
     refine L.val (x_mv (v := .int _ _) rfl) rfl ?_
     refine L.nil ?_
     refine thn_n ⟨rfl, ?_⟩
     refine ⟨_, ?_, k + 1, rfl, by first | rfl | exact vi (by omega), by first | rfl | exact vi (by omega), by first | rfl | exact vi (by omega), by first | rfl | exact vi (by omega), (by first | assumption | omega | rfl), (by first | assumption | omega | rfl), (by first | assumption | omega | rfl), (by rw [anyE_succ, hne, Bool.false_or]; exact h16)⟩
     omega
   ·have h9 := dlt_f g9
    refine W.exit (thn_x (thn_x (blk_hit ?_)))
    refine thn_n ?_
    refine W.seq ?_
    refine W.region ?_
    refine L.val (x_as (v := .int _ _) rfl) rfl ?_
    refine L.nil ?_
    refine thn_n ?_
    refine W.ret (fin_mk (.inr rfl) ?_)
    exact ⟨⟨_, rfl, by rw [← any_notmay, show l.length = k by omega, hne]; rfl⟩, hB⟩
theorem may_ok (A : Nat → Prop) (v : Value) (l : List Ed) (w : World) (h : EdsAt A w v l) : Ret Tryz.prog 41 #[v] w fun r w' => r = .bool (mayL l) ∧ Bel w w' := by
  obtain ⟨p, cap, row, rfl, -⟩ := id h
  have hc : Ret Tryz.prog 77 #[.slice p l.length cap, .func (.func 78) #[] #[]] w fun r w' => r = .bool (!mayL l) ∧ Bel w w' := by
    refine ret_of_W Tryz.func77 rfl (Nat.le_of_ble_eq_true rfl) (res1 rfl) ?_
    have hB := Gr.refl (fun _ => False) w
    refine W.seq ?_
    refine W.region ?_
    refine L.val (x_as (v := .bool _) rfl) rfl ?_
    refine L.nil ?_
    refine thn_n ?_
    refine W.seq ?_
    refine W.region ?_
    refine L.val (x_mv (v := .slice _ _ _) rfl) rfl ?_
    refine L.val (x_mv (v := .func _ _ _) rfl) rfl ?_
    refine L.ret (x_call kstob_en110 rfl) rfl (ifed_ok A _ l w h) ?_
    rintro _ w7 ⟨⟨i, rfl, hi⟩, hw⟩
    have hB := hB.carry hw
    refine L.val (x_geq rfl rfl) rfl ?_
    refine L.val (x_as (v := .bool _) rfl) rfl ?_
    refine L.nil ?_
    refine thn_n ?_
    refine W.ret (fin_mk (.inr rfl) ?_)
    exact ⟨vb hi, hB⟩
  refine ret_of_W Tryz.func41 rfl (Nat.le_of_ble_eq_true rfl) (res1 rfl) ?_
  have hB := Gr.refl (fun _ => False) w
  refine W.seq ?_
  refine W.region ?_
  refine L.val (x_as (v := .bool _) rfl) rfl ?_
  refine L.nil ?_
  refine thn_n ?_
  refine W.seq ?_
  refine W.region ?_
  refine L.val (x_mv (v := .slice _ _ _) rfl) rfl ?_
  refine L.ret (x_call kstob_en77 rfl) rfl (hc) ?_
  rintro _ w4 ⟨rfl, hw⟩
  have hB := hB.carry hw
  refine L.val (x_not rfl) rfl ?_
  refine L.val (x_as (v := .bool _) rfl) rfl ?_
  refine L.nil ?_
  refine thn_n ?_
  refine W.ret (fin_mk (.inr rfl) ?_)
  rw [Bool.not_not]; exact ⟨rfl, hB⟩
end Go.Gx
