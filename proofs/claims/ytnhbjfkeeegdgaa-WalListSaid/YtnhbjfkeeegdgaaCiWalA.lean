/- Arguments that are acts of the laws of logs, opened as they are read. Conditions: none. -/
import Derived.Test.YtnhbjfkeeegdgaaCiDef
import Derived.Test.YtnhbjfkeeegdgaaCiWal9
import Derived.Test.YtnhbjfkeeegdgaaCiRanF
namespace Go.Gx
open Go.ChangeShapes Go.WideShapes Go.Deep Go.RowKit
section
variable {H : Type} {enc : TypeId × Value → H} {P : Program} {w : World} {base : Nat} {spare : Nat → Bool} {held : Bool}
def StzC (_ : Nat → Prop) (_ : World) (cs : List Value) (x : Str) : Prop := cs = [S x] ∧ x.length ≤ 140737488355328
theorem stz_open {e : TypeId} (he : P.underlying e = some .string) (fuel : Nat) (cs : List Value) (x : DataW H × List MemPlace) (h : DataW.trod enc P w base spare held fuel e cs = some x) (hw : (x.1.weights P e).all (· ≤ reachBytes) = true) : ∃ s, StzC (fun _ => False) w cs s := by
  obtain ⟨s, e1, e2, -⟩ := DataW.trod_string he (x := x) h
  refine ⟨s.data.toList, by rw [e1]; simp [S], ?_⟩
  rw [e2] at hw
  have h3 := reachBytes_lt
  have : s.data.toList.length ≤ reachBytes := by simpa [DataW.weights] using hw
  omega
theorem strz_open {t e : TypeId} {fuel : Nat} {v : Value} {x : DataW H × List MemPlace} (ht : P.underlying t = some (.slice e)) (he : P.underlying e = some .string) (hc : P.cellsOf e = 1) (hb : 2 ≤ P.bytesOf e)
    (h : DataW.trod enc P w base spare held fuel t [v] = some x) (hw : (x.1.weights P t).all (· ≤ reachBytes) = true) : ∃ l, StrsAt (fun _ => False) w v l ∧ ∀ s ∈ l, s.length ≤ 140737488355328 := by
  obtain ⟨l, p, cap, row, rfl, h1, h2, h3, hR⟩ := recs_open (Cc := StzC) ht hc (by omega) hb (stz_open he) h hw
  have hlen : ∀ s ∈ l, s.length ≤ 140737488355328 := fun s hs => by
    obtain ⟨i, hi, rfl⟩ := List.getElem_of_mem hs
    have := (hR.each i hi).2
    rwa [List.getD_eq_getElem?_getD, List.getElem?_eq_getElem hi] at this
  refine ⟨l, ⟨p, cap, rfl, h1, h2, h3, fun s hs => by have := hlen s hs; omega, fun hne => ?_⟩, hlen⟩
  obtain ⟨b, o, hp, hA, hcell⟩ := hR.at_ hne
  refine ⟨b, o, hp, hA, fun i hi => ?_⟩
  have := hcell i 0 hi (by omega)
  rw [(hR.each i hi).1, Nat.mul_one, Nat.add_zero] at this
  rw [this, List.getD_eq_getElem?_getD]; simp [List.getElem?_eq_getElem hi]
theorem bls_open {t e : TypeId} {fuel : Nat} {v : Value} {x : DataW H × List MemPlace} (ht : P.underlying t = some (.slice e)) (he : P.underlying e = some .bool) (hc : P.cellsOf e = 1) (hb : 1 ≤ P.bytesOf e)
    (h : DataW.trod enc P w base spare held fuel t [v] = some x) (hw : (x.1.weights P t).all (· ≤ reachBytes) = true) : ∃ l, BlsAt (fun _ => False) w v l := by
  rcases open_slice1 ht hc h with ⟨h1, rfl⟩ | ⟨a, len, cap, m, n, V, D, Pl, h1, -, hl, hm, hmm, rfl, hx⟩
  · simp only [List.cons.injEq, and_true] at h1
    exact ⟨[], none, 0, h1, Nat.le_refl _, by simp, by simp, fun h => absurd rfl h⟩
  · simp only [List.cons.injEq, and_true] at h1
    subst h1
    have hlm : len ≤ m := by rw [hmm]; split <;> omega
    have hs : ∀ i, i < len → ∃ s : Bool, V i = .bool s := fun i hi => by
      obtain ⟨s, h1, -⟩ := DataW.trod_bool he (hx i (by omega)).2
      simp only [List.cons.injEq, and_true] at h1
      exact ⟨s, h1⟩
    obtain ⟨f, hf⟩ := choose_lt (α := Bool) hs
    have hby := (weights_slice ht hw).1
    have hlen : len ≤ 140737488355328 := by
      have h1 : len * P.bytesOf e ≤ reachBytes := Nat.le_trans (Nat.mul_le_mul_right _ (by simp)) hby
      have h2 : len * 1 ≤ len * P.bytesOf e := Nat.mul_le_mul_left _ hb
      have h3 := reachBytes_lt
      omega
    have e0 : ((List.range len).map f).length = len := by simp
    refine ⟨(List.range len).map f, some a, cap, by rw [e0], by rw [e0]; exact hl, hm, by rw [e0]; exact hlen, fun hne => ?_⟩
    have h0 : 0 < len := by rcases Nat.eq_zero_or_pos len with h | h; exact absurd (by rw [h]; rfl) hne; exact h
    have hc0 := (hx 0 (by omega)).1
    obtain ⟨b, o, spot⟩ := a
    have hspot : spot = none := by simpa [Addr.add] using World.cell?_spot hc0
    subst hspot
    refine ⟨b, o, rfl, fun f => f, fun i hi => ?_⟩
    rw [e0] at hi
    have hci := (hx i (by omega)).1
    rw [add_plain] at hci
    rw [hci, hf i hi, List.getD_eq_getElem?_getD, List.getElem?_map, List.getElem?_range hi]; rfl
structure FaT (P : Program) (tF eB : TypeId) (f0 f1 f2 : Field) : Prop where
  hB : P.underlying tF = some (.struct #[f0, f1, f2])
  h0 : P.underlying f0.type = some (.slice eB)
  hb : P.underlying eB = some .bool
  h1 : P.underlying f1.type = some (.int .i64)
  h2 : P.underlying f2.type = some (.int .i64)
  o : f0.offset = 0 ∧ f1.offset = 1 ∧ f2.offset = 2
  c : P.cellsOf f0.type = 1 ∧ P.cellsOf f1.type = 1 ∧ P.cellsOf f2.type = 1 ∧ P.cellsOf tF = 3 ∧ P.cellsOf eB = 1 ∧ 1 ≤ P.bytesOf eB
theorem fa_open {tF eB : TypeId} {f0 f1 f2 : Field} (G : FaT P tF eB f0 f1 f2) (fuel : Nat) (cs : List Value) (x : DataW H × List MemPlace) (h : DataW.trod enc P w base spare held fuel tF cs = some x) (hw : (x.1.weights P tF).all (· ≤ reachBytes) = true) :
    ∃ vk, ∃ l : List Bool, ∃ t c : Int, cs = [vk, .int .i64 t, .int .i64 c] ∧ BlsAt (fun _ => False) w vk l := by
  obtain ⟨xs, n, rfl, rfl, hlen, hxl, hf⟩ := DataW.trod_struct G.hB h
  obtain ⟨o0, o1, o2⟩ := G.o
  obtain ⟨c0, c1, c2, c3, c4, c5⟩ := G.c
  rw [c3] at hlen
  match cs, hlen with
  | [v0, v1, v2], _ =>
    match xs, hxl with
    | [x0, x1, x2], _ =>
      have g0' := hf 0 f0 rfl
      have g1' := hf 1 f1 rfl
      have g2' := hf 2 f2 rfl
      rw [o0, c0] at g0'; rw [o1, c1] at g1'; rw [o2, c2] at g2'
      have w0 := weights_at G.hB hw (i := 0) (f := f0) (d := x0.1) rfl rfl
      obtain ⟨l, hl⟩ := bls_open G.h0 G.hb c4 c5 (x := x0) g0' w0
      obtain ⟨k1, e1, -, -⟩ := DataW.trod_int G.h1 (x := x1) g1'
      obtain ⟨k2, e2, -, -⟩ := DataW.trod_int G.h2 (x := x2) g2'
      simp at e1 e2
      exact ⟨v0, l, k1, k2, by rw [e1, e2], hl⟩
structure WcT (P : Program) (tB tF eS : TypeId) (g0 g1 g2 g3 : Field) : Prop where
  hB : P.underlying tB = some (.struct #[g0, g1, g2, g3])
  h0 : P.underlying g0.type = some (.int .i64)
  h1 : P.underlying g1.type = some (.slice eS)
  hs : P.underlying eS = some .string
  h2 : P.underlying g2.type = some (.int .i64)
  h3 : g3.type = tF
  o : g0.offset = 0 ∧ g1.offset = 1 ∧ g2.offset = 2 ∧ g3.offset = 3
  c : P.cellsOf g0.type = 1 ∧ P.cellsOf g1.type = 1 ∧ P.cellsOf g2.type = 1 ∧ P.cellsOf tF = 3 ∧ P.cellsOf tB = 6 ∧ P.cellsOf eS = 1 ∧ 2 ≤ P.bytesOf eS
theorem wc_open {tB tF eS eB : TypeId} {g0 g1 g2 g3 f0 f1 f2 : Field} (G : WcT P tB tF eS g0 g1 g2 g3) (F : FaT P tF eB f0 f1 f2) (fuel : Nat) (cs : List Value) (x : DataW H × List MemPlace) (h : DataW.trod enc P w base spare held fuel tB cs = some x) (hw : (x.1.weights P tB).all (· ≤ reachBytes) = true) :
    ∃ a, WcC (fun _ => False) w cs a := by
  obtain ⟨xs, n, rfl, rfl, hlen, hxl, hf⟩ := DataW.trod_struct G.hB h
  obtain ⟨o0, o1, o2, o3⟩ := G.o
  obtain ⟨c0, c1, c2, c3, c4, c5, c6⟩ := G.c
  rw [c4] at hlen
  match cs, hlen with
  | [v0, v1, v2, v3, v4, v5], _ =>
    match xs, hxl with
    | [x0, x1, x2, x3], _ =>
      have g0' := hf 0 g0 rfl
      have g1' := hf 1 g1 rfl
      have g2' := hf 2 g2 rfl
      have g3' := hf 3 g3 rfl
      rw [o0, c0] at g0'; rw [o1, c1] at g1'; rw [o2, c2] at g2'; rw [o3, G.h3, c3] at g3'
      have w1 := weights_at G.hB hw (i := 1) (f := g1) (d := x1.1) rfl rfl
      have w3 := weights_at G.hB hw (i := 3) (f := g3) (d := x3.1) rfl rfl
      rw [G.h3] at w3
      obtain ⟨k0, e0, -, -⟩ := DataW.trod_int G.h0 (x := x0) g0'
      obtain ⟨bs, hbs, hbl⟩ := strz_open G.h1 G.hs c5 c6 (x := x1) g1' w1
      obtain ⟨k2, e2, -, -⟩ := DataW.trod_int G.h2 (x := x2) g2'
      obtain ⟨vk, ks, t, c, e3, hk⟩ := fa_open F _ _ x3 g3' w3
      simp at e0 e2
      have e3 : [v3, v4, v5] = [vk, .int .i64 t, .int .i64 c] := e3
      simp only [List.cons.injEq, and_true] at e3
      exact ⟨⟨k0, bs, k2, ks, t, c⟩, v1, vk, by rw [e0, e2, e3.1, e3.2.1, e3.2.2]; rfl, hbs, hk, hbl⟩
theorem wcs_arg {tE tB tF eS eB : TypeId} {g0 g1 g2 g3 f0 f1 f2 : Field} (hE : P.underlying tE = some (.slice tB)) (hb : 2 ≤ P.bytesOf tB) (G : WcT P tB tF eS g0 g1 g2 g3) (F : FaT P tF eB f0 f1 f2) {W : World} {base : Nat} {v : Value} {d : DataW H} {p : List MemPlace}
    (hv : Value.okWide P W .any base tE v) (h : DataW.Trod enc P W 0 (fun _ => true) true tE v d p) (hw : (d.weights P tE).all (· ≤ reachBytes) = true) : ∃ l, RecsAt WcC 6 (fun _ => False) W v l :=
  recs_arg hE G.c.2.2.2.2.1 (by omega) hb (fun fuel cs x h hw => wc_open G F fuel cs x h hw) hv h hw
theorem int_arg {tT : TypeId} (ht : P.underlying tT = some (.int .i64)) {W : World} {base : Nat} {v : Value} {d : DataW H} {p : List MemPlace}
    (hv : Value.okWide P W .any base tT v) (h : DataW.Trod enc P W 0 (fun _ => true) true tT v d p) : ∃ n : Int, v = .int .i64 n ∧ True := by
  obtain ⟨fuel, h⟩ := h
  have hcells : v.cells.toList = [v] := by
    unfold Value.okWide at hv
    rw [ht] at hv
    cases v <;> simp_all [Value.cells, Cell.okWide, Cell.ok]
  rw [hcells] at h
  obtain ⟨k0, e0, -, -⟩ := DataW.trod_int ht h
  simp at e0
  exact ⟨k0, e0, trivial⟩
end
end Go.Gx
namespace Go.Gx
open Go.Proofs
theorem comD_len (D : Dk) (p : Pt) (at' : Nat) (s : Str) : (comD D p at' s).pl.length = D.pl.length := by
  unfold comD
  show (apD (wrD (flD (wrD (wrs D p at' s) (p.ep % 2) (zeros 64))) (p.ep % 2) (hdrS p)).pl _).length = _
  rw [apD_len]
  show (apD (wrD (wrs D p at' s) (p.ep % 2) (zeros 64)).pl _).length = _
  rw [apD_len]
  rfl
theorem comD_ops {D : Dk} (hok : DkOk D) {p : Pt} {at' : Nat} {s : Str} (h6 : 6 ≤ D.pl.length) (hh : p.half ≤ 1) (hr : at' + s.length ≤ roomN D.pl.length) : (comD D p at' s).ops ≤ D.ops + s.length / 64 + 6 ∧ D.ops ≤ (comD D p at' s).ops := by
  have hal := allS_len hok (s := s) h6 hh (at' := at') (by omega)
  have e : (comD D p at' s).ops = D.ops + (if s = [] then 0 else ((allS D p at' s).length + 63) / 64) + 1 + 1 + 1 + 1 := rfl
  rw [e, hal]
  split
  · omega
  · omega
structure After (D : Dk) (q : Pt) (l : List Str) (r : Int × Dk × Pt) : Prop where
  len : r.2.1.pl.length = D.pl.length
  ops : r.2.1.ops ≤ D.ops + need l / 64 + 6 ∧ D.ops ≤ r.2.1.ops
  err : r.1 ≠ 0 → r.2.1 = D ∧ r.2.2 = q
  ep : r.2.2.ep ≤ q.ep + 1
  cnt : r.2.2.cnt ≤ q.cnt + l.length
  ok : q.ep + 1 < 1000000000 → q.cnt + l.length < 2000000000 → D.ops + need l / 64 + 6 < 900000000 → QOk r.2.1 r.2.2
theorem After.same {D : Dk} {q : Pt} (h : QOk D q) (l : List Str) (e : Int) : After D q l (e, D, q) :=
  ⟨rfl, by dsimp only; omega, fun _ => ⟨rfl, rfl⟩, by dsimp only; omega, by dsimp only; omega, fun _ _ _ => h⟩
theorem After.com {D : Dk} {q p : Pt} {l : List Str} {at' : Nat} {s : Str} (h : QOk D q) (hok : DkOk D) (hs : s.length ≤ need l) (hh : p.half ≤ 1) (hr : at' + s.length ≤ roomN D.pl.length) (ht : p.tail ≤ roomN D.pl.length) (hep : p.ep ≤ q.ep + 1) (hcn : p.cnt ≤ q.cnt + l.length) : After D q l (0, comD D p at' s, p) := by
  have ho := comD_ops hok (s := s) (at' := at') h.h6 hh hr
  have hl := comD_len D p at' s
  have hd : s.length / 64 ≤ need l / 64 := Nat.div_le_div_right hs
  refine ⟨hl, by dsimp only; omega, fun e => absurd rfl e, hep, hcn, fun h1 h2 h3 => ⟨by dsimp only; rw [hl]; exact h.h6, h.arm, h.live, rfl, by dsimp only; omega, hh, by dsimp only; rw [hl]; exact ht, by dsimp only; omega, by dsimp only; omega⟩⟩
theorem app_after {D : Dk} {q : Pt} (h : QOk D q) (hok : DkOk D) (l : List Str) : After D q l (appA D q l) := by
  unfold appA
  split
  · split
    · exact After.same h l _
    · rename_i h2
      exact After.com h hok (makeS_le l) h.half (by omega) (by show q.tail + _ ≤ _; omega) (Nat.le_refl _) (Nat.le_refl _)
  · exact After.same h l _
theorem turn_after {D : Dk} {q : Pt} (h : QOk D q) (hok : DkOk D) (l : List Str) : After D q l (turnA D q l) := by
  unfold turnA
  split
  · split
    · exact After.same h l _
    · rename_i h2
      exact After.com h hok (makeS_le l) (by show 1 - q.half ≤ 1; omega) (by omega) (by show (makeS l).1.length ≤ _; omega) (Nat.le_refl _) (by show l.length ≤ _; omega)
  · exact After.same h l _
theorem does_after {D : Dk} {q : Pt} (h : QOk D q) (hok : DkOk D) (a : Wc) : After D q a.bods (doesA D q a) := by
  unfold doesA
  split
  · exact app_after h hok _
  · split
    · exact turn_after h hok _
    · exact After.same h _ _
theorem open_new : ∀ m : Fin 66, 6 ≤ m.val → openA (newD m.val) = (0, pt0, []) := by decide +kernel
theorem q_new {m : Nat} (h : 6 ≤ m) : QOk (newD m) pt0 := by
  have e : (newD m).pl.length = m := by simp [newD]
  exact ⟨by rw [e]; exact h, rfl, rfl, rfl, by show 0 < _; omega, by decide, by show 0 ≤ _; omega, by decide, by decide⟩
end Go.Gx
namespace Go.Gx
open Go.Proofs
theorem lowB_nat (n : Nat) : (lowB (n : Int)).toNat = n % 256 := by
  unfold lowB
  rw [UInt8.toNat_ofNat', show ((n : Int) % 256).toNat = n % 256 by omega]
  omega
theorem beV_take_beN {k n : Nat} (hn : n < 256 ^ k) : ∀ j, j ≤ k → beV ((beN k n).take j) = n / 256 ^ (k - j)
  | 0, _ => by rw [List.take_zero, Nat.sub_zero, Nat.div_eq_of_lt hn]; rfl
  | j + 1, hj => by
    rw [beN_take hj, beV_snoc, beV_take_beN hn j (by omega)]
    have e1 : (n : Int) / 2 ^ (8 * (k - 1 - j)) = ((n / 256 ^ (k - (j + 1)) : Nat) : Int) := by
      have h2 : (256 : Nat) ^ (k - (j + 1)) = 2 ^ (8 * (k - 1 - j)) := by
        rw [show (256 : Nat) = 2 ^ 8 from rfl, ← Nat.pow_mul, show k - 1 - j = k - (j + 1) by omega]
      rw [h2, Int.natCast_ediv, Int.natCast_pow]; rfl
    rw [e1, lowB_nat]
    have e2 : 256 ^ (k - j) = 256 ^ (k - (j + 1)) * 256 := by rw [← Nat.pow_succ]; congr 1; omega
    rw [e2, ← Nat.div_div_eq_div_mul]
    omega
theorem beV_beN {k n : Nat} (hn : n < 256 ^ k) : beV (beN k n) = n := by
  have := beV_take_beN hn k (Nat.le_refl _)
  rw [List.take_of_length_le (by rw [beN_len]; exact Nat.le_refl _), Nat.sub_self, Nat.pow_zero, Nat.div_one] at this
  exact this
theorem bit8 : ∀ n : Fin 256, n.val ≠ 0 → 1 ≤ Lib.bitLen n.val ∧ Lib.bitLen n.val ≤ 8 := by decide +kernel
theorem widN_1 {n : Nat} (h0 : n ≠ 0) (h : n < 256) : widN n = 1 := by
  have := bit8 ⟨n, h⟩ h0
  unfold widN; dsimp only at this; omega
theorem widN_2 {n : Nat} (h0 : 256 ≤ n) (h : n < 65536) : widN n = 2 := by
  have := bit8 ⟨n / 256, by omega⟩ (by dsimp only; omega)
  unfold widN
  rw [Lib.bitLen_shift8 n h0 (by omega)]
  dsimp only at this; omega
theorem takeNum_numB {n : Nat} (hn : n ≤ 20000) (pre rest : Str) : takeNum (pre ++ numB n ++ rest) pre.length = (n, pre.length + (numB n).length, 0) := by
  have e0 : (pre ++ numB n ++ rest).drop pre.length = numB n ++ rest := by rw [List.append_assoc, List.drop_left]
  unfold takeNum
  rw [e0]
  by_cases h : n < 248
  · have e1 : numB n = [lowB (n : Nat)] := by unfold numB; rw [if_pos h]
    rw [e1]
    simp only [List.cons_append, List.nil_append]
    rw [lowB_nat, show n % 256 = n by omega, if_pos h]; rfl
  · have hw : ∃ k, widN n = k ∧ 1 ≤ k ∧ k ≤ 2 ∧ n < 256 ^ k := by
      by_cases h2 : n < 256
      · exact ⟨1, widN_1 (by omega) h2, by omega, by omega, by omega⟩
      · exact ⟨2, widN_2 (by omega) (by omega), by omega, by omega, by omega⟩
    obtain ⟨k, hk, k1, k2, k3⟩ := hw
    have e1 : numB n = lowB ((247 + k : Nat) : Int) :: beN k n := by unfold numB; rw [if_neg h, hk]; rfl
    have e2 : (lowB ((247 + k : Nat) : Int)).toNat = 247 + k := by rw [lowB_nat]; omega
    have e3 : (beN k n ++ rest).take k = beN k n := by
      have := List.take_left (l₁ := beN k n) (l₂ := rest)
      rwa [beN_len] at this
    rw [e1]
    simp only [List.cons_append]
    rw [e2, if_neg (by omega), show 247 + k - 247 = k by omega, if_neg (by rw [List.length_append, beN_len]; omega), e3, beV_beN k3, if_neg (by rw [hk]; omega)]
    simp only [List.length_cons, beN_len]
    rw [show pre.length + 1 + k = pre.length + (k + 1) by omega]
theorem takeText_textB {s : Str} (hs : s.length ≤ 20000) (pre rest : Str) : takeText (pre ++ textB s ++ rest) pre.length = (s, pre.length + (textB s).length, 0) := by
  have e0 : pre ++ textB s ++ rest = pre ++ numB s.length ++ (s ++ rest) := by unfold textB; simp only [List.append_assoc]
  have hN := takeNum_numB hs pre (s ++ rest)
  rw [takeText_eq, e0, hN]
  have e1 : (pre ++ numB s.length ++ (s ++ rest)).drop (pre.length + (numB s.length).length) = s ++ rest := by
    have := List.drop_left (l₁ := pre ++ numB s.length) (l₂ := s ++ rest)
    rwa [List.length_append] at this
  have e2 : (textB s).length = (numB s.length).length + s.length := by unfold textB; rw [List.length_append]
  dsimp only
  rw [if_neg (by decide), if_neg (by simp only [List.length_append]; omega), e1, List.take_left, e2, Nat.add_assoc]
theorem takeF_frm {s : Str} (hs : s.length ≤ 20000) (pre rest : Str) : takeF (pre ++ frm s ++ rest) pre.length = (s, pre.length + (frm s).length, 0) := by
  have e0 : pre ++ frm s ++ rest = pre ++ textB s ++ (sumB (textB s) ++ rest) := by unfold frm; simp only [List.append_assoc]
  have hT := takeText_textB hs pre (sumB (textB s) ++ rest)
  have e1 : (pre ++ textB s ++ (sumB (textB s) ++ rest)).drop pre.length = textB s ++ (sumB (textB s) ++ rest) := by rw [List.append_assoc, List.drop_left]
  have e2 : (pre ++ textB s ++ (sumB (textB s) ++ rest)).drop (pre.length + (textB s).length) = sumB (textB s) ++ rest := by
    have := List.drop_left (l₁ := pre ++ textB s) (l₂ := sumB (textB s) ++ rest)
    rwa [List.length_append] at this
  have e3 : (sumB (textB s) ++ rest).take 4 = sumB (textB s) := by
    have := List.take_left (l₁ := sumB (textB s)) (l₂ := rest)
    rwa [sumB_len] at this
  unfold takeF
  rw [e0, hT]
  dsimp only
  rw [if_neg (by decide), if_neg (by omega), if_neg (by simp only [List.length_append, sumB_len]; omega), e1, e2, e3, show pre.length + (textB s).length - pre.length = (textB s).length by omega, List.take_left, if_neg (by simp)]
  have : (frm s).length = (textB s).length + 4 := by unfold frm; rw [List.length_append, sumB_len]
  rw [this, Nat.add_assoc]
def endsF : Nat → List Str → List (Str × Nat)
  | _, [] => []
  | k, s :: l => (s, k + (frm s).length) :: endsF (k + (frm s).length) l
theorem takeF_end (s : Str) : (takeF s s.length).2.2 ≠ 0 := fun e => by have := (takeF_le e).2.2; omega
theorem scanF_frms : ∀ (l : List Str) (f : Nat) (pre : Str), tooBig l = false → l.length < f → scanF f (pre ++ (l.map frm).flatten) pre.length = endsF pre.length l
  | [], f + 1, pre, _, _ => by
    rw [List.map_nil, List.flatten_nil, List.append_nil, scanF, if_pos (takeF_end pre)]; rfl
  | s :: l, f + 1, pre, h, hf => by
    unfold tooBig at h
    rw [List.any_cons, Bool.or_eq_false_iff] at h
    have hs : s.length ≤ 20000 := by have := h.1; simp only [decide_eq_false_iff_not] at this; omega
    have e0 : pre ++ ((s :: l).map frm).flatten = pre ++ frm s ++ (l.map frm).flatten := by simp
    have hT := takeF_frm hs pre (l.map frm).flatten
    have ih := scanF_frms l f (pre ++ frm s) h.2 (by simpa using hf)
    rw [List.length_append] at ih
    rw [scanF, e0, hT, if_neg (by simp)]
    dsimp only
    rw [ih]; rfl
theorem endsF_fst : ∀ (l : List Str) (k : Nat), (endsF k l).map (·.1) = l
  | [], _ => rfl
  | s :: l, k => by simp [endsF, endsF_fst l]
theorem endsF_last : ∀ (l : List Str) (k : Nat), l ≠ [] → ((endsF k l).getLast?.map (·.2)).getD 0 = k + (l.map frm).flatten.length
  | [], _, h => absurd rfl h
  | [s], k, _ => by simp [endsF]
  | s :: t :: l, k, _ => by
    have ih := endsF_last (t :: l) (k + (frm s).length) (by simp)
    have e : endsF k (s :: t :: l) = (s, k + (frm s).length) :: endsF (k + (frm s).length) (t :: l) := rfl
    rw [e, List.getLast?_cons_of_ne_nil (by simp [endsF]), ih]
    simp [Nat.add_assoc]
theorem frm_pos (s : Str) : 4 ≤ (frm s).length := by unfold frm; rw [List.length_append, sumB_len]; omega
theorem len_frms (l : List Str) : l.length ≤ (l.map frm).flatten.length := by
  induction l with
  | nil => simp
  | cons s l ih => have := frm_pos s; simp only [List.map_cons, List.flatten_cons, List.length_append, List.length_cons]; omega
theorem scan_frms {l : List Str} (h : tooBig l = false) : scanS ((l.map frm).flatten) = (l, (l.map frm).flatten.length) := by
  have hl := len_frms l
  have e := scanF_frms l ((l.map frm).flatten.length + 1) [] h (by omega)
  simp only [List.nil_append, List.length_nil] at e
  unfold scanS frames
  rw [e, endsF_fst]
  by_cases h0 : l = []
  · subst h0; rfl
  · rw [endsF_last l 0 h0, Nat.zero_add]
theorem hdr_17 (p : Pt) : (hdrS p).take 17 = ptS p ∧ ((hdrS p).drop 17).take 17 = turnS (ptS p) := by
  have h := ptS_len p
  have e : hdrS p = ptS p ++ (turnS (ptS p) ++ zeros 30) := by unfold hdrS; rw [List.append_assoc]
  have h2 : (turnS (ptS p)).length = 17 := by simp [turnS, h]
  constructor
  · have := List.take_left (l₁ := ptS p) (l₂ := turnS (ptS p) ++ zeros 30)
    rw [h] at this; rw [e]; exact this
  · have := List.drop_left (l₁ := ptS p) (l₂ := turnS (ptS p) ++ zeros 30)
    rw [h] at this; rw [e, this]
    have := List.take_left (l₁ := turnS (ptS p)) (l₂ := zeros 30)
    rwa [h2] at this
theorem rd_hdr {p : Pt} (hp : PtOk p) (hh : p.half < 256) : rdPt (hdrS p) = p := by
  obtain ⟨h1, h2, h3, h4⟩ := hp
  have e : hdrS p = beN 8 p.ep ++ (beN 1 p.half ++ (beN 4 p.tail ++ (beN 4 p.cnt ++ (turnS (ptS p) ++ zeros 30)))) := by
    have e1 : hdrS p = (beN 8 p.ep ++ beN 1 p.half ++ beN 4 p.tail ++ beN 4 p.cnt) ++ turnS (ptS p) ++ zeros 30 := rfl
    rw [e1]; simp only [List.append_assoc]
  have p8 : (256 : Nat) ^ 8 = 18446744073709551616 := by decide
  have p4 : (256 : Nat) ^ 4 = 4294967296 := by decide
  have tk : ∀ (k n : Nat) (r : Str), (beN k n ++ r).take k = beN k n := fun k n r => by
    have := List.take_left (l₁ := beN k n) (l₂ := r)
    rwa [beN_len] at this
  have dr : ∀ (k n : Nat) (r : Str), (beN k n ++ r).drop k = r := fun k n r => by
    have := List.drop_left (l₁ := beN k n) (l₂ := r)
    rwa [beN_len] at this
  have d9 : (hdrS p).drop 9 = beN 4 p.tail ++ (beN 4 p.cnt ++ (turnS (ptS p) ++ zeros 30)) := by
    rw [e, show 9 = 8 + 1 from rfl, ← List.drop_drop, dr, dr]
  have d13 : (hdrS p).drop 13 = beN 4 p.cnt ++ (turnS (ptS p) ++ zeros 30) := by
    rw [show 13 = 9 + 4 from rfl, ← List.drop_drop, d9, dr]
  have b8 : (hdrS p).getD 8 0 = lowB (p.half : Nat) := by
    rw [List.getD_eq_getElem?_getD, e, List.getElem?_append_right (by rw [beN_len]; omega), beN_len]
    simp [beN]
  unfold rdPt
  rw [b8, d9, d13, tk, tk, beV_beN (by rw [p4]; exact h3), beV_beN (by rw [p4]; exact h4), lowB_nat, e, tk, beV_beN (by rw [p8]; exact h1), Nat.mod_eq_of_lt hh]
theorem rdOk_hdr {p : Pt} (hp : PtOk p) (hh : p.half ≤ 1) {room : Nat} (ht : p.tail ≤ room) : rdOk (hdrS p) room = true := by
  unfold rdOk
  rw [(hdr_17 p).1, (hdr_17 p).2, rd_hdr hp (by omega), decide_eq_true hh, decide_eq_true ht, beq_self_eq_true]; rfl
end Go.Gx
namespace Go.Gx
open Go.Proofs
theorem getD_set0 {l : List Str} {i j : Nat} {x : Str} (hj : j < l.length) : (l.set j x).getD i [] = if i = j then x else l.getD i [] := by
  rw [List.getD_eq_getElem?_getD, List.getElem?_set]
  split
  · rename_i h; subst h; simp [hj]
  · rename_i h; rw [if_neg (fun e => h e.symm), List.getD_eq_getElem?_getD]
theorem apD_app (pl : List Str) (l m : List (Nat × Str)) : apD pl (l ++ m) = apD (apD pl l) m := by unfold apD; rw [List.foldl_append]
theorem apC_get (pl : List Str) (st : Nat) (c : Nat → Str) (i : Nat) : ∀ m, st + m ≤ pl.length → (apD pl ((List.range m).map fun k => (st + k, c k))).getD i [] = if st ≤ i ∧ i < st + m then c (i - st) else pl.getD i []
  | 0, _ => by rw [if_neg (by omega)]; rfl
  | m + 1, h => by
    rw [List.range_succ, List.map_append, apD_app]
    have e : apD (apD pl ((List.range m).map fun k => (st + k, c k))) ([m].map fun k => (st + k, c k)) = (apD pl ((List.range m).map fun k => (st + k, c k))).set (st + m) (c m) := rfl
    rw [e, getD_set0 (by rw [apD_len]; omega), apC_get pl st c i m (by omega)]
    by_cases h1 : i = st + m
    · rw [if_pos h1, if_pos (by omega), h1, show st + m - st = m by omega]
    · rw [if_neg h1]
      by_cases h2 : st ≤ i ∧ i < st + m
      · rw [if_pos h2, if_pos (by omega)]
      · rw [if_neg h2, if_neg (by omega)]
theorem rdD_pl {D : Dk} (h : D.ca = []) (i : Nat) : rdD D i = D.pl.getD i [] := by unfold rdD; rw [h]; rfl
def nck (D : Dk) (p : Pt) (at' : Nat) (s : Str) : Nat := if s = [] then 0 else ((allS D p at' s).length + 63) / 64
theorem comD_rd {D : Dk} {p : Pt} {at' : Nat} {s : Str} (hca : D.ca = []) (h6 : 6 ≤ D.pl.length) (hm : stN D.pl.length p.half + at' / 64 + nck D p at' s ≤ D.pl.length) (i : Nat) :
    rdD (comD D p at' s) i = if i = p.ep % 2 then hdrS p else if stN D.pl.length p.half + at' / 64 ≤ i ∧ i < stN D.pl.length p.half + at' / 64 + nck D p at' s then ckS (allS D p at' s) (i - (stN D.pl.length p.half + at' / 64)) else rdD D i := by
  rw [rdD_pl (show (comD D p at' s).ca = [] from rfl), rdD_pl hca]
  have e : (comD D p at' s).pl = ((apD D.pl (D.ca ++ (List.range (nck D p at' s)).map (fun k => (stN D.pl.length p.half + at' / 64 + k, ckS (allS D p at' s) k)))).set (p.ep % 2) (zeros 64)).set (p.ep % 2) (hdrS p) := by
    have e1 : (comD D p at' s).pl = apD (apD D.pl (D.ca ++ (List.range (nck D p at' s)).map (fun k => (stN D.pl.length p.half + at' / 64 + k, ckS (allS D p at' s) k)) ++ [(p.ep % 2, zeros 64)])) [(p.ep % 2, hdrS p)] := rfl
    rw [e1, apD_app _ _ [(p.ep % 2, zeros 64)]]; rfl
  rw [e, hca, List.nil_append, getD_set0 (by rw [List.length_set, apD_len]; omega), getD_set0 (by rw [apD_len]; omega), apC_get _ _ _ _ _ hm]
  by_cases h1 : i = p.ep % 2
  · rw [if_pos h1, if_pos h1]
  · rw [if_neg h1, if_neg h1, if_neg h1]
theorem areaS_get {D : Dk} (hok : DkOk D) (p : Pt) (j : Nat) : ∀ K, (∀ i, i < K → stN D.pl.length p.half + i < D.pl.length) → j < 64 * K → (areaS D p K)[j]? = (rdD D (stN D.pl.length p.half + j / 64))[j % 64]?
  | 0, _, h => by omega
  | K + 1, hK, h => by
    have hl := areaS_len hok (p := p) K (fun i hi => hK i (by omega))
    rw [← areaS_succ]
    by_cases h1 : j < 64 * K
    · rw [List.getElem?_append_left (by omega), areaS_get hok p j K (fun i hi => hK i (by omega)) h1]
    · rw [List.getElem?_append_right (by omega), hl, show j / 64 = K by omega, show j - 64 * K = j % 64 by omega]
theorem ckS_get {all : Str} {k r : Nat} (hr : r < 64) (h : 64 * k + r < all.length) : (ckS all k)[r]? = all[64 * k + r]? := by
  unfold ckS pad
  rw [List.getElem?_append_left (by rw [List.length_take, List.length_drop]; omega), List.getElem?_take, if_pos hr, List.getElem?_drop]
theorem com_area {D : Dk} {p : Pt} {at' : Nat} {s : Str} (hok : DkOk D) (hok' : DkOk (comD D p at' s)) (hca : D.ca = []) (h6 : 6 ≤ D.pl.length) (hh : p.half ≤ 1) (hr : at' + s.length ≤ roomN D.pl.length) (ht : p.tail = at' + s.length) :
    allA (comD D p at' s) p = (areaS D p ((at' + 63) / 64)).take at' ++ s := by
  have hst := stN_le h6 hh
  have hrN : roomN D.pl.length = hlf D.pl.length * 64 := rfl
  have hal := allS_len hok (s := s) h6 hh (at' := at') (by omega)
  have hnk : s = [] ∧ nck D p at' s = 0 ∨ s ≠ [] ∧ nck D p at' s = (at' % 64 + s.length + 63) / 64 := by
    unfold nck
    by_cases h : s = []
    · exact .inl ⟨h, if_pos h⟩
    · exact .inr ⟨h, by rw [if_neg h, hal]⟩
  have hm : stN D.pl.length p.half + at' / 64 + nck D p at' s ≤ D.pl.length := by
    rcases hnk with ⟨h, e⟩ | ⟨h, e⟩ <;> rw [e] <;> omega
  have h2 : 2 ≤ stN D.pl.length p.half := by unfold stN; omega
  have hlen := comD_len D p at' s
  have hL : (areaS (comD D p at' s) p ((at' + s.length + 63) / 64)).length = 64 * ((at' + s.length + 63) / 64) := areaS_len hok' _ (fun i hi => by rw [hlen]; omega)
  have hL0 : (areaS D p ((at' + 63) / 64)).length = 64 * ((at' + 63) / 64) := areaS_len hok _ (fun i hi => by omega)
  unfold allA
  rw [ht]
  apply List.ext_getElem?
  intro j
  by_cases hj : j < at' + s.length
  · rw [List.getElem?_take, if_pos hj, areaS_get hok' p j ((at' + s.length + 63) / 64) (fun i hi => by rw [hlen]; omega) (by omega), hlen, comD_rd hca h6 hm, if_neg (by omega)]
    have old : j < at' → ((areaS D p ((at' + 63) / 64)).take at' ++ s)[j]? = (rdD D (stN D.pl.length p.half + j / 64))[j % 64]? := fun h => by
      rw [List.getElem?_append_left (by rw [List.length_take]; omega), List.getElem?_take, if_pos h, areaS_get hok p j ((at' + 63) / 64) (fun i hi => by omega) (by omega)]
    by_cases hw : stN D.pl.length p.half + at' / 64 ≤ stN D.pl.length p.half + j / 64 ∧ stN D.pl.length p.half + j / 64 < stN D.pl.length p.half + at' / 64 + nck D p at' s
    · have hs : s ≠ [] := by rcases hnk with ⟨h, e⟩ | ⟨h, e⟩; (rw [e] at hw; omega); exact h
      rw [if_pos hw, show stN D.pl.length p.half + j / 64 - (stN D.pl.length p.half + at' / 64) = j / 64 - at' / 64 by omega, ckS_get (by omega) (by omega)]
      by_cases hja : j < at'
      · rw [old hja]
        have e1 : j / 64 = at' / 64 := by omega
        unfold allS
        rw [if_neg (by omega), List.getElem?_append_left (by rw [List.length_take, rdD_len hok (by omega)]; omega), List.getElem?_take, if_pos (by omega), e1, Nat.sub_self, Nat.mul_zero, Nat.zero_add]
      · rw [List.getElem?_append_right (by rw [List.length_take]; omega), List.length_take, hL0]
        unfold allS
        by_cases h0 : at' % 64 = 0
        · rw [if_pos h0]; congr 1; omega
        · rw [if_neg h0, List.getElem?_append_right (by rw [List.length_take, rdD_len hok (by omega)]; omega), List.length_take, rdD_len hok (by omega)]; congr 1; omega
    · rw [if_neg hw, old (by rcases hnk with ⟨h, e⟩ | ⟨h, e⟩; (subst h; simpa using hj); (rw [e] at hw; omega))]
  · rw [List.getElem?_eq_none (by rw [List.length_take]; omega), List.getElem?_eq_none (by rw [List.length_append, List.length_take]; omega)]
end Go.Gx
namespace Go.Gx
open Go.Proofs
structure Rep (D : Dk) (q : Pt) (all : List Str) : Prop where
  ok : QOk D q
  big : tooBig all = false
  tail : q.tail = (all.map frm).flatten.length
  cnt : q.cnt = all.length
  area : allA D q = (all.map frm).flatten
  z : q.ep = 0 → q = pt0 ∧ rdD D 0 = zeros 64 ∧ rdD D 1 = zeros 64
  hd : 0 < q.ep → rdD D (q.ep % 2) = hdrS q
  ot : 0 < q.ep → rdOk (rdD D ((q.ep + 1) % 2)) (roomN D.pl.length) = true → (rdPt (rdD D ((q.ep + 1) % 2))).ep < q.ep
theorem rdOk_zeros (room : Nat) : rdOk (zeros 64) room = false := by
  have h : ((zeros 64).drop 17).take 17 = turnS ((zeros 64).take 17) → False := by decide +kernel
  unfold rdOk
  rw [beq_eq_false_iff_ne.2 h]; rfl
theorem QOk.pt {D : Dk} {q : Pt} (h : QOk D q) (hok : DkOk D) : PtOk q := by
  have := roomN_le hok.small
  have := h.tail; have := h.half; have := h.ep; have := h.cnt
  exact ⟨by omega, by omega, by omega, by omega⟩
theorem hdP_rep {D : Dk} {q : Pt} {all : List Str} (h : Rep D q all) (hok : DkOk D) : 0 < q.ep → hdP D 2 = (q, true) := fun h0 => by
  have hp := h.ok.pt hok
  have e1 : rdOk (hdrS q) (roomN D.pl.length) = true := rdOk_hdr hp h.ok.half h.ok.tail
  have e2 := rd_hdr hp (show q.half < 256 by have := h.ok.half; omega)
  have hd := h.hd h0; have ot := h.ot h0
  show stepP _ (rdD D 1) (stepP _ (rdD D 0) (pt0, false)) = _
  rcases Nat.mod_two_eq_zero_or_one q.ep with h1 | h1
  · rw [h1] at hd
    rw [show (q.ep + 1) % 2 = 1 by omega] at ot
    have s0 : stepP (roomN D.pl.length) (rdD D 0) (pt0, false) = (q, true) := by unfold stepP; rw [hd, e1, e2]; rfl
    rw [s0]
    unfold stepP
    cases h2 : rdOk (rdD D 1) (roomN D.pl.length) with
    | false => rfl
    | true =>
      have := ot h2
      rw [decide_eq_false (show ¬ q.ep < (rdPt (rdD D 1)).ep by omega)]; rfl
  · rw [h1] at hd
    rw [show (q.ep + 1) % 2 = 0 by omega] at ot
    have s1 : ∀ x : Pt × Bool, (x.2 = true → x.1.ep < q.ep) → stepP (roomN D.pl.length) (rdD D 1) x = (q, true) := fun x hx => by
      unfold stepP
      rw [hd, e1, e2]
      cases h3 : x.2 with
      | false => rfl
      | true => rw [decide_eq_true (hx h3)]; rfl
    refine s1 _ fun hx => ?_
    unfold stepP at hx ⊢
    cases h2 : rdOk (rdD D 0) (roomN D.pl.length) with
    | false => rw [h2] at hx; cases hx
    | true => exact ot h2
theorem open_rep {D : Dk} {q : Pt} {all : List Str} (h : Rep D q all) (hok : DkOk D) : openA D = (0, q, all) := by
  have hs := scan_frms h.big
  have key : (hdP D 2).1 = q ∧ ((hdP D 2).2 || frS D 2) = true := by
    rcases Nat.eq_zero_or_pos q.ep with h0 | h0
    · obtain ⟨e1, e2, e3⟩ := h.z h0
      have hh : hdP D 2 = (pt0, false) := by
        show stepP _ (rdD D 1) (stepP _ (rdD D 0) (pt0, false)) = _
        rw [e2, e3]
        unfold stepP
        rw [rdOk_zeros]; rfl
      rw [hh, e1]
      refine ⟨rfl, ?_⟩
      unfold frS
      rw [e2, beq_self_eq_true]; rfl
    · rw [hdP_rep h hok h0]; exact ⟨rfl, rfl⟩
  unfold openA
  rw [if_pos key.2, key.1, h.area, hs, if_pos ⟨h.tail.symm, h.cnt.symm⟩]
theorem rep_new {m : Nat} (h : 6 ≤ m) : Rep (newD m) pt0 [] := by
  have hz : ∀ i, i < m → rdD (newD m) i = zeros 64 := fun i hi => by
    rw [rdD_pl rfl]
    show (List.replicate m (zeros 64)).getD i [] = _
    rw [List.getD_eq_getElem?_getD, List.getElem?_replicate, if_pos hi]; rfl
  exact ⟨q_new h, rfl, rfl, rfl, rfl, fun _ => ⟨rfl, hz 0 (by omega), hz 1 (by omega)⟩, fun e => absurd e (by decide), fun e => absurd e (by decide)⟩
theorem rep_com {D : Dk} {q p : Pt} {all all' : List Str} {at' : Nat} {s : Str} (h : Rep D q all) (hok : DkOk D) (hok' : DkOk (comD D p at' s)) (hq : QOk (comD D p at' s) p) (hep : p.ep = q.ep + 1) (hr : at' + s.length ≤ roomN D.pl.length) (ht : p.tail = at' + s.length)
    (hb : tooBig all' = false) (ho : (areaS D p ((at' + 63) / 64)).take at' ++ s = (all'.map frm).flatten) (hl : p.tail = (all'.map frm).flatten.length) (hc : p.cnt = all'.length) : Rep (comD D p at' s) p all' := by
  have hca := h.ok.ca
  have h6 := h.ok.h6
  have hst := stN_le h6 hq.half
  have hal := allS_len hok (s := s) h6 hq.half (at' := at') (by omega)
  have hrN : roomN D.pl.length = hlf D.pl.length * 64 := rfl
  have hm : stN D.pl.length p.half + at' / 64 + nck D p at' s ≤ D.pl.length := by
    unfold nck
    split <;> omega
  have h2 : 2 ≤ stN D.pl.length p.half := by unfold stN; omega
  have hrd := comD_rd hca h6 hm (s := s)
  refine ⟨hq, hb, hl, hc, by rw [com_area hok hok' hca h6 hq.half hr ht, ho], fun e => by omega, fun _ => ?_, fun _ => ?_⟩
  · rw [hrd, if_pos rfl]
  · rw [hrd, if_neg (by omega), if_neg (by omega), comD_len]
    intro hk
    rw [show (p.ep + 1) % 2 = q.ep % 2 by omega] at hk ⊢
    rcases Nat.eq_zero_or_pos q.ep with h0 | h0
    · obtain ⟨e1, e2, e3⟩ := h.z h0
      rw [h0, show (0 : Nat) % 2 = 0 from rfl, e2, rdOk_zeros] at hk
      cases hk
    · rw [h.hd h0, rd_hdr (h.ok.pt hok) (by have := h.ok.half; omega)]; omega
theorem makeS_ok {l : List Str} (h : (makeS l).2 = 0) : tooBig l = false ∧ (makeS l).1 = (l.map frm).flatten := by
  unfold makeS at h ⊢
  split at h
  · cases h
  · rename_i h1
    rw [if_neg h1]
    exact ⟨by simpa using h1, rfl⟩
theorem tooBig_app {l m : List Str} (h1 : tooBig l = false) (h2 : tooBig m = false) : tooBig (l ++ m) = false := by
  unfold tooBig at *; rw [List.any_append, h1, h2]; rfl
theorem areaS_half (D : Dk) {p q : Pt} (h : p.half = q.half) (k : Nat) : areaS D p k = areaS D q k := by unfold areaS; rw [h]
theorem rep_app {D : Dk} {q : Pt} {all : List Str} (h : Rep D q all) (hok : DkOk D) (l : List Str) (hok' : DkOk (appA D q l).2.1) (hq : QOk (appA D q l).2.1 (appA D q l).2.2) : Rep (appA D q l).2.1 (appA D q l).2.2 (if (appA D q l).1 = 0 then all ++ l else all) := by
  unfold appA at *
  split at hok'
  · rename_i h1
    rw [if_pos h1] at hq ⊢
    split at hok'
    · rename_i h2
      rw [if_pos h2] at hq ⊢
      exact h
    · rename_i h2
      rw [if_neg h2] at hq ⊢
      obtain ⟨b1, b2⟩ := makeS_ok h1.1
      dsimp only at hok' hq ⊢
      rw [if_pos rfl]
      have ha : (areaS D (appP q l) ((q.tail + 63) / 64)).take q.tail = (all.map frm).flatten := by
        rw [areaS_half D (p := appP q l) (q := q) rfl]; exact h.area
      refine rep_com h hok hok' hq rfl (by omega) rfl (tooBig_app h.big b1) ?_ ?_ ?_
      · rw [ha, b2, List.map_append, List.flatten_append]
      · show q.tail + (makeS l).1.length = _
        rw [b2, h.tail, List.map_append, List.flatten_append, List.length_append]
      · show q.cnt + l.length = _
        rw [h.cnt, List.length_append]
  · rename_i h1
    rw [if_neg h1]
    dsimp only
    split
    · rename_i h2
      have : l = [] := Decidable.byContradiction fun e => h1 ⟨h2, e⟩
      rw [this, List.append_nil]; exact h
    · exact h
theorem rep_turn {D : Dk} {q : Pt} {all : List Str} (h : Rep D q all) (hok : DkOk D) (l : List Str) (hok' : DkOk (turnA D q l).2.1) (hq : QOk (turnA D q l).2.1 (turnA D q l).2.2) : Rep (turnA D q l).2.1 (turnA D q l).2.2 (if (turnA D q l).1 = 0 then l else all) := by
  unfold turnA at *
  split at hok'
  · rename_i h1
    rw [if_pos h1] at hq ⊢
    split at hok'
    · rename_i h2
      rw [if_pos h2] at hq ⊢
      exact h
    · rename_i h2
      rw [if_neg h2] at hq ⊢
      obtain ⟨b1, b2⟩ := makeS_ok h1
      dsimp only at hok' hq ⊢
      rw [if_pos rfl]
      refine rep_com h hok hok' hq rfl (by omega) (by show (makeS l).1.length = _; omega) b1 ?_ ?_ rfl
      · rw [List.take_zero, List.nil_append, b2]
      · show (makeS l).1.length = _
        rw [b2]
  · rename_i h1
    rw [if_neg h1]
    dsimp only
    rw [if_neg h1]; exact h
def goesA (all : List Str) (a : Wc) : List Str := if a.kind = 0 then all ++ a.bods else if a.kind = 1 then a.bods else all
theorem rep_does {D : Dk} {q : Pt} {all : List Str} (h : Rep D q all) (hok : DkOk D) (a : Wc) (hok' : DkOk (doesA D q a).2.1) (hq : QOk (doesA D q a).2.1 (doesA D q a).2.2) : Rep (doesA D q a).2.1 (doesA D q a).2.2 (if (doesA D q a).1 = 0 then goesA all a else all) := by
  unfold doesA goesA at *
  by_cases h1 : a.kind = 0
  · simp only [if_pos h1] at *
    exact rep_app h hok _ hok' hq
  · simp only [if_neg h1] at *
    by_cases h2 : a.kind = 1
    · simp only [if_pos h2] at *
      exact rep_turn h hok _ hok' hq
    · simp only [if_neg h2] at *
      simpa using h
end Go.Gx
namespace Go.Gx
open Go.Proofs
theorem kwal17_el5 : elT Try.prog 5 1 = true := by kernel_rfl
theorem kwal17_en73 : Go.Proofs.Enters Try.prog 73 := Go.Proofs.enters_of Try.func73 (by kernel_rfl) rfl
theorem dig_le {n k : Nat} (hn : n < 18446744073709551616) (h : 0 < n / 256 ^ (k - 1)) : k ≤ 8 := by
  rcases Nat.lt_or_ge 8 k with h1 | h1
  · have h2 : (256 : Nat) ^ 8 ≤ 256 ^ (k - 1) := Nat.pow_le_pow_right (by omega) (by omega)
    have h3 : (256 : Nat) ^ 8 = 18446744073709551616 := by decide
    rw [Nat.div_eq_of_lt (by omega)] at h; cases h
  · exact h1
theorem dig_numB {n k : Nat} (hn : n ≤ 20000) (h248 : 247 < n) (h0 : n / 256 ^ k = 0) (h : k = 0 ∨ 0 < n / 256 ^ (k - 1)) : 1 + k = (numB n).length := by
  have e : (numB n).length = 1 + widN n := by unfold numB; rw [if_neg (by omega), List.length_cons, beN_len, Nat.add_comm]
  have hk : k ≤ 2 := by
    rcases h with h | h
    · omega
    · rcases Nat.lt_or_ge 2 k with h1 | h1
      · have h2 : (256 : Nat) ^ 2 ≤ 256 ^ (k - 1) := Nat.pow_le_pow_right (by omega) (by omega)
        rw [Nat.div_eq_of_lt (by omega)] at h; cases h
      · exact h1
  rw [e]
  rcases Nat.lt_or_ge n 256 with h1 | h1
  · rw [widN_1 (by omega) h1]
    have : k = 0 ∨ k = 1 ∨ k = 2 := by omega
    rcases this with rfl | rfl | rfl
    · rw [Nat.pow_zero, Nat.div_one] at h0; omega
    · rfl
    · rcases h with h | h
      · omega
      · rw [show 2 - 1 = 1 from rfl, Nat.pow_one] at h; omega
  · rw [widN_2 h1 (by omega)]
    have : k = 0 ∨ k = 1 ∨ k = 2 := by omega
    rcases this with rfl | rfl | rfl
    · rw [Nat.pow_zero, Nat.div_one] at h0; omega
    · rw [Nat.pow_one] at h0; omega
    · rfl
theorem refNumber (n : Nat) (hn : n < 18446744073709551616) (w : World) : Ret Try.prog 73 #[.int .u64 (n : Nat)] w fun v w' => (∃ x : Str, v = S x ∧ x.length ≤ 9 ∧ (n ≤ 20000 → x.length = (numB n).length)) ∧ Bel w w' := by
  refine ret_of_W Try.func73 rfl (Nat.le_of_ble_eq_true rfl) (res1 rfl) ?_
  have hB := Gr.refl (fun _ => False) w
  refine W.seq ?_
  refine W.region ?_
  refine L.val (x_as (v := S _) rfl) rfl ?_
  refine L.nil ?_
  refine thn_n ?_
  refine W.seq ?_
  refine W.seq ?_
  refine W.region ?_
  refine L.val (x_mv (v := .int _ _) rfl) rfl ?_
  refine L.val (x_leq rfl rfl) rfl ?_
  refine L.nil ?_
  refine thn_n ?_
  refine W.cond (b := _) rfl (fun g6 => ?_) (fun g6 => ?_)
  ·have h6 := of_decide_eq_true g6
   refine W.seq ?_
   refine W.region ?_
   refine L.val (x_mv (v := .int _ _) rfl) rfl ?_
   refine L.val (x_convB (by rw [Try.underlying53]; rfl) Try.underlying5 rfl) rfl ?_
   refine L.bs (sz := 1) (cells := [B8 (lowB (n : Nat))]) Try.underlying129 kwal17_el5 rfl rfl rfl rfl (fun w9 bx9 hw hz9 => ?_)
   have hB := hB.carry hw
   refine L.val (x_b2s (l := [lowB (n : Nat)]) Try.underlying129 Try.underlying5 Try.underlying9 rfl rfl (fun j hj => bx9.row rfl j hj)) rfl ?_
   refine L.val (x_as (v := S _) rfl) rfl ?_
   refine L.nil ?_
   refine thn_n ?_
   refine W.ret (thn_r (fin_mk (.inr rfl) ?_))
   refine ⟨⟨_, rfl, by show 1 ≤ 9; omega, fun _ => ?_⟩, hB⟩
   unfold numB
   rw [if_pos (by omega)]
  ·have h6 := dle_f g6
   refine W.skip ?_
   refine thn_n ?_
   refine W.seq ?_
   refine W.region ?_
   refine L.val (x_as (v := S _) rfl) rfl ?_
   refine L.nil ?_
   refine thn_n ?_
   refine W.seq ?_
   refine W.region ?_
   refine L.val (x_as (v := .int _ _) rfl) rfl ?_
   refine L.nil ?_
   refine thn_n ?_
   refine W.seq ?_
   refine W.block ?_
   refine W.loop (fun m' E w' => ∃ (m k : Nat) (x : Str), m' = m ∧ E 0 = .int .u64 (m : Nat) ∧ E 3 = S x ∧ E 4 = .int .i64 (k : Nat) ∧ (m = n / 256 ^ k) ∧ (x.length = k) ∧ (k = 0 ∨ 0 < n / 256 ^ (k - 1)) ∧ (Bel w w')) (n) ?_ ?_
   ·exact ⟨n, 0, [], by omega, by first | rfl | exact vi (by omega), by first | rfl | exact vi (by omega), by first | rfl | exact vi (by omega), (by rw [Nat.pow_zero, Nat.div_one]), (by first | assumption | omega | rfl), (by first | assumption | omega | rfl), (by first | assumption | omega | rfl)⟩
   ·rintro _ E wL11 ⟨m, k, x, em, e0, e3, e4, hm, hx, hk, hB⟩
    rw [upd_self e0, upd_self e3, upd_self e4]
    refine W.seq ?_
    refine W.seq ?_
    refine W.region ?_
    refine L.val (x_mv (v := .int _ _) rfl) rfl ?_
    refine L.val (x_gtr rfl rfl) rfl ?_
    refine L.nil ?_
    refine thn_n ?_
    refine W.cond (b := _) rfl (fun g12 => ?_) (fun g12 => ?_)
    ·have h12 := of_decide_eq_true g12
     have hm0 : 0 < m := by omega
     have hk8 : k ≤ 8 := hk.elim (fun e => by omega) (dig_le hn)
     have hml : m ≤ n := by rw [hm]; exact Nat.div_le_self _ _
     refine W.skip ?_
     refine thn_n ?_
     refine W.block ?_
     refine W.seq ?_
     refine W.region ?_
     refine L.val (x_mv (v := .int _ _) rfl) rfl ?_
     refine L.val (x_rem (c := ((m % 256 : Nat) : Int)) rfl rfl (by omega) (by decide) (by omega)) rfl ?_
     refine L.val (x_convB (by rw [Try.underlying53]; rfl) Try.underlying5 rfl) rfl ?_
     refine L.bs (sz := 1) (cells := [B8 (lowB ((m % 256 : Nat) : Int))]) Try.underlying129 kwal17_el5 rfl rfl rfl rfl (fun w16 bx16 hw hz16 => ?_)
     have hB := hB.carry hw
     refine L.val (x_b2s (l := [lowB ((m % 256 : Nat) : Int)]) Try.underlying129 Try.underlying5 Try.underlying9 rfl rfl (fun j hj => bx16.row rfl j hj)) rfl ?_
     refine L.val (x_mv (v := S _) rfl) rfl ?_
     refine L.val (x_cat rfl rfl (by simp only [List.length_append, List.length_cons, List.length_nil]; omega)) rfl ?_
     refine L.val (x_as (v := S _) rfl) rfl ?_
     refine L.nil ?_
     refine thn_n ?_
     refine W.seq ?_
     refine W.region ?_
     refine L.val (x_mv (v := .int _ _) rfl) rfl ?_
     refine L.val (x_quo (c := ((m / 256 : Nat) : Int)) rfl rfl (by decide) (by rw [show ((m : Int).tdiv 256) = ((m / 256 : Nat) : Int) by rw [Int.tdiv_eq_ediv_of_nonneg (by omega)]; omega]; exact wru64 (by omega))) rfl ?_
     refine L.val (x_as (v := .int _ _) rfl) rfl ?_
     refine L.nil ?_
     refine thn_n ?_
     refine W.region ?_
     refine L.val (x_mv (v := .int _ _) rfl) rfl ?_
     refine L.val (x_add rfl rfl (wr64 (by omega))) rfl ?_
     refine L.val (x_as (v := .int _ _) rfl) rfl ?_
     refine L.nil ?_
     refine blk_n ?_
     refine thn_n ⟨rfl, ?_⟩
     refine ⟨_, ?_, m / 256, k + 1, lowB ((m % 256 : Nat) : Int) :: x, rfl, by first | rfl | exact vi (by omega), by first | rfl | exact vi (by omega), by first | rfl | exact vi (by omega), (by rw [hm, Nat.div_div_eq_div_mul, Nat.pow_succ]), (by rw [List.length_cons, hx]), (by exact .inr (by rw [Nat.add_sub_cancel]; omega)), (by first | assumption | omega | rfl)⟩
     omega
    ·have h12 := dlt_f g12
     have hm0 : m = 0 := by omega
     have hk8 : k ≤ 8 := hk.elim (fun e => by omega) (dig_le hn)
     subst hm0
     refine W.exit (thn_x (thn_x (blk_hit ?_)))
     refine thn_n ?_
     refine W.seq ?_
     refine W.region ?_
     refine L.val (x_mv (v := .int _ _) rfl) rfl ?_
     refine L.val (x_add rfl rfl (wr64 (by omega))) rfl ?_
     refine L.val (x_convB (by rw [Try.underlying3]; rfl) Try.underlying5 rfl) rfl ?_
     refine L.bs (sz := 1) (cells := [B8 (lowB (247 + (k : Nat)))]) Try.underlying129 kwal17_el5 rfl rfl rfl rfl (fun w27 bx27 hw hz27 => ?_)
     have hB := hB.carry hw
     refine L.val (x_b2s (l := [lowB (247 + (k : Nat))]) Try.underlying129 Try.underlying5 Try.underlying9 rfl rfl (fun j hj => bx27.row rfl j hj)) rfl ?_
     refine L.val (x_mv (v := S _) rfl) rfl ?_
     refine L.val (x_cat rfl rfl (by simp only [List.length_append, List.length_cons, List.length_nil]; omega)) rfl ?_
     refine L.val (x_as (v := S _) rfl) rfl ?_
     refine L.nil ?_
     refine thn_n ?_
     refine W.ret (fin_mk (.inr rfl) ?_)
     refine ⟨⟨_, rfl, by simp; omega, fun h => ?_⟩, hB⟩
     rw [← dig_numB h (by omega) hm.symm hk]; simp [hx, Nat.add_comm]
theorem refText (s : Str) (hs : s.length ≤ 140737488355328) (w : World) : Ret Try.prog 33 #[S s] w fun v w' => (∃ x : Str, v = S x ∧ x.length ≤ s.length + 9 ∧ (s.length ≤ 20000 → x.length + 4 = (frm s).length)) ∧ Bel w w' := by
  refine ret_of_W Try.func33 rfl (Nat.le_of_ble_eq_true rfl) (res1 rfl) ?_
  have hB := Gr.refl (fun _ => False) w
  refine W.seq ?_
  refine W.region ?_
  refine L.val (x_as (v := S _) rfl) rfl ?_
  refine L.nil ?_
  refine thn_n ?_
  refine W.seq ?_
  refine W.region ?_
  refine L.val (x_mv (v := S _) rfl) rfl ?_
  refine L.val (x_len_str Try.underlying9 rfl) rfl ?_
  refine L.val (x_conv (k' := .u64) (by rw [Try.underlying3]; rfl) Try.underlying53 rfl (wru64 (by omega))) rfl ?_
  refine L.ret (x_call kwal17_en73 rfl) rfl (refNumber s.length (by omega) _) ?_
  rintro _ w6 ⟨⟨x, rfl, hx1, hx2⟩, hw⟩
  have hB := hB.carry hw
  refine L.val (x_mv (v := S _) rfl) rfl ?_
  refine L.val (x_cat rfl rfl (by omega)) rfl ?_
  refine L.val (x_as (v := S _) rfl) rfl ?_
  refine L.nil ?_
  refine thn_n ?_
  refine W.ret (fin_mk (.inr rfl) ?_)
  refine ⟨⟨_, rfl, by rw [List.length_append]; omega, fun h => ?_⟩, hB⟩
  have := hx2 h
  unfold frm textB
  simp only [List.length_append, sumB_len]; omega
end Go.Gx
