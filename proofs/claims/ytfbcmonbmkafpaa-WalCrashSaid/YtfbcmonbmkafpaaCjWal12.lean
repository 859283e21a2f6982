/- What calls of a log do to its counts. Conditions: none. -/
import Derived.Test.YtfbcmonbmkafpaaCjWal9
namespace Go.Gx
open Go.Proofs
theorem comD_len (D : Dk) (p : Pt) (at' : Nat) (s : Str) : (comD D p at' s).pl.length = D.pl.length := by
  unfold comD
  show (apD (wrD (flD (wrD (wrs D p at' s) (p.ep % 2) (zeros 64))) (p.ep % 2) (hdrS p)).pl _).length = _
  rw [apD_len]
  show (apD (wrD (wrs D p at' s) (p.ep % 2) (zeros 64)).pl _).length = _
  rw [apD_len]
  rfl
theorem comD_ops {D : Dk} (hok : DkOk D) {p : Pt} {at' : Nat} {s : Str} (h6 : 6 ≤ D.pl.length) (hh : p.half ≤ 1) (hr : at' + s.length ≤ roomN D.pl.length) : (comD D p at' s).ops ≤ D.ops + s.length / 64 + 6 ∧ D.ops ≤ (comD D p at' s).ops := by
  have hal := allS_len hok (s := s) h6 hh (at' := at') (by omega)
  have e : (comD D p at' s).ops = D.ops + (if s = [] then 0 else ((allS D p at' s).length + 63) / 64) + 1 + 1 + 1 + 1 := rfl
  rw [e, hal]
  split
  · omega
  · omega
structure After (D : Dk) (q : Pt) (l : List Str) (r : Int × Dk × Pt) : Prop where
  len : r.2.1.pl.length = D.pl.length
  ops : r.2.1.ops ≤ D.ops + need l / 64 + 6 ∧ D.ops ≤ r.2.1.ops
  err : r.1 ≠ 0 → r.2.1 = D ∧ r.2.2 = q
  ep : r.2.2.ep ≤ q.ep + 1
  cnt : r.2.2.cnt ≤ q.cnt + l.length
  ok : q.ep + 1 < 1000000000 → q.cnt + l.length < 2000000000 → D.ops + need l / 64 + 6 < 900000000 → QOk r.2.1 r.2.2
theorem After.same {D : Dk} {q : Pt} (h : QOk D q) (l : List Str) (e : Int) : After D q l (e, D, q) :=
  ⟨rfl, by dsimp only; omega, fun _ => ⟨rfl, rfl⟩, by dsimp only; omega, by dsimp only; omega, fun _ _ _ => h⟩
theorem open_new : ∀ m : Fin 66, 6 ≤ m.val → openA (newD m.val) = (0, pt0, []) := by decide +kernel
theorem q_new {m : Nat} (h : 6 ≤ m) : QOk (newD m) pt0 := by
  have e : (newD m).pl.length = m := by simp [newD]
  exact ⟨by rw [e]; exact h, rfl, rfl, rfl, by show 0 < _; omega, by decide, by show 0 ≤ _; omega, by decide, by decide⟩
end Go.Gx
namespace Go.Gx
open Go.Proofs
theorem lowB_nat (n : Nat) : (lowB (n : Int)).toNat = n % 256 := by
  unfold lowB
  rw [UInt8.toNat_ofNat', show ((n : Int) % 256).toNat = n % 256 by omega]
  omega
theorem beV_take_beN {k n : Nat} (hn : n < 256 ^ k) : ∀ j, j ≤ k → beV ((beN k n).take j) = n / 256 ^ (k - j)
  | 0, _ => by rw [List.take_zero, Nat.sub_zero, Nat.div_eq_of_lt hn]; rfl
  | j + 1, hj => by
    rw [beN_take hj, beV_snoc, beV_take_beN hn j (by omega)]
    have e1 : (n : Int) / 2 ^ (8 * (k - 1 - j)) = ((n / 256 ^ (k - (j + 1)) : Nat) : Int) := by
      have h2 : (256 : Nat) ^ (k - (j + 1)) = 2 ^ (8 * (k - 1 - j)) := by
        rw [show (256 : Nat) = 2 ^ 8 from rfl, ← Nat.pow_mul, show k - 1 - j = k - (j + 1) by omega]
      rw [h2, Int.natCast_ediv, Int.natCast_pow]; rfl
    rw [e1, lowB_nat]
    have e2 : 256 ^ (k - j) = 256 ^ (k - (j + 1)) * 256 := by rw [← Nat.pow_succ]; congr 1; omega
    rw [e2, ← Nat.div_div_eq_div_mul]
    omega
theorem beV_beN {k n : Nat} (hn : n < 256 ^ k) : beV (beN k n) = n := by
  have := beV_take_beN hn k (Nat.le_refl _)
  rw [List.take_of_length_le (by rw [beN_len]; exact Nat.le_refl _), Nat.sub_self, Nat.pow_zero, Nat.div_one] at this
  exact this
theorem bit8 : ∀ n : Fin 256, n.val ≠ 0 → 1 ≤ Lib.bitLen n.val ∧ Lib.bitLen n.val ≤ 8 := by decide +kernel
theorem widN_1 {n : Nat} (h0 : n ≠ 0) (h : n < 256) : widN n = 1 := by
  have := bit8 ⟨n, h⟩ h0
  unfold widN; dsimp only at this; omega
theorem widN_2 {n : Nat} (h0 : 256 ≤ n) (h : n < 65536) : widN n = 2 := by
  have := bit8 ⟨n / 256, by omega⟩ (by dsimp only; omega)
  unfold widN
  rw [Lib.bitLen_shift8 n h0 (by omega)]
  dsimp only at this; omega
theorem takeNum_numB {n : Nat} (hn : n ≤ 20000) (pre rest : Str) : takeNum (pre ++ numB n ++ rest) pre.length = (n, pre.length + (numB n).length, 0) := by
  have e0 : (pre ++ numB n ++ rest).drop pre.length = numB n ++ rest := by rw [List.append_assoc, List.drop_left]
  unfold takeNum
  rw [e0]
  by_cases h : n < 248
  · have e1 : numB n = [lowB (n : Nat)] := by unfold numB; rw [if_pos h]
    rw [e1]
    simp only [List.cons_append, List.nil_append]
    rw [lowB_nat, show n % 256 = n by omega, if_pos h]; rfl
  · have hw : ∃ k, widN n = k ∧ 1 ≤ k ∧ k ≤ 2 ∧ n < 256 ^ k := by
      by_cases h2 : n < 256
      · exact ⟨1, widN_1 (by omega) h2, by omega, by omega, by omega⟩
      · exact ⟨2, widN_2 (by omega) (by omega), by omega, by omega, by omega⟩
    obtain ⟨k, hk, k1, k2, k3⟩ := hw
    have e1 : numB n = lowB ((247 + k : Nat) : Int) :: beN k n := by unfold numB; rw [if_neg h, hk]; rfl
    have e2 : (lowB ((247 + k : Nat) : Int)).toNat = 247 + k := by rw [lowB_nat]; omega
    have e3 : (beN k n ++ rest).take k = beN k n := by
      have := List.take_left (l₁ := beN k n) (l₂ := rest)
      rwa [beN_len] at this
    rw [e1]
    simp only [List.cons_append]
    rw [e2, if_neg (by omega), show 247 + k - 247 = k by omega, if_neg (by rw [List.length_append, beN_len]; omega), e3, beV_beN k3, if_neg (by rw [hk]; omega)]
    simp only [List.length_cons, beN_len]
    rw [show pre.length + 1 + k = pre.length + (k + 1) by omega]
theorem takeText_textB {s : Str} (hs : s.length ≤ 20000) (pre rest : Str) : takeText (pre ++ textB s ++ rest) pre.length = (s, pre.length + (textB s).length, 0) := by
  have e0 : pre ++ textB s ++ rest = pre ++ numB s.length ++ (s ++ rest) := by unfold textB; simp only [List.append_assoc]
  have hN := takeNum_numB hs pre (s ++ rest)
  rw [takeText_eq, e0, hN]
  have e1 : (pre ++ numB s.length ++ (s ++ rest)).drop (pre.length + (numB s.length).length) = s ++ rest := by
    have := List.drop_left (l₁ := pre ++ numB s.length) (l₂ := s ++ rest)
    rwa [List.length_append] at this
  have e2 : (textB s).length = (numB s.length).length + s.length := by unfold textB; rw [List.length_append]
  dsimp only
  rw [if_neg (by decide), if_neg (by simp only [List.length_append]; omega), e1, List.take_left, e2, Nat.add_assoc]
theorem takeF_frm {s : Str} (hs : s.length ≤ 20000) (pre rest : Str) : takeF (pre ++ frm s ++ rest) pre.length = (s, pre.length + (frm s).length, 0) := by
  have e0 : pre ++ frm s ++ rest = pre ++ textB s ++ (sumB (textB s) ++ rest) := by unfold frm; simp only [List.append_assoc]
  have hT := takeText_textB hs pre (sumB (textB s) ++ rest)
  have e1 : (pre ++ textB s ++ (sumB (textB s) ++ rest)).drop pre.length = textB s ++ (sumB (textB s) ++ rest) := by rw [List.append_assoc, List.drop_left]
  have e2 : (pre ++ textB s ++ (sumB (textB s) ++ rest)).drop (pre.length + (textB s).length) = sumB (textB s) ++ rest := by
    have := List.drop_left (l₁ := pre ++ textB s) (l₂ := sumB (textB s) ++ rest)
    rwa [List.length_append] at this
  have e3 : (sumB (textB s) ++ rest).take 4 = sumB (textB s) := by
    have := List.take_left (l₁ := sumB (textB s)) (l₂ := rest)
    rwa [sumB_len] at this
  unfold takeF
  rw [e0, hT]
  dsimp only
  rw [if_neg (by decide), if_neg (by omega), if_neg (by simp only [List.length_append, sumB_len]; omega), e1, e2, e3, show pre.length + (textB s).length - pre.length = (textB s).length by omega, List.take_left, if_neg (by simp)]
  have : (frm s).length = (textB s).length + 4 := by unfold frm; rw [List.length_append, sumB_len]
  rw [this, Nat.add_assoc]
def endsF : Nat → List Str → List (Str × Nat)
  | _, [] => []
  | k, s :: l => (s, k + (frm s).length) :: endsF (k + (frm s).length) l
theorem takeF_end (s : Str) : (takeF s s.length).2.2 ≠ 0 := fun e => by have := (takeF_le e).2.2; omega
theorem scanF_frms : ∀ (l : List Str) (f : Nat) (pre : Str), tooBig l = false → l.length < f → scanF f (pre ++ (l.map frm).flatten) pre.length = endsF pre.length l
  | [], f + 1, pre, _, _ => by
    rw [List.map_nil, List.flatten_nil, List.append_nil, scanF, if_pos (takeF_end pre)]; rfl
  | s :: l, f + 1, pre, h, hf => by
    unfold tooBig at h
    rw [List.any_cons, Bool.or_eq_false_iff] at h
    have hs : s.length ≤ 20000 := by have := h.1; simp only [decide_eq_false_iff_not] at this; omega
    have e0 : pre ++ ((s :: l).map frm).flatten = pre ++ frm s ++ (l.map frm).flatten := by simp
    have hT := takeF_frm hs pre (l.map frm).flatten
    have ih := scanF_frms l f (pre ++ frm s) h.2 (by simpa using hf)
    rw [List.length_append] at ih
    rw [scanF, e0, hT, if_neg (by simp)]
    dsimp only
    rw [ih]; rfl
theorem endsF_fst : ∀ (l : List Str) (k : Nat), (endsF k l).map (·.1) = l
  | [], _ => rfl
  | s :: l, k => by simp [endsF, endsF_fst l]
theorem endsF_last : ∀ (l : List Str) (k : Nat), l ≠ [] → ((endsF k l).getLast?.map (·.2)).getD 0 = k + (l.map frm).flatten.length
  | [], _, h => absurd rfl h
  | [s], k, _ => by simp [endsF]
  | s :: t :: l, k, _ => by
    have ih := endsF_last (t :: l) (k + (frm s).length) (by simp)
    have e : endsF k (s :: t :: l) = (s, k + (frm s).length) :: endsF (k + (frm s).length) (t :: l) := rfl
    rw [e, List.getLast?_cons_of_ne_nil (by simp [endsF]), ih]
    simp [Nat.add_assoc]
theorem frm_pos (s : Str) : 4 ≤ (frm s).length := by unfold frm; rw [List.length_append, sumB_len]; omega
theorem len_frms (l : List Str) : l.length ≤ (l.map frm).flatten.length := by
  induction l with
  | nil => simp
  | cons s l ih => have := frm_pos s; simp only [List.map_cons, List.flatten_cons, List.length_append, List.length_cons]; omega
theorem scan_frms {l : List Str} (h : tooBig l = false) : scanS ((l.map frm).flatten) = (l, (l.map frm).flatten.length) := by
  have hl := len_frms l
  have e := scanF_frms l ((l.map frm).flatten.length + 1) [] h (by omega)
  simp only [List.nil_append, List.length_nil] at e
  unfold scanS frames
  rw [e, endsF_fst]
  by_cases h0 : l = []
  · subst h0; rfl
  · rw [endsF_last l 0 h0, Nat.zero_add]
theorem hdr_17 (p : Pt) : (hdrS p).take 17 = ptS p ∧ ((hdrS p).drop 17).take 17 = turnS (ptS p) := by
  have h := ptS_len p
  have e : hdrS p = ptS p ++ (turnS (ptS p) ++ zeros 30) := by unfold hdrS; rw [List.append_assoc]
  have h2 : (turnS (ptS p)).length = 17 := by simp [turnS, h]
  constructor
  · have := List.take_left (l₁ := ptS p) (l₂ := turnS (ptS p) ++ zeros 30)
    rw [h] at this; rw [e]; exact this
  · have := List.drop_left (l₁ := ptS p) (l₂ := turnS (ptS p) ++ zeros 30)
    rw [h] at this; rw [e, this]
    have := List.take_left (l₁ := turnS (ptS p)) (l₂ := zeros 30)
    rwa [h2] at this
theorem rd_hdr {p : Pt} (hp : PtOk p) (hh : p.half < 256) : rdPt (hdrS p) = p := by
  obtain ⟨h1, h2, h3, h4⟩ := hp
  have e : hdrS p = beN 8 p.ep ++ (beN 1 p.half ++ (beN 4 p.tail ++ (beN 4 p.cnt ++ (turnS (ptS p) ++ zeros 30)))) := by
    have e1 : hdrS p = (beN 8 p.ep ++ beN 1 p.half ++ beN 4 p.tail ++ beN 4 p.cnt) ++ turnS (ptS p) ++ zeros 30 := rfl
    rw [e1]; simp only [List.append_assoc]
  have p8 : (256 : Nat) ^ 8 = 18446744073709551616 := by decide
  have p4 : (256 : Nat) ^ 4 = 4294967296 := by decide
  have tk : ∀ (k n : Nat) (r : Str), (beN k n ++ r).take k = beN k n := fun k n r => by
    have := List.take_left (l₁ := beN k n) (l₂ := r)
    rwa [beN_len] at this
  have dr : ∀ (k n : Nat) (r : Str), (beN k n ++ r).drop k = r := fun k n r => by
    have := List.drop_left (l₁ := beN k n) (l₂ := r)
    rwa [beN_len] at this
  have d9 : (hdrS p).drop 9 = beN 4 p.tail ++ (beN 4 p.cnt ++ (turnS (ptS p) ++ zeros 30)) := by
    rw [e, show 9 = 8 + 1 from rfl, ← List.drop_drop, dr, dr]
  have d13 : (hdrS p).drop 13 = beN 4 p.cnt ++ (turnS (ptS p) ++ zeros 30) := by
    rw [show 13 = 9 + 4 from rfl, ← List.drop_drop, d9, dr]
  have b8 : (hdrS p).getD 8 0 = lowB (p.half : Nat) := by
    rw [List.getD_eq_getElem?_getD, e, List.getElem?_append_right (by rw [beN_len]; omega), beN_len]
    simp [beN]
  unfold rdPt
  rw [b8, d9, d13, tk, tk, beV_beN (by rw [p4]; exact h3), beV_beN (by rw [p4]; exact h4), lowB_nat, e, tk, beV_beN (by rw [p8]; exact h1), Nat.mod_eq_of_lt hh]
theorem rdOk_hdr {p : Pt} (hp : PtOk p) (hh : p.half ≤ 1) {room : Nat} (ht : p.tail ≤ room) : rdOk (hdrS p) room = true := by
  unfold rdOk
  rw [(hdr_17 p).1, (hdr_17 p).2, rd_hdr hp (by omega), decide_eq_true hh, decide_eq_true ht, beq_self_eq_true]; rfl
end Go.Gx
namespace Go.Gx
open Go.Proofs
theorem getD_set0 {l : List Str} {i j : Nat} {x : Str} (hj : j < l.length) : (l.set j x).getD i [] = if i = j then x else l.getD i [] := by
  rw [List.getD_eq_getElem?_getD, List.getElem?_set]
  split
  · rename_i h; subst h; simp [hj]
  · rename_i h; rw [if_neg (fun e => h e.symm), List.getD_eq_getElem?_getD]
theorem apD_app (pl : List Str) (l m : List (Nat × Str)) : apD pl (l ++ m) = apD (apD pl l) m := by unfold apD; rw [List.foldl_append]
theorem apC_get (pl : List Str) (st : Nat) (c : Nat → Str) (i : Nat) : ∀ m, st + m ≤ pl.length → (apD pl ((List.range m).map fun k => (st + k, c k))).getD i [] = if st ≤ i ∧ i < st + m then c (i - st) else pl.getD i []
  | 0, _ => by rw [if_neg (by omega)]; rfl
  | m + 1, h => by
    rw [List.range_succ, List.map_append, apD_app]
    have e : apD (apD pl ((List.range m).map fun k => (st + k, c k))) ([m].map fun k => (st + k, c k)) = (apD pl ((List.range m).map fun k => (st + k, c k))).set (st + m) (c m) := rfl
    rw [e, getD_set0 (by rw [apD_len]; omega), apC_get pl st c i m (by omega)]
    by_cases h1 : i = st + m
    · rw [if_pos h1, if_pos (by omega), h1, show st + m - st = m by omega]
    · rw [if_neg h1]
      by_cases h2 : st ≤ i ∧ i < st + m
      · rw [if_pos h2, if_pos (by omega)]
      · rw [if_neg h2, if_neg (by omega)]
theorem rdD_pl {D : Dk} (h : D.ca = []) (i : Nat) : rdD D i = D.pl.getD i [] := by unfold rdD; rw [h]; rfl
def nck (D : Dk) (p : Pt) (at' : Nat) (s : Str) : Nat := if s = [] then 0 else ((allS D p at' s).length + 63) / 64
theorem comD_rd {D : Dk} {p : Pt} {at' : Nat} {s : Str} (hca : D.ca = []) (h6 : 6 ≤ D.pl.length) (hm : stN D.pl.length p.half + at' / 64 + nck D p at' s ≤ D.pl.length) (i : Nat) :
    rdD (comD D p at' s) i = if i = p.ep % 2 then hdrS p else if stN D.pl.length p.half + at' / 64 ≤ i ∧ i < stN D.pl.length p.half + at' / 64 + nck D p at' s then ckS (allS D p at' s) (i - (stN D.pl.length p.half + at' / 64)) else rdD D i := by
  rw [rdD_pl (show (comD D p at' s).ca = [] from rfl), rdD_pl hca]
  have e : (comD D p at' s).pl = ((apD D.pl (D.ca ++ (List.range (nck D p at' s)).map (fun k => (stN D.pl.length p.half + at' / 64 + k, ckS (allS D p at' s) k)))).set (p.ep % 2) (zeros 64)).set (p.ep % 2) (hdrS p) := by
    have e1 : (comD D p at' s).pl = apD (apD D.pl (D.ca ++ (List.range (nck D p at' s)).map (fun k => (stN D.pl.length p.half + at' / 64 + k, ckS (allS D p at' s) k)) ++ [(p.ep % 2, zeros 64)])) [(p.ep % 2, hdrS p)] := rfl
    rw [e1, apD_app _ _ [(p.ep % 2, zeros 64)]]; rfl
  rw [e, hca, List.nil_append, getD_set0 (by rw [List.length_set, apD_len]; omega), getD_set0 (by rw [apD_len]; omega), apC_get _ _ _ _ _ hm]
  by_cases h1 : i = p.ep % 2
  · rw [if_pos h1, if_pos h1]
  · rw [if_neg h1, if_neg h1, if_neg h1]
theorem areaS_get {D : Dk} (hok : DkOk D) (p : Pt) (j : Nat) : ∀ K, (∀ i, i < K → stN D.pl.length p.half + i < D.pl.length) → j < 64 * K → (areaS D p K)[j]? = (rdD D (stN D.pl.length p.half + j / 64))[j % 64]?
  | 0, _, h => by omega
  | K + 1, hK, h => by
    have hl := areaS_len hok (p := p) K (fun i hi => hK i (by omega))
    rw [← areaS_succ]
    by_cases h1 : j < 64 * K
    · rw [List.getElem?_append_left (by omega), areaS_get hok p j K (fun i hi => hK i (by omega)) h1]
    · rw [List.getElem?_append_right (by omega), hl, show j / 64 = K by omega, show j - 64 * K = j % 64 by omega]
theorem ckS_get {all : Str} {k r : Nat} (hr : r < 64) (h : 64 * k + r < all.length) : (ckS all k)[r]? = all[64 * k + r]? := by
  unfold ckS pad
  rw [List.getElem?_append_left (by rw [List.length_take, List.length_drop]; omega), List.getElem?_take, if_pos hr, List.getElem?_drop]
theorem com_area {D : Dk} {p : Pt} {at' : Nat} {s : Str} (hok : DkOk D) (hok' : DkOk (comD D p at' s)) (hca : D.ca = []) (h6 : 6 ≤ D.pl.length) (hh : p.half ≤ 1) (hr : at' + s.length ≤ roomN D.pl.length) (ht : p.tail = at' + s.length) :
    allA (comD D p at' s) p = (areaS D p ((at' + 63) / 64)).take at' ++ s := by
  have hst := stN_le h6 hh
  have hrN : roomN D.pl.length = hlf D.pl.length * 64 := rfl
  have hal := allS_len hok (s := s) h6 hh (at' := at') (by omega)
  have hnk : s = [] ∧ nck D p at' s = 0 ∨ s ≠ [] ∧ nck D p at' s = (at' % 64 + s.length + 63) / 64 := by
    unfold nck
    by_cases h : s = []
    · exact .inl ⟨h, if_pos h⟩
    · exact .inr ⟨h, by rw [if_neg h, hal]⟩
  have hm : stN D.pl.length p.half + at' / 64 + nck D p at' s ≤ D.pl.length := by
    rcases hnk with ⟨h, e⟩ | ⟨h, e⟩ <;> rw [e] <;> omega
  have h2 : 2 ≤ stN D.pl.length p.half := by unfold stN; omega
  have hlen := comD_len D p at' s
  have hL : (areaS (comD D p at' s) p ((at' + s.length + 63) / 64)).length = 64 * ((at' + s.length + 63) / 64) := areaS_len hok' _ (fun i hi => by rw [hlen]; omega)
  have hL0 : (areaS D p ((at' + 63) / 64)).length = 64 * ((at' + 63) / 64) := areaS_len hok _ (fun i hi => by omega)
  unfold allA
  rw [ht]
  apply List.ext_getElem?
  intro j
  by_cases hj : j < at' + s.length
  · rw [List.getElem?_take, if_pos hj, areaS_get hok' p j ((at' + s.length + 63) / 64) (fun i hi => by rw [hlen]; omega) (by omega), hlen, comD_rd hca h6 hm, if_neg (by omega)]
    have old : j < at' → ((areaS D p ((at' + 63) / 64)).take at' ++ s)[j]? = (rdD D (stN D.pl.length p.half + j / 64))[j % 64]? := fun h => by
      rw [List.getElem?_append_left (by rw [List.length_take]; omega), List.getElem?_take, if_pos h, areaS_get hok p j ((at' + 63) / 64) (fun i hi => by omega) (by omega)]
    by_cases hw : stN D.pl.length p.half + at' / 64 ≤ stN D.pl.length p.half + j / 64 ∧ stN D.pl.length p.half + j / 64 < stN D.pl.length p.half + at' / 64 + nck D p at' s
    · have hs : s ≠ [] := by rcases hnk with ⟨h, e⟩ | ⟨h, e⟩; (rw [e] at hw; omega); exact h
      rw [if_pos hw, show stN D.pl.length p.half + j / 64 - (stN D.pl.length p.half + at' / 64) = j / 64 - at' / 64 by omega, ckS_get (by omega) (by omega)]
      by_cases hja : j < at'
      · rw [old hja]
        have e1 : j / 64 = at' / 64 := by omega
        unfold allS
        rw [if_neg (by omega), List.getElem?_append_left (by rw [List.length_take, rdD_len hok (by omega)]; omega), List.getElem?_take, if_pos (by omega), e1, Nat.sub_self, Nat.mul_zero, Nat.zero_add]
      · rw [List.getElem?_append_right (by rw [List.length_take]; omega), List.length_take, hL0]
        unfold allS
        by_cases h0 : at' % 64 = 0
        · rw [if_pos h0]; congr 1; omega
        · rw [if_neg h0, List.getElem?_append_right (by rw [List.length_take, rdD_len hok (by omega)]; omega), List.length_take, rdD_len hok (by omega)]; congr 1; omega
    · rw [if_neg hw, old (by rcases hnk with ⟨h, e⟩ | ⟨h, e⟩; (subst h; simpa using hj); (rw [e] at hw; omega))]
  · rw [List.getElem?_eq_none (by rw [List.length_take]; omega), List.getElem?_eq_none (by rw [List.length_append, List.length_take]; omega)]
end Go.Gx
namespace Go.Gx
open Go.Proofs
structure Rep (D : Dk) (q : Pt) (all : List Str) : Prop where
  ok : QOk D q
  big : tooBig all = false
  tail : q.tail = (all.map frm).flatten.length
  cnt : q.cnt = all.length
  area : allA D q = (all.map frm).flatten
  z : q.ep = 0 → q = pt0 ∧ rdD D 0 = zeros 64 ∧ rdD D 1 = zeros 64
  hd : 0 < q.ep → rdD D (q.ep % 2) = hdrS q
  ot : 0 < q.ep → rdOk (rdD D ((q.ep + 1) % 2)) (roomN D.pl.length) = true → (rdPt (rdD D ((q.ep + 1) % 2))).ep < q.ep
theorem rdOk_zeros (room : Nat) : rdOk (zeros 64) room = false := by
  have h : ((zeros 64).drop 17).take 17 = turnS ((zeros 64).take 17) → False := by decide +kernel
  unfold rdOk
  rw [beq_eq_false_iff_ne.2 h]; rfl
theorem QOk.pt {D : Dk} {q : Pt} (h : QOk D q) (hok : DkOk D) : PtOk q := by
  have := roomN_le hok.small
  have := h.tail; have := h.half; have := h.ep; have := h.cnt
  exact ⟨by omega, by omega, by omega, by omega⟩
theorem rep_new {m : Nat} (h : 6 ≤ m) : Rep (newD m) pt0 [] := by
  have hz : ∀ i, i < m → rdD (newD m) i = zeros 64 := fun i hi => by
    rw [rdD_pl rfl]
    show (List.replicate m (zeros 64)).getD i [] = _
    rw [List.getD_eq_getElem?_getD, List.getElem?_replicate, if_pos hi]; rfl
  exact ⟨q_new h, rfl, rfl, rfl, rfl, fun _ => ⟨rfl, hz 0 (by omega), hz 1 (by omega)⟩, fun e => absurd e (by decide), fun e => absurd e (by decide)⟩
theorem makeS_ok {l : List Str} (h : (makeS l).2 = 0) : tooBig l = false ∧ (makeS l).1 = (l.map frm).flatten := by
  unfold makeS at h ⊢
  split at h
  · cases h
  · rename_i h1
    rw [if_neg h1]
    exact ⟨by simpa using h1, rfl⟩
theorem tooBig_app {l m : List Str} (h1 : tooBig l = false) (h2 : tooBig m = false) : tooBig (l ++ m) = false := by
  unfold tooBig at *; rw [List.any_append, h1, h2]; rfl
theorem areaS_half (D : Dk) {p q : Pt} (h : p.half = q.half) (k : Nat) : areaS D p k = areaS D q k := by unfold areaS; rw [h]
def goesA (all : List Str) (a : Wc) : List Str := if a.kind = 0 then all ++ a.bods else if a.kind = 1 then a.bods else all
end Go.Gx
namespace Go.Gx
open Go.Proofs
theorem turnB_nat (b : UInt8) : (turnB b).toNat = 255 - b.toNat := by
  unfold turnB
  rw [UInt8.toNat_ofNat']
  have := b.toNat_lt
  omega
theorem turnB_0 : turnB 0 = 255 := by decide
theorem turnB_255 {b : UInt8} (h : turnB b = 255) : b = 0 := by
  have h1 := congrArg UInt8.toNat h
  rw [turnB_nat] at h1
  have h2 := b.toNat_lt
  have h3 : (255 : UInt8).toNat = 255 := rfl
  apply UInt8.toNat_inj.1
  have h4 : (0 : UInt8).toNat = 0 := rfl
  omega
theorem ok_bytes {s : Str} {room : Nat} (h : rdOk s room = true) (hl : s.length = 64) : ∀ j, j < 17 → s.getD (17 + j) 0 = turnB (s.getD j 0) := fun j hj => by
  unfold rdOk at h
  simp only [Bool.and_eq_true, beq_iff_eq] at h
  have e := congrArg (fun l => l[j]?) h.1.1
  simp only [turnS] at e
  rw [List.getElem?_take, if_pos hj, List.getElem?_drop, List.getElem?_map, List.getElem?_take, if_pos hj, List.getElem?_eq_getElem (by omega), List.getElem?_eq_getElem (by omega)] at e
  simp only [Option.map_some, Option.some.injEq] at e
  rw [List.getD_eq_getElem?_getD, List.getD_eq_getElem?_getD, List.getElem?_eq_getElem (by omega), List.getElem?_eq_getElem (by omega)]
  exact e
theorem rd_34 {a b : Str} {room : Nat} (h : a.take 34 = b.take 34) : rdOk a room = rdOk b room ∧ rdPt a = rdPt b := by
  have e1 : ∀ k, k ≤ 34 → a.take k = b.take k := fun k hk => by
    have := congrArg (List.take k) h
    rwa [List.take_take, List.take_take, Nat.min_eq_left hk] at this
  have e2 : ∀ i m, i + m ≤ 34 → (a.drop i).take m = (b.drop i).take m := fun i m him => by
    rw [List.take_drop, List.take_drop, e1 _ him]
  have e3 : a.getD 8 0 = b.getD 8 0 := by
    have := congrArg (fun l => l[8]?) h
    simp only [List.getElem?_take] at this
    rw [if_pos (by omega), if_pos (by omega)] at this
    rw [List.getD_eq_getElem?_getD, List.getD_eq_getElem?_getD, this]
  have e4 : rdPt a = rdPt b := by unfold rdPt; rw [e1 8 (by omega), e3, e2 9 4 (by omega), e2 13 4 (by omega)]
  refine ⟨?_, e4⟩
  unfold rdOk
  rw [e4, e1 17 (by omega), e2 17 17 (by omega)]
theorem eq_bytes {a b : Str} {m : Nat} (ha : m ≤ a.length) (hb : m ≤ b.length) (h : ∀ j, j < m → a.getD j 0 = b.getD j 0) : a.take m = b.take m := by
  apply List.ext_getElem?
  intro j
  rw [List.getElem?_take, List.getElem?_take]
  split
  · rename_i hj
    have := h j hj
    rw [List.getD_eq_getElem?_getD, List.getD_eq_getElem?_getD, List.getElem?_eq_getElem (by omega), List.getElem?_eq_getElem (by omega)] at this
    rw [List.getElem?_eq_getElem (by omega), List.getElem?_eq_getElem (by omega)]
    exact congrArg some this
  · rfl
theorem of_eq {a b : Str} {m : Nat} (h : a.take m = b.take m) {j : Nat} (hj : j < m) : a.getD j 0 = b.getD j 0 := by
  have := congrArg (fun l => l[j]?) h
  simp only [List.getElem?_take] at this
  rw [if_pos hj, if_pos hj] at this
  rw [List.getD_eq_getElem?_getD, List.getD_eq_getElem?_getD, this]
theorem zz_get (n : Nat) (s : Str) (j : Nat) : (zeros n ++ s.drop n).getD j 0 = if j < n then 0 else s.getD j 0 := by
  rw [List.getD_eq_getElem?_getD, List.getElem?_append, zeros_len]
  split
  · rename_i h
    unfold zeros
    rw [List.getElem?_replicate, if_pos h]; rfl
  · rename_i h
    rw [List.getElem?_drop, List.getD_eq_getElem?_getD, show n + (j - n) = j by omega]
theorem zz_len {n : Nat} {s : Str} (hn : n ≤ 64) (hs : s.length = 64) : (zeros n ++ s.drop n).length = 64 := by
  rw [List.length_append, zeros_len, List.length_drop]; omega
theorem tz_get (m : Nat) (s : Str) (hs : s.length = 64) (hm : m ≤ 64) (j : Nat) : (s.take m ++ zeros (64 - m)).getD j 0 = if j < m then s.getD j 0 else 0 := by
  rw [List.getD_eq_getElem?_getD, List.getElem?_append, List.length_take, hs, Nat.min_eq_left hm]
  split
  · rename_i h
    rw [List.getElem?_take, if_pos h, List.getD_eq_getElem?_getD]
  · unfold zeros
    rw [List.getElem?_replicate]
    split <;> rfl
theorem tz_len {m : Nat} {s : Str} (hm : m ≤ 64) (hs : s.length = 64) : (s.take m ++ zeros (64 - m)).length = 64 := by
  rw [List.length_append, zeros_len, List.length_take]; omega
def ZP (room : Nat) (s : Str) : Prop := ∀ n, n ≤ 64 → rdOk (zeros n ++ s.drop n) room = true → (zeros n ++ s.drop n).take 34 = s.take 34
theorem hdr_bytes (p : Pt) : ∀ j, j < 17 → (hdrS p).getD (17 + j) 0 = turnB ((hdrS p).getD j 0) := fun j hj => by
  have hl := hdrS_len p
  have e := congrArg (fun l => l[j]?) ((hdr_17 p).2.trans (congrArg turnS (hdr_17 p).1.symm))
  simp only [turnS] at e
  rw [List.getElem?_take, if_pos hj, List.getElem?_drop, List.getElem?_map, List.getElem?_take, if_pos hj, List.getElem?_eq_getElem (by omega), List.getElem?_eq_getElem (by omega)] at e
  simp only [Option.map_some, Option.some.injEq] at e
  rw [List.getD_eq_getElem?_getD, List.getD_eq_getElem?_getD, List.getElem?_eq_getElem (by omega), List.getElem?_eq_getElem (by omega)]
  exact e
theorem ne255 : (0 : UInt8) ≠ 255 := by decide
theorem ZP_torn (room : Nat) (p : Pt) {m : Nat} (hm : m ≤ 64) : ZP room ((hdrS p).take m ++ zeros (64 - m)) := fun n hn hok => by
  have hl := hdrS_len p
  have hls := tz_len hm hl
  have hb := ok_bytes hok (zz_len hn hls)
  refine eq_bytes (by rw [zz_len hn hls]; omega) (by omega) fun j hj => ?_
  rw [zz_get]
  split
  · rename_i hjn
    have h0 := hb 0 (by omega)
    rw [zz_get, zz_get, if_pos (show 0 < n by omega), turnB_0] at h0
    have hn17 : n ≤ 17 := by
      rcases Nat.lt_or_ge 17 n with h | h
      · rw [if_pos (by omega)] at h0; exact absurd h0 ne255
      · exact h
    have h1 := hb j (by omega)
    rw [zz_get, zz_get, if_pos hjn, if_neg (by omega), turnB_0, tz_get m _ hl hm] at h1
    split at h1
    · rename_i h17
      rw [hdr_bytes p j (by omega)] at h1
      rw [tz_get m _ hl hm, if_pos (by omega), turnB_255 h1]
    · exact absurd h1 ne255
  · rfl
theorem ZP_zero {room : Nat} {s : Str} (hs : s.length = 64) (h : ZP room s) {k : Nat} (hk : k ≤ 64) : ZP room (zeros k ++ s.drop k) := fun n hn hok => by
  have hl1 := zz_len hk hs
  refine eq_bytes (by rw [zz_len hn hl1]; omega) (by rw [hl1]; omega) fun j hj => ?_
  rcases Nat.lt_or_ge k n with h1 | h1
  · have e : zeros n ++ (zeros k ++ s.drop k).drop n = zeros n ++ s.drop n := by
      rw [List.drop_append, zeros_len, List.drop_of_length_le (by rw [zeros_len]; omega), List.nil_append, List.drop_drop, show k + (n - k) = n by omega]
    rw [e] at hok ⊢
    have h2 := of_eq (h n hn hok) hj
    rw [h2, zz_get]
    split
    · rw [zz_get, if_pos (by omega)] at h2; exact h2.symm
    · rfl
  · rw [zz_get]
    split
    · rw [zz_get, if_pos (by omega)]
    · rfl
theorem torn_whole {room : Nat} {p : Pt} {m : Nat} (hm : m ≤ 64) (hok : rdOk ((hdrS p).take m ++ zeros (64 - m)) room = true) : (hdrS p).take m ++ zeros (64 - m) = hdrS p := by
  have hl := hdrS_len p
  have hls := tz_len hm hl
  have hb := ok_bytes hok hls
  have hm17 : 17 ≤ m := by
    rcases Nat.lt_or_ge m 17 with h | h
    · have h0 := hb 16 (by omega)
      rw [tz_get m _ hl hm, tz_get m _ hl hm, if_neg (by omega), if_neg (by omega), turnB_0] at h0
      exact absurd h0 ne255
    · exact h
  have hz : ∀ j, 34 ≤ j → (hdrS p).getD j 0 = 0 := fun j hj => by
    have e : hdrS p = (ptS p ++ turnS (ptS p)) ++ zeros 30 := rfl
    have h34 : (ptS p ++ turnS (ptS p)).length = 34 := by simp [turnS, ptS_len]
    rw [e, List.getD_eq_getElem?_getD, List.getElem?_append_right (by omega)]
    unfold zeros
    rw [List.getElem?_replicate]
    split <;> rfl
  have key := eq_bytes (m := 64) (a := (hdrS p).take m ++ zeros (64 - m)) (b := hdrS p) (by omega) (by omega) fun j hj => by
    rw [tz_get m _ hl hm]
    split
    · rfl
    · rcases Nat.lt_or_ge j 34 with h | h
      · have h0 := hb (j - 17) (by omega)
        rw [show 17 + (j - 17) = j by omega, tz_get m _ hl hm, tz_get m _ hl hm, if_neg (by omega), if_pos (by omega)] at h0
        have h1 := hdr_bytes p (j - 17) (by omega)
        rw [show 17 + (j - 17) = j by omega] at h1
        exact h0.trans h1.symm
      · exact (hz j h).symm
  have t1 : ((hdrS p).take m ++ zeros (64 - m)).take 64 = (hdrS p).take m ++ zeros (64 - m) := List.take_of_length_le (by omega)
  have t2 : (hdrS p).take 64 = hdrS p := List.take_of_length_le (by omega)
  exact t1.symm.trans (key.trans t2)
end Go.Gx
namespace Go.Gx
open Go.Proofs
structure Fl where
  keep : List Bool
  torn : Int
  cut : Int
def ndrop (K : Fl) (k : Nat) : Nat := if ((k : Nat) : Int) + 1 = K.torn then (min (max K.cut 0) 64).toNat else if K.keep.getD k false then 64 else 0
theorem ndrop_le (K : Fl) (k : Nat) : ndrop K k ≤ 64 := by unfold ndrop; split; omega; split <;> omega
def dropL (K : Fl) : Nat → List (Nat × Str) → List Str → List Str
  | _, [], pl => pl
  | k, x :: l, pl => dropL K (k + 1) l (pl.set x.1 (x.2.take (ndrop K k) ++ (pl.getD x.1 []).drop (ndrop K k)))
def dropD (D : Dk) (K : Fl) : Dk := { pl := dropL K 0 D.ca D.pl, ca := [], armed := 0, ops := D.ops, dead := true }
theorem dropL_len (K : Fl) : ∀ (l : List (Nat × Str)) (k : Nat) (pl : List Str), (dropL K k l pl).length = pl.length
  | [], _, _ => rfl
  | x :: l, k, pl => by rw [dropL, dropL_len K l, List.length_set]
theorem dropL_get (K : Fl) : ∀ (l : List (Nat × Str)) (k : Nat) (pl : List Str), (l.map (·.1)).Nodup → (∀ x ∈ l, x.1 < pl.length) → ∀ i,
    (dropL K k l pl).getD i [] = pl.getD i [] ∧ i ∉ l.map (·.1) ∨ ∃ s n, (i, s) ∈ l ∧ n ≤ 64 ∧ (dropL K k l pl).getD i [] = s.take n ++ (pl.getD i []).drop n
  | [], _, _, _, _, i => .inl ⟨rfl, by simp⟩
  | x :: l, k, pl, hn, hlt, i => by
    simp only [List.map_cons, List.nodup_cons] at hn
    have hx := hlt x (by simp)
    have ih := dropL_get K l (k + 1) (pl.set x.1 (x.2.take (ndrop K k) ++ (pl.getD x.1 []).drop (ndrop K k))) hn.2 (fun y hy => by rw [List.length_set]; exact hlt y (List.mem_cons_of_mem _ hy)) i
    rw [getD_set0 hx] at ih
    rw [dropL]
    by_cases he : i = x.1
    · subst he
      rw [if_pos rfl] at ih
      rcases ih with ⟨h1, -⟩ | ⟨s, n, h1, -⟩
      · exact .inr ⟨x.2, ndrop K k, by simp, ndrop_le K k, h1⟩
      · exact absurd (List.mem_map_of_mem (f := (·.1)) h1) hn.1
    · rw [if_neg he] at ih
      rcases ih with ⟨h1, h2⟩ | ⟨s, n, h1, h2, h3⟩
      · exact .inl ⟨h1, by simp only [List.map_cons, List.mem_cons, not_or]; exact ⟨he, h2⟩⟩
      · exact .inr ⟨s, n, List.mem_cons_of_mem _ h1, h2, h3⟩
def wrF (D : Dk) (K : Fl) (i : Nat) (s : Str) : Dk := if D.armed = 1 then dropD (wrD D i s) K else { wrD D i s with armed := D.armed - 1 }
def flF (D : Dk) (K : Fl) : Dk := if D.armed = 1 then dropD { D with ops := D.ops + 1 } K else { flD D with armed := D.armed - 1 }
def runW (K : Fl) : Dk → List (Nat × Str) → Dk
  | D, [] => D
  | D, x :: r => if (wrF D K x.1 x.2).dead then wrF D K x.1 x.2 else runW K (wrF D K x.1 x.2) r
theorem wrF_dead {D : Dk} (hd : D.dead = false) (K : Fl) (i : Nat) (s : Str) : (wrF D K i s).dead = decide (D.armed = 1) := by
  unfold wrF
  split
  · rename_i h; rw [decide_eq_true h]; rfl
  · rename_i h; rw [decide_eq_false h]; exact hd
theorem flF_dead {D : Dk} (hd : D.dead = false) (K : Fl) : (flF D K).dead = decide (D.armed = 1) := by
  unfold flF
  split
  · rename_i h; rw [decide_eq_true h]; rfl
  · rename_i h; rw [decide_eq_false h]; exact hd
theorem runW_app (K : Fl) : ∀ (a : List (Nat × Str)) (D : Dk) (b : List (Nat × Str)), D.dead = false → runW K D (a ++ b) = if (runW K D a).dead then runW K D a else runW K (runW K D a) b
  | [], D, b, hd => by
    have e : runW K D [] = D := rfl
    rw [List.nil_append, e, hd, if_neg (by decide)]
  | x :: a, D, b, hd => by
    rw [List.cons_append, runW, runW]
    by_cases h : (wrF D K x.1 x.2).dead = true
    · rw [if_pos h, if_pos h, if_pos h]
    · rw [if_neg h, if_neg h]
      exact runW_app K a _ b (by simpa using h)
theorem runW_case (K : Fl) : ∀ (l : List (Nat × Str)) (D : Dk), D.dead = false →
    (runW K D l = { D with ca := D.ca ++ l, ops := D.ops + l.length, armed := D.armed - l.length } ∧ (D.armed = 0 ∨ l.length < D.armed)) ∨
    (runW K D l).dead = true ∧ (∃ m, m ≤ l.length ∧ (runW K D l).pl = dropL K 0 (D.ca ++ l.take m) D.pl) ∧ (runW K D l).ca = [] ∧ (runW K D l).armed = 0 ∧ D.ops ≤ (runW K D l).ops ∧ (runW K D l).ops ≤ D.ops + l.length
  | [], D, hd => .inl ⟨by simp [runW], by simp; omega⟩
  | x :: l, D, hd => by
    have hdx := wrF_dead hd K x.1 x.2
    by_cases ha : D.armed = 1
    · right
      have e : wrF D K x.1 x.2 = dropD (wrD D x.1 x.2) K := by unfold wrF; rw [if_pos ha]
      have er : runW K D (x :: l) = dropD (wrD D x.1 x.2) K := by
        rw [runW, if_pos (by rw [hdx]; simpa using ha), e]
      rw [er]
      refine ⟨rfl, ⟨1, by simp, ?_⟩, rfl, rfl, ?_, ?_⟩
      · simp [dropD, wrD]
      · show D.ops ≤ D.ops + 1; omega
      · show D.ops + 1 ≤ _; simp
    · have e : wrF D K x.1 x.2 = { wrD D x.1 x.2 with armed := D.armed - 1 } := by unfold wrF; rw [if_neg ha]
      have hdf : (wrF D K x.1 x.2).dead = false := by rw [hdx]; simpa using ha
      have er : runW K D (x :: l) = runW K (wrF D K x.1 x.2) l := by rw [runW, if_neg (by rw [hdf]; decide)]
      have ih := runW_case K l (wrF D K x.1 x.2) hdf
      rw [er]
      rcases ih with ⟨h1, h2⟩ | ⟨h1, ⟨m, hm, h2⟩, h3, h4, h5, h6⟩
      · left
        rw [e] at h2
        dsimp only at h2
        refine ⟨?_, by simp only [List.length_cons]; omega⟩
        rw [h1, e]
        simp only [wrD, List.append_assoc, List.cons_append, List.nil_append, List.length_cons]
        congr 1
        · omega
        · omega
      · right
        have eo : (wrF D K x.1 x.2).ops = D.ops + 1 := by rw [e]; rfl
        rw [eo] at h5 h6
        rw [e] at h2
        dsimp only [wrD] at h2
        refine ⟨h1, ⟨m + 1, by simp only [List.length_cons]; omega, ?_⟩, h3, h4, by omega, by simp only [List.length_cons]; omega⟩
        rw [e]
        dsimp only [wrD] at h2 ⊢
        rw [h2, List.take_succ_cons, List.append_assoc, List.cons_append, List.nil_append]
def comF (D : Dk) (K : Fl) (ws : List (Nat × Str)) (sl : Nat) (hd : Str) : Dk :=
  let A := runW K D ws
  if A.dead then A else
    let B := wrF A K sl (zeros 64)
    if B.dead then B else
      let C := flF B K
      if C.dead then C else
        let E := wrF C K sl hd
        if E.dead then E else flF E K
theorem comF_case {D : Dk} (K : Fl) (ws : List (Nat × Str)) (sl : Nat) (hdr : Str) (hd : D.dead = false) (hca : D.ca = []) :
    (comF D K ws sl hdr).ca = [] ∧ D.ops ≤ (comF D K ws sl hdr).ops ∧ (comF D K ws sl hdr).ops ≤ D.ops + ws.length + 4 ∧
    ((comF D K ws sl hdr).dead = true ∧ (comF D K ws sl hdr).armed = 0 ∧ ((∃ m, (comF D K ws sl hdr).pl = dropL K 0 ((ws ++ [(sl, zeros 64)]).take m) D.pl) ∨ (comF D K ws sl hdr).pl = dropL K 0 [(sl, hdr)] (apD D.pl (ws ++ [(sl, zeros 64)]))) ∨
     (comF D K ws sl hdr).dead = false ∧ (comF D K ws sl hdr).pl = apD (apD D.pl (ws ++ [(sl, zeros 64)])) [(sl, hdr)]) := by
  unfold comF
  rcases runW_case K ws D hd with ⟨h1, h2⟩ | ⟨h1, ⟨m, hm, h2⟩, h3, h4, h5, h6⟩
  · have eA : (runW K D ws).dead = false := by rw [h1]; exact hd
    dsimp only
    rw [eA, if_neg (by decide), h1, hca, List.nil_append]
    clear h1 eA
    unfold wrF flF
    by_cases g1 : D.armed - ws.length = 1
    · simp only [g1, if_pos, dropD, wrD]
      refine ⟨trivial, by omega, by omega, .inl ⟨trivial, trivial, .inl ⟨ws.length + 1, ?_⟩⟩⟩
      rw [List.take_of_length_le (by simp)]
    · simp only [if_neg g1, wrD, hd, Bool.false_eq_true, if_false]
      by_cases g2 : D.armed - ws.length - 1 = 1
      · simp only [g2, if_pos, dropD]
        refine ⟨trivial, by omega, by omega, .inl ⟨trivial, trivial, .inl ⟨ws.length + 1, ?_⟩⟩⟩
        rw [List.take_of_length_le (by simp)]
      · simp only [if_neg g2, flD, hd, Bool.false_eq_true, if_false]
        by_cases g3 : D.armed - ws.length - 1 - 1 = 1
        · simp only [g3, if_pos, dropD, List.nil_append]
          exact ⟨trivial, by omega, by omega, .inl ⟨trivial, trivial, .inr trivial⟩⟩
        · simp only [if_neg g3, hd, Bool.false_eq_true, if_false, List.nil_append]
          by_cases g4 : D.armed - ws.length - 1 - 1 - 1 = 1
          · simp only [g4, if_pos, dropD]
            exact ⟨trivial, by omega, by omega, .inl ⟨trivial, trivial, .inr trivial⟩⟩
          · simp only [if_neg g4, hd]
            exact ⟨trivial, by omega, by omega, .inr ⟨trivial, trivial⟩⟩
  · dsimp only
    rw [h1, if_pos rfl]
    refine ⟨h3, h5, by omega, .inl ⟨h1, h4, .inl ⟨m, ?_⟩⟩⟩
    rw [h2, hca, List.nil_append, List.take_append_of_le_length hm]
end Go.Gx
namespace Go.Gx
open Go.Proofs
theorem kdsf1_el86 : elT Try.prog 86 64 = true := by kernel_rfl
theorem kdsf1_fo42_3 : fieldOff Try.prog 42 3 = some 5 := by kernel_rfl
theorem kdsf1_fo42_4 : fieldOff Try.prog 42 4 = some 6 := by kernel_rfl
theorem kdsf1_oc3 : oneCellT Try.prog 3 = true := by kernel_rfl
theorem kdsf1_si42 : structInfo Try.prog 42 = some ([(0, 1), (1, 1), (2, 3), (5, 1), (6, 1), (7, 1)], [Value.slice none 0 0, Value.slice none 0 0, Value.slice none 0 0, Value.int .i64 0, Value.int .i64 0, Value.int .i64 0, Value.int .i64 0, Value.bool false]) := by kernel_rfl
theorem kdsf1_sz3 : (Try.prog.info? 3).map (·.size) = some 1 := by kernel_rfl
theorem BlsAt.dg {ty : TypeId → Bool} {n0 : Nat} {w w' : World} {v : Value} {l : List Bool} (h : BlsAt (DkB ty n0 w) w v l) (g : Dg ty n0 w w') : BlsAt (DkB ty n0 w') w' v l :=
  h.move fun a v hA hv => ⟨g.cell hv hA, (g.same (World.block_lt_of_cell? w _ hv) hA).2⟩
theorem BlsAt.elem {A : Nat → Prop} {w : World} {p : Option Addr} {n cap : Nat} {l : List Bool} (h : BlsAt A w (.slice p n cap) l) {i : Nat} (hi : i < l.length) : ∃ b o, p = some ⟨b, o, none⟩ ∧ ¬ A b ∧ w.cell? ⟨b, o + i, none⟩ = some (.bool (l.getD i false)) := by
  obtain ⟨p', cap', e, -, -, -, h4⟩ := h
  cases e
  obtain ⟨b, o, hp, hA, hc⟩ := h4 (by rintro rfl; simp at hi)
  exact ⟨b, o, hp, hA, hc i hi⟩
def DiskF (n0 : Nat) (w : World) (b : Nat) (D : Dk) (K : Fl) : Prop :=
  n0 ≤ b ∧ DkOk D ∧ ∃ bp vc vk, n0 ≤ bp ∧ Box w b 42 (dkV (.slice (some ⟨bp, 0, none⟩) D.pl.length D.pl.length) vc vk K.torn K.cut D) ∧ BlsAt (DkB lgTy n0 w) w vk K.keep ∧ Box w bp 86 (plV D.pl) ∧
    Own w n0 88 65 vc D.ca.length (D.ca.map waV).flatten
section
variable {n0 b : Nat} {w w' : World} {D : Dk} {K : Fl}
theorem DiskF.at (h : DiskF n0 w b D K) : DiskAt n0 w b D := by
  obtain ⟨h1, h2, bp, vc, vk, h3, h4, h5, h6, h7⟩ := h
  exact ⟨h1, h2, bp, vc, vk, _, _, h3, h4, h5.one, h6, h7⟩
theorem DiskF.bel (h : DiskF n0 w b D K) (g : Bel w w') : DiskF n0 w' b D K := by
  obtain ⟨h1, h2, bp, vc, vk, h3, h4, h5, h6, h7⟩ := h
  exact ⟨h1, h2, bp, vc, vk, h3, h4.carry g, h5.dg (Dg.of_bel g), h6.carry g, Own.carry h7 g⟩
theorem DiskF.carry (h : DiskF n0 w b D K) (g : Bel w w') : DiskF n0 w' b D K := h.bel g
theorem DiskF.log {bl : Nat} {cs : List Value} (h : DiskF n0 w b D K) (hb : Box w bl 29 cs) (hn : n0 ≤ bl) (g : Gr (fun k => k = bl) w w') : DiskF n0 w' b D K := by
  obtain ⟨h1, h2, bp, vc, vk, h3, h4, h5, h6, h7⟩ := h
  refine ⟨h1, h2, bp, vc, vk, h3, h4.carryR g (box_ne h4 hb (by decide)), h5.dg (Gr.mono g (fun k _ e => by have e : k = bl := e; rw [e]; exact DkB.box hb (by kernel_rfl) hn)), h6.carryR g (box_ne h6 hb (by decide)), Own.carryR h7 g fun j hj e => ?_⟩
  have e : j = bl := e
  subst e
  exact own_box_ne h7 hb (by decide) hj
end
def AllBl (n0 : Nat) (w : World) (v : Value) (l : List Bool) : Prop := BlsAt (DkB lgTy n0 w) w v l
theorem AllBl.dg {n0 : Nat} {w w' : World} {v : Value} {l : List Bool} (h : AllBl n0 w v l) (g : Dg lgTy n0 w w') : AllBl n0 w' v l := BlsAt.dg h g
theorem AllBl.carry {n0 : Nat} {w w' : World} {v : Value} {l : List Bool} (h : AllBl n0 w v l) (g : Bel w w') : AllBl n0 w' v l := h.dg (Dg.of_bel g)
theorem AllBl.box {n0 b : Nat} {w w' : World} {v : Value} {l : List Bool} {T : TypeId} {cs : List Value} (h : AllBl n0 w v l) (hb : Box w b T cs) (hT : lgTy T = true) (hn : n0 ≤ b) (g : Gr (fun k => k = b) w w') : AllBl n0 w' v l :=
  h.dg (Gr.mono g (fun k _ e => by have e : k = b := e; rw [e]; exact DkB.box hb hT hn))
def K0 : Fl := ⟨[], 0, 0⟩
theorem newdisk_f (n : Nat) (h : 1 ≤ n ∧ n ≤ 4096) (w : World) : Ret Try.prog 15 #[.int .i64 (n : Nat)] w fun v w' => ∃ b, v = .tuple #[.pointer (some ⟨b, 0, none⟩), .int .i64 0] ∧ DiskF w.heap.size w' b (newD n) K0 ∧ Bel w w' := by
  refine ret_of_W Try.func15 rfl (Nat.le_of_ble_eq_true rfl) (res2 rfl) ?_
  have hB := Gr.refl (fun _ => False) w
  refine W.seq ?_
  refine W.region ?_
  refine L.val (x_as (v := .pointer _) rfl) rfl ?_
  refine L.val (x_as (v := .int _ _) rfl) rfl ?_
  refine L.nil ?_
  refine thn_n ?_
  refine W.seq ?_
  refine W.seq ?_
  refine W.region ?_
  refine L.val (x_mv (v := .int _ _) rfl) rfl ?_
  refine L.val (x_lss rfl rfl) rfl ?_
  refine L.val (x_mv (v := .bool _) rfl) rfl ?_
  refine' L.group0 2 7 8 8 6 false rfl ?_ ?_ ?_
  rotate_left 1
  ·intro g6
   have h6 := dlt_f g6
   refine L.gyes' (dj := 6) (b := _) rfl rfl g6 ?_
   refine L.val (x_mv (v := .int _ _) rfl) rfl ?_
   refine L.gyes' (dj := 6) (b := _) rfl rfl g6 ?_
   refine L.val (x_gtr rfl rfl) rfl ?_
   refine L.nil ?_
   refine thn_n ⟨rfl, rfl, ?_, rfl⟩
   repeat (first | exact jeq.refl _ _ _ | refine jeq.upd rfl ?_ | refine jeq.jk rfl rfl ?_)
  ·intro g6
   refine L.gno (dj := 6) (b := _) rfl rfl g6 rfl ?_
   refine L.gno (dj := 6) (b := _) rfl rfl g6 rfl ?_
   refine L.nil (thn_n ⟨rfl, rfl, ?_⟩)
   repeat (first | exact jeq.refl _ _ _ | refine jeq.upd rfl ?_ | refine jeq.jk rfl rfl ?_)
  intro J6 j6
  refine L.val (x_or rfl j6) rfl ?_
  refine L.nil ?_
  refine thn_n ?_
  refine W.cond (b := _) rfl (fun g9 => ?_) (fun g9 => ?_)
  ·have h9 := g9
   simp only [Bool.or_eq_true, decide_eq_true_eq] at g9; omega
  ·have h9 := g9
   refine W.skip ?_
   refine thn_n ?_
   refine W.seq ?_
   refine W.region ?_
   refine L.val (x_mv (v := .int _ _) rfl) rfl ?_
   refine L.mkZ (v := .int .u8 0) (sz := 64) n Try.underlying36 kdsf1_el86 (by kernel_rfl) rfl (by omega) rfl (fun w11 bx11 hw hz11 => ?_)
   have hB := hB.carry hw
   refine L.val (x_build (cells := [.slice _ _ _, .slice _ _ _, .slice _ _ _, .int _ _, .int _ _, .int _ _, .int _ _, .bool _]) kdsf1_si42 rfl rfl) rfl ?_
   refine L.box (cs := dkV (.slice (some ⟨w.heap.size, 0, none⟩) n n) (.slice none 0 0) (.slice none 0 0) 0 0 (newD n)) rfl rfl (fun w13 bx13 hw hz13 => ?_)
   have hB := hB.carry hw; have bx11 := bx11.carry hw
   have hsz := hB.size
   refine L.val (x_as (v := .pointer _) rfl) rfl ?_
   refine L.val (x_as (v := .int _ _) rfl) rfl ?_
   refine L.nil ?_
   refine thn_n ?_
   refine W.ret (fin_mk (.inr rfl) ?_)
   have e1 : (newD n).pl.length = n := by simp [newD]
   refine ⟨_, rfl, ⟨by omega, newD_ok h, w.heap.size, .slice none 0 0, .slice none 0 0, Nat.le_refl _, by rw [e1]; exact bx13, ⟨none, 0, rfl, Nat.le_refl _, by omega, by simp [K0], fun e => absurd rfl e⟩, ?_, own_nil⟩, hB⟩
   show Box w13 w.heap.size _ (plV (List.replicate n (zeros 64)))
   rw [plV_new]; exact bx11
theorem falls_f (b : Nat) (vp vc vk : Value) (tn ct : Int) (D : Dk) (w : World) (hb : Box w b 42 (dkV vp vc vk tn ct D)) (ho : D.ops ≤ 1000000000) (ha : D.armed ≤ 9223372036854775807) : Ret Try.prog 68 #[.pointer (some ⟨b, 0, none⟩)] w fun v w' => v = .bool (decide (D.armed = 1)) ∧ Box w' b 42 (dkV vp vc vk tn ct { D with ops := D.ops + 1, armed := D.armed - 1 }) ∧ Gr (fun k => k = b) w w' := by
  have e1 : (((D.ops + 1 : Nat) : Int)) = (D.ops : Nat) + 1 := by omega
  refine ret_of_W Try.func68 rfl (Nat.le_of_ble_eq_true rfl) (res1 rfl) ?_
  refine W.seq ?_
  refine W.region ?_
  refine L.val (x_as (v := .bool _) rfl) rfl ?_
  refine L.nil ?_
  refine thn_n ?_
  refine W.seq ?_
  refine W.region ?_
  refine L.val (x_mv (v := .pointer _) rfl) rfl ?_
  refine L.val (x_nil rfl) rfl ?_
  refine L.val (x_fa kdsf1_fo42_4 rfl) rfl ?_
  refine L.val (x_ld (v := .int _ _) kdsf1_oc3 rfl (hb.cell0 rfl)) rfl ?_
  refine L.val (x_add rfl rfl (wr64 (by omega))) rfl ?_
  refine L.val (x_nil rfl) rfl ?_
  refine L.val (x_fa kdsf1_fo42_4 rfl) rfl ?_
  refine L.set (v := .int _ _) kdsf1_sz3 rfl rfl rfl hb rfl (fun wl9 hb hw hzl9 => ?_)
  have hG := hw
  refine L.nil ?_
  refine thn_n ?_
  refine W.seq ?_
  refine W.seq ?_
  refine W.region ?_
  refine L.val (x_mv (v := .pointer _) rfl) rfl ?_
  refine L.val (x_nil rfl) rfl ?_
  refine L.val (x_fa kdsf1_fo42_3 rfl) rfl ?_
  refine L.val (x_ld (v := .int _ _) kdsf1_oc3 rfl (hb.cell0 rfl)) rfl ?_
  refine L.val (x_eql rfl rfl) rfl ?_
  refine L.nil ?_
  refine thn_n ?_
  refine W.cond (b := _) rfl (fun g14 => ?_) (fun g14 => ?_)
  ·have h14 := of_decide_eq_true g14
   have ha0 : D.armed = 0 := by omega
   refine W.seq ?_
   refine W.region ?_
   refine L.val (x_as (v := .bool _) rfl) rfl ?_
   refine L.nil ?_
   refine thn_n ?_
   refine W.ret (thn_r (fin_mk (.inr rfl) ?_))
   have e2 : ((D.armed - 1 : Nat) : Int) = (D.armed : Nat) := by omega
   refine ⟨?_, ?_, hG⟩
   · show Value.bool false = _
     rw [decide_eq_false (by omega)]
   · unfold dkV
     dsimp only
     rw [e1, e2]
     exact hb
  ·have h14 := of_decide_eq_false g14
   have e2 : ((D.armed - 1 : Nat) : Int) = (D.armed : Nat) - 1 := by omega
   refine W.skip ?_
   refine thn_n ?_
   refine W.seq ?_
   refine W.region ?_
   refine L.val (x_mv (v := .pointer _) rfl) rfl ?_
   refine L.val (x_nil rfl) rfl ?_
   refine L.val (x_fa kdsf1_fo42_3 rfl) rfl ?_
   refine L.val (x_ld (v := .int _ _) kdsf1_oc3 rfl (hb.cell0 rfl)) rfl ?_
   refine L.val (x_sub rfl rfl (wr64 (by omega))) rfl ?_
   refine L.val (x_nil rfl) rfl ?_
   refine L.val (x_fa kdsf1_fo42_3 rfl) rfl ?_
   refine L.set (v := .int _ _) kdsf1_sz3 rfl rfl rfl hb rfl (fun wl23 hb hw hzl23 => ?_)
   have hG := hG.trans (hw.mono fun _ _ e => e)
   refine L.nil ?_
   refine thn_n ?_
   refine W.seq ?_
   refine W.region ?_
   refine L.val (x_mv (v := .pointer _) rfl) rfl ?_
   refine L.val (x_nil rfl) rfl ?_
   refine L.val (x_fa kdsf1_fo42_3 rfl) rfl ?_
   refine L.val (x_ld (v := .int _ _) kdsf1_oc3 rfl (hb.cell0 rfl)) rfl ?_
   refine L.val (x_eql rfl rfl) rfl ?_
   refine L.val (x_as (v := .bool _) rfl) rfl ?_
   refine L.nil ?_
   refine thn_n ?_
   refine W.ret (fin_mk (.inr rfl) ?_)
   refine ⟨?_, ?_, hG⟩
   · show Value.bool (decide _) = _
     congr 1
     rw [decide_eq_decide]; omega
   · unfold dkV
     dsimp only
     rw [e1, e2]
     exact hb
end Go.Gx
