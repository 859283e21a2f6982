/- Sessions, the reference: its base as it lies in memory. Conditions: none. -/
import Derived.Test.YtnhbjfkeeegdgaaCeSesY
namespace Go.Gx
open Go.Proofs
theorem ksesz_en76 : Go.Proofs.Enters Try.prog 76 := Go.Proofs.enters_of Try.func76 (by kernel_rfl) rfl
theorem ksesz_fo144_0 : fieldOff Try.prog 144 0 = some 0 := by kernel_rfl
theorem ksesz_fo93_2 : fieldOff Try.prog 93 2 = some 2 := by kernel_rfl
theorem ksesz_oc4 : oneCellT Try.prog 4 = true := by kernel_rfl
theorem ksesz_oc91 : oneCellT Try.prog 91 = true := by kernel_rfl
theorem ksesz_sz144 : (Try.prog.info? 144).map (·.size) = some 6 := by kernel_rfl
theorem ksesz_sz4 : (Try.prog.info? 4).map (·.size) = some 1 := by kernel_rfl
def rowR (x : Sx) (vs ve vg vx : Value) : List Value := [.bool x.opn, vs, ve, vg, vx, .int .i64 (x.at_ : Nat)]
def SxRef (ow : Labels) (t : Nat) (w : World) (s : Bs) (i : Nat) (cs : List Value) (x : Sx) : Prop :=
  ∃ vs ve vg vx, cs = rowR x vs ve vg vx ∧ (∀ u ∈ cs, u.oneCell' = true) ∧ (x.opn = true → x.at_ ≤ s.log.length ∧ EdsAt (fun k => ow k ≠ none) w vs (comes [] (s.hist x.at_)) ∧
    OwnP ow t (.eds i) w 34 3 ve x.eds.length (x.eds.map edV).flatten ∧ (∀ e ∈ x.eds, EdOk e) ∧
    OwnP ow t (.asked i) w 9 1 vg x.gets.length (x.gets.map S) ∧ OwnP ow t (.heads i) w 9 1 vx x.heads.length (x.heads.map S))
structure RefAt (ow : Labels) (t : Nat) (w : World) (b : Nat) (s : Bs) (vh vd va : Value) (rd ra : List (List Value)) : Prop where
  lab : ow b = some (t, .base)
  box : Box w b 93 [vh, vd, va]
  held : EdsAt (fun k => ow k ≠ none) w vh s.state
  done : OwnP ow t .log w 22 1 vd s.log.length rd.flatten
  rows : RowsC EsC (fun k => ow k ≠ none) w rd s.log
  all : OwnP ow t .opens w 144 6 va s.all.length ra.flatten
  len : ra.length = s.all.length
  each : ∀ i, i < s.all.length → SxRef ow t w s i (ra.getD i []) (s.all.getD i default)
  free : ∀ k, w.heap.size ≤ k → ow k = none
section
variable {ow ow' : Labels} {t t' : Nat} {w w' : World} {b i : Nat} {s : Bs} {vh vd va : Value} {rd ra : List (List Value)}
theorem SxRef.len {cs : List Value} {x : Sx} (h : SxRef ow t w s i cs x) : cs.length = 6 := by obtain ⟨vs, ve, vg, vx, rfl, -⟩ := h; rfl
theorem RefAt.lens (h : RefAt ow t w b s vh vd va rd ra) : ∀ r ∈ ra, r.length = 6 := fun r hr => by
  obtain ⟨i, hi, rfl⟩ := List.getElem_of_mem hr
  have := (h.each i (by rw [← h.len]; exact hi)).len
  rwa [List.getD_eq_getElem?_getD, List.getElem?_eq_getElem hi] at this
theorem eds_goes {v : Value} {l : List Ed} (h : EdsAt (fun k => ow k ≠ none) w v l) (g : Goes t' w w' ow ow') : EdsAt (fun k => ow' k ≠ none) w' v l := by
  have h1 : RowsC EsC (fun k => ow k ≠ none) w [[v]] [l] := RowsC.one ⟨v, rfl, h⟩
  obtain ⟨v', e, h2⟩ := (rows_goes h1 g).2 0 (by simp)
  cases e; exact h2
theorem eds_keep {C : Part → Prop} {v : Value} {l : List Ed} (h : EdsAt (fun k => ow k ≠ none) w v l) (g : Keeps t C w w' ow ow') : EdsAt (fun k => ow' k ≠ none) w' v l := eds_goes h g.goes
theorem SxRef.goes {cs : List Value} {x : Sx} (h : SxRef ow t w s i cs x) (g : Goes t' w w' ow ow') (hne : t ≠ t') : SxRef ow' t w' s i cs x := by
  obtain ⟨vs, ve, vg, vx, h1, h2, h3⟩ := h
  refine ⟨vs, ve, vg, vx, h1, h2, fun ho => ?_⟩
  obtain ⟨a1, a2, a3, a4, a5, a6⟩ := h3 ho
  exact ⟨a1, eds_goes a2 g, a3.goes g hne, a4, a5.goes g hne, a6.goes g hne⟩
theorem SxRef.keep {C : Part → Prop} {cs : List Value} {x : Sx} (h : SxRef ow t w s i cs x) (g : Keeps t C w w' ow ow') (hne : ¬ C (.eds i) ∧ ¬ C (.asked i) ∧ ¬ C (.heads i)) : SxRef ow' t w' s i cs x := by
  obtain ⟨vs, ve, vg, vx, h1, h2, h3⟩ := h
  refine ⟨vs, ve, vg, vx, h1, h2, fun ho => ?_⟩
  obtain ⟨a1, a2, a3, a4, a5, a6⟩ := h3 ho
  exact ⟨a1, eds_keep a2 g, a3.keep g hne.1, a4, a5.keep g hne.2.1, a6.keep g hne.2.2⟩
theorem RefAt.goes (h : RefAt ow t w b s vh vd va rd ra) (g : Goes t' w w' ow ow') (hne : t ≠ t') : RefAt ow' t w' b s vh vd va rd ra := by
  have a1 := lab_goes h.lab h.box.lt g hne
  exact ⟨a1.1, h.box.carryR g.gr a1.2, eds_goes h.held g, h.done.goes g hne, rows_goes h.rows g, h.all.goes g hne, h.len, fun i hi => (h.each i hi).goes g hne, g.end_⟩
theorem RefAt.bel (h : RefAt ow t w b s vh vd va rd ra) (g : Bel w w') : RefAt ow t w' b s vh vd va rd ra := by
  have hK : Keeps t (fun _ => False) w w' ow ow := Keeps.bel h.free g
  exact ⟨h.lab, h.box.carry g, eds_keep h.held hK, h.done.keep hK (fun f => f), rows_keep h.rows hK, h.all.keep hK (fun f => f), h.len, fun i hi => (h.each i hi).keep hK ⟨fun f => f, fun f => f, fun f => f⟩, hK.end_⟩
theorem RefAt.rowsAt (h : RefAt ow t w b s vh vd va rd ra) (hi : i < s.all.length) : ∃ ba cap tl, va = .slice (some ⟨ba, 0, none⟩) s.all.length cap ∧ Box w ba 144 (ra.flatten ++ tl) ∧ ow ba = some (t, .opens) := by
  rcases Own.open h.all.1 with ⟨-, hk, -⟩ | ⟨ba, cap, tl, rfl, -, -, -, hbx⟩
  · omega
  · exact ⟨ba, cap, tl, rfl, hbx, h.all.2 ba rfl⟩
theorem row_cellk {k : Nat} {rows : List (List Value)} {tl : List Value} {i j : Nat} {x : Value} (hk : ∀ r ∈ rows, r.length = k) (hi : i < rows.length) (hj : j < k) (hx : (rows.getD i [])[j]? = some x) : (rows.flatten ++ tl)[0 + i * k + j]? = some x := by
  have hf := flatk hk hj hi
  have hr : (rows.getD i []).length = k := hk _ (by rw [List.getD_eq_getElem?_getD, List.getElem?_eq_getElem hi]; exact List.getElem_mem hi)
  have hlt : i * k + j < rows.flatten.length := by
    rw [flat_len hk]
    have h1 := Nat.mul_le_mul_right k (Nat.succ_le_of_lt hi)
    rw [Nat.succ_mul] at h1; omega
  rw [Nat.zero_add, List.getElem?_append_left hlt, hf, hx]
theorem flat_set_tlk {k : Nat} {rows : List (List Value)} {tl : List Value} {i j : Nat} {x : Value} (hk : ∀ r ∈ rows, r.length = k) (hi : i < rows.length) (hj : j < k) : (rows.flatten ++ tl).set (0 + i * k + j) x = (rows.set i ((rows.getD i []).set j x)).flatten ++ tl := by
  have hlt : i * k + j < rows.flatten.length := by
    rw [flat_len hk]
    have h1 := Nat.mul_le_mul_right k (Nat.succ_le_of_lt hi)
    rw [Nat.succ_mul] at h1; omega
  rw [Nat.zero_add, set_append_left hlt, flat_set hk hi hj]
theorem RefAt.blt {j : Nat} {tl : List Value} (h : RefAt ow t w b s vh vd va rd ra) (hi : i < s.all.length) (hj : j < 6) : Nat.blt (0 + i * 6 + j) (ra.flatten ++ tl).length = true := by
  rw [Nat.blt_eq, List.length_append, flat_len h.lens, h.len]
  have h1 := Nat.mul_le_mul_right 6 (Nat.succ_le_of_lt hi)
  rw [Nat.succ_mul] at h1; omega
theorem keeps_lab {k : Nat} {p : Part} (g : Gr (fun j => j = k) w w') (hl : ow k = some (t, p)) (hf : ∀ k, w.heap.size ≤ k → ow k = none) : Keeps t (fun q => q = p) w w' ow ow :=
  ⟨g.mono (fun j _ e => ⟨_, rfl, by rw [e]; exact hl⟩), fun _ _ => .inl rfl, fun k hk => .inl (hf k hk), fun k hk => hf k (by have := g.size; omega)⟩
theorem SxRef.shut {cs : List Value} {x : Sx} (h : SxRef ow t w s i cs x) : SxRef ow' t' w' s i (cs.set 0 (.bool false)) { x with opn := false } := by
  obtain ⟨vs, ve, vg, vx, rfl, h2, -⟩ := h
  refine ⟨vs, ve, vg, vx, rfl, fun u hu => ?_, fun e => by cases e⟩
  rcases List.mem_or_eq_of_mem_set hu with hu | rfl
  · exact h2 u hu
  · rfl
theorem RefAt.row {C : Part → Prop} {ba cap : Nat} {tl cs' : List Value} {x' : Sx} (h : RefAt ow t w b s vh vd (.slice (some ⟨ba, 0, none⟩) s.all.length cap) rd ra) (hi : i < s.all.length) (hK : Keeps t C w w' ow ow')
    (hC : ∀ p, C p → p = .opens ∨ p = .eds i ∨ p = .asked i ∨ p = .heads i) (hb0 : Box w ba 144 (ra.flatten ++ tl)) (hb : Box w' ba 144 ((ra.set i cs').flatten ++ tl)) (hl : ow' ba = some (t, .opens)) (hx : SxRef ow' t w' s i cs' x') :
    RefAt ow' t w' b { s with all := s.all.set i x' } vh vd (.slice (some ⟨ba, 0, none⟩) s.all.length cap) rd (ra.set i cs') := by
  have h6 := h.lens
  have h6' : ∀ r ∈ ra.set i cs', r.length = 6 := fun r hr => (List.mem_or_eq_of_mem_set hr).elim (h6 r) (fun e => by rw [e]; exact hx.len)
  have hn : ∀ {p : Part}, p ≠ .opens → p ≠ .eds i → p ≠ .asked i → p ≠ .heads i → ¬ C p := fun h1 h2 h3 h4 hp => (hC _ hp).elim h1 (fun e => e.elim h2 (fun e => e.elim h3 h4))
  refine ⟨hK.lab h.lab h.box.lt (hn (by simp) (by simp) (by simp) (by simp)), h.box.keep hK h.lab (hn (by simp) (by simp) (by simp) (by simp)), eds_keep h.held hK, h.done.keep hK (hn (by simp) (by simp) (by simp) (by simp)), rows_keep h.rows hK, ⟨?_, ?_⟩, by rw [List.length_set, List.length_set, h.len], fun k hk => ?_, hK.end_⟩
  · show Own w' 0 _ 6 _ (s.all.set i x').length _
    rw [List.length_set]
    refine Own.reset h.all.1 hb0 hb ?_ ?_ ?_
    · simp only [List.length_append]; rw [flat_len h6, flat_len h6', List.length_set]
    · rw [List.take_left' (by rw [flat_len h6', List.length_set, h.len])]
    · rw [flat_len h6', List.length_set, h.len]
  · intro j hj
    have hjb : j = ba := by simpa [Value.ownBlock] using hj
    rw [hjb]; exact hl
  · have hk : k < s.all.length := by have hk : k < (s.all.set i x').length := hk; rwa [List.length_set] at hk
    show SxRef ow' t w' s k ((ra.set i cs').getD k []) ((s.all.set i x').getD k default)
    rw [getD_set (by rw [h.len]; exact hi), getD_set hi]
    by_cases hki : k = i
    · subst hki; rw [if_pos rfl, if_pos rfl]; exact hx
    · rw [if_neg hki, if_neg hki]
      exact (h.each k hk).keep hK ⟨hn (by simp) (by simp [hki]) (by simp) (by simp), hn (by simp) (by simp) (by simp [hki]) (by simp), hn (by simp) (by simp) (by simp) (by simp [hki])⟩
end
theorem open_id {s : Bs} {id : Int} (h : s.isOpen id) : ∃ i : Nat, id = ((i + 1 : Nat) : Int) ∧ i < s.all.length ∧ (s.all.getD i default).opn = true := by
  obtain ⟨h1, h2, h3⟩ := h
  exact ⟨id.toNat - 1, by omega, by omega, h3⟩
theorem upd_succ (s : Bs) (i : Nat) (x : Sx) : s.upd ((i + 1 : Nat) : Int) x = { s with all := s.all.set i x } := by simp [Bs.upd]
theorem shut_succ (s : Bs) (i : Nat) : s.shut ((i + 1 : Nat) : Int) = { s with all := s.all.set i { s.all.getD i default with opn := false } } := by rw [Bs.shut, upd_succ, ses_succ]
theorem begins_ref (a h : Str) (w : World) : Ret Try.prog 77 #[S a, S h] w fun v w' => v = .bool (h.isPrefixOf a) ∧ w' = w := by
  refine ret_of_W Try.func77 rfl (Nat.le_of_ble_eq_true rfl) (res1 rfl) ?_
  refine W.seq ?_
  refine W.region ?_
  refine L.val (x_as (v := .bool _) rfl) rfl ?_
  refine L.nil ?_
  refine thn_n ?_
  refine W.seq ?_
  refine W.region ?_
  refine L.val (x_mv (v := S _) rfl) rfl ?_
  refine L.val (x_len_str Try.underlying9 rfl) rfl ?_
  refine L.val (x_mv (v := S _) rfl) rfl ?_
  refine L.val (x_len_str Try.underlying9 rfl) rfl ?_
  refine L.val (x_geq rfl rfl) rfl ?_
  refine L.val (x_mv (v := .bool _) rfl) rfl ?_
  refine' L.group0 6 11 16 16 10 true rfl ?_ ?_ ?_
  rotate_left 1
  ·intro g10
   have h10 := of_decide_eq_true g10
   refine L.gyes' (dj := 10) (b := _) rfl rfl g10 ?_
   refine L.val (x_mv (v := S _) rfl) rfl ?_
   refine L.gyes' (dj := 10) (b := _) rfl rfl g10 ?_
   refine L.val (x_mv (v := S _) rfl) rfl ?_
   refine L.gyes' (dj := 10) (b := _) rfl rfl g10 ?_
   refine L.val (x_len_str Try.underlying9 rfl) rfl ?_
   refine L.gyes' (dj := 10) (b := _) rfl rfl g10 ?_
   refine L.val (x_slS (j := h.length) Try.underlying9 rfl rfl rfl (by omega)) rfl ?_
   refine L.gyes' (dj := 10) (b := _) rfl rfl g10 ?_
   refine L.val (x_mv (v := S _) rfl) rfl ?_
   refine L.gyes' (dj := 10) (b := _) rfl rfl g10 ?_
   refine L.val (x_eqs rfl rfl) rfl ?_
   refine L.nil ?_
   refine thn_n ⟨rfl, rfl, ?_, rfl⟩
   repeat (first | exact jeq.refl _ _ _ | refine jeq.upd rfl ?_ | refine jeq.jk rfl rfl ?_)
  ·intro g10
   refine L.gno (dj := 10) (b := _) rfl rfl g10 rfl ?_
   refine L.gno (dj := 10) (b := _) rfl rfl g10 rfl ?_
   refine L.gno (dj := 10) (b := _) rfl rfl g10 rfl ?_
   refine L.gno (dj := 10) (b := _) rfl rfl g10 rfl ?_
   refine L.gno (dj := 10) (b := _) rfl rfl g10 rfl ?_
   refine L.gno (dj := 10) (b := _) rfl rfl g10 rfl ?_
   refine L.nil (thn_n ⟨rfl, rfl, ?_⟩)
   repeat (first | exact jeq.refl _ _ _ | refine jeq.upd rfl ?_ | refine jeq.jk rfl rfl ?_)
  intro J10 j10
  refine L.val (x_and rfl j10) rfl ?_
  refine L.val (x_as (v := .bool _) rfl) rfl ?_
  refine L.nil ?_
  refine thn_n ?_
  refine W.ret (fin_mk (.inr rfl) ?_)
  exact ⟨vb (by rw [← prefix_take]; simp only [Int.ofNat_le]), rfl⟩
theorem open_ref (ow : Labels) (t b : Nat) (s : Bs) (vh vd va : Value) (rd ra : List (List Value)) (id : Int) (w : World) (h : RefAt ow t w b s vh vd va rd ra) (hn : s.all.length ≤ 1000000) :
    Ret Try.prog 76 #[.pointer (some ⟨b, 0, none⟩), .int .i64 id] w fun v w' => v = .bool (decide (s.isOpen id)) ∧ w' = w := by
  have hb := h.box
  obtain ⟨aa, ca, rfl, hca⟩ := own_shape h.all.1
  refine ret_of_W Try.func76 rfl (Nat.le_of_ble_eq_true rfl) (res1 rfl) ?_
  refine W.seq ?_
  refine W.region ?_
  refine L.val (x_as (v := .bool _) rfl) rfl ?_
  refine L.nil ?_
  refine thn_n ?_
  refine W.seq ?_
  refine W.region ?_
  refine L.val (x_mv (v := .int _ _) rfl) rfl ?_
  refine L.val (x_geq rfl rfl) rfl ?_
  refine L.val (x_mv (v := .bool _) rfl) rfl ?_
  refine L.splitat (dj := 7) (b := _) rfl (fun g7 => ?_) (fun g7 => ?_)
  ·have h7 := of_decide_eq_true g7
   refine L.gyes' (dj := 7) (b := _) rfl rfl g7 ?_
   refine L.val (x_mv (v := .int _ _) rfl) rfl ?_
   refine L.gyes' (dj := 7) (b := _) rfl rfl g7 ?_
   refine L.val (x_mv (v := .pointer _) rfl) rfl ?_
   refine L.gyes' (dj := 7) (b := _) rfl rfl g7 ?_
   refine L.val (x_nil rfl) rfl ?_
   refine L.gyes' (dj := 7) (b := _) rfl rfl g7 ?_
   refine L.val (x_fa ksesz_fo93_2 rfl) rfl ?_
   refine L.gyes' (dj := 7) (b := _) rfl rfl g7 ?_
   refine L.val (x_ld (v := .slice _ _ _) ksesz_oc91 rfl (hb.cell0 rfl)) rfl ?_
   refine L.gyes' (dj := 7) (b := _) rfl rfl g7 ?_
   refine L.val (x_len_slice Try.underlying91 rfl) rfl ?_
   refine L.gyes' (dj := 7) (b := _) rfl rfl g7 ?_
   refine L.val (x_leq rfl rfl) rfl ?_
   refine L.val (x_pick_t (v := .bool _) (congrArg Value.bool g7) rfl) rfl ?_
   refine L.val (x_mv (v := .bool _) rfl) rfl ?_
   refine L.splitat (dj := 16) (b := _) rfl (fun g16 => ?_) (fun g16 => ?_)
   ·have h16 := of_decide_eq_true g16
    have hlt : id.toNat - 1 < s.all.length := by omega
    obtain ⟨ba, cap, tl, e, hbA, -⟩ := h.rowsAt hlt
    cases e
    obtain ⟨vs, ve, vg, vx, er, -⟩ := h.each _ hlt
    have hc0 := hbA.cell (row_cellk (tl := tl) (j := 0) h.lens (by rw [h.len]; exact hlt) (by omega) (by rw [er]; rfl))
    have e : decide (s.isOpen id) = (s.all.getD (id.toNat - 1) default).opn := by
      by_cases ho : (s.all.getD (id.toNat - 1) default).opn = true
      · rw [ho]; exact decide_eq_true ⟨by omega, by omega, ho⟩
      · rw [Bool.eq_false_iff.2 ho]; exact decide_eq_false fun hh => ho hh.2.2
    rw [e]
    refine L.gyes' (dj := 16) (b := _) rfl rfl g16 ?_
    refine L.val (x_mv (v := .pointer _) rfl) rfl ?_
    refine L.gyes' (dj := 16) (b := _) rfl rfl g16 ?_
    refine L.val (x_nil rfl) rfl ?_
    refine L.gyes' (dj := 16) (b := _) rfl rfl g16 ?_
    refine L.val (x_fa ksesz_fo93_2 rfl) rfl ?_
    refine L.gyes' (dj := 16) (b := _) rfl rfl g16 ?_
    refine L.val (x_ld (v := .slice _ _ _) ksesz_oc91 rfl (hb.cell0 rfl)) rfl ?_
    refine L.gyes' (dj := 16) (b := _) rfl rfl g16 ?_
    refine L.val (x_mv (v := .int _ _) rfl) rfl ?_
    refine L.gyes' (dj := 16) (b := _) rfl rfl g16 ?_
    refine L.val (x_sub rfl rfl (wr64 (by omega))) rfl ?_
    refine L.gyes' (dj := 16) (b := _) rfl rfl g16 ?_
    refine L.val (x_ia (j := id.toNat - 1) Try.underlying91 ksesz_sz144 rfl rfl (by omega) (by omega)) rfl ?_
    refine L.gyes' (dj := 16) (b := _) rfl rfl g16 ?_
    refine L.val (x_fa ksesz_fo144_0 rfl) rfl ?_
    refine L.gyes' (dj := 16) (b := _) rfl rfl g16 ?_
    refine L.val (x_ld (v := .bool _) ksesz_oc4 rfl hc0) rfl ?_
    refine L.val (x_pick_t (v := .bool _) (congrArg Value.bool g16) rfl) rfl ?_
    refine L.val (x_as (v := .bool _) rfl) rfl ?_
    refine L.nil ?_
    refine thn_n ?_
    refine W.ret (fin_mk (.inr rfl) ?_)
    exact ⟨rfl, rfl⟩
   ·have h16 := dle_f g16
    have e : decide (s.isOpen id) = false := decide_eq_false fun ho => by have := ho.2.1; omega
    rw [e]
    refine L.gno (dj := 16) (b := _) rfl rfl g16 rfl ?_
    refine L.gno (dj := 16) (b := _) rfl rfl g16 rfl ?_
    refine L.gno (dj := 16) (b := _) rfl rfl g16 rfl ?_
    refine L.gno (dj := 16) (b := _) rfl rfl g16 rfl ?_
    refine L.gno (dj := 16) (b := _) rfl rfl g16 rfl ?_
    refine L.gno (dj := 16) (b := _) rfl rfl g16 rfl ?_
    refine L.gno (dj := 16) (b := _) rfl rfl g16 rfl ?_
    refine L.gno (dj := 16) (b := _) rfl rfl g16 rfl ?_
    refine L.gno (dj := 16) (b := _) rfl rfl g16 rfl ?_
    refine L.val (x_pick_f (v := .bool _) (congrArg Value.bool g16) rfl) rfl ?_
    refine L.val (x_as (v := .bool _) rfl) rfl ?_
    refine L.nil ?_
    refine thn_n ?_
    refine W.ret (fin_mk (.inr rfl) ?_)
    exact ⟨rfl, rfl⟩
  ·have h7 := dle_f g7
   have e : decide (s.isOpen id) = false := decide_eq_false fun ho => by have := ho.1; omega
   rw [e]
   refine L.gno (dj := 7) (b := _) rfl rfl g7 rfl ?_
   refine L.gno (dj := 7) (b := _) rfl rfl g7 rfl ?_
   refine L.gno (dj := 7) (b := _) rfl rfl g7 rfl ?_
   refine L.gno (dj := 7) (b := _) rfl rfl g7 rfl ?_
   refine L.gno (dj := 7) (b := _) rfl rfl g7 rfl ?_
   refine L.gno (dj := 7) (b := _) rfl rfl g7 rfl ?_
   refine L.gno (dj := 7) (b := _) rfl rfl g7 rfl ?_
   refine L.val (x_pick_f (v := .bool _) (congrArg Value.bool g7) rfl) rfl ?_
   refine L.val (x_mv (v := .bool _) rfl) rfl ?_
   refine L.gno (dj := 16) (b := _) rfl rfl rfl rfl ?_
   refine L.gno (dj := 16) (b := _) rfl rfl rfl rfl ?_
   refine L.gno (dj := 16) (b := _) rfl rfl rfl rfl ?_
   refine L.gno (dj := 16) (b := _) rfl rfl rfl rfl ?_
   refine L.gno (dj := 16) (b := _) rfl rfl rfl rfl ?_
   refine L.gno (dj := 16) (b := _) rfl rfl rfl rfl ?_
   refine L.gno (dj := 16) (b := _) rfl rfl rfl rfl ?_
   refine L.gno (dj := 16) (b := _) rfl rfl rfl rfl ?_
   refine L.gno (dj := 16) (b := _) rfl rfl rfl rfl ?_
   refine L.val (x_pick_f (v := .bool _) rfl rfl) rfl ?_
   refine L.val (x_as (v := .bool _) rfl) rfl ?_
   refine L.nil ?_
   refine thn_n ?_
   refine W.ret (fin_mk (.inr rfl) ?_)
   exact ⟨rfl, rfl⟩
theorem abort_ref (ow : Labels) (t b : Nat) (s : Bs) (vh vd va : Value) (rd ra : List (List Value)) (id : Int) (w : World) (h : RefAt ow t w b s vh vd va rd ra) (hn : s.all.length ≤ 1000000) :
    Ret Try.prog 44 #[.pointer (some ⟨b, 0, none⟩), .int .i64 id] w fun v w' => v = .int .i64 (if s.isOpen id then 0 else 400) ∧ Goes t w w' ow ow ∧ ∃ ra', RefAt ow t w' b (if s.isOpen id then s.shut id else s) vh vd va rd ra' := by
  have hb := h.box
  by_cases ho : s.isOpen id
  · rw [if_pos ho, if_pos ho]
    obtain ⟨i, rfl, hi, hop⟩ := open_id ho
    obtain ⟨ba, cap, tl, rfl, hbA, hlA⟩ := h.rowsAt hi
    refine ret_of_W Try.func44 rfl (Nat.le_of_ble_eq_true rfl) (res1 rfl) ?_
    refine W.seq ?_
    refine W.region ?_
    refine L.val (x_as (v := .int _ _) rfl) rfl ?_
    refine L.nil ?_
    refine thn_n ?_
    refine W.seq ?_
    refine W.seq ?_
    refine W.region ?_
    refine L.val (x_mv (v := .pointer _) rfl) rfl ?_
    refine L.val (x_mv (v := .int _ _) rfl) rfl ?_
    refine L.ret (x_call ksesz_en76 rfl) rfl (open_ref ow t b s _ _ _ _ _ _ _ h hn) ?_
    rintro _ w7 ⟨rfl, rfl⟩
    refine L.val (x_not rfl) rfl ?_
    refine L.nil ?_
    refine thn_n ?_
    refine W.cond (b := _) rfl (fun g8 => ?_) (fun g8 => ?_)
    ·have h8 := (not_t g8)
     rw [decide_eq_true ho] at g8; cases g8
    ·have h8 := (not_f g8)
     refine W.skip ?_
     refine thn_n ?_
     refine W.seq ?_
     refine W.region ?_
     refine L.val (x_mv (v := .pointer _) rfl) rfl ?_
     refine L.val (x_nil rfl) rfl ?_
     refine L.val (x_fa ksesz_fo93_2 rfl) rfl ?_
     refine L.val (x_ld (v := .slice _ _ _) ksesz_oc91 rfl (hb.cell0 rfl)) rfl ?_
     refine L.val (x_mv (v := .int _ _) rfl) rfl ?_
     refine L.val (x_sub rfl rfl (wr64 (by omega))) rfl ?_
     refine L.val (x_ia (j := i) Try.underlying91 ksesz_sz144 rfl rfl (by omega) (by omega)) rfl ?_
     refine L.val (x_fa ksesz_fo144_0 rfl) rfl ?_
     refine L.set (v := .bool false) (i := 0 + i * 6 + 0) ksesz_sz4 rfl rfl rfl hbA (h.blt hi (by omega)) (fun w15 hbN hw hz15 => ?_)
     rw [flat_set_tlk h.lens (by rw [h.len]; exact hi) (by omega)] at hbN
     have hK := keeps_lab hw hlA h.free
     refine L.nil ?_
     refine thn_n ?_
     refine W.seq ?_
     refine W.region ?_
     refine L.val (x_as (v := .int _ _) rfl) rfl ?_
     refine L.nil ?_
     refine thn_n ?_
     refine W.ret (fin_mk (.inr rfl) ?_)
     rw [shut_succ]
     exact ⟨rfl, hK.goes, _, h.row hi hK (fun p hp => .inl hp) hbA hbN hlA (h.each i hi).shut⟩
  · rw [if_neg ho, if_neg ho]
    refine ret_of_W Try.func44 rfl (Nat.le_of_ble_eq_true rfl) (res1 rfl) ?_
    refine W.seq ?_
    refine W.region ?_
    refine L.val (x_as (v := .int _ _) rfl) rfl ?_
    refine L.nil ?_
    refine thn_n ?_
    refine W.seq ?_
    refine W.seq ?_
    refine W.region ?_
    refine L.val (x_mv (v := .pointer _) rfl) rfl ?_
    refine L.val (x_mv (v := .int _ _) rfl) rfl ?_
    refine L.ret (x_call ksesz_en76 rfl) rfl (open_ref ow t b s _ _ _ _ _ _ _ h hn) ?_
    rintro _ w7 ⟨rfl, rfl⟩
    refine L.val (x_not rfl) rfl ?_
    refine L.nil ?_
    refine thn_n ?_
    refine W.cond (b := _) rfl (fun g8 => ?_) (fun g8 => ?_)
    ·have h8 := (not_t g8)
     refine W.seq ?_
     refine W.region ?_
     refine L.val (x_as (v := .int _ _) rfl) rfl ?_
     refine L.nil ?_
     refine thn_n ?_
     refine W.ret (thn_r (fin_mk (.inr rfl) ?_))
     exact ⟨rfl, Goes.refl h.free, ra, h⟩
    ·have h8 := (not_f g8)
     rw [decide_eq_false ho] at g8; cases g8
end Go.Gx
namespace Go.Gx
open Go.Proofs
theorem ksesz2_ag34 : aggT Try.prog 34 3 = true := by kernel_rfl
theorem ksesz2_el144 : elT Try.prog 144 6 = true := by kernel_rfl
theorem ksesz2_el34 : elT Try.prog 34 3 = true := by kernel_rfl
theorem ksesz2_en76 : Go.Proofs.Enters Try.prog 76 := Go.Proofs.enters_of Try.func76 (by kernel_rfl) rfl
theorem ksesz2_fo144_2 : fieldOff Try.prog 144 2 = some 2 := by kernel_rfl
theorem ksesz2_fo34_0 : fieldOff Try.prog 34 0 = some 0 := by kernel_rfl
theorem ksesz2_fo34_1 : fieldOff Try.prog 34 1 = some 1 := by kernel_rfl
theorem ksesz2_fo34_2 : fieldOff Try.prog 34 2 = some 2 := by kernel_rfl
theorem ksesz2_fo93_0 : fieldOff Try.prog 93 0 = some 0 := by kernel_rfl
theorem ksesz2_fo93_1 : fieldOff Try.prog 93 1 = some 1 := by kernel_rfl
theorem ksesz2_fo93_2 : fieldOff Try.prog 93 2 = some 2 := by kernel_rfl
theorem ksesz2_mixed : Try.prog.follows .mixedOrders = true := by kernel_rfl
theorem ksesz2_oc22 : oneCellT Try.prog 22 = true := by kernel_rfl
theorem ksesz2_oc30 : oneCellT Try.prog 30 = true := by kernel_rfl
theorem ksesz2_oc4 : oneCellT Try.prog 4 = true := by kernel_rfl
theorem ksesz2_oc9 : oneCellT Try.prog 9 = true := by kernel_rfl
theorem ksesz2_oc91 : oneCellT Try.prog 91 = true := by kernel_rfl
theorem ksesz2_si144 : structInfo Try.prog 144 = some ([(0, 1), (1, 1), (2, 1), (3, 1), (4, 1), (5, 1)], [Value.bool false, Value.slice none 0 0, Value.slice none 0 0, Value.slice none 0 0, Value.slice none 0 0, Value.int .i64 0]) := by kernel_rfl
theorem ksesz2_sz144 : (Try.prog.info? 144).map (·.size) = some 6 := by kernel_rfl
theorem ksesz2_sz22 : (Try.prog.info? 22).map (·.size) = some 1 := by kernel_rfl
theorem ksesz2_sz91 : (Try.prog.info? 91).map (·.size) = some 1 := by kernel_rfl
section
variable {ow ow' : Labels} {t t' : Nat} {w w' : World} {b i : Nat} {s : Bs} {vh vd va : Value} {rd ra : List (List Value)}
theorem begin_refdone {v : Value} (h : RefAt ow t w b s vh vd va rd ra) (hb : Box w' b 93 [vh, vd, v]) (hO : Own w' 0 144 6 v (s.all.length + 1) (ra.flatten ++ rowR ⟨true, s.log.length, [], [], []⟩ vh (.slice none 0 0) (.slice none 0 0) (.slice none 0 0)))
    (g : Gr (fun j => some j = va.ownBlock ∨ j = b) w w') (hob : v.ownBlock = va.ownBlock ∨ ∃ j, v.ownBlock = some j ∧ w.heap.size ≤ j) : ∃ ow' ra', Goes t w w' ow ow' ∧ RefAt ow' t w' b s.begin_ vh vd v rd ra' := by
  obtain ⟨ow', hK, ho, hn⟩ := keeps_own (C := fun p => p = .base ∨ p = .opens) (p0 := .opens) (v := v) (v0 := va) (g.mono (fun k _ e => by
    rcases e with e | rfl
    · exact ⟨_, .inr rfl, h.all.2 k e⟩
    · exact ⟨_, .inl rfl, h.lab⟩)) h.free h.all.2 hob (fun j hj => (Own.lt hO hj).2)
  have e1 : (s.begin_).all = s.all ++ [⟨true, s.log.length, [], [], []⟩] := rfl
  refine ⟨ow', ra ++ [rowR ⟨true, s.log.length, [], [], []⟩ vh (.slice none 0 0) (.slice none 0 0) (.slice none 0 0)], hK.goes, (ho b h.box.lt).trans h.lab, hb, eds_keep h.held hK, h.done.keep hK (by simp), rows_keep h.rows hK, ⟨?_, hn⟩, by rw [e1, List.length_append, List.length_append, h.len]; rfl, fun k hk => ?_, hK.end_⟩
  · rw [e1, List.length_append, List.flatten_append]
    simpa using hO
  · rw [e1] at hk ⊢
    rw [getD_append_one, getD_append_one, h.len]
    by_cases hki : k = s.all.length
    · rw [if_pos hki, if_pos hki]
      refine ⟨vh, _, _, _, rfl, fun u hu => ?_, fun _ => ⟨Nat.le_refl _, eds_keep h.held hK, ⟨own_nil, fun j hj => (by cases hj)⟩, fun e he => (by cases he), ⟨own_nil, fun j hj => (by cases hj)⟩, ⟨own_nil, fun j hj => (by cases hj)⟩⟩⟩
      simp only [rowR, List.mem_cons, List.not_mem_nil, or_false] at hu
      rcases hu with rfl | rfl | rfl | rfl | rfl | rfl
      · rfl
      · exact h.held.one
      · rfl
      · rfl
      · rfl
      · rfl
    · rw [if_neg hki, if_neg hki]
      have hk : k < s.all.length := by rw [List.length_append, List.length_singleton] at hk; omega
      exact (h.each k hk).keep hK ⟨by simp, by simp, by simp⟩
theorem RefAt.grow {p : Part} {ba : Nat} {v v' : Value} (hf : ∀ k, w.heap.size ≤ k → ow k = none) (hl : ow ba = some (t, .opens)) (hlt : ba < w.heap.size) (hv : ∀ j, some j = v.ownBlock → ow j = some (t, p)) (g : Gr (fun k => some k = v.ownBlock ∨ k = ba) w w') (hob : v'.ownBlock = v.ownBlock ∨ ∃ j, v'.ownBlock = some j ∧ w.heap.size ≤ j)
    (hlt' : ∀ j, some j = v'.ownBlock → j < w'.heap.size) : ∃ ow', Keeps t (fun q => q = .opens ∨ q = p) w w' ow ow' ∧ ow' ba = some (t, .opens) ∧ ∀ j, some j = v'.ownBlock → ow' j = some (t, p) := by
  obtain ⟨ow', hK, ho, hn⟩ := keeps_own (C := fun q => q = .opens ∨ q = p) (p0 := p) (v := v') (v0 := v) (g.mono (fun k _ e => by
    rcases e with e | rfl
    · exact ⟨_, .inr rfl, hv k e⟩
    · exact ⟨_, .inl rfl, hl⟩)) hf hv hob hlt'
  exact ⟨ow', hK, (ho ba hlt).trans hl, hn⟩
end
theorem begin_ref (ow : Labels) (t b : Nat) (s : Bs) (vh vd va : Value) (rd ra : List (List Value)) (w : World) (h : RefAt ow t w b s vh vd va rd ra) (hn : s.all.length ≤ 1000000) :
    Ret Try.prog 45 #[.pointer (some ⟨b, 0, none⟩)] w fun v w' => v = .int .i64 ((s.all.length + 1 : Nat) : Int) ∧ ∃ ow' va' ra', Goes t w w' ow ow' ∧ RefAt ow' t w' b s.begin_ vh vd va' rd ra' := by
  have hb := h.box
  have hE := h.all.1
  have hbb := hb.lt
  obtain ⟨ph, ch, rfl, -⟩ := eds_holds h.held
  obtain ⟨pd, cd, rfl, -⟩ := own_shape h.done.1
  obtain ⟨aa, ca, rfl, hca⟩ := own_shape h.all.1
  have hql : ∀ j, some j = (Value.slice aa s.all.length ca).ownBlock → j ≠ b ∧ j < w.heap.size := fun j hj => ⟨lab_part2 (h.all.2 j hj) h.lab (by simp), (Own.lt hE hj).2⟩
  refine ret_of_W Try.func45 rfl (Nat.le_of_ble_eq_true rfl) (res1 rfl) ?_
  refine W.seq ?_
  refine W.region ?_
  refine L.val (x_as (v := .int _ _) rfl) rfl ?_
  refine L.nil ?_
  refine thn_n ?_
  refine W.seq ?_
  refine W.drawD (fun j => some j = (Value.slice aa s.all.length ca).ownBlock ∨ j = b) (fun j => some j = (Value.slice aa s.all.length ca).ownBlock) 19 ksesz2_mixed (fun wD3 hw => ?_)
  have hb := hb.carry hw; have hE := hE.carry hw
  have hB0 := Gr.refl (fun j => some j = (Value.slice aa s.all.length ca).ownBlock) wD3; have hR0 := Gr.refl (fun j => some j = (Value.slice aa s.all.length ca).ownBlock ∨ j = b) wD3
  have hD := hw
  refine LAD.take0 (i := 0) rfl (by kernel_rfl) (by kernel_rfl) (by kernel_rfl) (by kernel_rfl) (fun w hw => x_mv (v := .pointer _) rfl) rfl ?_
  refine LAD.take0 (i := 1) rfl (by kernel_rfl) (by kernel_rfl) (by kernel_rfl) (by kernel_rfl) (fun w hw => x_mv (v := .pointer _) rfl) rfl ?_
  refine LAD.take0 (i := 2) rfl (by kernel_rfl) (by kernel_rfl) (by kernel_rfl) (by kernel_rfl) (fun w hw => x_nil rfl) rfl ?_
  refine LAD.take0 (i := 3) rfl (by kernel_rfl) (by kernel_rfl) (by kernel_rfl) (by kernel_rfl) (fun w hw => x_fa ksesz2_fo93_2 rfl) rfl ?_
  refine LAD.take1 (i := 4) rfl (by kernel_rfl) (by kernel_rfl) (by kernel_rfl) (by kernel_rfl) (by kernel_rfl) (by kernel_rfl) (fun w hw => x_ld (v := .slice _ _ _) ksesz2_oc91 rfl (hw.keepR (fun e => by have := hql _ e; (try dsimp only at this); omega) (hb.cell0 rfl))) rfl ?_
  refine LAD.take0 (i := 5) rfl (by kernel_rfl) (by kernel_rfl) (by kernel_rfl) (by kernel_rfl) (fun w hw => x_mv (v := .pointer _) rfl) rfl ?_
  refine LAD.take0 (i := 6) rfl (by kernel_rfl) (by kernel_rfl) (by kernel_rfl) (by kernel_rfl) (fun w hw => x_nil rfl) rfl ?_
  refine LAD.take0 (i := 7) rfl (by kernel_rfl) (by kernel_rfl) (by kernel_rfl) (by kernel_rfl) (fun w hw => x_fa ksesz2_fo93_0 rfl) rfl ?_
  refine LAD.take1 (i := 8) rfl (by kernel_rfl) (by kernel_rfl) (by kernel_rfl) (by kernel_rfl) (by kernel_rfl) (by kernel_rfl) (fun w hw => x_ld (v := .slice _ _ _) ksesz2_oc22 rfl (hw.keepR (fun e => by have := hql _ e; (try dsimp only at this); omega) (hb.cell0 rfl))) rfl ?_
  refine LAD.take0 (i := 9) rfl (by kernel_rfl) (by kernel_rfl) (by kernel_rfl) (by kernel_rfl) (fun w hw => x_mv (v := .pointer _) rfl) rfl ?_
  refine LAD.take0 (i := 10) rfl (by kernel_rfl) (by kernel_rfl) (by kernel_rfl) (by kernel_rfl) (fun w hw => x_nil rfl) rfl ?_
  refine LAD.take0 (i := 11) rfl (by kernel_rfl) (by kernel_rfl) (by kernel_rfl) (by kernel_rfl) (fun w hw => x_fa ksesz2_fo93_1 rfl) rfl ?_
  refine LAD.take1 (i := 12) rfl (by kernel_rfl) (by kernel_rfl) (by kernel_rfl) (by kernel_rfl) (by kernel_rfl) (by kernel_rfl) (fun w hw => x_ld (v := .slice _ _ _) ksesz2_oc30 rfl (hw.keepR (fun e => by have := hql _ e; (try dsimp only at this); omega) (hb.cell0 rfl))) rfl ?_
  refine LAD.take0 (i := 13) rfl (by kernel_rfl) (by kernel_rfl) (by kernel_rfl) (by kernel_rfl) (fun w hw => x_len_slice Try.underlying30 rfl) rfl ?_
  refine LAD.take0 (i := 14) rfl (by kernel_rfl) (by kernel_rfl) (by kernel_rfl) (by kernel_rfl) (fun w hw => x_build (cells := [.bool _, .slice _ _ _, .slice _ _ _, .slice _ _ _, .slice _ _ _, .int _ _]) ksesz2_si144 rfl rfl) rfl ?_
  refine LAD.step (rs := [15]) hR0 (fun _ => hB0) (by kernel_rfl) (by simp) ⟨⟨_, rfl, ?_⟩, trivial⟩
  refine L.bs (sz := 6) (cells := rowR ⟨true, s.log.length, [], [], []⟩ (.slice ph s.state.length ch) (.slice none 0 0) (.slice none 0 0) (.slice none 0 0)) Try.underlying91 ksesz2_el144 rfl rfl rfl rfl (fun w18 bx18 hw hz18 => ?_)
  have hB0 := hB0.carry hw; have hR0 := hR0.carry hw; have hb := hb.carry hw; have hE := hE.carry hw
  refine L.nil ?_
  refine thn_n ?_
  refine LAD.step (rs := [16]) hR0 (fun _ => hB0) (by kernel_rfl) (by simp) ⟨⟨_, rfl, ?_⟩, trivial⟩
  refine L.appendN (m := 1) Try.underlying91 ksesz2_el144 rfl rfl rfl hE rfl (holdsN_box bx18) (by simp [rowR, Value.oneCell']) (by omega) (by omega) (fun v19 w19 hO19 hg hob19 => ?_)
  have hB0 := hB0.intoR hg (fun k e => e)
  have hR0 := hR0.intoR hg (fun k e => .inl e)
  have hb := hb.carryR hg (fun e => (hql _ e).1 rfl)
  obtain ⟨a19, c19, e19, -⟩ := own_shape hO19
  subst e19
  refine L.nil ?_
  refine thn_n ?_
  refine LAD.take0 (i := 17) rfl (by kernel_rfl) (by kernel_rfl) (by kernel_rfl) (by kernel_rfl) (fun w hw => x_nil rfl) rfl ?_
  refine LAD.take0 (i := 18) rfl (by kernel_rfl) (by kernel_rfl) (by kernel_rfl) (by kernel_rfl) (fun w hw => x_fa ksesz2_fo93_2 rfl) rfl ?_
  refine LAD.step (rs := [19]) hR0 (fun _ => hB0) (by kernel_rfl) (by simp) ⟨⟨_, rfl, ?_⟩, trivial⟩
  refine L.set (v := .slice _ _ _) ksesz2_sz91 rfl rfl rfl hb rfl (fun wl21 hb hw hzl21 => ?_)
  have hR0 := hR0.into hw (by first | exact .inl rfl | exact .inr rfl)
  have hobn : ∀ j, some j = (Value.slice a19 (s.all.length + 1) c19).ownBlock → j ≠ b := fun j hj => by
    rcases hob19 with e | e
    · rw [e] at hj; exact (hql j hj).1
    · rw [e] at hj; cases hj; have := hD.size; omega
  have hO21 := Own.carryR hO19 hw (fun j hj e => hobn j hj e)
  refine L.nil ?_
  refine thn_n ?_
  refine LAD.done (by kernel_rfl) (by kernel_rfl) hR0 ?_
  have hall : Gr (fun j => some j = (Value.slice aa s.all.length ca).ownBlock ∨ j = b) w wl21 := ((Gr.refl _ _).carry hD).trans hR0
  refine thn_n ?_
  refine W.seq ?_
  refine W.region ?_
  refine L.val (x_mv (v := .pointer _) rfl) rfl ?_
  refine L.val (x_nil rfl) rfl ?_
  refine L.val (x_fa ksesz2_fo93_2 rfl) rfl ?_
  refine L.val (x_ld (v := .slice _ _ _) ksesz2_oc91 rfl (hb.cell0 rfl)) rfl ?_
  refine L.val (x_len_slice Try.underlying91 rfl) rfl ?_
  refine L.val (x_as (v := .int _ _) rfl) rfl ?_
  refine L.nil ?_
  refine thn_n ?_
  refine W.ret (fin_mk (.inr rfl) ?_)
  refine ⟨rfl, ?_⟩
  obtain ⟨ow', ra', hG, hR⟩ := begin_refdone h hb hO21 hall (hob19.imp id (fun e => ⟨_, e, by have := hD.size; omega⟩))
  exact ⟨ow', _, ra', hG, hR⟩
theorem put_ref (ow : Labels) (t b : Nat) (s : Bs) (vh vd va : Value) (rd ra : List (List Value)) (id : Int) (e : Ed) (w : World) (h0 : RefAt ow t w b s vh vd va rd ra) (hn : s.all.length ≤ 1000000) (hq : ∀ x ∈ s.all, x.eds.length ≤ 1000000) (he : EdOk e) :
    Ret Try.prog 41 #[.pointer (some ⟨b, 0, none⟩), .int .i64 id, .agg (edV e).toArray] w fun v w' => v = .int .i64 (if s.isOpen id then (if okEd e then 0 else 2) else 400) ∧
      ∃ ow' ra', Goes t w w' ow ow' ∧ RefAt ow' t w' b (if s.isOpen id ∧ okEd e = true then s.putS id e else s) vh vd va rd ra' := by
  by_cases ho : s.isOpen id
  · rw [if_pos ho]
    obtain ⟨i, rfl, hi, hop⟩ := open_id ho
    obtain ⟨ba, cap, tl, rfl, hbA, hlA⟩ := h0.rowsAt hi
    obtain ⟨vs, ve, vg, vx, er, h1c, hx⟩ := h0.each i hi
    obtain ⟨x1, x2, x3, x4, x5, x6⟩ := hx hop
    obtain ⟨ae, ce, rfl, hce⟩ := own_shape x3.1
    have hlen := hq (s.all.getD i default) (by rw [List.getD_eq_getElem?_getD, List.getElem?_eq_getElem hi]; exact List.getElem_mem _)
    have hx2 := row_cellk (tl := tl) (j := 2) h0.lens (by rw [h0.len]; exact hi) (by omega) (x := .slice ae (s.all.getD i default).eds.length ce) (by rw [er]; rfl)
    refine ret_of_W Try.func41 rfl (Nat.le_of_ble_eq_true rfl) (res1 rfl) ?_
    have hB := Gr.refl (fun _ => False) w
    refine W.seq ?_
    refine W.region ?_
    refine L.box (cs := edV e) rfl rfl (fun w5 bx5 hw hz5 => ?_)
    have hB := hB.carry hw; have hbA := hbA.carry hw
    have h := h0.bel hB
    have hb := h.box
    have hbA5 := hbA
    have hE : Own w5 0 _ _ _ _ _ := x3.1.carry hB
    have hb5 : w.heap.size < w5.heap.size := bx5.lt
    have hn5 : ow w.heap.size = none := h0.free _ (Nat.le_refl _)
    have hqe : ∀ j, some j = (Value.slice ae (s.all.getD i default).eds.length ce).ownBlock → j ≠ b ∧ j ≠ ba ∧ j ≠ w.heap.size ∧ j < w5.heap.size := fun j hj =>
      ⟨lab_part2 (x3.2 j hj) h0.lab (by simp), lab_part2 (x3.2 j hj) hlA (by simp), fun e => (by have := x3.2 j hj; rw [e, hn5] at this; cases this), (Own.lt hE hj).2⟩
    have hbab : b ≠ ba := lab_part2 h0.lab hlA (by simp)
    have hba5 : ba ≠ w.heap.size := fun e => by rw [e, hn5] at hlA; cases hlA
    have hbl := hb.lt; have hbAl := hbA.lt
    refine L.val (x_as (v := .int _ _) rfl) rfl ?_
    refine L.nil ?_
    refine thn_n ?_
    refine W.seq ?_
    refine W.seq ?_
    refine W.region ?_
    refine L.val (x_mv (v := .pointer _) rfl) rfl ?_
    refine L.val (x_mv (v := .int _ _) rfl) rfl ?_
    refine L.ret (x_call ksesz2_en76 rfl) rfl (open_ref ow t b s _ _ _ _ _ _ _ h hn) ?_
    rintro _ w9 ⟨rfl, rfl⟩
    refine L.val (x_not rfl) rfl ?_
    refine L.nil ?_
    refine thn_n ?_
    refine W.cond (b := _) rfl (fun g10 => ?_) (fun g10 => ?_)
    ·have h10 := (not_t g10)
     rw [decide_eq_true ho] at g10; cases g10
    ·have h10 := (not_f g10)
     refine W.skip ?_
     refine thn_n ?_
     refine W.seq ?_
     refine W.seq ?_
     refine W.region ?_
     refine L.val (x_fa ksesz2_fo34_0 rfl) rfl ?_
     refine L.val (x_ld (v := S _) ksesz2_oc9 rfl (bx5.cell0 rfl)) rfl ?_
     refine L.val (x_eqs rfl rfl) rfl ?_
     refine L.val (x_mv (v := .bool _) rfl) rfl ?_
     refine' L.group0 7 15 21 21 14 false rfl ?_ ?_ ?_
     rotate_left 1
     ·intro g14
      have h14 := seq_f g14
      refine L.gyes' (dj := 14) (b := _) rfl rfl g14 ?_
      refine L.val (x_fa ksesz2_fo34_2 rfl) rfl ?_
      refine L.gyes' (dj := 14) (b := _) rfl rfl g14 ?_
      refine L.val (x_ld (v := .bool _) ksesz2_oc4 rfl (bx5.cell0 rfl)) rfl ?_
      refine L.gyes' (dj := 14) (b := _) rfl rfl g14 ?_
      refine L.val (x_mv (v := .bool _) rfl) rfl ?_
      refine' L.group0 3 18 20 20 17 true rfl ?_ ?_ ?_
      rotate_left 1
      ·intro g17
       have h17 := g17
       refine L.gyes' (dj := 17) (b := _) rfl rfl g17 ?_
       refine L.val (x_fa ksesz2_fo34_1 rfl) rfl ?_
       refine L.gyes' (dj := 17) (b := _) rfl rfl g17 ?_
       refine L.val (x_ld (v := S _) ksesz2_oc9 rfl (bx5.cell0 rfl)) rfl ?_
       refine L.gyes' (dj := 17) (b := _) rfl rfl g17 ?_
       refine L.val (x_nes rfl rfl) rfl ?_
       refine L.nil ?_
       refine thn_n ⟨rfl, rfl, ?_, rfl⟩
       repeat (first | exact jeq.refl _ _ _ | refine jeq.upd rfl ?_ | refine jeq.jk rfl rfl ?_)
      ·intro g17
       refine L.gno (dj := 17) (b := _) rfl rfl g17 rfl ?_
       refine L.gno (dj := 17) (b := _) rfl rfl g17 rfl ?_
       refine L.gno (dj := 17) (b := _) rfl rfl g17 rfl ?_
       refine L.nil (thn_n ⟨rfl, rfl, ?_⟩)
       repeat (first | exact jeq.refl _ _ _ | refine jeq.upd rfl ?_ | refine jeq.jk rfl rfl ?_)
      intro J17 j17
      refine L.gyes' (dj := 14) (b := _) rfl rfl g14 ?_
      refine L.val (x_and rfl j17) rfl ?_
      refine L.nil ?_
      refine thn_n ⟨rfl, rfl, ?_, rfl⟩
      repeat (first | exact jeq.refl _ _ _ | refine jeq.upd rfl ?_ | refine jeq.jk rfl rfl ?_)
     ·intro g14
      refine L.gno (dj := 14) (b := _) rfl rfl g14 rfl ?_
      refine L.gno (dj := 14) (b := _) rfl rfl g14 rfl ?_
      refine L.gno (dj := 14) (b := _) rfl rfl g14 rfl ?_
      refine L.gun (dj := 17) rfl rfl rfl ?_
      refine L.gun (dj := 17) rfl rfl rfl ?_
      refine L.gun (dj := 17) rfl rfl rfl ?_
      refine L.gno (dj := 14) (b := _) rfl rfl g14 rfl ?_
      refine L.nil (thn_n ⟨rfl, rfl, ?_⟩)
      repeat (first | exact jeq.refl _ _ _ | refine jeq.upd rfl ?_ | refine jeq.jk rfl rfl ?_)
     intro J14 j14
     refine L.val (x_or rfl j14) rfl ?_
     refine L.nil ?_
     refine thn_n ?_
     refine W.cond (b := _) rfl (fun g22 => ?_) (fun g22 => ?_)
     ·have h22 := g22
      refine W.seq ?_
      refine W.region ?_
      refine L.val (x_as (v := .int _ _) rfl) rfl ?_
      refine L.nil ?_
      refine thn_n ?_
      refine W.ret (thn_r (fin_mk (.inr rfl) ?_))
      have hk : okEd e = false := by rw [okEd_eq, g22]; rfl
      have hif : (if s.isOpen ((i + 1 : Nat) : Int) ∧ okEd e = true then s.putS ((i + 1 : Nat) : Int) e else s) = s := if_neg (fun hh => by rw [hk] at hh; cases hh.2)
      rw [hif, hk]
      exact ⟨rfl, ow, ra, Goes.bel h0.free hB, h⟩
     ·have h22 := g22
      refine W.skip ?_
      refine thn_n ?_
      refine W.seq ?_
      refine W.drawD (fun j => some j = (Value.slice ae (s.all.getD i default).eds.length ce).ownBlock ∨ j = ba) (fun j => some j = (Value.slice ae (s.all.getD i default).eds.length ce).ownBlock) 20 ksesz2_mixed (fun wD23 hw => ?_)
      have hbA := hbA.carry hw; have hE := hE.carry hw; have bx5 := bx5.carry hw; have hb := hb.carry hw
      have hB0 := Gr.refl (fun j => some j = (Value.slice ae (s.all.getD i default).eds.length ce).ownBlock) wD23; have hR0 := Gr.refl (fun j => some j = (Value.slice ae (s.all.getD i default).eds.length ce).ownBlock ∨ j = ba) wD23
      have hD := hw
      refine LAD.take0 (i := 0) rfl (by kernel_rfl) (by kernel_rfl) (by kernel_rfl) (by kernel_rfl) (fun w hw => x_mv (v := .pointer _) rfl) rfl ?_
      refine LAD.take0 (i := 1) rfl (by kernel_rfl) (by kernel_rfl) (by kernel_rfl) (by kernel_rfl) (fun w hw => x_nil rfl) rfl ?_
      refine LAD.take0 (i := 2) rfl (by kernel_rfl) (by kernel_rfl) (by kernel_rfl) (by kernel_rfl) (fun w hw => x_fa ksesz2_fo93_2 rfl) rfl ?_
      refine LAD.take0 (i := 3) rfl (by kernel_rfl) (by kernel_rfl) (by kernel_rfl) (by kernel_rfl) (fun w hw => x_ld (v := .slice _ _ _) ksesz2_oc91 rfl (hw.keepR (fun e => by rcases e with e | e; (have := hqe _ e; (try dsimp only at this); omega); (have e : (_ : Nat) = _ := e; (try dsimp only at e); omega)) (hb.cell0 rfl))) rfl ?_
      refine LAD.take0 (i := 4) rfl (by kernel_rfl) (by kernel_rfl) (by kernel_rfl) (by kernel_rfl) (fun w hw => x_mv (v := .int _ _) rfl) rfl ?_
      refine LAD.take0 (i := 5) rfl (by kernel_rfl) (by kernel_rfl) (by kernel_rfl) (by kernel_rfl) (fun w hw => x_sub rfl rfl (wr64 (by omega))) rfl ?_
      refine LAD.take0 (i := 6) rfl (by kernel_rfl) (by kernel_rfl) (by kernel_rfl) (by kernel_rfl) (fun w hw => x_mv (v := .pointer _) rfl) rfl ?_
      refine LAD.take0 (i := 7) rfl (by kernel_rfl) (by kernel_rfl) (by kernel_rfl) (by kernel_rfl) (fun w hw => x_nil rfl) rfl ?_
      refine LAD.take0 (i := 8) rfl (by kernel_rfl) (by kernel_rfl) (by kernel_rfl) (by kernel_rfl) (fun w hw => x_fa ksesz2_fo93_2 rfl) rfl ?_
      refine LAD.take0 (i := 9) rfl (by kernel_rfl) (by kernel_rfl) (by kernel_rfl) (by kernel_rfl) (fun w hw => x_ld (v := .slice _ _ _) ksesz2_oc91 rfl (hw.keepR (fun e => by rcases e with e | e; (have := hqe _ e; (try dsimp only at this); omega); (have e : (_ : Nat) = _ := e; (try dsimp only at e); omega)) (hb.cell0 rfl))) rfl ?_
      refine LAD.take0 (i := 10) rfl (by kernel_rfl) (by kernel_rfl) (by kernel_rfl) (by kernel_rfl) (fun w hw => x_mv (v := .int _ _) rfl) rfl ?_
      refine LAD.take0 (i := 11) rfl (by kernel_rfl) (by kernel_rfl) (by kernel_rfl) (by kernel_rfl) (fun w hw => x_sub rfl rfl (wr64 (by omega))) rfl ?_
      refine LAD.take0 (i := 12) rfl (by kernel_rfl) (by kernel_rfl) (by kernel_rfl) (by kernel_rfl) (fun w hw => x_ia (j := i) Try.underlying91 ksesz2_sz144 rfl rfl (by omega) (by omega)) rfl ?_
      refine LAD.take0 (i := 13) rfl (by kernel_rfl) (by kernel_rfl) (by kernel_rfl) (by kernel_rfl) (fun w hw => x_fa ksesz2_fo144_2 rfl) rfl ?_
      refine LAD.take1 (i := 14) rfl (by kernel_rfl) (by kernel_rfl) (by kernel_rfl) (by kernel_rfl) (by kernel_rfl) (by kernel_rfl) (fun w hw => x_ld (v := .slice _ _ _) ksesz2_oc22 rfl (hw.keepR (fun e => by have := hqe _ e; (try dsimp only at this); omega) (hbA.cell hx2))) rfl ?_
      refine LAD.take0 (i := 15) rfl (by kernel_rfl) (by kernel_rfl) (by kernel_rfl) (by kernel_rfl) (fun w hw => x_ldn (vs := _) ksesz2_ag34 rfl rfl (hw.keepRowR (fun e => by rcases e with e | e; (have := hqe _ e; (try dsimp only at this); omega); (have e : (_ : Nat) = _ := e; (try dsimp only at e); omega)) rfl (bx5.row rfl))) rfl ?_
      refine LAD.step (rs := [16]) hR0 (fun _ => hB0) (by kernel_rfl) (by simp) ⟨⟨_, rfl, ?_⟩, trivial⟩
      refine L.bs (sz := 3) (cells := edV e) Try.underlying22 ksesz2_el34 rfl rfl rfl rfl (fun w39 bx39 hw hz39 => ?_)
      have hB0 := hB0.carry hw; have hR0 := hR0.carry hw; have hbA := hbA.carry hw; have hE := hE.carry hw
      refine L.nil ?_
      refine thn_n ?_
      refine LAD.step (rs := [17]) hR0 (fun _ => hB0) (by kernel_rfl) (by simp) ⟨⟨_, rfl, ?_⟩, trivial⟩
      refine L.appendN (m := 1) Try.underlying22 ksesz2_el34 rfl rfl rfl hE rfl (holdsN_box bx39) (edV_one e) (by omega) (by omega) (fun v40 w40 hO40 hg hob40 => ?_)
      have hB0 := hB0.intoR hg (fun k e => e)
      have hR0 := hR0.intoR hg (fun k e => .inl e)
      have hbA := hbA.carryR hg (fun e => (hqe _ e).2.1 rfl)
      obtain ⟨a40, c40, e40, -⟩ := own_shape hO40
      subst e40
      refine L.nil ?_
      refine thn_n ?_
      refine LAD.take0 (i := 18) rfl (by kernel_rfl) (by kernel_rfl) (by kernel_rfl) (by kernel_rfl) (fun w hw => x_ia (j := i) Try.underlying91 ksesz2_sz144 rfl rfl (by omega) (by omega)) rfl ?_
      refine LAD.take0 (i := 19) rfl (by kernel_rfl) (by kernel_rfl) (by kernel_rfl) (by kernel_rfl) (fun w hw => x_fa ksesz2_fo144_2 rfl) rfl ?_
      refine LAD.step (rs := [20]) hR0 (fun _ => hB0) (by kernel_rfl) (by simp) ⟨⟨_, rfl, ?_⟩, trivial⟩
      refine L.set (v := .slice a40 ((s.all.getD i default).eds.length + 1) c40) (i := 0 + i * 6 + 2) ksesz2_sz22 rfl rfl rfl hbA (h.blt hi (by omega)) (fun wl41 hbN hw hzl41 => ?_)
      rw [flat_set_tlk h.lens (by rw [h.len]; exact hi) (by omega)] at hbN
      have hR0 := hR0.into hw (.inr rfl)
      have hobn : ∀ j, some j = (Value.slice a40 ((s.all.getD i default).eds.length + 1) c40).ownBlock → j ≠ ba := fun j hj => by
        rcases hob40 with e | e
        · rw [e] at hj; exact (hqe j hj).2.1
        · rw [e] at hj; cases hj; have := hD.size; omega
      have hO41 := Own.carryR hO40 hw (fun j hj e => hobn j hj e)
      refine L.nil ?_
      refine thn_n ?_
      refine LAD.done (by kernel_rfl) (by kernel_rfl) hR0 ?_
      have bx5 := trivial
      have hb := trivial
      have hall : Gr (fun j => some j = (Value.slice ae (s.all.getD i default).eds.length ce).ownBlock ∨ j = ba) w9 wl41 := ((Gr.refl _ _).carry hD).trans hR0
      refine thn_n ?_
      refine W.seq ?_
      refine W.region ?_
      refine L.val (x_as (v := .int _ _) rfl) rfl ?_
      refine L.nil ?_
      refine thn_n ?_
      refine W.ret (fin_mk (.inr rfl) ?_)
      have hk : okEd e = true := by rw [okEd_eq, g22]; rfl
      have hif : (if s.isOpen ((i + 1 : Nat) : Int) ∧ okEd e = true then s.putS ((i + 1 : Nat) : Int) e else s) = s.putS ((i + 1 : Nat) : Int) e := if_pos ⟨ho, hk⟩
      rw [hif, hk]
      obtain ⟨ow', hK, hl', hn'⟩ := RefAt.grow (p := .eds i) h.free hlA hbAl x3.2 hall (hob40.imp id (fun e => ⟨_, e, by have := hD.size; omega⟩)) (fun j hj => (Own.lt hO41 hj).2)
      have hN := h.row (x' := { s.all.getD i default with eds := (s.all.getD i default).eds ++ [e] }) hi hK (fun p hp => hp.imp id .inl) (hbA5) hbN hl' (by
        obtain ⟨ws, we, wg, wx, er', -, hx'⟩ := h.each i hi
        obtain ⟨y1, y2, y3, y4, y5, y6⟩ := hx' hop
        rw [er'] at er
        simp only [rowR, List.cons.injEq, and_true, true_and] at er
        obtain ⟨rfl, rfl, rfl, rfl⟩ := er
        rw [er']
        refine ⟨ws, _, wg, wx, rfl, ?_, fun _ => ⟨y1, eds_keep y2 hK, ⟨?_, hn'⟩, ?_, y5.keep hK (by simp), y6.keep hK (by simp)⟩⟩
        · intro u hu
          rcases List.mem_or_eq_of_mem_set hu with hu | rfl
          · exact h1c u (by rw [er'] at *; exact hu)
          · rfl
        · simpa using hO41
        · intro x hx
          rcases List.mem_append.1 hx with hx | hx
          · exact y4 x hx
          · rw [List.mem_singleton.1 hx]; exact he)
      unfold Bs.putS
      rw [ses_succ, upd_succ]
      exact ⟨rfl, ow', _, (Goes.bel h0.free hB).trans hK.goes, hN⟩
  · rw [if_neg ho, if_neg (fun hh => ho hh.1)]
    refine ret_of_W Try.func41 rfl (Nat.le_of_ble_eq_true rfl) (res1 rfl) ?_
    have hB := Gr.refl (fun _ => False) w
    refine W.seq ?_
    refine W.region ?_
    refine L.box (cs := edV e) rfl rfl (fun w5 bx5 hw hz5 => ?_)
    have hB := hB.carry hw
    have h2 := h0.bel hB
    refine L.val (x_as (v := .int _ _) rfl) rfl ?_
    refine L.nil ?_
    refine thn_n ?_
    refine W.seq ?_
    refine W.seq ?_
    refine W.region ?_
    refine L.val (x_mv (v := .pointer _) rfl) rfl ?_
    refine L.val (x_mv (v := .int _ _) rfl) rfl ?_
    refine L.ret (x_call ksesz2_en76 rfl) rfl (open_ref ow t b s _ _ _ _ _ _ _ h2 hn) ?_
    rintro _ w9 ⟨rfl, rfl⟩
    refine L.val (x_not rfl) rfl ?_
    refine L.nil ?_
    refine thn_n ?_
    refine W.cond (b := _) rfl (fun g10 => ?_) (fun g10 => ?_)
    ·have h10 := (not_t g10)
     refine W.seq ?_
     refine W.region ?_
     refine L.val (x_as (v := .int _ _) rfl) rfl ?_
     refine L.nil ?_
     refine thn_n ?_
     refine W.ret (thn_r (fin_mk (.inr rfl) ?_))
     exact ⟨rfl, ow, ra, Goes.bel h0.free hB, h2⟩
    ·have h10 := (not_f g10)
     rw [decide_eq_false ho] at g10; cases g10
end Go.Gx
