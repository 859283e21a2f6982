/- The law of a log's bodies. Conditions: none. -/
import Derived.Test.YtnhbjfkeeegdgaaCiWal18
namespace Go.Gx
open Go.Proofs
theorem kwal19_ag76 : aggT Try.prog 76 6 = true := by kernel_rfl
theorem kwal19_en21 : Go.Proofs.Enters Try.prog 21 := Go.Proofs.enters_of Try.func21 (by kernel_rfl) rfl
theorem kwal19_en25 : Go.Proofs.Enters Try.prog 25 := Go.Proofs.enters_of Try.func25 (by kernel_rfl) rfl
theorem kwal19_en26 : Go.Proofs.Enters Try.prog 26 := Go.Proofs.enters_of Try.func26 (by kernel_rfl) rfl
theorem kwal19_en27 : Go.Proofs.Enters Try.prog 27 := Go.Proofs.enters_of Try.func27 (by kernel_rfl) rfl
theorem kwal19_en28 : Go.Proofs.Enters Try.prog 28 := Go.Proofs.enters_of Try.func28 (by kernel_rfl) rfl
theorem kwal19_en29 : Go.Proofs.Enters Try.prog 29 := Go.Proofs.enters_of Try.func29 (by kernel_rfl) rfl
theorem kwal19_en30 : Go.Proofs.Enters Try.prog 30 := Go.Proofs.enters_of Try.func30 (by kernel_rfl) rfl
theorem kwal19_en31 : Go.Proofs.Enters Try.prog 31 := Go.Proofs.enters_of Try.func31 (by kernel_rfl) rfl
theorem kwal19_en32 : Go.Proofs.Enters Try.prog 32 := Go.Proofs.enters_of Try.func32 (by kernel_rfl) rfl
theorem kwal19_en33 : Go.Proofs.Enters Try.prog 33 := Go.Proofs.enters_of Try.func33 (by kernel_rfl) rfl
theorem kwal19_en34 : Go.Proofs.Enters Try.prog 34 := Go.Proofs.enters_of Try.func34 (by kernel_rfl) rfl
theorem kwal19_en35 : Go.Proofs.Enters Try.prog 35 := Go.Proofs.enters_of Try.func35 (by kernel_rfl) rfl
theorem kwal19_fo76_0 : fieldOff Try.prog 76 0 = some 0 := by kernel_rfl
theorem kwal19_fo76_1 : fieldOff Try.prog 76 1 = some 1 := by kernel_rfl
theorem kwal19_oc3 : oneCellT Try.prog 3 = true := by kernel_rfl
theorem kwal19_oc37 : oneCellT Try.prog 37 = true := by kernel_rfl
theorem kwal19_oc9 : oneCellT Try.prog 9 = true := by kernel_rfl
theorem kwal19_sz76 : (Try.prog.info? 76).map (·.size) = some 6 := by kernel_rfl
theorem kwal19_sz9 : (Try.prog.info? 9).map (·.size) = some 1 := by kernel_rfl
theorem kwal19_zr76 : (Try.prog.info? 76).bind (·.zero) = some (Value.agg [Value.int .i64 0, Value.slice none 0 0, Value.int .i64 0, Value.slice none 0 0, Value.int .i64 0, Value.int .i64 0].toArray) := by kernel_rfl
theorem wcV_one {A : Nat → Prop} {w : World} {a : Wc} {vb vk : Value} (h : WcC A w (wcV a vb vk) a) : ∀ v ∈ wcV a vb vk, v.oneCell' = true := Car.one h
theorem frm_take {l : List Str} {j : Nat} (hj : j < l.length) : ((l.take (j + 1)).map frm).flatten.length = ((l.take j).map frm).flatten.length + (frm (l.getD j [])).length := by
  rw [take_snoc (d := []) hj, List.map_append, List.flatten_append, List.length_append]; simp
theorem does_want {D : Dk} {q : Pt} (h : QOk D q) (a : Wc) (hk : a.kind = 0 ∨ a.kind = 1) {nn : Nat} (hn : tooBig a.bods = false → nn = (a.bods.map frm).flatten.length) :
    (doesA D q a).1 = if tooBig a.bods then 3 else if ((nn : Nat) : Int) > (if a.kind = 1 then ((roomN D.pl.length : Nat) : Int) else (roomN D.pl.length : Nat) - (q.tail : Nat)) then 210 else 0 := by
  have ht := h.tail
  cases hb : tooBig a.bods with
  | true =>
    have hm : (makeS a.bods).2 = 3 := by unfold makeS; rw [hb]; rfl
    rw [if_pos rfl]
    rcases hk with h0 | h1
    · unfold doesA appA; rw [if_pos h0, if_neg (by rw [hm]; simp)]; exact hm
    · unfold doesA turnA; rw [if_neg (by omega), if_pos h1, if_neg (by rw [hm]; simp)]; exact hm
  | false =>
    have hm : makeS a.bods = ((a.bods.map frm).flatten, 0) := by unfold makeS; rw [hb]; rfl
    rw [if_neg (by simp), hn hb]
    rcases hk with h0 | h1
    · unfold doesA appA
      rw [if_pos h0, hm, if_neg (show ¬ a.kind = 1 by omega)]
      by_cases hl : a.bods = []
      · rw [if_neg (fun e => e.2 hl), hl, if_neg (by simp; omega)]
      · rw [if_pos ⟨rfl, hl⟩]
        dsimp only
        by_cases h2 : roomN D.pl.length < q.tail + (a.bods.map frm).flatten.length
        · rw [if_pos h2, if_pos (by omega)]
        · rw [if_neg h2, if_neg (by omega)]
    · unfold doesA turnA
      rw [if_neg (by omega), if_pos h1, hm, if_pos rfl, if_pos h1]
      dsimp only
      by_cases h2 : roomN D.pl.length < (a.bods.map frm).flatten.length
      · rw [if_pos h2, if_pos (by omega)]
      · rw [if_neg h2, if_neg (by omega)]
theorem does_other {D : Dk} {q : Pt} {a : Wc} {all : List Str} (hk : ¬ (a.kind = 0 ∨ a.kind = 1)) : doesA D q a = (0, D, q) ∧ goesA all a = all := by
  unfold doesA goesA
  rw [if_neg (fun e => hk (.inl e)), if_neg (fun e => hk (.inr e)), if_neg (fun e => hk (.inl e)), if_neg (fun e => hk (.inr e))]
  exact ⟨rfl, rfl⟩
theorem WcC.carry {A : Nat → Prop} {w w' : World} {cs : List Value} {a : Wc} (h : WcC A w cs a) (g : Bel w w') : WcC A w' cs a := Car.carry h g
def AllAt (n0 : Nat) (w : World) (v : Value) (l : List Str) : Prop := StrsAt (DkB lgTy n0 w) w v l
theorem AllAt.dg {n0 : Nat} {w w' : World} {v : Value} {l : List Str} (h : AllAt n0 w v l) (g : Dg lgTy n0 w w') : AllAt n0 w' v l := StrsAt.dg h g
theorem AllAt.carry {n0 : Nat} {w w' : World} {v : Value} {l : List Str} (h : AllAt n0 w v l) (g : Bel w w') : AllAt n0 w' v l := h.dg (Dg.of_bel g)
theorem getD_memS {l : List Str} {j : Nat} (h : j < l.length) : l.getD j [] ∈ l := by
  rw [List.getD_eq_getElem?_getD, List.getElem?_eq_getElem h]; exact List.getElem_mem h
theorem wc_strs {A : Nat → Prop} {w : World} {a : Wc} {vb vk : Value} (h : WcC A w (wcV a vb vk) a) : StrsAt A w vb a.bods := by
  obtain ⟨vb', vk', eW, h1, -⟩ := h
  simp only [wcV, List.cons.injEq] at eW
  rw [eW.2.1]; exact h1
theorem goesA_len (all : List Str) (a : Wc) (e : Int) : (if e = 0 then goesA all a else all).length ≤ all.length + a.bods.length := by
  unfold goesA
  split
  · split
    · rw [List.length_append]; exact Nat.le_refl _
    · split <;> omega
  · omega
theorem list21 (A : Nat → Prop) (n : Int) (v : Value) (l : List Wc) (w : World) (h0 : WcsAt A w v l) : Ret Try.prog 6 #[.int .i64 n, v] w fun v w' => v = .bool true ∧ Bel w w' := by
  have hs := (h0.up).mono (A' := fun k => w.heap.size ≤ k) (fun _ _ hk => .inr hk)
  obtain ⟨pv, cv, row, rfl, -, -, hln, -⟩ := id h0
  have hsec := secN_le n
  have hrmS : roomN (secN n) ≤ 1000000 := roomN_le (by omega)
  refine ret_of_W Try.func6 rfl (Nat.le_of_ble_eq_true rfl) (res1 rfl) ?_
  have hB := Gr.refl (fun _ => False) w
  refine W.seq ?_
  refine W.region ?_
  refine L.val (x_as (v := .bool _) rfl) rfl ?_
  refine L.nil ?_
  refine thn_n ?_
  refine W.seq ?_
  refine W.seq ?_
  refine W.region ?_
  refine L.val (x_mv (v := .slice _ _ _) rfl) rfl ?_
  refine L.ret (x_call kwal19_en30 rfl) rfl (few21 _ _ l _ h0) ?_
  rintro v23 w23 ⟨rfl, hq⟩
  rw [hq]
  refine L.val (x_not rfl) rfl ?_
  refine L.nil ?_
  refine thn_n ?_
  refine W.cond (b := _) rfl (fun g24 => ?_) (fun g24 => ?_)
  ·have h24 := (not_t g24)
   refine W.seq ?_
   refine W.region ?_
   refine L.ret (x_call kwal19_en29 rfl) rfl (awake21 _) ?_
   rintro v25 w25 ⟨rfl, hw⟩
   have hB := hB.carry hw; have hs := hs.carry hw
   refine L.val (x_as (v := .bool _) rfl) rfl ?_
   refine L.nil ?_
   refine thn_n ?_
   refine W.ret (thn_r (fin_mk (.inr rfl) ?_))
   exact ⟨rfl, hB⟩
  ·have h24 := (not_f g24)
   have hfew : costW l ≤ 60000 := by unfold fewA at g24; simpa using g24
   refine W.skip ?_
   refine thn_n ?_
   refine W.seq ?_
   refine W.region ?_
   refine L.val (x_mv (v := .int _ _) rfl) rfl ?_
   refine L.ret (x_call kwal19_en32 rfl) rfl (sectors21 n _) ?_
   rintro v28 w28 ⟨rfl, hq⟩
   rw [hq]
   refine L.ret (x_call kwal19_en31 rfl) rfl (newdisk_ok (secN n) (by omega) _) ?_
   rintro v29 w29 ⟨b, rfl, h, hw⟩
   have hB := hB.carry hw; have hs := hs.carry hw
   refine L.val (x_mv (v := _) rfl) rfl ?_
   refine L.val (x_ext (v := .pointer _) rfl rfl) rfl ?_
   refine L.val (x_ext (v := .int _ _) rfl rfl) rfl ?_
   refine L.val (x_as (v := .pointer _) rfl) rfl ?_
   refine L.val (x_as (v := .int _ _) rfl) rfl ?_
   refine L.nil ?_
   refine thn_n ?_
   refine W.seq ?_
   refine W.region ?_
   have hs29 := hB.size
   refine L.val (x_mv (v := .pointer _) rfl) rfl ?_
   refine L.ret (x_call kwal19_en28 rfl) rfl (open_w w.heap.size b (newD (secN n)) _ h rfl (by show 6 ≤ (List.replicate _ _).length; rw [List.length_replicate]; omega)) ?_
   rintro v34 w34 ⟨hw, hr⟩
   have hB := hB.carry hw; have hs := hs.carry hw; have h := h.carry hw
   rw [open_new ⟨secN n, by omega⟩ (by show 6 ≤ secN n; omega)] at hr
   obtain ⟨-, bl, u, rfl, hl, hU⟩ := hr.resolve_left (fun e => e.1 rfl)
   have hl : LogAt w.heap.size w34 bl b pt0 := hl.le hs29
   obtain ⟨pu, cu, rfl, -⟩ := id hU
   refine L.val (x_mv (v := _) rfl) rfl ?_
   refine L.val (x_ext (v := .pointer _) rfl rfl) rfl ?_
   refine L.val (x_ext (v := .slice _ _ _) rfl rfl) rfl ?_
   refine L.val (x_ext (v := .int _ _) rfl rfl) rfl ?_
   refine L.val (x_as (v := .pointer _) rfl) rfl ?_
   refine L.val (x_as (v := .slice _ _ _) rfl) rfl ?_
   refine L.val (x_as (v := .int _ _) rfl) rfl ?_
   refine L.nil ?_
   refine thn_n ?_
   refine W.seq ?_
   refine W.seq ?_
   refine W.region ?_
   refine L.val (x_mv (v := .int _ _) rfl) rfl ?_
   refine L.val (x_neq rfl rfl) rfl ?_
   refine L.val (x_mv (v := .bool _) rfl) rfl ?_
   refine L.splitat (dj := 40) (b := _) rfl (fun g40 => ?_) (fun g40 => ?_)
   ·have h40 := dne_t g40
    cases g40
   ·have h40 := dne_f g40
    refine L.gyes' (dj := 40) (b := _) rfl rfl g40 ?_
    refine L.val (x_mv (v := .int _ _) rfl) rfl ?_
    refine L.gyes' (dj := 40) (b := _) rfl rfl g40 ?_
    refine L.val (x_neq rfl rfl) rfl ?_
    refine L.val (x_pick_f (v := .bool _) (congrArg Value.bool g40) rfl) rfl ?_
    refine L.val (x_mv (v := .bool _) rfl) rfl ?_
    refine L.splitat (dj := 44) (b := _) rfl (fun g44 => ?_) (fun g44 => ?_)
    ·have h44 := dne_t g44
     cases g44
    ·have h44 := dne_f g44
     refine L.gyes' (dj := 44) (b := _) rfl rfl g44 ?_
     refine L.val (x_mv (v := .pointer _) rfl) rfl ?_
     refine L.gyes' (dj := 44) (b := _) rfl rfl g44 ?_
     refine L.val (x_eqp0 Try.underlying52 rfl rfl) rfl ?_
     refine L.val (x_pick_f (v := .bool _) (congrArg Value.bool g44) rfl) rfl ?_
     refine L.val (x_mv (v := .bool _) rfl) rfl ?_
     refine L.splitat (dj := 48) (b := _) rfl (fun g48 => ?_) (fun g48 => ?_)
     ·have h48 := g48
      cases g48
     ·have h48 := g48
      refine L.gyes' (dj := 48) (b := _) rfl rfl g48 ?_
      refine L.val (x_mv (v := .slice _ _ _) rfl) rfl ?_
      refine L.gyes' (dj := 48) (b := _) rfl rfl g48 ?_
      refine L.val (x_len_slice Try.underlying37 rfl) rfl ?_
      refine L.gyes' (dj := 48) (b := _) rfl rfl g48 ?_
      refine L.val (x_neq rfl rfl) rfl ?_
      refine L.val (x_pick_f (v := .bool _) (congrArg Value.bool g48) rfl) rfl ?_
      refine L.nil ?_
      refine thn_n ?_
      refine W.cond (b := _) rfl (fun g51 => ?_) (fun g51 => ?_)
      ·have h51 := dne_t g51
       cases g51
      ·have h51 := dne_f g51
       refine W.skip ?_
       refine thn_n ?_
       refine W.seq ?_
       refine W.region ?_
       refine L.val (x_mv (v := .pointer _) rfl) rfl ?_
       refine L.ret (x_call kwal19_en26 rfl) rfl (leftL_w w.heap.size bl b _ pt0 _ h hl (by show 6 ≤ (List.replicate _ _).length; rw [List.length_replicate]; omega) (by decide)) ?_
       rintro v54 w54 ⟨rfl, hw⟩
       have hB := hB.carry hw; have hs := hs.carry hw; have h := h.carry hw; have hl := hl.carry hw
       have eR : ((roomN (newD (secN n)).pl.length : Nat) : Int) - (pt0.tail : Nat) = ((roomN (secN n) : Nat) : Int) := by
         have e1 : (newD (secN n)).pl.length = secN n := by simp [newD]
         rw [e1]; show _ - ((0 : Nat) : Int) = _; omega
       rw [eR]
       refine L.val (x_as (v := .int _ _) rfl) rfl ?_
       refine L.nil ?_
       refine thn_n ?_
       refine W.seq ?_
       refine W.region ?_
       refine L.val (x_as (v := .slice _ _ _) rfl) rfl ?_
       refine L.nil ?_
       refine thn_n ?_
       refine W.seq ?_
       refine W.seq ?_
       refine W.region ?_
       refine L.val (x_as (v := .int _ _) rfl) rfl ?_
       refine L.nil ?_
       refine thn_n ?_
       refine W.block ?_
       refine W.loop (fun m' E w' => ∃ (i : Nat) (D : Dk) (q : Pt) (all : List Str) (va : Value) (bl : Nat), m' = l.length - i ∧ E 1 = .slice pv l.length cv ∧ E 5 = .pointer (some ⟨b, 0, none⟩) ∧ E 7 = .pointer (some ⟨bl, 0, none⟩) ∧ E 10 = .int .i64 (roomN (secN n) : Nat) ∧ E 11 = va ∧ E 12 = .int .i64 (i : Nat) ∧ (i ≤ l.length) ∧ (Rep D q all) ∧ (D.ops ≤ 2000 * i ∧ q.ep ≤ i ∧ all.length ≤ costW (l.take i)) ∧ (D.pl.length = secN n) ∧ (WcsAt (fun k => w.heap.size ≤ k) w' (.slice pv l.length cv) l) ∧ (DiskAt w.heap.size w' b D) ∧ (LogAt w.heap.size w' bl b q) ∧ (AllAt w.heap.size w' va all) ∧ (Bel w w')) (l.length) ?_ ?_
       ·exact ⟨0, newD (secN n), pt0, [], .slice none 0 0, _, by omega, by first | rfl | exact vi (by omega) | exact vs (by first | assumption | (rw [hst]; done) | (rw [hst]; simp only [List.append_assoc])), by first | rfl | exact vi (by omega) | exact vs (by first | assumption | (rw [hst]; done) | (rw [hst]; simp only [List.append_assoc])), by first | rfl | exact vi (by omega) | exact vs (by first | assumption | (rw [hst]; done) | (rw [hst]; simp only [List.append_assoc])), by first | rfl | exact vi (by omega) | exact vs (by first | assumption | (rw [hst]; done) | (rw [hst]; simp only [List.append_assoc])), by first | rfl | exact vi (by omega) | exact vs (by first | assumption | (rw [hst]; done) | (rw [hst]; simp only [List.append_assoc])), by first | rfl | exact vi (by omega) | exact vs (by first | assumption | (rw [hst]; done) | (rw [hst]; simp only [List.append_assoc])), (by first | assumption | omega | rfl), (by exact rep_new (by omega)), (by exact ⟨Nat.le_refl _, Nat.le_refl _, Nat.zero_le _⟩), (by simp [newD]), (by first | assumption | omega | rfl), (by first | assumption | omega | rfl), (by first | assumption | omega | rfl), (by exact StrsAt.nil _ _ _ _ (by omega)), (by first | assumption | omega | rfl)⟩
       ·rintro _ E wL55 ⟨i, D, q, all, va, bl, em, e1, e5, e7, e10, e11, e12, hi, hR, hbd, hpl, hs, h, hl, hva, hB⟩
        rw [upd_self e1, upd_self e5, upd_self e7, upd_self e10, upd_self e11, upd_self e12]
        refine W.seq ?_
        refine W.seq ?_
        refine W.region ?_
        refine L.val (x_mv (v := .int _ _) rfl) rfl ?_
        refine L.val (x_mv (v := .slice _ _ _) rfl) rfl ?_
        refine L.val (x_len_slice Try.underlying70 rfl) rfl ?_
        refine L.val (x_lss rfl rfl) rfl ?_
        refine L.nil ?_
        refine thn_n ?_
        refine W.cond (b := _) rfl (fun g58 => ?_) (fun g58 => ?_)
        ·have h58 := of_decide_eq_true g58
         have hlt : i < l.length := by omega
         obtain ⟨p2, c2, row2, e2, -, -, -, hRw⟩ := id hs
         cases e2
         obtain ⟨bb, o, rfl, -, hc⟩ := hRw.elem hlt
         have hwc := hRw.each i hlt
         obtain ⟨vb, vk, hrow, hsb, hk, hbig⟩ := id hwc
         obtain ⟨pb, cb, rfl, s1, s2, s3, s4, -⟩ := id hsb
         obtain ⟨pk, ck, rfl, -⟩ := id hk
         rw [hrow] at hwc
         have hrc : ∀ j, j < 6 → wL55.cell? ⟨bb, o + i * 6 + j, none⟩ = (wcV (l.getD i default) (.slice pb (l.getD i default).bods.length cb) (.slice pk (l.getD i default).keep.length ck))[j]? := fun j hj => by rw [hc j hj, hrow]
         have hst := costW_take hlt
         have hle := costW_le l (i + 1)
         have hlb := len_costB (l.getD i default).bods
         have hlw := costW_len l
         have hnb := need_le (l := (l.getD i default).bods)
         have hA := does_after hR.ok h.2.1 (l.getD i default)
         have hqc : q.cnt = all.length := hR.cnt
         have hqok := hA.ok (by omega) (by omega) (by omega)
         have h6 := hR.ok.h6
         have hqt := hR.ok.tail
         obtain ⟨pva, cva, rfl, -⟩ := id hva
         have hsizeL := hB.size
         have hok0 := h.2.1
         refine W.skip ?_
         refine thn_n ?_
         refine W.seq ?_
         refine W.block ?_
         refine W.seq ?_
         refine W.region ?_
         refine L.val (x_mv (v := .slice _ _ _) rfl) rfl ?_
         refine L.val (x_mv (v := .int _ _) rfl) rfl ?_
         refine L.val (x_ia (j := i) Try.underlying70 kwal19_sz76 rfl rfl (by omega) (by omega)) rfl ?_
         refine L.val (x_ldn (vs := wcV (l.getD i default) (.slice pb (l.getD i default).bods.length cb) (.slice pk (l.getD i default).keep.length ck)) kwal19_ag76 rfl rfl hrc) rfl ?_
         have hB5 := hB; have hs5 := hs; have h5 := h; have hl5 := hl; have hva5 := hva
         refine L.alloc (cs := [Value.int .i64 0, Value.slice none 0 0, Value.int .i64 0, Value.slice none 0 0, Value.int .i64 0, Value.int .i64 0]) kwal19_zr76 rfl rfl (fun w13 bx13 hw hz13 => ?_)
         have hB := hB.carry hw; have hs := hs.carry hw; have h := h.carry hw; have hl := hl.carry hw; have hva := hva.carry hw
         have hl13 := bx13.lt
         obtain ⟨bA, hbA⟩ : ∃ bA, bA = wL55.heap.size := ⟨_, rfl⟩
         rw [← hbA] at bx13 ⊢
         have hw13 : Bel wL55 w13 := by assumption
         refine L.setRow kwal19_ag76 rfl rfl bx13 rfl rfl (wcV_one hwc) (fun wl54 bx13 hw hzl54 => ?_)
         have hB54 : Bel wL55 wl54 := hw13.set hw (by omega)
         have hB := hB5.carry hB54; have hs := hs5.carry hB54; have h := h5.bel hB54; have hl := hl5.bel hB54; have hva := hva5.dg (Dg.of_bel hB54)
         have hwc := Car.carry hwc hB54
         refine L.nil ?_
         refine thn_n ?_
         refine W.cut (fun D' E' w' => D' = [] ∧ E' 1 = .slice (some ⟨bb, o, none⟩) l.length cv ∧ E' 5 = .pointer (some ⟨b, 0, none⟩) ∧ E' 7 = .pointer (some ⟨bl, 0, none⟩) ∧ E' 10 = .int .i64 (roomN (secN n) : Nat) ∧ E' 12 = .int .i64 (i : Nat) ∧ E' 13 = .pointer (some ⟨bA, 0, none⟩) ∧ ∃ va', E' 11 = va' ∧ WcsAt (fun k => w.heap.size ≤ k) w' (.slice (some ⟨bb, o, none⟩) l.length cv) l ∧ DiskAt w.heap.size w' b (doesA D q (l.getD i default)).2.1 ∧ LogAt w.heap.size w' bl b (doesA D q (l.getD i default)).2.2 ∧ AllAt w.heap.size w' va' (if (doesA D q (l.getD i default)).1 = 0 then goesA all (l.getD i default) else all) ∧ Box w' bA 76 (wcV (l.getD i default) (.slice pb (l.getD i default).bods.length cb) (.slice pk (l.getD i default).keep.length ck)) ∧ Bel w w') ?_ ?_
         ·refine W.seq ?_
          refine W.region ?_
          refine L.val (x_fa kwal19_fo76_0 rfl) rfl ?_
          refine L.val (x_ld (v := .int _ _) kwal19_oc3 rfl (bx13.cell0 rfl)) rfl ?_
          refine L.val (x_eql rfl rfl) rfl ?_
          refine L.val (x_mv (v := .bool _) rfl) rfl ?_
          refine' L.group0 3 69 71 71 68 false rfl ?_ ?_ ?_
          rotate_left 1
          ·intro g68
           have h68 := of_decide_eq_false g68
           refine L.gyes' (dj := 68) (b := _) rfl rfl g68 ?_
           refine L.val (x_fa kwal19_fo76_0 rfl) rfl ?_
           refine L.gyes' (dj := 68) (b := _) rfl rfl g68 ?_
           refine L.val (x_ld (v := .int _ _) kwal19_oc3 rfl (bx13.cell0 rfl)) rfl ?_
           refine L.gyes' (dj := 68) (b := _) rfl rfl g68 ?_
           refine L.val (x_eql rfl rfl) rfl ?_
           refine L.nil ?_
           refine thn_n ⟨rfl, rfl, ?_, rfl⟩
           repeat (first | exact jeq.refl _ _ _ | refine jeq.upd rfl ?_ | refine jeq.jk rfl rfl ?_)
          ·intro g68
           refine L.gno (dj := 68) (b := _) rfl rfl g68 rfl ?_
           refine L.gno (dj := 68) (b := _) rfl rfl g68 rfl ?_
           refine L.gno (dj := 68) (b := _) rfl rfl g68 rfl ?_
           refine L.nil (thn_n ⟨rfl, rfl, ?_⟩)
           repeat (first | exact jeq.refl _ _ _ | refine jeq.upd rfl ?_ | refine jeq.jk rfl rfl ?_)
          intro J68 j68
          refine L.val (x_or rfl j68) rfl ?_
          refine L.nil ?_
          refine thn_n ?_
          refine W.cond (b := _) rfl (fun g72 => ?_) (fun g72 => ?_)
          ·have h72 := g72
           have hk01 : (l.getD i default).kind = 0 ∨ (l.getD i default).kind = 1 := by simpa using h72
           refine W.seq ?_
           refine W.region ?_
           refine L.val (x_as (v := .int _ _) rfl) rfl ?_
           refine L.val (x_as (v := .bool _) rfl) rfl ?_
           refine L.nil ?_
           refine thn_n ?_
           refine W.seq ?_
           refine W.seq ?_
           refine W.region ?_
           refine L.val (x_as (v := .int _ _) rfl) rfl ?_
           refine L.nil ?_
           refine thn_n ?_
           refine W.block ?_
           refine W.loop (fun m' E w' => ∃ (j nn : Nat), m' = (l.getD i default).bods.length - j ∧ E 1 = .slice (some ⟨bb, o, none⟩) l.length cv ∧ E 5 = .pointer (some ⟨b, 0, none⟩) ∧ E 7 = .pointer (some ⟨bl, 0, none⟩) ∧ E 10 = .int .i64 (roomN (secN n) : Nat) ∧ E 11 = .slice pva all.length cva ∧ E 12 = .int .i64 (i : Nat) ∧ E 13 = .pointer (some ⟨bA, 0, none⟩) ∧ E 14 = .int .i64 (nn : Nat) ∧ E 15 = .bool (tooBig ((l.getD i default).bods.take j)) ∧ E 16 = .int .i64 (j : Nat) ∧ (j ≤ (l.getD i default).bods.length) ∧ (tooBig ((l.getD i default).bods.take j) = false → nn = (((l.getD i default).bods.take j).map frm).flatten.length) ∧ (nn ≤ j * 140737488355400) ∧ (WcsAt (fun k => w.heap.size ≤ k) w' (.slice (some ⟨bb, o, none⟩) l.length cv) l) ∧ (DiskAt w.heap.size w' b D) ∧ (LogAt w.heap.size w' bl b q) ∧ (AllAt w.heap.size w' (.slice pva all.length cva) all) ∧ (WcC (fun k => w.heap.size ≤ k) w' (wcV (l.getD i default) (.slice pb (l.getD i default).bods.length cb) (.slice pk (l.getD i default).keep.length ck)) (l.getD i default)) ∧ (Box w' bA 76 (wcV (l.getD i default) (.slice pb (l.getD i default).bods.length cb) (.slice pk (l.getD i default).keep.length ck))) ∧ (Bel w w')) ((l.getD i default).bods.length) ?_ ?_
           ·exact ⟨0, 0, by omega, by first | rfl | exact vi (by omega) | exact vs (by first | assumption | (rw [hst]; done) | (rw [hst]; simp only [List.append_assoc])), by first | rfl | exact vi (by omega) | exact vs (by first | assumption | (rw [hst]; done) | (rw [hst]; simp only [List.append_assoc])), by first | rfl | exact vi (by omega) | exact vs (by first | assumption | (rw [hst]; done) | (rw [hst]; simp only [List.append_assoc])), by first | rfl | exact vi (by omega) | exact vs (by first | assumption | (rw [hst]; done) | (rw [hst]; simp only [List.append_assoc])), by first | rfl | exact vi (by omega) | exact vs (by first | assumption | (rw [hst]; done) | (rw [hst]; simp only [List.append_assoc])), by first | rfl | exact vi (by omega) | exact vs (by first | assumption | (rw [hst]; done) | (rw [hst]; simp only [List.append_assoc])), by first | rfl | exact vi (by omega) | exact vs (by first | assumption | (rw [hst]; done) | (rw [hst]; simp only [List.append_assoc])), by first | rfl | exact vi (by omega) | exact vs (by first | assumption | (rw [hst]; done) | (rw [hst]; simp only [List.append_assoc])), by first | rfl | exact vi (by omega) | exact vs (by first | assumption | (rw [hst]; done) | (rw [hst]; simp only [List.append_assoc])) | exact vb (by assumption), by first | rfl | exact vi (by omega) | exact vs (by first | assumption | (rw [hst]; done) | (rw [hst]; simp only [List.append_assoc])), (by first | assumption | omega | rfl), (by exact fun _ => rfl), (by first | assumption | omega | rfl), (by first | assumption | omega | rfl), (by first | assumption | omega | rfl), (by first | assumption | omega | rfl), (by first | assumption | omega | rfl), (by first | assumption | omega | rfl), (by first | assumption | omega | rfl), (by first | assumption | omega | rfl)⟩
           ·rintro _ E wL73 ⟨j, nn, em, e1, e5, e7, e10, e11, e12, e13, e14, e15, e16, hj, hnn, hnl, hs, h, hl, hva, hwc, bx13, hB⟩
            rw [upd_self e1, upd_self e5, upd_self e7, upd_self e10, upd_self e11, upd_self e12, upd_self e13, upd_self e14, upd_self e15, upd_self e16]
            refine W.seq ?_
            refine W.seq ?_
            refine W.region ?_
            refine L.val (x_mv (v := .int _ _) rfl) rfl ?_
            refine L.val (x_fa kwal19_fo76_1 rfl) rfl ?_
            refine L.val (x_ld (v := .slice _ _ _) kwal19_oc37 rfl (bx13.cell0 rfl)) rfl ?_
            refine L.val (x_len_slice Try.underlying37 rfl) rfl ?_
            refine L.val (x_lss rfl rfl) rfl ?_
            refine L.nil ?_
            refine thn_n ?_
            refine W.cond (b := _) rfl (fun g77 => ?_) (fun g77 => ?_)
            ·have h77 := of_decide_eq_true g77
             have hltj : j < (l.getD i default).bods.length := by omega
             obtain ⟨bj, oj, rfl, hcj⟩ := (wc_strs hwc).elem hltj
             have hstj : tooBig ((l.getD i default).bods.take (j + 1)) = (tooBig ((l.getD i default).bods.take j) || decide (20000 < ((l.getD i default).bods.getD j []).length)) := anyW_take hltj []
             have hfrj := frm_take hltj
             have hlj : ((l.getD i default).bods.getD j []).length ≤ 140737488355328 := hbig _ (getD_memS hltj)
             have hS15 : (tooBig ((l.getD i default).bods.take j) || decide ((20000 : Int) < ((((l.getD i default).bods.getD j []).length : Nat) : Int))) = tooBig ((l.getD i default).bods.take (j + 1)) := by
               rw [hstj]; congr 1; rw [decide_eq_decide]; omega
             refine W.skip ?_
             refine thn_n ?_
             refine W.seq ?_
             refine W.block ?_
             refine W.seq ?_
             refine W.region ?_
             refine L.val (x_mv (v := .int _ _) rfl) rfl ?_
             refine L.val (x_fa kwal19_fo76_1 rfl) rfl ?_
             refine L.val (x_ld (v := .slice _ _ _) kwal19_oc37 rfl (bx13.cell0 rfl)) rfl ?_
             refine L.val (x_mv (v := .int _ _) rfl) rfl ?_
             refine L.val (x_ia1 (j := j) Try.underlying37 kwal19_sz9 rfl rfl (by omega) (by omega)) rfl ?_
             refine L.val (x_ld (v := S _) kwal19_oc9 rfl hcj) rfl ?_
             refine L.ret (x_call kwal19_en33 rfl) rfl (refText ((l.getD i default).bods.getD j []) hlj _) ?_
             rintro v86 w86 ⟨⟨x, rfl, hx1, hx2⟩, hw⟩
             have hB := hB.carry hw; have hs := hs.carry hw; have h := h.carry hw; have hl := hl.carry hw; have hva := hva.carry hw; have hwc := hwc.carry hw; have bx13 := bx13.carry hw
             have hcj := hw.cell hcj (fun f => f)
             have hnn2 : tooBig ((l.getD i default).bods.take (j + 1)) = false → nn + (x.length + 4) = (((l.getD i default).bods.take (j + 1)).map frm).flatten.length := fun e => by
               rw [hstj, Bool.or_eq_false_iff, decide_eq_false_iff_not] at e
               have := hnn e.1; have := hx2 (by omega); omega
             refine L.val (x_len_str Try.underlying9 rfl) rfl ?_
             refine L.val (x_add rfl rfl (wr64 (by omega))) rfl ?_
             refine L.val (x_add rfl rfl (wr64 (by omega))) rfl ?_
             refine L.val (x_as (v := .int _ _) rfl) rfl ?_
             refine L.nil ?_
             refine thn_n ?_
             refine W.region ?_
             refine L.val (x_mv (v := .bool _) rfl) rfl ?_
             refine L.val (x_mv (v := .bool _) rfl) rfl ?_
             refine' L.group0 7 92 98 98 91 false rfl ?_ ?_ ?_
             rotate_left 1
             ·intro g91
              have h91 := g91
              refine L.gyes' (dj := 91) (b := _) rfl rfl g91 ?_
              refine L.val (x_fa kwal19_fo76_1 rfl) rfl ?_
              refine L.gyes' (dj := 91) (b := _) rfl rfl g91 ?_
              refine L.val (x_ld (v := .slice _ _ _) kwal19_oc37 rfl (bx13.cell0 rfl)) rfl ?_
              refine L.gyes' (dj := 91) (b := _) rfl rfl g91 ?_
              refine L.val (x_mv (v := .int _ _) rfl) rfl ?_
              refine L.gyes' (dj := 91) (b := _) rfl rfl g91 ?_
              refine L.val (x_ia1 (j := j) Try.underlying37 kwal19_sz9 rfl rfl (by omega) (by omega)) rfl ?_
              refine L.gyes' (dj := 91) (b := _) rfl rfl g91 ?_
              refine L.val (x_ld (v := S _) kwal19_oc9 rfl hcj) rfl ?_
              refine L.gyes' (dj := 91) (b := _) rfl rfl g91 ?_
              refine L.val (x_len_str Try.underlying9 rfl) rfl ?_
              refine L.gyes' (dj := 91) (b := _) rfl rfl g91 ?_
              refine L.val (x_gtr rfl rfl) rfl ?_
              refine L.nil ?_
              refine thn_n ⟨rfl, rfl, ?_, rfl⟩
              repeat (first | exact jeq.refl _ _ _ | refine jeq.upd rfl ?_ | refine jeq.jk rfl rfl ?_)
             ·intro g91
              refine L.gno (dj := 91) (b := _) rfl rfl g91 rfl ?_
              refine L.gno (dj := 91) (b := _) rfl rfl g91 rfl ?_
              refine L.gno (dj := 91) (b := _) rfl rfl g91 rfl ?_
              refine L.gno (dj := 91) (b := _) rfl rfl g91 rfl ?_
              refine L.gno (dj := 91) (b := _) rfl rfl g91 rfl ?_
              refine L.gno (dj := 91) (b := _) rfl rfl g91 rfl ?_
              refine L.gno (dj := 91) (b := _) rfl rfl g91 rfl ?_
              refine L.nil (thn_n ⟨rfl, rfl, ?_⟩)
              repeat (first | exact jeq.refl _ _ _ | refine jeq.upd rfl ?_ | refine jeq.jk rfl rfl ?_)
             intro J91 j91
             refine L.val (x_or rfl j91) rfl ?_
             refine L.val (x_as (v := .bool _) rfl) rfl ?_
             refine L.nil ?_
             refine blk_n ?_
             refine thn_n ?_
             refine W.region ?_
             refine L.val (x_mv (v := .int _ _) rfl) rfl ?_
             refine L.val (x_add rfl rfl (wr64 (by omega))) rfl ?_
             refine L.val (x_as (v := .int _ _) rfl) rfl ?_
             refine L.nil ?_
             refine thn_n ⟨rfl, ?_⟩
             refine ⟨_, ?_, j + 1, nn + (x.length + 4), rfl, by first | rfl | exact vi (by omega) | exact vs (by first | assumption | (rw [hst]; done) | (rw [hst]; simp only [List.append_assoc])), by first | rfl | exact vi (by omega) | exact vs (by first | assumption | (rw [hst]; done) | (rw [hst]; simp only [List.append_assoc])), by first | rfl | exact vi (by omega) | exact vs (by first | assumption | (rw [hst]; done) | (rw [hst]; simp only [List.append_assoc])), by first | rfl | exact vi (by omega) | exact vs (by first | assumption | (rw [hst]; done) | (rw [hst]; simp only [List.append_assoc])), by first | rfl | exact vi (by omega) | exact vs (by first | assumption | (rw [hst]; done) | (rw [hst]; simp only [List.append_assoc])), by first | rfl | exact vi (by omega) | exact vs (by first | assumption | (rw [hst]; done) | (rw [hst]; simp only [List.append_assoc])), by first | rfl | exact vi (by omega) | exact vs (by first | assumption | (rw [hst]; done) | (rw [hst]; simp only [List.append_assoc])), by first | rfl | exact vi (by omega) | exact vs (by first | assumption | (rw [hst]; done) | (rw [hst]; simp only [List.append_assoc])), by first | rfl | exact vi (by omega) | exact vs (by first | assumption | (rw [hst]; done) | (rw [hst]; simp only [List.append_assoc])) | exact vb (by assumption), by first | rfl | exact vi (by omega) | exact vs (by first | assumption | (rw [hst]; done) | (rw [hst]; simp only [List.append_assoc])), (by first | assumption | omega | rfl), (by exact hnn2), (by first | assumption | omega | rfl), (by first | assumption | omega | rfl), (by first | assumption | omega | rfl), (by first | assumption | omega | rfl), (by first | assumption | omega | rfl), (by first | assumption | omega | rfl), (by first | assumption | omega | rfl), (by first | assumption | omega | rfl)⟩
             omega
            ·have h77 := dlt_f g77
             have hje : j = (l.getD i default).bods.length := by omega
             subst hje
             rw [List.take_length] at hnn
             rw [List.take_length]
             have hW := does_want hR.ok (l.getD i default) hk01 hnn
             rw [hpl] at hW
             refine W.exit (thn_x (thn_x (blk_hit ?_)))
             refine thn_n ?_
             refine W.seq ?_
             refine W.region ?_
             refine L.val (x_mv (v := .pointer _) rfl) rfl ?_
             refine L.ret (x_call kwal19_en26 rfl) rfl (leftL_w w.heap.size bl b D q _ h hl h6 (by have := hR.ok.tail; rw [hpl] at this; omega)) ?_
             rintro v101 w101 ⟨rfl, hw⟩
             have hB := hB.carry hw; have hs := hs.carry hw; have h := h.carry hw; have hl := hl.carry hw; have hva := hva.carry hw; have hwc := hwc.carry hw; have bx13 := bx13.carry hw
             rw [hpl]
             refine L.val (x_as (v := .int _ _) rfl) rfl ?_
             refine L.nil ?_
             refine thn_n ?_
             refine W.cut (fun D' E' w' => D' = [] ∧ E' 1 = .slice (some ⟨bb, o, none⟩) l.length cv ∧ E' 5 = .pointer (some ⟨b, 0, none⟩) ∧ E' 7 = .pointer (some ⟨bl, 0, none⟩) ∧ E' 10 = .int .i64 (roomN (secN n) : Nat) ∧ E' 12 = .int .i64 (i : Nat) ∧ E' 13 = .pointer (some ⟨bA, 0, none⟩) ∧ E' 11 = .slice pva all.length cva ∧ E' 14 = .int .i64 (nn : Nat) ∧ E' 15 = .bool (tooBig (l.getD i default).bods) ∧ E' 17 = .int .i64 (if (l.getD i default).kind = 1 then ((roomN (secN n) : Nat) : Int) else (roomN (secN n) : Nat) - (q.tail : Nat)) ∧ WcsAt (fun k => w.heap.size ≤ k) w' (.slice (some ⟨bb, o, none⟩) l.length cv) l ∧ DiskAt w.heap.size w' b D ∧ LogAt w.heap.size w' bl b q ∧ AllAt w.heap.size w' (.slice pva all.length cva) all ∧ WcC (fun k => w.heap.size ≤ k) w' (wcV (l.getD i default) (.slice pb (l.getD i default).bods.length cb) (.slice pk (l.getD i default).keep.length ck)) (l.getD i default) ∧ Box w' bA 76 (wcV (l.getD i default) (.slice pb (l.getD i default).bods.length cb) (.slice pk (l.getD i default).keep.length ck)) ∧ Bel w w') ?_ ?_
             ·refine W.seq ?_
              refine W.region ?_
              refine L.val (x_fa kwal19_fo76_0 rfl) rfl ?_
              refine L.val (x_ld (v := .int _ _) kwal19_oc3 rfl (bx13.cell0 rfl)) rfl ?_
              refine L.val (x_eql rfl rfl) rfl ?_
              refine L.nil ?_
              refine thn_n ?_
              refine W.cond (b := _) rfl (fun g104 => ?_) (fun g104 => ?_)
              ·have h104 := of_decide_eq_true g104
               refine W.region ?_
               refine L.val (x_mv (v := .int _ _) rfl) rfl ?_
               refine L.val (x_as (v := .int _ _) rfl) rfl ?_
               refine L.nil ?_
               refine thn_n ?_
               first | exact ⟨rfl, rfl, rfl, rfl, rfl, rfl, rfl, rfl, rfl, rfl, by rw [if_pos h104]; rfl, hs, h, hl, hva, hwc, bx13, hB⟩ | exact ⟨rfl, rfl, rfl, rfl, rfl, rfl, rfl, rfl, rfl, rfl, by rw [if_neg h104]; rfl, hs, h, hl, hva, hwc, bx13, hB⟩
              ·have h104 := of_decide_eq_false g104
               refine W.skip ?_
               refine thn_n ?_
               first | exact ⟨rfl, rfl, rfl, rfl, rfl, rfl, rfl, rfl, rfl, rfl, by rw [if_pos h104]; rfl, hs, h, hl, hva, hwc, bx13, hB⟩ | exact ⟨rfl, rfl, rfl, rfl, rfl, rfl, rfl, rfl, rfl, rfl, by rw [if_neg h104]; rfl, hs, h, hl, hva, hwc, bx13, hB⟩
             ·rintro D' E w18 ⟨rfl, e1, e5, e7, e10, e12, e13, e11, e14, e15, e17, hs, h, hl, hva, hwc, bx13, hB⟩
              rw [upd_self e1, upd_self e5, upd_self e7, upd_self e10, upd_self e12, upd_self e13, upd_self e11, upd_self e14, upd_self e15, upd_self e17]
              refine W.seq ?_
              refine W.region ?_
              refine L.val (x_as (v := .int _ _) rfl) rfl ?_
              refine L.nil ?_
              refine thn_n ?_
              refine W.cut (fun D' E' w' => D' = [] ∧ E' 1 = .slice (some ⟨bb, o, none⟩) l.length cv ∧ E' 5 = .pointer (some ⟨b, 0, none⟩) ∧ E' 7 = .pointer (some ⟨bl, 0, none⟩) ∧ E' 10 = .int .i64 (roomN (secN n) : Nat) ∧ E' 12 = .int .i64 (i : Nat) ∧ E' 13 = .pointer (some ⟨bA, 0, none⟩) ∧ E' 11 = .slice pva all.length cva ∧ E' 18 = .int .i64 (doesA D q (l.getD i default)).1 ∧ WcsAt (fun k => w.heap.size ≤ k) w' (.slice (some ⟨bb, o, none⟩) l.length cv) l ∧ DiskAt w.heap.size w' b D ∧ LogAt w.heap.size w' bl b q ∧ AllAt w.heap.size w' (.slice pva all.length cva) all ∧ WcC (fun k => w.heap.size ≤ k) w' (wcV (l.getD i default) (.slice pb (l.getD i default).bods.length cb) (.slice pk (l.getD i default).keep.length ck)) (l.getD i default) ∧ Box w' bA 76 (wcV (l.getD i default) (.slice pb (l.getD i default).bods.length cb) (.slice pk (l.getD i default).keep.length ck)) ∧ Bel w w') ?_ ?_
              ·refine W.seq ?_
               refine W.region ?_
               refine L.val (x_mv (v := .bool _) rfl) rfl ?_
               refine L.nil ?_
               refine thn_n ?_
               refine W.cond (b := _) rfl (fun g15 => ?_) (fun g15 => ?_)
               ·have h15 := g15
                have e18 : (3 : Int) = (doesA D q (l.getD i default)).1 := by rw [hW, if_pos h15]
                refine W.region ?_
                refine L.val (x_as (v := .int _ _) rfl) rfl ?_
                refine L.nil ?_
                refine thn_n ?_
                exact ⟨rfl, rfl, rfl, rfl, rfl, rfl, rfl, rfl, congrArg (Value.int .i64) e18, hs, h, hl, hva, hwc, bx13, hB⟩
               ·have h15 := g15
                have hW2 := hW
                rw [if_neg (by rw [h15]; decide)] at hW2
                refine W.seq ?_
                refine W.region ?_
                refine L.val (x_mv (v := .int _ _) rfl) rfl ?_
                refine L.val (x_mv (v := .int _ _) rfl) rfl ?_
                refine L.val (x_gtr rfl rfl) rfl ?_
                refine L.nil ?_
                refine thn_n ?_
                refine W.cond (b := _) rfl (fun g109 => ?_) (fun g109 => ?_)
                ·have h109 := of_decide_eq_true g109
                 have e18 : (210 : Int) = (doesA D q (l.getD i default)).1 := by rw [hW2, if_pos h109]
                 refine W.region ?_
                 refine L.val (x_as (v := .int _ _) rfl) rfl ?_
                 refine L.nil ?_
                 refine thn_n ?_
                 exact ⟨rfl, rfl, rfl, rfl, rfl, rfl, rfl, rfl, congrArg (Value.int .i64) e18, hs, h, hl, hva, hwc, bx13, hB⟩
                ·have h109 := dlt_f g109
                 have e18 : (0 : Int) = (doesA D q (l.getD i default)).1 := by rw [hW2, if_neg (by omega)]
                 refine W.skip ?_
                 refine thn_n ?_
                 exact ⟨rfl, rfl, rfl, rfl, rfl, rfl, rfl, rfl, congrArg (Value.int .i64) e18, hs, h, hl, hva, hwc, bx13, hB⟩
              ·rintro D' E w110 ⟨rfl, e1, e5, e7, e10, e12, e13, e11, e18, hs, h, hl, hva, hwc, bx13, hB⟩
               rw [upd_self e1, upd_self e5, upd_self e7, upd_self e10, upd_self e12, upd_self e13, upd_self e11, upd_self e18]
               refine W.seq ?_
               refine W.seq ?_
               refine W.region ?_
               refine L.val (x_mv (v := .pointer _) rfl) rfl ?_
               refine L.val (x_ldn (vs := _) kwal19_ag76 rfl rfl (bx13.row rfl)) rfl ?_
               refine L.ret (x_call kwal19_en34 rfl) rfl (does21 w.heap.size bl b _ (l.getD i default) D q _ h hl hR.ok hwc hB.size (by omega)) ?_
               rintro v112 w112 ⟨rfl, h112, hl112, hg112⟩
               have hB := hg112.bel hB
               have hs := hs.carryR hg112 (fun j hj => hj.1)
               have hva := hva.dg hg112
               have bx13 := bx13.dg hg112 rfl
               have hwc := Car.carryR hwc hg112 (fun j hj => hj.1)
               have h := h112; have hl := hl112
               refine L.val (x_mv (v := .int _ _) rfl) rfl ?_
               refine L.val (x_neq rfl rfl) rfl ?_
               refine L.nil ?_
               refine thn_n ?_
               refine W.cond (b := _) rfl (fun g114 => ?_) (fun g114 => ?_)
               ·have h114 := dne_t g114
                exact absurd rfl h114
               ·have h114 := dne_f g114
                refine W.skip ?_
                refine thn_n ?_
                refine W.seq ?_
                refine W.region ?_
                refine L.val (x_mv (v := .int _ _) rfl) rfl ?_
                refine L.val (x_eql rfl rfl) rfl ?_
                refine L.nil ?_
                refine thn_n ?_
                refine W.cond (b := _) rfl (fun g116 => ?_) (fun g116 => ?_)
                ·have h116 := of_decide_eq_true g116
                 refine W.region ?_
                 refine L.val (x_mv (v := .slice _ _ _) rfl) rfl ?_
                 refine L.val (x_ldn (vs := _) kwal19_ag76 rfl rfl (bx13.row rfl)) rfl ?_
                 refine L.ret (x_call kwal19_en35 rfl) rfl (goes21 w.heap.size _ _ all _ (l.getD i default) _ hva hwc (by omega)) ?_
                 rintro v119 w119 ⟨hv119, hw⟩
                 have hB := hB.carry hw; have hs := hs.carry hw; have h := h.carry hw; have hl := hl.carry hw; have hva := hva.carry hw; have hwc := hwc.carry hw; have bx13 := bx13.carry hw
                 obtain ⟨p119, c119, rfl, -⟩ := id hv119
                 refine L.val (x_as (v := .slice _ _ _) rfl) rfl ?_
                 refine L.nil ?_
                 refine thn_n ?_
                 first | exact ⟨rfl, rfl, rfl, rfl, rfl, rfl, rfl, _, rfl, hs, h, hl, by rw [if_pos h116]; exact hv119, bx13, hB⟩ | exact ⟨rfl, rfl, rfl, rfl, rfl, rfl, rfl, _, rfl, hs, h, hl, by rw [if_neg h116]; exact hva, bx13, hB⟩ | exact ⟨rfl, rfl, rfl, rfl, rfl, rfl, rfl, _, rfl, hs, by rw [hO.1]; exact h, by rw [hO.1]; exact hl, by rw [hO.1, hO.2, if_pos rfl]; exact hva, bx13, hB⟩
                ·have h116 := of_decide_eq_false g116
                 refine W.skip ?_
                 refine thn_n ?_
                 first | exact ⟨rfl, rfl, rfl, rfl, rfl, rfl, rfl, _, rfl, hs, h, hl, by rw [if_pos h116]; exact hv119, bx13, hB⟩ | exact ⟨rfl, rfl, rfl, rfl, rfl, rfl, rfl, _, rfl, hs, h, hl, by rw [if_neg h116]; exact hva, bx13, hB⟩ | exact ⟨rfl, rfl, rfl, rfl, rfl, rfl, rfl, _, rfl, hs, by rw [hO.1]; exact h, by rw [hO.1]; exact hl, by rw [hO.1, hO.2, if_pos rfl]; exact hva, bx13, hB⟩
          ·have h72 := g72
           have hk01 : ¬ ((l.getD i default).kind = 0 ∨ (l.getD i default).kind = 1) := by simpa using h72
           have hO := does_other (D := D) (q := q) (all := all) hk01
           refine W.skip ?_
           refine thn_n ?_
           first | exact ⟨rfl, rfl, rfl, rfl, rfl, rfl, rfl, _, rfl, hs, h, hl, by rw [if_pos h116]; exact hv119, bx13, hB⟩ | exact ⟨rfl, rfl, rfl, rfl, rfl, rfl, rfl, _, rfl, hs, h, hl, by rw [if_neg h116]; exact hva, bx13, hB⟩ | exact ⟨rfl, rfl, rfl, rfl, rfl, rfl, rfl, _, rfl, hs, by rw [hO.1]; exact h, by rw [hO.1]; exact hl, by rw [hO.1, hO.2, if_pos rfl]; exact hva, bx13, hB⟩
         ·rintro D' E w121 ⟨rfl, e1, e5, e7, e10, e12, e13, va', e11, hs, h, hl, hva, bx13, hB⟩
          have hR2 := rep_does hR hok0 (l.getD i default) h.2.1 hqok
          have hpl2 : (doesA D q (l.getD i default)).2.1.pl.length = secN n := hA.len.trans hpl
          have hok2 := h.2.1
          have hs121 := hB.size
          obtain ⟨pva2, cva2, rfl, -⟩ := id hva
          rw [upd_self e1, upd_self e5, upd_self e7, upd_self e10, upd_self e12, upd_self e13, upd_self e11]
          refine W.seq ?_
          refine W.region ?_
          refine L.val (x_mv (v := .pointer _) rfl) rfl ?_
          refine L.ret (x_call kwal19_en28 rfl) rfl (open_w w.heap.size b _ _ h hqok.live hqok.h6) ?_
          rintro v122 w122 ⟨hw, hr⟩
          have hB := hB.carry hw; have hs := hs.carry hw; have h := h.carry hw; have hl := hl.carry hw; have hva := hva.carry hw; have bx13 := bx13.carry hw
          rw [open_rep hR2 hok2] at hr
          obtain ⟨-, bl2, u2, rfl, hl2, hU⟩ := hr.resolve_left (fun e => e.1 rfl)
          have hl2 : LogAt w.heap.size w122 bl2 b (doesA D q (l.getD i default)).2.2 := hl2.le hs121
          have hU : StrsAt _ w122 u2 (if (doesA D q (l.getD i default)).1 = 0 then goesA all (l.getD i default) else all) := hU
          obtain ⟨pu2, cu2, rfl, -⟩ := id hU
          refine L.val (x_mv (v := _) rfl) rfl ?_
          refine L.val (x_ext (v := .pointer _) rfl rfl) rfl ?_
          refine L.val (x_ext (v := .slice _ _ _) rfl rfl) rfl ?_
          refine L.val (x_ext (v := .int _ _) rfl rfl) rfl ?_
          refine L.val (x_as (v := .pointer _) rfl) rfl ?_
          refine L.val (x_as (v := .slice _ _ _) rfl) rfl ?_
          refine L.val (x_as (v := .int _ _) rfl) rfl ?_
          refine L.nil ?_
          refine thn_n ?_
          refine W.seq ?_
          refine W.seq ?_
          refine W.region ?_
          refine L.val (x_mv (v := .int _ _) rfl) rfl ?_
          refine L.val (x_neq rfl rfl) rfl ?_
          refine L.val (x_mv (v := .bool _) rfl) rfl ?_
          refine L.splitat (dj := 128) (b := _) rfl (fun g128 => ?_) (fun g128 => ?_)
          ·have h128 := dne_t g128
           cases g128
          ·have h128 := dne_f g128
           refine L.gyes' (dj := 128) (b := _) rfl rfl g128 ?_
           refine L.val (x_mv (v := .pointer _) rfl) rfl ?_
           refine L.gyes' (dj := 128) (b := _) rfl rfl g128 ?_
           refine L.val (x_eqp0 Try.underlying52 rfl rfl) rfl ?_
           refine L.val (x_pick_f (v := .bool _) (congrArg Value.bool g128) rfl) rfl ?_
           refine L.val (x_mv (v := .bool _) rfl) rfl ?_
           refine L.splitat (dj := 132) (b := _) rfl (fun g132 => ?_) (fun g132 => ?_)
           ·have h132 := g132
            cases g132
           ·have h132 := g132
            refine L.gyes' (dj := 132) (b := _) rfl rfl g132 ?_
            refine L.val (x_mv (v := .slice _ _ _) rfl) rfl ?_
            refine L.gyes' (dj := 132) (b := _) rfl rfl g132 ?_
            refine L.val (x_mv (v := .slice _ _ _) rfl) rfl ?_
            refine L.gyes' (dj := 132) (b := _) rfl rfl g132 ?_
            refine L.ret (x_call kwal19_en21 rfl) rfl (same21 _ _ _ _ _ _ _ hU hva) ?_
            rintro v135 w135 ⟨rfl, hw⟩
            have hB := hB.carry hw; have hs := hs.carry hw; have h := h.carry hw; have hl := hl.carry hw; have hva := hva.carry hw; have bx13 := bx13.carry hw; have hl2 := hl2.carry hw
            refine L.gyes' (dj := 132) (b := _) rfl rfl g132 ?_
            refine L.val (x_not rfl) rfl ?_
            refine L.val (x_pick_f (v := .bool _) (congrArg Value.bool g132) rfl) rfl ?_
            refine L.val (x_mv (v := .bool _) rfl) rfl ?_
            refine L.splitat (dj := 138) (b := _) rfl (fun g138 => ?_) (fun g138 => ?_)
            ·have h138 := (not_t g138)
             simp at g138
            ·have h138 := (not_f g138)
             refine L.gyes' (dj := 138) (b := _) rfl rfl g138 ?_
             refine L.val (x_mv (v := .pointer _) rfl) rfl ?_
             refine L.gyes' (dj := 138) (b := _) rfl rfl g138 ?_
             refine L.ret (x_call kwal19_en25 rfl) rfl (tail_w _ _ _ _ _ hl2) ?_
             rintro v140 w140 ⟨rfl, hq⟩
             rw [hq]
             refine L.gyes' (dj := 138) (b := _) rfl rfl g138 ?_
             refine L.val (x_mv (v := .pointer _) rfl) rfl ?_
             refine L.gyes' (dj := 138) (b := _) rfl rfl g138 ?_
             refine L.ret (x_call kwal19_en25 rfl) rfl (tail_w _ _ _ _ _ hl) ?_
             rintro v142 w142 ⟨rfl, hq⟩
             rw [hq]
             refine L.gyes' (dj := 138) (b := _) rfl rfl g138 ?_
             refine L.val (x_neq rfl rfl) rfl ?_
             refine L.val (x_pick_f (v := .bool _) (congrArg Value.bool g138) rfl) rfl ?_
             refine L.val (x_mv (v := .bool _) rfl) rfl ?_
             refine L.splitat (dj := 145) (b := _) rfl (fun g145 => ?_) (fun g145 => ?_)
             ·have h145 := dne_t g145
              simp at g145
             ·have h145 := dne_f g145
              refine L.gyes' (dj := 145) (b := _) rfl rfl g145 ?_
              refine L.val (x_mv (v := .pointer _) rfl) rfl ?_
              refine L.gyes' (dj := 145) (b := _) rfl rfl g145 ?_
              refine L.ret (x_call kwal19_en26 rfl) rfl (leftL_w w.heap.size bl2 b _ _ _ h hl2 hqok.h6 (by have := hqok.tail; rw [hpl2] at this; omega)) ?_
              rintro v147 w147 ⟨rfl, hw⟩
              have hB := hB.carry hw; have hs := hs.carry hw; have h := h.carry hw; have hl := hl.carry hw; have hva := hva.carry hw; have bx13 := bx13.carry hw; have hl2 := hl2.carry hw
              rw [hpl2]
              refine L.gyes' (dj := 145) (b := _) rfl rfl g145 ?_
              refine L.val (x_mv (v := .pointer _) rfl) rfl ?_
              refine L.gyes' (dj := 145) (b := _) rfl rfl g145 ?_
              refine L.ret (x_call kwal19_en25 rfl) rfl (tail_w _ _ _ _ _ hl2) ?_
              rintro v149 w149 ⟨rfl, hq⟩
              rw [hq]
              have hqt2 := hqok.tail
              rw [hpl2] at hqt2
              refine L.gyes' (dj := 145) (b := _) rfl rfl g145 ?_
              refine L.val (x_add rfl rfl (wr64 (by omega))) rfl ?_
              refine L.gyes' (dj := 145) (b := _) rfl rfl g145 ?_
              refine L.val (x_mv (v := .int _ _) rfl) rfl ?_
              refine L.gyes' (dj := 145) (b := _) rfl rfl g145 ?_
              refine L.val (x_neq rfl rfl) rfl ?_
              refine L.val (x_pick_f (v := .bool _) (congrArg Value.bool g145) rfl) rfl ?_
              refine L.val (x_mv (v := .bool _) rfl) rfl ?_
              refine L.splitat (dj := 154) (b := _) rfl (fun g154 => ?_) (fun g154 => ?_)
              ·have h154 := dne_t g154
               simp at g154
              ·have h154 := dne_f g154
               refine L.gyes' (dj := 154) (b := _) rfl rfl g154 ?_
               refine L.val (x_mv (v := .pointer _) rfl) rfl ?_
               refine L.gyes' (dj := 154) (b := _) rfl rfl g154 ?_
               refine L.ret (x_call kwal19_en27 rfl) rfl (epoch_w _ _ _ _ _ hl2 (by have := hqok.ep; omega)) ?_
               rintro v156 w156 ⟨rfl, hq⟩
               rw [hq]
               refine L.gyes' (dj := 154) (b := _) rfl rfl g154 ?_
               refine L.val (x_mv (v := .pointer _) rfl) rfl ?_
               refine L.gyes' (dj := 154) (b := _) rfl rfl g154 ?_
               refine L.ret (x_call kwal19_en27 rfl) rfl (epoch_w _ _ _ _ _ hl (by have := hqok.ep; omega)) ?_
               rintro v158 w158 ⟨rfl, hq⟩
               rw [hq]
               refine L.gyes' (dj := 154) (b := _) rfl rfl g154 ?_
               refine L.val (x_neq rfl rfl) rfl ?_
               refine L.val (x_pick_f (v := .bool _) (congrArg Value.bool g154) rfl) rfl ?_
               refine L.nil ?_
               refine thn_n ?_
               refine W.cond (b := _) rfl (fun g159 => ?_) (fun g159 => ?_)
               ·have h159 := dne_t g159
                simp at g159
               ·have h159 := dne_f g159
                refine W.skip ?_
                refine thn_n ?_
                refine W.seq ?_
                refine W.region ?_
                refine L.val (x_fa kwal19_fo76_0 rfl) rfl ?_
                refine L.val (x_ld (v := .int _ _) kwal19_oc3 rfl (bx13.cell0 rfl)) rfl ?_
                refine L.val (x_eql rfl rfl) rfl ?_
                refine L.nil ?_
                refine thn_n ?_
                refine W.cond (b := _) rfl (fun g163 => ?_) (fun g163 => ?_)
                ·have h163 := of_decide_eq_true g163
                 refine W.region ?_
                 refine L.val (x_mv (v := .pointer _) rfl) rfl ?_
                 refine L.val (x_as (v := .pointer _) rfl) rfl ?_
                 refine L.nil ?_
                 refine blk_n ?_
                 refine thn_n ?_
                 refine W.region ?_
                 refine L.val (x_mv (v := .int _ _) rfl) rfl ?_
                 refine L.val (x_add rfl rfl (wr64 (by omega))) rfl ?_
                 refine L.val (x_as (v := .int _ _) rfl) rfl ?_
                 refine L.nil ?_
                 refine thn_n ⟨rfl, ?_⟩
                 refine ⟨_, ?_, i + 1, (doesA D q (l.getD i default)).2.1, (doesA D q (l.getD i default)).2.2, (if (doesA D q (l.getD i default)).1 = 0 then goesA all (l.getD i default) else all), _, _, rfl, by first | rfl | exact vi (by omega) | exact vs (by first | assumption | (rw [hst]; done) | (rw [hst]; simp only [List.append_assoc])), by first | rfl | exact vi (by omega) | exact vs (by first | assumption | (rw [hst]; done) | (rw [hst]; simp only [List.append_assoc])), by first | rfl | exact vi (by omega) | exact vs (by first | assumption | (rw [hst]; done) | (rw [hst]; simp only [List.append_assoc])), by first | rfl | exact vi (by omega) | exact vs (by first | assumption | (rw [hst]; done) | (rw [hst]; simp only [List.append_assoc])), by first | rfl | exact vi (by omega) | exact vs (by first | assumption | (rw [hst]; done) | (rw [hst]; simp only [List.append_assoc])), by first | rfl | exact vi (by omega) | exact vs (by first | assumption | (rw [hst]; done) | (rw [hst]; simp only [List.append_assoc])), (by first | assumption | omega | rfl), (by exact hR2), (by have h1 := hA.ops; have h2 := hA.ep; have h3 := goesA_len all (l.getD i default) (doesA D q (l.getD i default)).1; omega), (by exact hpl2), (by first | assumption | omega | rfl), (by first | assumption | omega | rfl), (by first | assumption | omega | rfl), (by first | assumption | omega | rfl), (by first | assumption | omega | rfl)⟩
                 omega
                ·have h163 := of_decide_eq_false g163
                 refine W.skip ?_
                 refine blk_n ?_
                 refine thn_n ?_
                 refine W.region ?_
                 refine L.val (x_mv (v := .int _ _) rfl) rfl ?_
                 refine L.val (x_add rfl rfl (wr64 (by omega))) rfl ?_
                 refine L.val (x_as (v := .int _ _) rfl) rfl ?_
                 refine L.nil ?_
                 refine thn_n ⟨rfl, ?_⟩
                 refine ⟨_, ?_, i + 1, (doesA D q (l.getD i default)).2.1, (doesA D q (l.getD i default)).2.2, (if (doesA D q (l.getD i default)).1 = 0 then goesA all (l.getD i default) else all), _, _, rfl, by first | rfl | exact vi (by omega) | exact vs (by first | assumption | (rw [hst]; done) | (rw [hst]; simp only [List.append_assoc])), by first | rfl | exact vi (by omega) | exact vs (by first | assumption | (rw [hst]; done) | (rw [hst]; simp only [List.append_assoc])), by first | rfl | exact vi (by omega) | exact vs (by first | assumption | (rw [hst]; done) | (rw [hst]; simp only [List.append_assoc])), by first | rfl | exact vi (by omega) | exact vs (by first | assumption | (rw [hst]; done) | (rw [hst]; simp only [List.append_assoc])), by first | rfl | exact vi (by omega) | exact vs (by first | assumption | (rw [hst]; done) | (rw [hst]; simp only [List.append_assoc])), by first | rfl | exact vi (by omega) | exact vs (by first | assumption | (rw [hst]; done) | (rw [hst]; simp only [List.append_assoc])), (by first | assumption | omega | rfl), (by exact hR2), (by have h1 := hA.ops; have h2 := hA.ep; have h3 := goesA_len all (l.getD i default) (doesA D q (l.getD i default)).1; omega), (by exact hpl2), (by first | assumption | omega | rfl), (by first | assumption | omega | rfl), (by first | assumption | omega | rfl), (by first | assumption | omega | rfl), (by first | assumption | omega | rfl)⟩
                 omega
        ·have h58 := dlt_f g58
         refine W.exit (thn_x (thn_x (blk_hit ?_)))
         refine thn_n ?_
         refine W.seq ?_
         refine W.region ?_
         refine L.ret (x_call kwal19_en29 rfl) rfl (awake21 _) ?_
         rintro v165 w165 ⟨rfl, hw⟩
         have hB := hB.carry hw
         refine L.val (x_as (v := .bool _) rfl) rfl ?_
         refine L.nil ?_
         refine thn_n ?_
         refine W.ret (fin_mk (.inr rfl) ?_)
         exact ⟨rfl, hB⟩
theorem law_list21 (A : Nat → Prop) (n : Int) (l : List Wc) (v : Value) (w : World) (_ : True) (h : WcsAt A w v l) : Ret Try.prog 6 #[.int .i64 n, v] w fun v w' => v = .bool true ∧ Bel w w' := list21 A n v l w h
end Go.Gx
