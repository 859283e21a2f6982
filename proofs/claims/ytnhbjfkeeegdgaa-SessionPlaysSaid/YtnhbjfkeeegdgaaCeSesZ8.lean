/- Sessions: the law Plays. Conditions: none. -/
import Derived.Test.YtnhbjfkeeegdgaaCeSesZ7
namespace Go.Gx
open Go.Proofs
theorem ksesz8_ag34 : aggT Try.prog 34 3 = true := by kernel_rfl
theorem ksesz8_ag36 : aggT Try.prog 36 5 = true := by kernel_rfl
theorem ksesz8_en12 : Go.Proofs.Enters Try.prog 12 := Go.Proofs.enters_of Try.func12 (by kernel_rfl) rfl
theorem ksesz8_en13 : Go.Proofs.Enters Try.prog 13 := Go.Proofs.enters_of Try.func13 (by kernel_rfl) rfl
theorem ksesz8_en14 : Go.Proofs.Enters Try.prog 14 := Go.Proofs.enters_of Try.func14 (by kernel_rfl) rfl
theorem ksesz8_en15 : Go.Proofs.Enters Try.prog 15 := Go.Proofs.enters_of Try.func15 (by kernel_rfl) rfl
theorem ksesz8_en16 : Go.Proofs.Enters Try.prog 16 := Go.Proofs.enters_of Try.func16 (by kernel_rfl) rfl
theorem ksesz8_en18 : Go.Proofs.Enters Try.prog 18 := Go.Proofs.enters_of Try.func18 (by kernel_rfl) rfl
theorem ksesz8_en19 : Go.Proofs.Enters Try.prog 19 := Go.Proofs.enters_of Try.func19 (by kernel_rfl) rfl
theorem ksesz8_en20 : Go.Proofs.Enters Try.prog 20 := Go.Proofs.enters_of Try.func20 (by kernel_rfl) rfl
theorem ksesz8_en21 : Go.Proofs.Enters Try.prog 21 := Go.Proofs.enters_of Try.func21 (by kernel_rfl) rfl
theorem ksesz8_en22 : Go.Proofs.Enters Try.prog 22 := Go.Proofs.enters_of Try.func22 (by kernel_rfl) rfl
theorem ksesz8_en37 : Go.Proofs.Enters Try.prog 37 := Go.Proofs.enters_of Try.func37 (by kernel_rfl) rfl
theorem ksesz8_en38 : Go.Proofs.Enters Try.prog 38 := Go.Proofs.enters_of Try.func38 (by kernel_rfl) rfl
theorem ksesz8_en39 : Go.Proofs.Enters Try.prog 39 := Go.Proofs.enters_of Try.func39 (by kernel_rfl) rfl
theorem ksesz8_en40 : Go.Proofs.Enters Try.prog 40 := Go.Proofs.enters_of Try.func40 (by kernel_rfl) rfl
theorem ksesz8_en41 : Go.Proofs.Enters Try.prog 41 := Go.Proofs.enters_of Try.func41 (by kernel_rfl) rfl
theorem ksesz8_en42 : Go.Proofs.Enters Try.prog 42 := Go.Proofs.enters_of Try.func42 (by kernel_rfl) rfl
theorem ksesz8_en43 : Go.Proofs.Enters Try.prog 43 := Go.Proofs.enters_of Try.func43 (by kernel_rfl) rfl
theorem ksesz8_en44 : Go.Proofs.Enters Try.prog 44 := Go.Proofs.enters_of Try.func44 (by kernel_rfl) rfl
theorem ksesz8_en45 : Go.Proofs.Enters Try.prog 45 := Go.Proofs.enters_of Try.func45 (by kernel_rfl) rfl
theorem ksesz8_en46 : Go.Proofs.Enters Try.prog 46 := Go.Proofs.enters_of Try.func46 (by kernel_rfl) rfl
theorem ksesz8_en47 : Go.Proofs.Enters Try.prog 47 := Go.Proofs.enters_of Try.func47 (by kernel_rfl) rfl
theorem ksesz8_fo34_0 : fieldOff Try.prog 34 0 = some 0 := by kernel_rfl
theorem ksesz8_fo36_0 : fieldOff Try.prog 36 0 = some 0 := by kernel_rfl
theorem ksesz8_fo36_1 : fieldOff Try.prog 36 1 = some 1 := by kernel_rfl
theorem ksesz8_fo36_2 : fieldOff Try.prog 36 2 = some 2 := by kernel_rfl
theorem ksesz8_fo93_0 : fieldOff Try.prog 93 0 = some 0 := by kernel_rfl
theorem ksesz8_fo93_1 : fieldOff Try.prog 93 1 = some 1 := by kernel_rfl
theorem ksesz8_mixed : Try.prog.follows .mixedOrders = true := by kernel_rfl
theorem ksesz8_oc22 : oneCellT Try.prog 22 = true := by kernel_rfl
theorem ksesz8_oc3 : oneCellT Try.prog 3 = true := by kernel_rfl
theorem ksesz8_oc30 : oneCellT Try.prog 30 = true := by kernel_rfl
theorem ksesz8_oc9 : oneCellT Try.prog 9 = true := by kernel_rfl
theorem ksesz8_sz22 : (Try.prog.info? 22).map (·.size) = some 1 := by kernel_rfl
theorem ksesz8_sz36 : (Try.prog.info? 36).map (·.size) = some 5 := by kernel_rfl
theorem ksesz8_zr36 : (Try.prog.info? 36).bind (·.zero) = some (Value.agg [Value.int .i64 0, Value.int .i64 0, S [], S [], Value.bool false].toArray) := by kernel_rfl
def playS (s : Bs) (a : Ac) : Bs :=
  if a.kind = 1 then (if s.isOpen a.id then s.getS a.id a.ed.key else s)
  else if a.kind = 2 then (if s.isOpen a.id then s.keysS a.id a.ed.key else s)
  else if a.kind = 3 then (if s.isOpen a.id ∧ okEd a.ed = true then s.putS a.id a.ed else s)
  else if a.kind = 4 then (if s.isOpen a.id then s.commitS a.id else s)
  else if a.kind = 5 then (if s.isOpen a.id then s.shut a.id else s)
  else s.begin_
theorem Bnd.play {N : Nat} {s : Bs} (h : Bnd N s) (a : Ac) : Bnd (N + 1) (playS s a) := by
  have hm := h.mono (Nat.le_succ N)
  unfold playS
  repeat' split
  · exact h.getS _ _
  · exact hm
  · exact h.keysS _ _
  · exact hm
  · exact h.putS _ _
  · exact hm
  · exact h.commitS _
  · exact hm
  · exact h.shut _
  · exact hm
  · exact h.begin_
def getV (s : Bs) (id : Int) (k : Str) : Str × Bool × Int := if s.isOpen id then ((s.getA id k).1, (s.getA id k).2, 0) else ([], false, 400)
theorem getV_eq (s : Bs) (id : Int) (k : Str) : (if s.isOpen id then Value.tuple #[S (s.getA id k).1, .bool (s.getA id k).2, .int .i64 0] else .tuple #[S [], .bool false, .int .i64 400]) = .tuple #[S (getV s id k).1, .bool (getV s id k).2.1, .int .i64 (getV s id k).2.2] := by
  unfold getV; split <;> rfl
theorem Bnd.flat9 {N : Nat} {s : Bs} (h : Bnd N s) (hN : N ≤ 900) : (s.first :: s.log).flatten.length ≤ 900000 := by
  rw [List.flatten_cons, List.length_append]
  have h1 := flat_le h.ll
  have h2 : s.log.length * N ≤ 900 * 900 := Nat.mul_le_mul (Nat.le_trans h.lg hN) hN
  have := h.fi
  omega
theorem plays_law (A B : Nat → Prop) (first : List Ed) (acts : List Ac) (v0 v1 : Value) (w : World) (h0 : EdsAt A w v0 first) (h1 : RecsAt AcC 5 B w v1 acts) :
    Ret Try.prog 8 #[v0, v1] w fun r w' => r = .bool true ∧ Bel w w' := by
  have hok0 := eds_ok h0
  have h0r := h0
  obtain ⟨p0, c0, row0, rfl, -⟩ := id h0
  obtain ⟨p1, c1, row1, rfl, a1, a2, a3, hR⟩ := h1
  have h1r : RecsAt AcC 5 B w (.slice p1 acts.length c1) acts := ⟨p1, c1, row1, rfl, a1, a2, a3, hR⟩
  refine ret_of_W Try.func8 rfl (Nat.le_of_ble_eq_true rfl) (res1 rfl) ?_
  have hB := Gr.refl (fun _ => False) w
  refine W.seq ?_
  refine W.region ?_
  refine L.val (x_as (v := .bool _) rfl) rfl ?_
  refine L.nil ?_
  refine thn_n ?_
  refine W.seq ?_
  refine W.seq ?_
  refine W.region ?_
  refine L.val (x_mv (v := .slice _ _ _) rfl) rfl ?_
  refine L.ret (x_call ksesz8_en12 rfl) rfl (fews_ok B _ acts _ h1r) ?_
  rintro v23 w23 ⟨rfl, hw⟩
  have hB := hB.carry hw
  refine L.val (x_not rfl) rfl ?_
  refine L.val (x_mv (v := .bool _) rfl) rfl ?_
  refine' L.group 3 26 28 28 25 false rfl ?_ ?_ ?_
  rotate_left 1
  ·intro g25 hg25
   have h25 := (not_f g25)
   refine L.gyes' (dj := 25) (b := _) rfl rfl g25 ?_
   refine L.val (x_mv (v := .slice _ _ _) rfl) rfl ?_
   refine L.gyes' (dj := 25) (b := _) rfl rfl g25 ?_
   refine L.ret (x_call ksesz8_en13 rfl) rfl (few_ok A _ first 40 _ (h0r.carry hB)) ?_
   rintro v27 w27 ⟨rfl, hq⟩
   rw [hq]
   refine L.gyes' (dj := 25) (b := _) rfl rfl g25 ?_
   refine L.val (x_not rfl) rfl ?_
   refine L.nil ?_
   refine thn_n ⟨rfl, ?_, ?_, fun _ => rfl⟩
   ·exact hg25
   ·repeat (first | exact jeq.refl _ _ _ | refine jeq.upd rfl ?_ | refine jeq.jk rfl rfl ?_)
  ·intro g25
   refine L.gno (dj := 25) (b := _) rfl rfl g25 rfl ?_
   refine L.gno (dj := 25) (b := _) rfl rfl g25 rfl ?_
   refine L.gno (dj := 25) (b := _) rfl rfl g25 rfl ?_
   refine L.nil (thn_n ⟨rfl, Gr.refl _ _, ?_⟩)
   refine ⟨?_, fun h => h.elim⟩
   repeat (first | exact jeq.refl _ _ _ | refine jeq.upd rfl ?_ | refine jeq.jk rfl rfl ?_)
  intro J25 w25 hw j25
  have hB := hB.carry hw
  refine L.val (x_or rfl j25) rfl ?_
  refine L.nil ?_
  refine thn_n ?_
  refine W.cond (b := _) rfl (fun g29 => ?_) (fun g29 => ?_)
  ·have h29 := g29
   refine W.seq ?_
   refine W.region ?_
   refine L.ret (x_call ksesz8_en14 rfl) rfl (awake40 _) ?_
   rintro v30 w30 ⟨rfl, hw⟩
   have hB := hB.carry hw
   refine L.val (x_as (v := .bool _) rfl) rfl ?_
   refine L.nil ?_
   refine thn_n ?_
   refine W.ret (thn_r (fin_mk (.inr rfl) ?_))
   exact ⟨rfl, hB⟩
  ·have h29 := g29
   simp only [Bool.or_eq_false_iff, Bool.not_eq_false'] at g29
   have hfew : FewB acts = true := by simpa using g29.1
   have hfirst : fewB first 40 = true := by simpa using g29.2
   have hal : acts.length ≤ 150 := by unfold FewB at hfew; simp only [Bool.and_eq_true, decide_eq_true_eq] at hfew; exact hfew.1
   have hfl : first.length ≤ 40 := by unfold fewB at hfirst; simp only [Bool.and_eq_true, decide_eq_true_eq] at hfirst; exact hfirst.1
   refine W.skip ?_
   refine thn_n ?_
   refine W.seq ?_
   refine W.region ?_
   refine L.val (x_mv (v := .slice _ _ _) rfl) rfl ?_
   refine L.ret (x_call ksesz8_en15 rfl) rfl (new_ok (fun _ => none) 0 _ first _ ((h0r.carry hB).mono (fun b hb h => absurd h (by omega))) (fun _ _ => rfl) (fun _ _ h => by cases h) hok0) ?_
   rintro v32 w32 ⟨b, bh, bo, lh0, ow0, rfl, hG0, hN0⟩
   have hgs := hB.size
   have hB := hB.step hG0.gr (fun i hi m => by obtain ⟨p, m⟩ := m; cases m)
   have hlow0 : ∀ j, j < w.heap.size → ow0 j = none := fun j hj => (hG0.old j (by omega)).elim (fun e => e) (fun e => e.2)
   refine L.val (x_mv (v := .slice _ _ _) rfl) rfl ?_
   refine L.ret (x_call ksesz8_en37 rfl) rfl (new_ref ow0 1 _ _ first _ (h0r.carry hB) (by omega) hN0.free) ?_
   rintro v34 w34 ⟨br, ow1, vh0, rfl, hG1, hF1⟩
   have hN1 := hN0.goes hG1 (by decide)
   obtain ⟨hlow1, hnm1⟩ := low_goes hlow0 hB.size hG1.two'
   have hB := hB.step hG1.gr (fun i hi m => hnm1 i hi (.inr m))
   refine L.val (x_as (v := .pointer _) rfl) rfl ?_
   refine L.val (x_as (v := .pointer _) rfl) rfl ?_
   refine L.nil ?_
   refine thn_n ?_
   refine W.seq ?_
   refine W.seq ?_
   refine W.region ?_
   refine L.val (x_as (v := .int _ _) rfl) rfl ?_
   refine L.nil ?_
   refine thn_n ?_
   refine W.block ?_
   refine W.loop (fun m' E w' => ∃ (k : Nat) (s : Bs) (ow : Labels) (vl : Value) (lh : List (Str × Value)) (lo : List (Int × Value)) (rows : List (List Value)) (vh vd va : Value) (rd ra : List (List Value)), m' = acts.length - k ∧ E 0 = .slice p0 first.length c0 ∧ E 1 = .slice p1 acts.length c1 ∧ E 5 = .pointer (some ⟨b, 0, none⟩) ∧ E 6 = .pointer (some ⟨br, 0, none⟩) ∧ E 7 = .int .i64 (k : Nat) ∧ (k ≤ acts.length) ∧ (Bel w w') ∧ (∀ j, j < w.heap.size → ow j = none) ∧ (BaseAt ow 0 w' b s bh bo vl lh lo rows) ∧ (RefAt ow 1 w' br s vh vd va rd ra) ∧ (Bnd k s)) (acts.length) ?_ ?_
   ·exact ⟨0, ⟨first, [], []⟩, ow1, .slice none 0 0, lh0, [], [], vh0, .slice none 0 0, .slice none 0 0, [], [], by omega, by first | rfl | exact vi (by omega), by first | rfl | exact vi (by omega), by first | rfl | exact vi (by omega), by first | rfl | exact vi (by omega), by first | rfl | exact vi (by omega), (by first | assumption | omega | rfl), (by first | assumption | omega | rfl), (by first | assumption | omega | rfl), (by first | assumption | omega | rfl), (by first | assumption | omega | rfl), (by exact ⟨by simp, by simp, hfl, by simp, by simp⟩)⟩
   ·rintro _ E wL35 ⟨k, s, ow, vl, lh, lo, rows, vh, vd, va, rd, ra, em, e0, e1, e5, e6, e7, hk, hB, hlow, hN, hF, hbd⟩
    rw [upd_self e0, upd_self e1, upd_self e5, upd_self e6, upd_self e7]
    refine W.seq ?_
    refine W.seq ?_
    refine W.region ?_
    refine L.val (x_mv (v := .int _ _) rfl) rfl ?_
    refine L.val (x_mv (v := .slice _ _ _) rfl) rfl ?_
    refine L.val (x_len_slice Try.underlying23 rfl) rfl ?_
    refine L.val (x_lss rfl rfl) rfl ?_
    refine L.nil ?_
    refine thn_n ?_
    refine W.cond (b := _) rfl (fun g38 => ?_) (fun g38 => ?_)
    ·have h38 := of_decide_eq_true g38
     have hlt : k < acts.length := by omega
     obtain ⟨ba, oa, rfl, -, hca⟩ := (hR.carry hB).elem hlt
     have hra := (hR.each k hlt).1
     have hae := (hR.each k hlt).2
     rw [hra] at hca
     obtain ⟨a, hadef⟩ : ∃ a, a = acts.getD k default := ⟨_, rfl⟩
     rw [← hadef] at hca hae
     have hsk := hB.size
     have hC := Gr.refl (fun _ => False) wL35
     have hbd9 := hbd.mono (M := 150) (by omega)
     have q1 : ∀ x ∈ s.all, x.gets.length ≤ 150 ∧ x.heads.length ≤ 150 ∧ x.eds.length ≤ 150 ∧ x.at_ ≤ s.log.length := fun x hx => ⟨(hbd9.se x hx).2.2.1, (hbd9.se x hx).2.2.2, (hbd9.se x hx).2.1, (hbd9.se x hx).1⟩
     have q2 : (s.first :: s.log).length ≤ 100000 := by have := hbd9.lg; simp only [List.length_cons]; omega
     have q4 : (s.first :: s.log).flatten.length ≤ 900000 := hbd9.flat9 (by omega)
     have q9 : s.all.length ≤ 150 := hbd9.al
     have q10 : s.log.length ≤ 150 := hbd9.lg
     have q11 := hbd9.ll
     have hn8 : ow wL35.heap.size = none := hN.free _ (Nat.le_refl _)
     have hG := (Goes.refl (t := 0) hN.free).two (td := 1)
     refine W.skip ?_
     refine thn_n ?_
     refine W.seq ?_
     refine W.block ?_
     refine W.seq ?_
     refine W.region ?_
     refine L.val (x_mv (v := .slice _ _ _) rfl) rfl ?_
     refine L.val (x_mv (v := .int _ _) rfl) rfl ?_
     refine L.val (x_ia (j := k) Try.underlying23 ksesz8_sz36 rfl rfl (by omega) (by omega)) rfl ?_
     refine L.val (x_ldn (vs := acV a) ksesz8_ag36 rfl rfl hca) rfl ?_
     refine L.alloc (cs := [Value.int .i64 0, Value.int .i64 0, S [], S [], Value.bool false]) ksesz8_zr36 rfl rfl (fun w8 bx8 hw hz8 => ?_)
     have hC := hC.carry hw
     refine L.setRow ksesz8_ag36 rfl rfl bx8 rfl rfl (acV_one _) (fun wl28 bx8 hw hzl28 => ?_)
     have hC := hC.set hw (by omega)
     have hN := hN.bel hC
     have hF := hF.bel hC
     have hG := hG.trans (Goes.bel (t := 0) hG.end_ hC).two
     have hfl28 := hN.free
     have hn8m : ∀ {t : Nat}, ¬ Mine ow t wL35.heap.size := fun ⟨p, e⟩ => by rw [hn8] at e; cases e
     refine L.nil ?_
     refine thn_n ?_
     refine W.seq ?_
     refine W.region ?_
     refine L.val (x_as (v := .bool _) rfl) rfl ?_
     refine L.nil ?_
     refine thn_n ?_
     refine W.cut (fun D' E' w' => D' = [] ∧ ∃ ow2 vl2 lh2 lo2 rows2 vh2 vd2 va2 rd2 ra2, E' 0 = .slice p0 first.length c0 ∧ E' 1 = .slice (some ⟨ba, oa, none⟩) acts.length c1 ∧ E' 5 = .pointer (some ⟨b, 0, none⟩) ∧ E' 6 = .pointer (some ⟨br, 0, none⟩) ∧ E' 7 = .int .i64 (k : Nat) ∧ E' 9 = .bool true ∧ Goes2 0 1 wL35 w' ow ow2 ∧ BaseAt ow2 0 w' b (playS s a) bh bo vl2 lh2 lo2 rows2 ∧ RefAt ow2 1 w' br (playS s a) vh2 vd2 va2 rd2 ra2) ?_ ?_
     ·refine W.seq ?_
      refine W.region ?_
      refine L.val (x_fa ksesz8_fo36_0 rfl) rfl ?_
      refine L.val (x_ld (v := .int _ _) ksesz8_oc3 rfl (bx8.cell0 rfl)) rfl ?_
      refine L.nil ?_
      refine thn_n ?_
      refine W.block ?_
      refine W.seq ?_
      refine W.region ?_
      refine L.val (x_eql rfl rfl) rfl ?_
      refine L.val (x_as (v := .bool _) rfl) rfl ?_
      refine L.nil ?_
      refine thn_n ?_
      refine W.cond (b := _) rfl (fun g53 => ?_) (fun g53 => ?_)
      ·have h53 := of_decide_eq_true g53
       have hp : playS s a = (if s.isOpen a.id then s.getS a.id a.ed.key else s) := by unfold playS; rw [if_pos h53]
       refine W.seq ?_
       refine W.region ?_
       refine L.val (x_mv (v := .pointer _) rfl) rfl ?_
       refine L.val (x_fa ksesz8_fo36_1 rfl) rfl ?_
       refine L.val (x_ld (v := .int _ _) ksesz8_oc3 rfl (bx8.cell0 rfl)) rfl ?_
       refine L.val (x_fa ksesz8_fo36_2 rfl) rfl ?_
       refine L.val (x_fa ksesz8_fo34_0 rfl) rfl ?_
       refine L.val (x_ld (v := S _) ksesz8_oc9 rfl (bx8.cell (i := 2) rfl)) rfl ?_
       refine L.ret (x_call ksesz8_en19 rfl) rfl (get_ok ow 0 b bh bo s vl lh lo rows a.id a.ed.key _ hN (fun x hx => by have := q1 x hx; omega) q2) ?_
       rintro v61 w61 ⟨hv61, hG61, hN⟩
       rw [getV_eq] at hv61
       subst hv61
       have hF := hF.goes hG61 (by decide)
       have bx8 := bx8.carryR hG61.gr hn8m
       have hG := hG.trans hG61.two
       refine L.val (x_mv (v := _) rfl) rfl ?_
       refine L.val (x_ext (v := S _) rfl rfl) rfl ?_
       refine L.val (x_ext (v := .bool _) rfl rfl) rfl ?_
       refine L.val (x_ext (v := .int _ _) rfl rfl) rfl ?_
       refine L.val (x_as (v := S _) rfl) rfl ?_
       refine L.val (x_as (v := .bool _) rfl) rfl ?_
       refine L.val (x_as (v := .int _ _) rfl) rfl ?_
       refine L.nil ?_
       refine thn_n ?_
       refine W.seq ?_
       refine W.region ?_
       refine L.val (x_mv (v := .pointer _) rfl) rfl ?_
       refine L.val (x_fa ksesz8_fo36_1 rfl) rfl ?_
       refine L.val (x_ld (v := .int _ _) ksesz8_oc3 rfl (bx8.cell0 rfl)) rfl ?_
       refine L.val (x_fa ksesz8_fo36_2 rfl) rfl ?_
       refine L.val (x_fa ksesz8_fo34_0 rfl) rfl ?_
       refine L.val (x_ld (v := S _) ksesz8_oc9 rfl (bx8.cell (i := 2) rfl)) rfl ?_
       refine L.ret (x_call ksesz8_en38 rfl) rfl (get_ref ow 1 br s vh vd va rd ra a.id a.ed.key _ hF (by omega) (fun x hx => by have := q1 x hx; omega) q4 hae.1) ?_
       rintro v72 w72 ⟨hv72, ow72, ra72, hG72, hF⟩
       rw [getV_eq] at hv72
       subst hv72
       have hN := hN.goes hG72 (by decide)
       have hG := hG.trans hG72.two'
       refine L.val (x_mv (v := _) rfl) rfl ?_
       refine L.val (x_ext (v := S _) rfl rfl) rfl ?_
       refine L.val (x_ext (v := .bool _) rfl rfl) rfl ?_
       refine L.val (x_ext (v := .int _ _) rfl rfl) rfl ?_
       refine L.val (x_as (v := S _) rfl) rfl ?_
       refine L.val (x_as (v := .bool _) rfl) rfl ?_
       refine L.val (x_as (v := .int _ _) rfl) rfl ?_
       refine L.nil ?_
       refine thn_n ?_
       refine W.region ?_
       refine L.val (x_mv (v := S _) rfl) rfl ?_
       refine L.val (x_mv (v := S _) rfl) rfl ?_
       refine L.val (x_eqs rfl rfl) rfl ?_
       refine L.val (x_mv (v := .bool _) rfl) rfl ?_
       refine' L.group0 3 80 82 82 79 true rfl ?_ ?_ ?_
       rotate_left 1
       ·intro g79
        have h79 := seq_t g79
        refine L.gyes' (dj := 79) (b := _) rfl rfl g79 ?_
        refine L.val (x_mv (v := .bool _) rfl) rfl ?_
        refine L.gyes' (dj := 79) (b := _) rfl rfl g79 ?_
        refine L.val (x_mv (v := .bool _) rfl) rfl ?_
        refine L.gyes' (dj := 79) (b := _) rfl rfl g79 ?_
        refine L.val (x_eqb Try.underlying4 rfl rfl) rfl ?_
        refine L.nil ?_
        refine thn_n ⟨rfl, rfl, ?_, rfl⟩
        repeat (first | exact jeq.refl _ _ _ | refine jeq.upd rfl ?_ | refine jeq.jk rfl rfl ?_)
       ·intro g79
        refine L.gno (dj := 79) (b := _) rfl rfl g79 rfl ?_
        refine L.gno (dj := 79) (b := _) rfl rfl g79 rfl ?_
        refine L.gno (dj := 79) (b := _) rfl rfl g79 rfl ?_
        refine L.nil (thn_n ⟨rfl, rfl, ?_⟩)
        repeat (first | exact jeq.refl _ _ _ | refine jeq.upd rfl ?_ | refine jeq.jk rfl rfl ?_)
       intro J79 j79
       refine L.val (x_and rfl j79) rfl ?_
       refine L.val (x_mv (v := .bool _) rfl) rfl ?_
       refine' L.group0 3 85 87 87 84 true rfl ?_ ?_ ?_
       rotate_left 1
       ·intro g84
        have h84 := g84
        refine L.gyes' (dj := 84) (b := _) rfl rfl g84 ?_
        refine L.val (x_mv (v := .int _ _) rfl) rfl ?_
        refine L.gyes' (dj := 84) (b := _) rfl rfl g84 ?_
        refine L.val (x_mv (v := .int _ _) rfl) rfl ?_
        refine L.gyes' (dj := 84) (b := _) rfl rfl g84 ?_
        refine L.val (x_eql rfl rfl) rfl ?_
        refine L.nil ?_
        refine thn_n ⟨rfl, rfl, ?_, rfl⟩
        repeat (first | exact jeq.refl _ _ _ | refine jeq.upd rfl ?_ | refine jeq.jk rfl rfl ?_)
       ·intro g84
        refine L.gno (dj := 84) (b := _) rfl rfl g84 rfl ?_
        refine L.gno (dj := 84) (b := _) rfl rfl g84 rfl ?_
        refine L.gno (dj := 84) (b := _) rfl rfl g84 rfl ?_
        refine L.nil (thn_n ⟨rfl, rfl, ?_⟩)
        repeat (first | exact jeq.refl _ _ _ | refine jeq.upd rfl ?_ | refine jeq.jk rfl rfl ?_)
       intro J84 j84
       refine L.val (x_and rfl j84) rfl ?_
       refine L.val (x_as (v := .bool _) rfl) rfl ?_
       refine L.nil ?_
       refine blk_n ?_
       refine thn_n ?_
       rw [hp]
       exact ⟨rfl, ow72, _, _, _, _, _, _, _, _, _, rfl, rfl, rfl, rfl, rfl, congrArg Value.bool (by simp), hG, hN, hF⟩
      ·have h53 := of_decide_eq_false g53
       refine W.seq ?_
       refine W.region ?_
       refine L.val (x_eql rfl rfl) rfl ?_
       refine L.val (x_as (v := .bool _) rfl) rfl ?_
       refine L.nil ?_
       refine thn_n ?_
       refine W.cond (b := _) rfl (fun g90 => ?_) (fun g90 => ?_)
       ·have h90 := of_decide_eq_true g90
        have hp : playS s a = (if s.isOpen a.id then s.keysS a.id a.ed.key else s) := by unfold playS; rw [if_neg h53, if_pos h90]
        refine W.seq ?_
        refine W.region ?_
        refine L.val (x_mv (v := .pointer _) rfl) rfl ?_
        refine L.val (x_fa ksesz8_fo36_1 rfl) rfl ?_
        refine L.val (x_ld (v := .int _ _) ksesz8_oc3 rfl (bx8.cell0 rfl)) rfl ?_
        refine L.val (x_fa ksesz8_fo36_2 rfl) rfl ?_
        refine L.val (x_fa ksesz8_fo34_0 rfl) rfl ?_
        refine L.val (x_ld (v := S _) ksesz8_oc9 rfl (bx8.cell (i := 2) rfl)) rfl ?_
        refine L.ret (x_call ksesz8_en20 rfl) rfl (keysOk ow 0 b bh bo s vl lh lo rows a.id a.ed.key _ hN (fun x hx => by have := q1 x hx; omega) q2 (by omega)) ?_
        rintro v98 w98 ⟨⟨u98, hv98, hS98⟩, hG98, hN⟩
        obtain ⟨p98, c98, rfl, -⟩ := id hS98
        subst hv98
        have hF := hF.goes hG98 (by decide)
        have hfr98 := hF.free
        have bx8 := bx8.carryR hG98.gr hn8m
        have hG := hG.trans hG98.two
        refine L.val (x_mv (v := _) rfl) rfl ?_
        refine L.val (x_ext (v := .slice _ _ _) rfl rfl) rfl ?_
        refine L.val (x_ext (v := .int _ _) rfl rfl) rfl ?_
        refine L.val (x_as (v := .slice _ _ _) rfl) rfl ?_
        refine L.val (x_as (v := .int _ _) rfl) rfl ?_
        refine L.nil ?_
        refine thn_n ?_
        refine W.seq ?_
        refine W.region ?_
        refine L.val (x_mv (v := .pointer _) rfl) rfl ?_
        refine L.val (x_fa ksesz8_fo36_1 rfl) rfl ?_
        refine L.val (x_ld (v := .int _ _) ksesz8_oc3 rfl (bx8.cell0 rfl)) rfl ?_
        refine L.val (x_fa ksesz8_fo36_2 rfl) rfl ?_
        refine L.val (x_fa ksesz8_fo34_0 rfl) rfl ?_
        refine L.val (x_ld (v := S _) ksesz8_oc9 rfl (bx8.cell (i := 2) rfl)) rfl ?_
        refine L.ret (x_call ksesz8_en39 rfl) rfl (keys_ref ow 1 br s vh vd va rd ra a.id a.ed.key _ hF (by omega) (fun x hx => by have := q1 x hx; omega) q4) ?_
        rintro v108 w108 ⟨⟨u108, hv108, hS108⟩, ow108, ra108, hG108, hF⟩
        obtain ⟨p108, c108, rfl, -⟩ := id hS108
        subst hv108
        have hN := hN.goes hG108 (by decide)
        have hG := hG.trans hG108.two'
        have hS98 := hS98.carryR hG108.gr (fun j ⟨p, e⟩ => Decidable.byContradiction fun hh => by rw [hfl28 j (by omega)] at e; cases e)
        refine L.val (x_mv (v := _) rfl) rfl ?_
        refine L.val (x_ext (v := .slice _ _ _) rfl rfl) rfl ?_
        refine L.val (x_ext (v := .int _ _) rfl rfl) rfl ?_
        refine L.val (x_as (v := .slice _ _ _) rfl) rfl ?_
        refine L.val (x_as (v := .int _ _) rfl) rfl ?_
        refine L.nil ?_
        refine thn_n ?_
        refine W.region ?_
        refine L.val (x_mv (v := .slice _ _ _) rfl) rfl ?_
        refine L.val (x_mv (v := .slice _ _ _) rfl) rfl ?_
        refine L.ret (x_call ksesz8_en21 rfl) rfl (same_ok _ _ _ _ _ _ _ hS98 hS108) ?_
        rintro v113 w113 ⟨rfl, hw⟩
        rw [decide_eq_true rfl]
        have hN := hN.bel hw
        have hF := hF.bel hw
        have hG := hG.trans (Goes.bel (t := 0) hG.end_ hw).two
        refine L.val (x_mv (v := .bool _) rfl) rfl ?_
        refine' L.group0 3 115 117 117 114 true rfl ?_ ?_ ?_
        rotate_left 1
        ·intro g114
         have h114 := g114
         refine L.gyes' (dj := 114) (b := _) rfl rfl g114 ?_
         refine L.val (x_mv (v := .int _ _) rfl) rfl ?_
         refine L.gyes' (dj := 114) (b := _) rfl rfl g114 ?_
         refine L.val (x_mv (v := .int _ _) rfl) rfl ?_
         refine L.gyes' (dj := 114) (b := _) rfl rfl g114 ?_
         refine L.val (x_eql rfl rfl) rfl ?_
         refine L.nil ?_
         refine thn_n ⟨rfl, rfl, ?_, rfl⟩
         repeat (first | exact jeq.refl _ _ _ | refine jeq.upd rfl ?_ | refine jeq.jk rfl rfl ?_)
        ·intro g114
         refine L.gno (dj := 114) (b := _) rfl rfl g114 rfl ?_
         refine L.gno (dj := 114) (b := _) rfl rfl g114 rfl ?_
         refine L.gno (dj := 114) (b := _) rfl rfl g114 rfl ?_
         refine L.nil (thn_n ⟨rfl, rfl, ?_⟩)
         repeat (first | exact jeq.refl _ _ _ | refine jeq.upd rfl ?_ | refine jeq.jk rfl rfl ?_)
        intro J114 j114
        refine L.val (x_and rfl j114) rfl ?_
        refine L.val (x_as (v := .bool _) rfl) rfl ?_
        refine L.nil ?_
        refine blk_n ?_
        refine thn_n ?_
        rw [hp]
        exact ⟨rfl, ow108, _, _, _, _, _, _, _, _, _, rfl, rfl, rfl, rfl, rfl, congrArg Value.bool (by simp), hG, hN, hF⟩
       ·have h90 := of_decide_eq_false g90
        refine W.seq ?_
        refine W.region ?_
        refine L.val (x_eql rfl rfl) rfl ?_
        refine L.val (x_as (v := .bool _) rfl) rfl ?_
        refine L.nil ?_
        refine thn_n ?_
        refine W.cond (b := _) rfl (fun g120 => ?_) (fun g120 => ?_)
        ·have h120 := of_decide_eq_true g120
         have hp : playS s a = (if s.isOpen a.id ∧ okEd a.ed = true then s.putS a.id a.ed else s) := by unfold playS; rw [if_neg h53, if_neg h90, if_pos h120]
         refine W.drawD (fun j => Mine ow 0 j ∨ Mine ow 1 j) (fun j => Mine ow 0 j ∨ Mine ow 1 j) 5 ksesz8_mixed (fun wD121 hw => ?_)
         have bx8 := bx8.carry hw
         have hB0 := Gr.refl (fun j => Mine ow 0 j ∨ Mine ow 1 j) wD121; have hR0 := Gr.refl (fun j => Mine ow 0 j ∨ Mine ow 1 j) wD121
         have hN := hN.bel hw
         have hF := hF.bel hw
         have hG := hG.trans (Goes.bel (t := 0) hG.end_ hw).two
         have hGD := (Goes.refl (t := 0) hN.free).two (td := 1)
         refine LAD.take0 (i := 0) rfl (by kernel_rfl) (by kernel_rfl) (by kernel_rfl) (by kernel_rfl) (fun w hw => x_mv (v := .pointer _) rfl) rfl ?_
         refine LAD.take0 (i := 1) rfl (by kernel_rfl) (by kernel_rfl) (by kernel_rfl) (by kernel_rfl) (fun w hw => x_fa ksesz8_fo36_1 rfl) rfl ?_
         refine LAD.take0 (i := 2) rfl (by kernel_rfl) (by kernel_rfl) (by kernel_rfl) (by kernel_rfl) (fun w hw => x_ld (v := .int _ _) ksesz8_oc3 rfl (hw.keepR (fun e => by rcases e with ⟨p, e⟩ | ⟨p, e⟩ <;> (have e : ow wL35.heap.size = _ := e; rw [hn8] at e; cases e)) (bx8.cell0 rfl))) rfl ?_
         refine LAD.take0 (i := 3) rfl (by kernel_rfl) (by kernel_rfl) (by kernel_rfl) (by kernel_rfl) (fun w hw => x_fa ksesz8_fo36_2 rfl) rfl ?_
         refine LAD.take0 (i := 4) rfl (by kernel_rfl) (by kernel_rfl) (by kernel_rfl) (by kernel_rfl) (fun w hw => x_ldn (vs := edV a.ed) ksesz8_ag34 rfl rfl (hw.keepRowR (fun e => by rcases e with ⟨p, e⟩ | ⟨p, e⟩ <;> (have e : ow wL35.heap.size = _ := e; rw [hn8] at e; cases e)) rfl (bx8.rowD 2 (k := 3) rfl))) rfl ?_
         refine LAD.take0 (i := 6) rfl (by kernel_rfl) (by kernel_rfl) (by kernel_rfl) (by kernel_rfl) (fun w hw => x_mv (v := .pointer _) rfl) rfl ?_
         refine LAD.take0 (i := 7) rfl (by kernel_rfl) (by kernel_rfl) (by kernel_rfl) (by kernel_rfl) (fun w hw => x_fa ksesz8_fo36_1 rfl) rfl ?_
         refine LAD.take0 (i := 8) rfl (by kernel_rfl) (by kernel_rfl) (by kernel_rfl) (by kernel_rfl) (fun w hw => x_ld (v := .int _ _) ksesz8_oc3 rfl (hw.keepR (fun e => by rcases e with ⟨p, e⟩ | ⟨p, e⟩ <;> (have e : ow wL35.heap.size = _ := e; rw [hn8] at e; cases e)) (bx8.cell0 rfl))) rfl ?_
         refine LAD.take0 (i := 9) rfl (by kernel_rfl) (by kernel_rfl) (by kernel_rfl) (by kernel_rfl) (fun w hw => x_fa ksesz8_fo36_2 rfl) rfl ?_
         refine LAD.take0 (i := 10) rfl (by kernel_rfl) (by kernel_rfl) (by kernel_rfl) (by kernel_rfl) (fun w hw => x_ldn (vs := edV a.ed) ksesz8_ag34 rfl rfl (hw.keepRowR (fun e => by rcases e with ⟨p, e⟩ | ⟨p, e⟩ <;> (have e : ow wL35.heap.size = _ := e; rw [hn8] at e; cases e)) rfl (bx8.rowD 2 (k := 3) rfl))) rfl ?_
         refine LAD.step (rs := [5]) hR0 (fun _ => hB0) (by kernel_rfl) (by simp) ⟨⟨_, rfl, ?_⟩, trivial⟩
         refine L.ret (x_call ksesz8_en40 rfl) rfl (put_ok _ 0 b bh bo s _ _ _ _ a.id a.ed _ hN (fun x hx => by have := q1 x hx; omega) hae) ?_
         rintro _ w126 ⟨rfl, ow126, hG126, hN⟩
         have hF := hF.goes hG126 (by decide)
         have hGD := hGD.trans hG126.two
         have hR0 := hGD.gr
         have hB0 := hGD.gr
         refine L.nil ?_
         refine thn_n ?_
         refine LAD.step' (rs := [11]) hR0 (by kernel_rfl) (by kernel_rfl) (by simp) ⟨⟨_, rfl, ?_⟩, trivial⟩
         refine L.ret (x_call ksesz8_en41 rfl) rfl (put_ref _ 1 br s _ _ _ _ _ a.id a.ed _ hF (by omega) (fun x hx => by have := q1 x hx; omega) hae) ?_
         rintro _ w132 ⟨rfl, ow132, ra132, hG132, hF⟩
         have hN := hN.goes hG132 (by decide)
         have hGD := hGD.trans hG132.two'
         have hR0 := hGD.gr
         have hB0 := hGD.gr
         refine L.nil ?_
         refine thn_n ?_
         refine LAD.take0 (i := 12) rfl (by kernel_rfl) (by kernel_rfl) (by kernel_rfl) (by kernel_rfl) (fun w hw => x_eql rfl rfl) rfl ?_
         refine LAD.take0 (i := 13) rfl (by kernel_rfl) (by kernel_rfl) (by kernel_rfl) (by kernel_rfl) (fun w hw => x_as (v := .bool _) rfl) rfl ?_
         refine LAD.done (by kernel_rfl) (by kernel_rfl) hR0 ?_
         have bx8 := trivial
         refine blk_n ?_
         refine thn_n ?_
         rw [hp]
         exact ⟨rfl, _, _, _, _, _, _, _, _, _, _, rfl, rfl, rfl, rfl, rfl, congrArg Value.bool (by simp), hG.trans hGD, hN, hF⟩
        ·have h120 := of_decide_eq_false g120
         refine W.seq ?_
         refine W.region ?_
         refine L.val (x_eql rfl rfl) rfl ?_
         refine L.val (x_as (v := .bool _) rfl) rfl ?_
         refine L.nil ?_
         refine thn_n ?_
         refine W.cond (b := _) rfl (fun g135 => ?_) (fun g135 => ?_)
         ·have h135 := of_decide_eq_true g135
          have hp : playS s a = (if s.isOpen a.id then s.commitS a.id else s) := by unfold playS; rw [if_neg h53, if_neg h90, if_neg h120, if_pos h135]
          refine W.drawD (fun j => Mine ow 0 j ∨ Mine ow 1 j) (fun j => Mine ow 0 j ∨ Mine ow 1 j) 3 ksesz8_mixed (fun wD136 hw => ?_)
          have bx8 := bx8.carry hw
          have hB0 := Gr.refl (fun j => Mine ow 0 j ∨ Mine ow 1 j) wD136; have hR0 := Gr.refl (fun j => Mine ow 0 j ∨ Mine ow 1 j) wD136
          have hN := hN.bel hw
          have hF := hF.bel hw
          have hG := hG.trans (Goes.bel (t := 0) hG.end_ hw).two
          have hGD := (Goes.refl (t := 0) hN.free).two (td := 1)
          refine LAD.take0 (i := 0) rfl (by kernel_rfl) (by kernel_rfl) (by kernel_rfl) (by kernel_rfl) (fun w hw => x_mv (v := .pointer _) rfl) rfl ?_
          refine LAD.take0 (i := 1) rfl (by kernel_rfl) (by kernel_rfl) (by kernel_rfl) (by kernel_rfl) (fun w hw => x_fa ksesz8_fo36_1 rfl) rfl ?_
          refine LAD.take0 (i := 2) rfl (by kernel_rfl) (by kernel_rfl) (by kernel_rfl) (by kernel_rfl) (fun w hw => x_ld (v := .int _ _) ksesz8_oc3 rfl (hw.keepR (fun e => by rcases e with ⟨p, e⟩ | ⟨p, e⟩ <;> (have e : ow wL35.heap.size = _ := e; rw [hn8] at e; cases e)) (bx8.cell0 rfl))) rfl ?_
          refine LAD.take0 (i := 4) rfl (by kernel_rfl) (by kernel_rfl) (by kernel_rfl) (by kernel_rfl) (fun w hw => x_mv (v := .pointer _) rfl) rfl ?_
          refine LAD.take0 (i := 5) rfl (by kernel_rfl) (by kernel_rfl) (by kernel_rfl) (by kernel_rfl) (fun w hw => x_fa ksesz8_fo36_1 rfl) rfl ?_
          refine LAD.take0 (i := 6) rfl (by kernel_rfl) (by kernel_rfl) (by kernel_rfl) (by kernel_rfl) (fun w hw => x_ld (v := .int _ _) ksesz8_oc3 rfl (hw.keepR (fun e => by rcases e with ⟨p, e⟩ | ⟨p, e⟩ <;> (have e : ow wL35.heap.size = _ := e; rw [hn8] at e; cases e)) (bx8.cell0 rfl))) rfl ?_
          refine LAD.step (rs := [3]) hR0 (fun _ => hB0) (by kernel_rfl) (by simp) ⟨⟨_, rfl, ?_⟩, trivial⟩
          refine L.ret (x_call ksesz8_en42 rfl) rfl (commit_ok _ 0 b bh bo s _ _ _ _ a.id _ hN (fun x hx => by have := q1 x hx; omega) (by omega)) ?_
          rintro _ w139 ⟨rfl, ow139, vl139, lh139, lo139, rows139, hG139, hN⟩
          have hF := hF.goes hG139 (by decide)
          have hGD := hGD.trans hG139.two
          have hR0 := hGD.gr
          have hB0 := hGD.gr
          refine L.nil ?_
          refine thn_n ?_
          refine LAD.step' (rs := [7]) hR0 (by kernel_rfl) (by kernel_rfl) (by simp) ⟨⟨_, rfl, ?_⟩, trivial⟩
          refine L.ret (x_call ksesz8_en43 rfl) rfl (commit_ref _ 1 br s _ _ _ _ _ a.id _ hF (by omega) (fun x hx => by have := q1 x hx; omega) (by omega) (fun l hl => by have := q11 l hl; omega) q4) ?_
          rintro _ w143 ⟨rfl, ow143, vh143, vd143, rd143, ra143, hG143, hF⟩
          have hN := hN.goes hG143 (by decide)
          have hGD := hGD.trans hG143.two'
          have hR0 := hGD.gr
          have hB0 := hGD.gr
          refine L.nil ?_
          refine thn_n ?_
          refine LAD.take0 (i := 8) rfl (by kernel_rfl) (by kernel_rfl) (by kernel_rfl) (by kernel_rfl) (fun w hw => x_eql rfl rfl) rfl ?_
          refine LAD.take0 (i := 9) rfl (by kernel_rfl) (by kernel_rfl) (by kernel_rfl) (by kernel_rfl) (fun w hw => x_as (v := .bool _) rfl) rfl ?_
          refine LAD.done (by kernel_rfl) (by kernel_rfl) hR0 ?_
          have bx8 := trivial
          refine blk_n ?_
          refine thn_n ?_
          rw [hp]
          exact ⟨rfl, _, _, _, _, _, _, _, _, _, _, rfl, rfl, rfl, rfl, rfl, congrArg Value.bool (by simp), hG.trans hGD, hN, hF⟩
         ·have h135 := of_decide_eq_false g135
          refine W.seq ?_
          refine W.region ?_
          refine L.val (x_eql rfl rfl) rfl ?_
          refine L.val (x_as (v := .bool _) rfl) rfl ?_
          refine L.nil ?_
          refine thn_n ?_
          refine W.cond (b := _) rfl (fun g146 => ?_) (fun g146 => ?_)
          ·have h146 := of_decide_eq_true g146
           have hp : playS s a = (if s.isOpen a.id then s.shut a.id else s) := by unfold playS; rw [if_neg h53, if_neg h90, if_neg h120, if_neg h135, if_pos h146]
           refine W.drawD (fun j => Mine ow 0 j ∨ Mine ow 1 j) (fun j => Mine ow 0 j ∨ Mine ow 1 j) 3 ksesz8_mixed (fun wD147 hw => ?_)
           have bx8 := bx8.carry hw
           have hB0 := Gr.refl (fun j => Mine ow 0 j ∨ Mine ow 1 j) wD147; have hR0 := Gr.refl (fun j => Mine ow 0 j ∨ Mine ow 1 j) wD147
           have hN := hN.bel hw
           have hF := hF.bel hw
           have hG := hG.trans (Goes.bel (t := 0) hG.end_ hw).two
           have hGD := (Goes.refl (t := 0) hN.free).two (td := 1)
           refine LAD.take0 (i := 0) rfl (by kernel_rfl) (by kernel_rfl) (by kernel_rfl) (by kernel_rfl) (fun w hw => x_mv (v := .pointer _) rfl) rfl ?_
           refine LAD.take0 (i := 1) rfl (by kernel_rfl) (by kernel_rfl) (by kernel_rfl) (by kernel_rfl) (fun w hw => x_fa ksesz8_fo36_1 rfl) rfl ?_
           refine LAD.take0 (i := 2) rfl (by kernel_rfl) (by kernel_rfl) (by kernel_rfl) (by kernel_rfl) (fun w hw => x_ld (v := .int _ _) ksesz8_oc3 rfl (hw.keepR (fun e => by rcases e with ⟨p, e⟩ | ⟨p, e⟩ <;> (have e : ow wL35.heap.size = _ := e; rw [hn8] at e; cases e)) (bx8.cell0 rfl))) rfl ?_
           refine LAD.take0 (i := 4) rfl (by kernel_rfl) (by kernel_rfl) (by kernel_rfl) (by kernel_rfl) (fun w hw => x_mv (v := .pointer _) rfl) rfl ?_
           refine LAD.take0 (i := 5) rfl (by kernel_rfl) (by kernel_rfl) (by kernel_rfl) (by kernel_rfl) (fun w hw => x_fa ksesz8_fo36_1 rfl) rfl ?_
           refine LAD.take0 (i := 6) rfl (by kernel_rfl) (by kernel_rfl) (by kernel_rfl) (by kernel_rfl) (fun w hw => x_ld (v := .int _ _) ksesz8_oc3 rfl (hw.keepR (fun e => by rcases e with ⟨p, e⟩ | ⟨p, e⟩ <;> (have e : ow wL35.heap.size = _ := e; rw [hn8] at e; cases e)) (bx8.cell0 rfl))) rfl ?_
           refine LAD.step (rs := [3]) hR0 (fun _ => hB0) (by kernel_rfl) (by simp) ⟨⟨_, rfl, ?_⟩, trivial⟩
           refine L.ret (x_call ksesz8_en22 rfl) rfl (abort_ok _ 0 b bh bo s _ _ _ _ a.id _ hN) ?_
           rintro _ w150 ⟨rfl, hG150, lo150, hN⟩
           have hF := hF.goes hG150 (by decide)
           have hGD := hGD.trans hG150.two
           have hR0 := hGD.gr
           have hB0 := hGD.gr
           refine L.nil ?_
           refine thn_n ?_
           refine LAD.step' (rs := [7]) hR0 (by kernel_rfl) (by kernel_rfl) (by simp) ⟨⟨_, rfl, ?_⟩, trivial⟩
           refine L.ret (x_call ksesz8_en44 rfl) rfl (abort_ref _ 1 br s _ _ _ _ _ a.id _ hF (by omega)) ?_
           rintro _ w154 ⟨rfl, hG154, ra154, hF⟩
           have hN := hN.goes hG154 (by decide)
           have hGD := hGD.trans hG154.two'
           have hR0 := hGD.gr
           have hB0 := hGD.gr
           refine L.nil ?_
           refine thn_n ?_
           refine LAD.take0 (i := 8) rfl (by kernel_rfl) (by kernel_rfl) (by kernel_rfl) (by kernel_rfl) (fun w hw => x_eql rfl rfl) rfl ?_
           refine LAD.take0 (i := 9) rfl (by kernel_rfl) (by kernel_rfl) (by kernel_rfl) (by kernel_rfl) (fun w hw => x_as (v := .bool _) rfl) rfl ?_
           refine LAD.done (by kernel_rfl) (by kernel_rfl) hR0 ?_
           have bx8 := trivial
           refine blk_n ?_
           refine thn_n ?_
           rw [hp]
           exact ⟨rfl, _, _, _, _, _, _, _, _, _, _, rfl, rfl, rfl, rfl, rfl, congrArg Value.bool (by simp), hG.trans hGD, hN, hF⟩
          ·have h146 := of_decide_eq_false g146
           have hp : playS s a = s.begin_ := by unfold playS; rw [if_neg h53, if_neg h90, if_neg h120, if_neg h135, if_neg h146]
           refine W.region ?_
           refine L.val (x_mv (v := .pointer _) rfl) rfl ?_
           refine L.ret (x_call ksesz8_en18 rfl) rfl (begin_ok ow 0 b bh bo s vl lh lo rows _ hN (by omega)) ?_
           rintro _ w48 ⟨rfl, ow48, lo48, hG48, hN⟩
           have hF := hF.goes hG48 (by decide)
           have hG := hG.trans hG48.two
           refine L.val (x_mv (v := .pointer _) rfl) rfl ?_
           refine L.ret (x_call ksesz8_en45 rfl) rfl (begin_ref ow48 1 br s vh vd va rd ra _ hF (by omega)) ?_
           rintro _ w50 ⟨rfl, ow50, va50, ra50, hG50, hF⟩
           have hN := hN.goes hG50 (by decide)
           have hG := hG.trans hG50.two'
           refine L.val (x_eql rfl rfl) rfl ?_
           refine L.val (x_as (v := .bool _) rfl) rfl ?_
           refine L.nil ?_
           refine blk_n ?_
           refine thn_n ?_
           rw [hp]
           exact ⟨rfl, ow50, _, _, _, _, _, _, _, _, _, rfl, rfl, rfl, rfl, rfl, congrArg Value.bool (by simp), hG, hN, hF⟩
     ·rintro D E w156 ⟨rfl, ow2, vl2, lh2, lo2, rows2, vh2, vd2, va2, rd2, ra2, e0, e1, e5, e6, e7, e9, hG2, hN2, hF2⟩
      rw [upd_self e0, upd_self e1, upd_self e5, upd_self e6, upd_self e7, upd_self e9]
      obtain ⟨hlow2, hnm⟩ := low_goes hlow hsk hG2
      have hB := hB.step hG2.gr (fun i hi m => hnm i hi m)
      have hbd2 := (hbd.play (acts.getD k default)).mono (M := 150) (by omega)
      rw [hadef] at hN2 hF2
      obtain ⟨ph2, ch2, rfl, -⟩ := eds_holds hF2.held
      have hbr := hF2.box
      refine W.seq ?_
      refine W.drawF 12 ksesz8_mixed (fun wF156 hB0 => ?_)
      refine LAC.takeN (i := 0) rfl (by kernel_rfl) (by kernel_rfl) (by kernel_rfl) (by kernel_rfl) (fun w hw => x_mv (v := .bool _) rfl) rfl ?_
      refine LAC.takeN (i := 1) rfl (by kernel_rfl) (by kernel_rfl) (by kernel_rfl) (by kernel_rfl) (fun w hw => x_not rfl) rfl ?_
      refine LAC.takeN (i := 2) rfl (by kernel_rfl) (by kernel_rfl) (by kernel_rfl) (by kernel_rfl) (fun w hw => x_mv (v := .bool _) rfl) rfl ?_
      refine LAC.split (dj := 158) (b := _) rfl (fun g158 => ?_) (fun g158 => ?_)
      ·have h158 := (not_t g158)
       exact absurd g158 (by decide)
      ·have h158 := (not_f g158)
       refine LAC.takeG (i := 3) rfl (by kernel_rfl) (by kernel_rfl) (by kernel_rfl) (by kernel_rfl) (dj := 158) (b := _) rfl rfl g158 (fun w hw => x_mv (v := .pointer _) rfl) rfl ?_
       refine LAC.takeG (i := 5) rfl (by kernel_rfl) (by kernel_rfl) (by kernel_rfl) (by kernel_rfl) (dj := 158) (b := _) rfl rfl g158 (fun w hw => x_mv (v := .pointer _) rfl) rfl ?_
       refine LAC.takeG (i := 6) rfl (by kernel_rfl) (by kernel_rfl) (by kernel_rfl) (by kernel_rfl) (dj := 158) (b := _) rfl rfl g158 (fun w hw => x_nil rfl) rfl ?_
       refine LAC.takeG (i := 7) rfl (by kernel_rfl) (by kernel_rfl) (by kernel_rfl) (by kernel_rfl) (dj := 158) (b := _) rfl rfl g158 (fun w hw => x_fa ksesz8_fo93_0 rfl) rfl ?_
       refine LAC.takeG (i := 8) rfl (by kernel_rfl) (by kernel_rfl) (by kernel_rfl) (by kernel_rfl) (dj := 158) (b := _) rfl rfl g158 (fun w hw => x_ld (v := .slice _ _ _) ksesz8_oc22 rfl (hw.keep (hbr.cell0 rfl))) rfl ?_
       refine LAC.step (rs := [4]) (fun _ => hB0) (by kernel_rfl) (by simp) ⟨⟨_, rfl, ?_⟩, trivial⟩
       refine L.gyes' (dj := 158) (b := _) rfl rfl g158 ?_
       refine L.ret (x_call ksesz8_en47 rfl) rfl (state_ok ow2 0 b bh bo (playS s (acts.getD k default)) vl2 lh2 lo2 rows2 _ (hN2.bel hB0) (by have := hbd2.lg; omega) (hbd2.flat (by omega))) ?_
       rintro v160 w160 ⟨hE160, hw⟩
       have hB0 := hB0.carry hw
       obtain ⟨p160, c160, rfl, -⟩ := eds_holds hE160
       refine L.nil ?_
       refine thn_n ?_
       refine LAC.step (rs := [9]) (fun _ => hB0) (by kernel_rfl) (by simp) ⟨⟨_, rfl, ?_⟩, trivial⟩
       refine L.gyes' (dj := 158) (b := _) rfl rfl g158 ?_
       refine L.ret (x_call ksesz8_en46 rfl) rfl (same_eds _ _ _ _ _ _ _ hE160 (hF2.held.carry hB0)) ?_
       rintro v165 w165 ⟨hv165, hw⟩
       have hB0 := hB0.carry hw; have hE160 := hE160.carry hw
       rw [decide_eq_true rfl] at hv165
       subst hv165
       refine L.nil ?_
       refine thn_n ?_
       refine LAC.takeG (i := 10) rfl (by kernel_rfl) (by kernel_rfl) (by kernel_rfl) (by kernel_rfl) (dj := 158) (b := _) rfl rfl g158 (fun w hw => x_not rfl) rfl ?_
       refine LAC.takeN (i := 11) rfl (by kernel_rfl) (by kernel_rfl) (by kernel_rfl) (by kernel_rfl) (fun w hw => x_pick_f (v := .bool _) (congrArg Value.bool g158) rfl) rfl ?_
       refine LAC.doneF (by kernel_rfl) hB0 ?_
       have hB := hB.carry hB0
       have hN2 := hN2.bel hB0
       have hF2 := hF2.bel hB0
       refine thn_n ?_
       refine W.cond (b := _) rfl (fun g166 => ?_) (fun g166 => ?_)
       ·have h166 := (not_t g166)
        exact absurd g166 (by decide)
       ·have h166 := (not_f g166)
        refine W.skip ?_
        refine blk_n ?_
        refine thn_n ?_
        refine W.region ?_
        refine L.val (x_mv (v := .int _ _) rfl) rfl ?_
        refine L.val (x_add rfl rfl (wr64 (by omega))) rfl ?_
        refine L.val (x_as (v := .int _ _) rfl) rfl ?_
        refine L.nil ?_
        refine thn_n ⟨rfl, ?_⟩
        refine ⟨_, ?_, k + 1, playS s (acts.getD k default), ow2, vl2, lh2, lo2, rows2, _, vd2, va2, rd2, ra2, rfl, by first | rfl | exact vi (by omega), by first | rfl | exact vi (by omega), by first | rfl | exact vi (by omega), by first | rfl | exact vi (by omega), by first | rfl | exact vi (by omega), (by first | assumption | omega | rfl), (by first | assumption | omega | rfl), (by exact hlow2), (by exact hN2), (by exact hF2), (by exact hbd.play _)⟩
        omega
    ·have h38 := dlt_f g38
     have hk2 : k = acts.length := by omega
     have hbd9 := hbd.mono (M := 150) (by omega)
     have q10 := hbd9.lg
     have hbr := hF.box
     obtain ⟨pd, cd, rowd, rfl, hd1, hd2, hd3, hDR⟩ : RecsAt EsC 1 (fun _ => False) wL35 vd s.log := hF.rows.done (A' := fun _ => False) hF.done.1 (by omega) (fun _ f => f.elim) (fun _ _ f => f)
     refine W.exit (thn_x (thn_x (blk_hit ?_)))
     refine thn_n ?_
     refine W.seq ?_
     refine W.region ?_
     refine L.val (x_mv (v := .pointer _) rfl) rfl ?_
     refine L.ret (x_call ksesz8_en16 rfl) rfl (log_ok ow 0 b bh bo s _ lh lo rows _ hN (by omega) (fun l hl => by have := hbd9.ll l hl; omega)) ?_
     rintro v169 w169 ⟨hL, hw⟩
     have hB := hB.carry hw; have hbr := hbr.carry hw; have hDR := hDR.carry hw
     obtain ⟨p20, c20, row20, rfl, l1, l2, l3, hLR⟩ := id hL
     refine L.val (x_as (v := .slice _ _ _) rfl) rfl ?_
     refine L.nil ?_
     refine thn_n ?_
     refine W.seq ?_
     refine W.seq ?_
     refine W.region ?_
     refine L.val (x_as (v := .int _ _) rfl) rfl ?_
     refine L.nil ?_
     refine thn_n ?_
     refine W.block ?_
     refine W.loop (fun m' E w' => ∃ (j : Nat), m' = s.log.length - j ∧ E 6 = .pointer (some ⟨br, 0, none⟩) ∧ E 20 = .slice p20 s.log.length c20 ∧ E 21 = .int .i64 (j : Nat) ∧ (j ≤ s.log.length) ∧ (Bel w w') ∧ (Box w' br 93 [vh, .slice pd s.log.length cd, va]) ∧ (RecRow EsC 1 (fun _ => False) w' pd rowd s.log) ∧ (RecRow EsC 1 (fun k => k < wL35.heap.size) w' p20 row20 s.log)) (s.log.length) ?_ ?_
     ·exact ⟨0, by omega, by first | rfl | exact vi (by omega), by first | rfl | exact vi (by omega), by first | rfl | exact vi (by omega), (by first | assumption | omega | rfl), (by first | assumption | omega | rfl), (by first | assumption | omega | rfl), (by first | assumption | omega | rfl), (by first | assumption | omega | rfl)⟩
     ·rintro _ E wL170 ⟨j, em, e6, e20, e21, hj, hB, hbr, hDR, hLR⟩
      rw [upd_self e6, upd_self e20, upd_self e21]
      refine W.seq ?_
      refine W.seq ?_
      refine W.region ?_
      refine L.val (x_mv (v := .int _ _) rfl) rfl ?_
      refine L.val (x_mv (v := .slice _ _ _) rfl) rfl ?_
      refine L.val (x_len_slice Try.underlying30 rfl) rfl ?_
      refine L.val (x_lss rfl rfl) rfl ?_
      refine L.val (x_mv (v := .bool _) rfl) rfl ?_
      refine L.splitat (dj := 174) (b := _) rfl (fun g174 => ?_) (fun g174 => ?_)
      ·have h174 := of_decide_eq_true g174
       refine L.gyes' (dj := 174) (b := _) rfl rfl g174 ?_
       refine L.val (x_mv (v := .slice _ _ _) rfl) rfl ?_
       refine L.gyes' (dj := 174) (b := _) rfl rfl g174 ?_
       refine L.val (x_len_slice Try.underlying30 rfl) rfl ?_
       refine L.gyes' (dj := 174) (b := _) rfl rfl g174 ?_
       refine L.val (x_mv (v := .pointer _) rfl) rfl ?_
       refine L.gyes' (dj := 174) (b := _) rfl rfl g174 ?_
       refine L.val (x_nil rfl) rfl ?_
       refine L.gyes' (dj := 174) (b := _) rfl rfl g174 ?_
       refine L.val (x_fa ksesz8_fo93_1 rfl) rfl ?_
       refine L.gyes' (dj := 174) (b := _) rfl rfl g174 ?_
       refine L.val (x_ld (v := .slice _ _ _) ksesz8_oc30 rfl (hbr.cell0 rfl)) rfl ?_
       refine L.gyes' (dj := 174) (b := _) rfl rfl g174 ?_
       refine L.val (x_len_slice Try.underlying30 rfl) rfl ?_
       refine L.gyes' (dj := 174) (b := _) rfl rfl g174 ?_
       refine L.val (x_eql rfl rfl) rfl ?_
       refine L.val (x_pick_t (v := .bool _) (congrArg Value.bool g174) rfl) rfl ?_
       refine L.nil ?_
       refine thn_n ?_
       refine W.cond (b := _) rfl (fun g182 => ?_) (fun g182 => ?_)
       ·have h182 := of_decide_eq_true g182
        have hlt : j < s.log.length := by omega
        refine W.skip ?_
        refine thn_n ?_
        refine W.seq ?_
        refine W.block ?_
        refine W.seq ?_
        refine W.drawF 13 ksesz8_mixed (fun wF186 hB0 => ?_)
        have hlt : j < s.log.length := by omega
        obtain ⟨bm, om, epm, -, hcm⟩ := hLR.elem hlt
        obtain ⟨vk, hvk, hEk⟩ := hLR.each j hlt
        have hcm := hcm 0 (by omega)
        rw [hvk] at hcm
        obtain ⟨pk, ck, rfl, -⟩ := eds_holds hEk
        obtain ⟨bn, on, epn, -, hcn⟩ := hDR.elem hlt
        obtain ⟨vn, hvn, hEn⟩ := hDR.each j hlt
        have hcn := hcn 0 (by omega)
        rw [hvn] at hcn
        obtain ⟨pn, cn, rfl, -⟩ := eds_holds hEn
        subst epm
        subst epn
        refine LAC.takeN (i := 0) rfl (by kernel_rfl) (by kernel_rfl) (by kernel_rfl) (by kernel_rfl) (fun w hw => x_mv (v := .slice _ _ _) rfl) rfl ?_
        refine LAC.takeN (i := 1) rfl (by kernel_rfl) (by kernel_rfl) (by kernel_rfl) (by kernel_rfl) (fun w hw => x_mv (v := .int _ _) rfl) rfl ?_
        refine LAC.takeN (i := 2) rfl (by kernel_rfl) (by kernel_rfl) (by kernel_rfl) (by kernel_rfl) (fun w hw => x_ia1 (j := j) Try.underlying30 ksesz8_sz22 rfl rfl (by omega) (by omega)) rfl ?_
        refine LAC.takeN (i := 3) rfl (by kernel_rfl) (by kernel_rfl) (by kernel_rfl) (by kernel_rfl) (fun w hw => x_ld (v := .slice _ _ _) ksesz8_oc22 rfl (hw.keep (by simpa using hcm))) rfl ?_
        refine LAC.takeN (i := 4) rfl (by kernel_rfl) (by kernel_rfl) (by kernel_rfl) (by kernel_rfl) (fun w hw => x_mv (v := .pointer _) rfl) rfl ?_
        refine LAC.takeN (i := 5) rfl (by kernel_rfl) (by kernel_rfl) (by kernel_rfl) (by kernel_rfl) (fun w hw => x_nil rfl) rfl ?_
        refine LAC.takeN (i := 6) rfl (by kernel_rfl) (by kernel_rfl) (by kernel_rfl) (by kernel_rfl) (fun w hw => x_fa ksesz8_fo93_1 rfl) rfl ?_
        refine LAC.takeN (i := 7) rfl (by kernel_rfl) (by kernel_rfl) (by kernel_rfl) (by kernel_rfl) (fun w hw => x_ld (v := .slice _ _ _) ksesz8_oc30 rfl (hw.keep (hbr.cell0 rfl))) rfl ?_
        refine LAC.takeN (i := 8) rfl (by kernel_rfl) (by kernel_rfl) (by kernel_rfl) (by kernel_rfl) (fun w hw => x_mv (v := .int _ _) rfl) rfl ?_
        refine LAC.takeN (i := 9) rfl (by kernel_rfl) (by kernel_rfl) (by kernel_rfl) (by kernel_rfl) (fun w hw => x_ia1 (j := j) Try.underlying30 ksesz8_sz22 rfl rfl (by omega) (by omega)) rfl ?_
        refine LAC.takeN (i := 10) rfl (by kernel_rfl) (by kernel_rfl) (by kernel_rfl) (by kernel_rfl) (fun w hw => x_ld (v := .slice _ _ _) ksesz8_oc22 rfl (hw.keep (by simpa using hcn))) rfl ?_
        refine LAC.step (rs := [11]) (fun _ => hB0) (by kernel_rfl) (by simp) ⟨⟨_, rfl, ?_⟩, trivial⟩
        refine L.ret (x_call ksesz8_en46 rfl) rfl (same_eds _ _ _ _ _ _ _ (hEk.carry hB0) (hEn.carry hB0)) ?_
        rintro v197 w197 ⟨hv197, hw⟩
        have hB0 := hB0.carry hw
        rw [decide_eq_true rfl] at hv197
        subst hv197
        refine L.nil ?_
        refine thn_n ?_
        refine LAC.takeN (i := 12) rfl (by kernel_rfl) (by kernel_rfl) (by kernel_rfl) (by kernel_rfl) (fun w hw => x_not rfl) rfl ?_
        refine LAC.doneF (by kernel_rfl) hB0 ?_
        have hB := hB.carry hB0; have hbr := hbr.carry hB0; have hDR := hDR.carry hB0; have hLR := hLR.carry hB0
        refine thn_n ?_
        refine W.cond (b := _) rfl (fun g198 => ?_) (fun g198 => ?_)
        ·have h198 := (not_t g198)
         exact absurd g198 (by decide)
        ·have h198 := (not_f g198)
         refine W.skip ?_
         refine blk_n ?_
         refine thn_n ?_
         refine W.region ?_
         refine L.val (x_mv (v := .int _ _) rfl) rfl ?_
         refine L.val (x_add rfl rfl (wr64 (by omega))) rfl ?_
         refine L.val (x_as (v := .int _ _) rfl) rfl ?_
         refine L.nil ?_
         refine thn_n ⟨rfl, ?_⟩
         refine ⟨_, ?_, j + 1, rfl, by first | rfl | exact vi (by omega), by first | rfl | exact vi (by omega), by first | rfl | exact vi (by omega), (by first | assumption | omega | rfl), (by first | assumption | omega | rfl), (by first | assumption | omega | rfl), (by first | assumption | omega | rfl), (by first | assumption | omega | rfl)⟩
         omega
       ·have h182 := of_decide_eq_false g182
        exact absurd rfl h182
      ·have h174 := dlt_f g174
       refine L.gno (dj := 174) (b := _) rfl rfl g174 rfl ?_
       refine L.gno (dj := 174) (b := _) rfl rfl g174 rfl ?_
       refine L.gno (dj := 174) (b := _) rfl rfl g174 rfl ?_
       refine L.gno (dj := 174) (b := _) rfl rfl g174 rfl ?_
       refine L.gno (dj := 174) (b := _) rfl rfl g174 rfl ?_
       refine L.gno (dj := 174) (b := _) rfl rfl g174 rfl ?_
       refine L.gno (dj := 174) (b := _) rfl rfl g174 rfl ?_
       refine L.gno (dj := 174) (b := _) rfl rfl g174 rfl ?_
       refine L.val (x_pick_f (v := .bool _) (congrArg Value.bool g174) rfl) rfl ?_
       refine L.nil ?_
       refine thn_n ?_
       refine W.cond (b := false) rfl (fun h => nomatch h) (fun _ => ?_)
       refine W.exit (thn_x (thn_x (blk_hit ?_)))
       refine thn_n ?_
       refine W.seq ?_
       refine W.region ?_
       refine L.val (x_mv (v := .slice _ _ _) rfl) rfl ?_
       refine L.val (x_len_slice Try.underlying30 rfl) rfl ?_
       refine L.val (x_mv (v := .pointer _) rfl) rfl ?_
       refine L.val (x_nil rfl) rfl ?_
       refine L.val (x_fa ksesz8_fo93_1 rfl) rfl ?_
       refine L.val (x_ld (v := .slice _ _ _) ksesz8_oc30 rfl (hbr.cell0 rfl)) rfl ?_
       refine L.val (x_len_slice Try.underlying30 rfl) rfl ?_
       refine L.val (x_eql rfl rfl) rfl ?_
       refine L.val (x_mv (v := .bool _) rfl) rfl ?_
       refine' L.group 1 208 208 208 207 true rfl ?_ ?_ ?_
       rotate_left 1
       ·intro g207 hg207
        have h207 := of_decide_eq_true g207
        refine L.gyes' (dj := 207) (b := _) rfl rfl g207 ?_
        refine L.ret (x_call ksesz8_en14 rfl) rfl (awake40 _) ?_
        rintro v208 w208 ⟨rfl, hw⟩
        have hB := hB.carry hw; have hbr := hbr.carry hw; have hDR := hDR.carry hw; have hLR := hLR.carry hw; have hg207 := hg207.carry hw
        refine L.nil ?_
        refine thn_n ⟨rfl, ?_, ?_, fun _ => rfl⟩
        ·exact hg207
        ·repeat (first | exact jeq.refl _ _ _ | refine jeq.upd rfl ?_ | refine jeq.jk rfl rfl ?_)
       ·intro g207
        refine L.gno (dj := 207) (b := _) rfl rfl g207 rfl ?_
        refine L.nil (thn_n ⟨rfl, Gr.refl _ _, ?_⟩)
        refine ⟨?_, fun h => h.elim⟩
        repeat (first | exact jeq.refl _ _ _ | refine jeq.upd rfl ?_ | refine jeq.jk rfl rfl ?_)
       intro J207 w207 hw j207
       have hB := hB.carry hw; have hbr := hbr.carry hw; have hDR := hDR.carry hw; have hLR := hLR.carry hw
       refine L.val (x_and rfl j207) rfl ?_
       refine L.val (x_as (v := .bool _) rfl) rfl ?_
       refine L.nil ?_
       refine thn_n ?_
       refine W.ret (fin_mk (.inr rfl) ?_)
       exact ⟨congrArg Value.bool (by simp), hB⟩
end Go.Gx
