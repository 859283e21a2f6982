/- The law of a store's map. Conditions: none. -/
import Derived.Test.YtfbcmonbmkafpaaGreatCmStoR
namespace Go.Gx
open Go.Proofs Go.Sort
theorem kstos_ag52 : aggT Tryz.prog 52 7 = true := by kernel_rfl
theorem kstos_en10 : Go.Proofs.Enters Tryz.prog 10 := Go.Proofs.enters_of Tryz.func10 (by kernel_rfl) rfl
theorem kstos_en11 : Go.Proofs.Enters Tryz.prog 11 := Go.Proofs.enters_of Tryz.func11 (by kernel_rfl) rfl
theorem kstos_en12 : Go.Proofs.Enters Tryz.prog 12 := Go.Proofs.enters_of Tryz.func12 (by kernel_rfl) rfl
theorem kstos_en13 : Go.Proofs.Enters Tryz.prog 13 := Go.Proofs.enters_of Tryz.func13 (by kernel_rfl) rfl
theorem kstos_en14 : Go.Proofs.Enters Tryz.prog 14 := Go.Proofs.enters_of Tryz.func14 (by kernel_rfl) rfl
theorem kstos_en15 : Go.Proofs.Enters Tryz.prog 15 := Go.Proofs.enters_of Tryz.func15 (by kernel_rfl) rfl
theorem kstos_en16 : Go.Proofs.Enters Tryz.prog 16 := Go.Proofs.enters_of Tryz.func16 (by kernel_rfl) rfl
theorem kstos_en17 : Go.Proofs.Enters Tryz.prog 17 := Go.Proofs.enters_of Tryz.func17 (by kernel_rfl) rfl
theorem kstos_en18 : Go.Proofs.Enters Tryz.prog 18 := Go.Proofs.enters_of Tryz.func18 (by kernel_rfl) rfl
theorem kstos_en19 : Go.Proofs.Enters Tryz.prog 19 := Go.Proofs.enters_of Tryz.func19 (by kernel_rfl) rfl
theorem kstos_en20 : Go.Proofs.Enters Tryz.prog 20 := Go.Proofs.enters_of Tryz.func20 (by kernel_rfl) rfl
theorem kstos_fo52_0 : fieldOff Tryz.prog 52 0 = some 0 := by kernel_rfl
theorem kstos_fo52_1 : fieldOff Tryz.prog 52 1 = some 1 := by kernel_rfl
theorem kstos_oc22 : oneCellT Tryz.prog 22 = true := by kernel_rfl
theorem kstos_oc3 : oneCellT Tryz.prog 3 = true := by kernel_rfl
theorem kstos_sz52 : (Tryz.prog.info? 52).map (·.size) = some 7 := by kernel_rfl
theorem kstos_zr52 : (Tryz.prog.info? 52).bind (·.zero) = some (Value.agg [Value.int .i64 0, Value.slice none 0 0, Value.int .i64 0, Value.slice none 0 0, Value.int .i64 0, Value.int .i64 0, S []].toArray) := by kernel_rfl
structure StM (n0 : Nat) (w : World) (b bs bl : Nat) (va : Value) (D : Dk) (K : Fl) (q : Pt) (G : List Ed) (i n m : Nat) : Prop where
  calm : Calm n0 w b bs bl D K q G (60000 + i)
  ops : D.ops ≤ 2300 * i
  ep : q.ep ≤ i
  pl : D.pl.length = n
  held : AllE n0 w va G
  siz : sizG G ≤ 3 * m ∧ 10 * G.length ≤ m
theorem StM.carry {n0 : Nat} {w w' : World} {b bs bl : Nat} {va : Value} {D : Dk} {K : Fl} {q : Pt} {G : List Ed} {i n m : Nat} (h : StM n0 w b bs bl va D K q G i n m) (g : Bel w w') : StM n0 w' b bs bl va D K q G i n m :=
  ⟨h.calm.carry g, h.ops, h.ep, h.pl, h.held.carry g, h.siz⟩
theorem Calm.mono {n0 : Nat} {w : World} {b bs bl : Nat} {D : Dk} {K : Fl} {q : Pt} {G : List Ed} {c c' : Nat} (h : Calm n0 w b bs bl D K q G c) (hc : c ≤ c') : Calm n0 w b bs bl D K q G c' := ⟨h.disk, h.log, h.sto, h.rep.mono hc, h.arm, h.live⟩
theorem map23 (A : Nat → Prop) (n : Int) (v : Value) (l : List Sa) (w : World) (h0 : SasAt A w v l) : Ret Tryz.prog 4 #[.int .i64 n, v] w fun v w' => v = .bool true ∧ Bel w w' := by
  have hs := (h0.up).mono (A' := fun k => w.heap.size ≤ k) (fun _ _ hk => .inr hk)
  obtain ⟨pv, cv, row, rfl, -, -, hln, -⟩ := id h0
  have hsec := secM_le n
  have hrmS : roomN (secM n) ≤ 1000000 := roomN_le (by omega)
  refine ret_of_W Tryz.func4 rfl (Nat.le_of_ble_eq_true rfl) (res1 rfl) ?_
  have hB := Gr.refl (fun _ => False) w
  refine W.seq ?_
  refine W.region ?_
  refine L.val (x_as (v := .bool _) rfl) rfl ?_
  refine L.nil ?_
  refine thn_n ?_
  refine W.seq ?_
  refine W.seq ?_
  refine W.region ?_
  refine L.val (x_mv (v := .slice _ _ _) rfl) rfl ?_
  refine L.ret (x_call kstos_en14 rfl) rfl (few23 _ _ l _ h0) ?_
  rintro v18 w18 ⟨rfl, hw⟩
  have hB := hB.carry hw; have hs := hs.carry hw
  refine L.val (x_not rfl) rfl ?_
  refine L.nil ?_
  refine thn_n ?_
  refine W.cond (b := _) rfl (fun g19 => ?_) (fun g19 => ?_)
  ·have h19 := (not_t g19)
   refine W.seq ?_
   refine W.region ?_
   refine L.ret (x_call kstos_en13 rfl) rfl (awake23 _) ?_
   rintro v20 w20 ⟨rfl, hw⟩
   have hB := hB.carry hw; have hs := hs.carry hw
   refine L.val (x_as (v := .bool _) rfl) rfl ?_
   refine L.nil ?_
   refine thn_n ?_
   refine W.ret (thn_r (fin_mk (.inr rfl) ?_))
   exact ⟨rfl, hB⟩
  ·have h19 := (not_f g19)
   have hfew : costS l ≤ 60000 := by unfold fewS at g19; simpa using g19
   refine W.skip ?_
   refine thn_n ?_
   refine W.seq ?_
   refine W.region ?_
   refine L.val (x_mv (v := .int _ _) rfl) rfl ?_
   refine L.ret (x_call kstos_en16 rfl) rfl (sectors23 n _) ?_
   rintro v23 w23 ⟨rfl, hq⟩
   rw [hq]
   have hs24 := hB.size
   refine L.ret (x_call kstos_en15 rfl) rfl (newdisk_f (secM n) (by omega) _) ?_
   rintro v24 w24 ⟨b, rfl, h, hw⟩
   have hB := hB.carry hw; have hs := hs.carry hw
   refine L.val (x_mv (v := _) rfl) rfl ?_
   refine L.val (x_ext (v := .pointer _) rfl rfl) rfl ?_
   refine L.val (x_ext (v := .int _ _) rfl rfl) rfl ?_
   refine L.val (x_as (v := .pointer _) rfl) rfl ?_
   refine L.val (x_as (v := .int _ _) rfl) rfl ?_
   refine L.nil ?_
   refine thn_n ?_
   refine W.seq ?_
   refine W.region ?_
   have hs28 := hB.size
   have hD0 : SRep (una (newD (secM n))) pt0 [] 0 := SRep.new (by omega)
   have h := h.le0 hs24
   refine L.val (x_mv (v := .pointer _) rfl) rfl ?_
   refine L.ret (x_call kstos_en12 rfl) rfl (open_c (n0 := w.heap.size) h hD0 rfl hs28) ?_
   rintro v29 w29 ⟨⟨bs, bl, rfl, hS, hL⟩, hw⟩
   have hB := hB.carry hw; have hs := hs.carry hw; have h := h.carry hw
   have hcal : Calm w.heap.size w29 b bs bl (newD (secM n)) K0 pt0 [] 0 := ⟨h, hL, hS, hD0, rfl, rfl⟩
   refine L.val (x_mv (v := _) rfl) rfl ?_
   refine L.val (x_ext (v := .pointer _) rfl rfl) rfl ?_
   refine L.val (x_ext (v := .int _ _) rfl rfl) rfl ?_
   refine L.val (x_as (v := .pointer _) rfl) rfl ?_
   refine L.val (x_as (v := .int _ _) rfl) rfl ?_
   refine L.nil ?_
   refine thn_n ?_
   refine W.seq ?_
   refine W.seq ?_
   refine W.region ?_
   refine L.val (x_mv (v := .int _ _) rfl) rfl ?_
   refine L.val (x_neq rfl rfl) rfl ?_
   refine L.val (x_mv (v := .bool _) rfl) rfl ?_
   refine L.splitat (dj := 34) (b := _) rfl (fun g34 => ?_) (fun g34 => ?_)
   ·have h34 := dne_t g34
    cases g34
   ·have h34 := dne_f g34
    refine L.gyes' (dj := 34) (b := _) rfl rfl g34 ?_
    refine L.val (x_mv (v := .int _ _) rfl) rfl ?_
    refine L.gyes' (dj := 34) (b := _) rfl rfl g34 ?_
    refine L.val (x_neq rfl rfl) rfl ?_
    refine L.val (x_pick_f (v := .bool _) (congrArg Value.bool g34) rfl) rfl ?_
    refine L.val (x_mv (v := .bool _) rfl) rfl ?_
    refine L.splitat (dj := 38) (b := _) rfl (fun g38 => ?_) (fun g38 => ?_)
    ·have h38 := dne_t g38
     cases g38
    ·have h38 := dne_f g38
     refine L.gyes' (dj := 38) (b := _) rfl rfl g38 ?_
     refine L.val (x_mv (v := .pointer _) rfl) rfl ?_
     refine L.gyes' (dj := 38) (b := _) rfl rfl g38 ?_
     refine L.val (x_eqp0 Tryz.underlying23 rfl rfl) rfl ?_
     refine L.val (x_pick_f (v := .bool _) (congrArg Value.bool g38) rfl) rfl ?_
     refine L.nil ?_
     refine thn_n ?_
     refine W.cond (b := _) rfl (fun g40 => ?_) (fun g40 => ?_)
     ·have h40 := g40
      cases g40
     ·have h40 := g40
      refine W.skip ?_
      refine thn_n ?_
      refine W.seq ?_
      refine W.region ?_
      refine L.val (x_mv (v := .int _ _) rfl) rfl ?_
      refine L.ret (x_call kstos_en16 rfl) rfl (sectors23 n _) ?_
      rintro v43 w43 ⟨rfl, hq⟩
      rw [hq]
      refine L.val (x_sub rfl rfl (wr64 (by omega))) rfl ?_
      refine L.val (x_quo rfl rfl (by decide) (wq64 (by omega) (by decide))) rfl ?_
      refine L.val (x_mul (c := ((roomN (secM n) : Nat) : Int)) rfl rfl (by unfold roomN hlf; rw [wr64 (by omega)]; omega)) rfl ?_
      refine L.val (x_as (v := .int _ _) rfl) rfl ?_
      refine L.nil ?_
      refine thn_n ?_
      refine W.seq ?_
      refine W.region ?_
      refine L.val (x_as (v := .int _ _) rfl) rfl ?_
      refine L.nil ?_
      refine thn_n ?_
      refine W.seq ?_
      refine W.region ?_
      refine L.val (x_as (v := .slice _ _ _) rfl) rfl ?_
      refine L.nil ?_
      refine thn_n ?_
      refine W.seq ?_
      refine W.seq ?_
      refine W.region ?_
      refine L.val (x_as (v := .int _ _) rfl) rfl ?_
      refine L.nil ?_
      refine thn_n ?_
      refine W.block ?_
      refine W.loop (fun m' E w' => ∃ (i : Nat) (D : Dk) (K : Fl) (q : Pt) (G : List Ed) (va : Value) (bs bl : Nat), m' = l.length - i ∧ E 1 = .slice pv l.length cv ∧ E 5 = .pointer (some ⟨b, 0, none⟩) ∧ E 7 = .pointer (some ⟨bs, 0, none⟩) ∧ E 9 = .int .i64 (roomN (secM n) : Nat) ∧ E 10 = .int .i64 (q.tail : Nat) ∧ E 11 = va ∧ E 12 = .int .i64 (i : Nat) ∧ (i ≤ l.length) ∧ (StM w.heap.size w' b bs bl va D K q G i (secM n) (costS (l.take i))) ∧ (SasAt (fun k => w.heap.size ≤ k) w' (.slice pv l.length cv) l) ∧ (Bel w w')) (l.length) ?_ ?_
      ·exact ⟨0, newD (secM n), K0, pt0, [], .slice none 0 0, _, _, by omega, by first | rfl | exact vi (by omega) | exact vs (by first | assumption | (rw [hst]; done) | (rw [hst]; simp only [List.append_assoc])), by first | rfl | exact vi (by omega) | exact vs (by first | assumption | (rw [hst]; done) | (rw [hst]; simp only [List.append_assoc])), by first | rfl | exact vi (by omega) | exact vs (by first | assumption | (rw [hst]; done) | (rw [hst]; simp only [List.append_assoc])), by first | rfl | exact vi (by omega) | exact vs (by first | assumption | (rw [hst]; done) | (rw [hst]; simp only [List.append_assoc])), by first | rfl | exact vi (by omega) | exact vs (by first | assumption | (rw [hst]; done) | (rw [hst]; simp only [List.append_assoc])), by first | rfl | exact vi (by omega) | exact vs (by first | assumption | (rw [hst]; done) | (rw [hst]; simp only [List.append_assoc])), by first | rfl | exact vi (by omega) | exact vs (by first | assumption | (rw [hst]; done) | (rw [hst]; simp only [List.append_assoc])), (by first | assumption | omega | rfl), (by exact ⟨hcal.mono (by omega), Nat.le_refl _, Nat.le_refl _, by simp [newD], RecsAt.nil (by omega), by simp [sizG]⟩), (by first | assumption | omega | rfl), (by first | assumption | omega | rfl)⟩
      ·rintro _ E wL47 ⟨i, D, K, q, G, va, bs, bl, em, e1, e5, e7, e9, e10, e11, e12, hi, hC, hs, hB⟩
       rw [upd_self e1, upd_self e5, upd_self e7, upd_self e9, upd_self e10, upd_self e11, upd_self e12]
       refine W.seq ?_
       refine W.seq ?_
       refine W.region ?_
       refine L.val (x_mv (v := .int _ _) rfl) rfl ?_
       refine L.val (x_mv (v := .slice _ _ _) rfl) rfl ?_
       refine L.val (x_len_slice Tryz.underlying42 rfl) rfl ?_
       refine L.val (x_lss rfl rfl) rfl ?_
       refine L.nil ?_
       refine thn_n ?_
       refine W.cond (b := _) rfl (fun g50 => ?_) (fun g50 => ?_)
       ·have h50 := of_decide_eq_true g50
        have hlt : i < l.length := by omega
        obtain ⟨hcal, hops, hep, hpl, hva, hsz⟩ := hC
        obtain ⟨bb, o, pe, ce, pk, ck, rfl, hse, hk, hatl, hrc⟩ := sas_elem hs hlt
        have hwc : SaC (fun k => w.heap.size ≤ k) wL47 (saV (l.getD i default) (.slice pe (l.getD i default).eds.length ce) (.slice pk (l.getD i default).keep.length ck)) (l.getD i default) := ⟨_, _, rfl, hse, hk, hatl⟩
        have hst := costS_take hlt
        have hle := costS_le l (i + 1)
        have hll := costS_len l
        have hel := costE_len (l.getD i default).eds
        have hesz := fun (h : mayL (l.getD i default).eds = true) => costE_siz h
        have hrG := hcal.rep.rises
        have hmG := hcal.rep.may
        have hqt := hcal.rep.ok.tail
        have hqt : q.tail ≤ roomN (secM n) := by rw [← hpl]; exact hqt
        obtain ⟨pva, cva, rva, rfl, -⟩ := id hva
        have hsizeL := hB.size
        have hcl := comes_len (l.getD i default).eds G
        have hcz := sizG_comes (l.getD i default).eds G
        generalize haa : l.getD i default = a at *
        obtain ⟨cm, hcm⟩ : ∃ cm, cm = costS (l.take (i + 1)) := ⟨_, rfl⟩
        rw [← hcm] at hst hle
        have hfw : Few D q (60000 + i) := ⟨by omega, by omega, by omega⟩
        refine W.skip ?_
        refine thn_n ?_
        refine W.seq ?_
        refine W.block ?_
        refine W.seq ?_
        refine W.region ?_
        refine L.val (x_mv (v := .slice _ _ _) rfl) rfl ?_
        refine L.val (x_mv (v := .int _ _) rfl) rfl ?_
        refine L.val (x_ia (j := i) Tryz.underlying42 kstos_sz52 rfl rfl (by omega) (by omega)) rfl ?_
        refine L.val (x_ldn (vs := saV a (.slice pe a.eds.length ce) (.slice pk a.keep.length ck)) kstos_ag52 rfl rfl hrc) rfl ?_
        have hB5 := hB; have hs5 := hs; have hcal5 := hcal; have hva5 := hva
        refine L.alloc (cs := [Value.int .i64 0, Value.slice none 0 0, Value.int .i64 0, Value.slice none 0 0, Value.int .i64 0, Value.int .i64 0, S []]) kstos_zr52 rfl rfl (fun w13 bx13 hw hz13 => ?_)
        have hB := hB.carry hw; have hs := hs.carry hw
        have hl13 := bx13.lt
        obtain ⟨bA, hbA⟩ : ∃ bA, bA = wL47.heap.size := ⟨_, rfl⟩
        rw [← hbA] at bx13 ⊢
        have hw13 : Bel wL47 w13 := by assumption
        refine L.setRow kstos_ag52 rfl rfl bx13 rfl rfl (saV_one hwc) (fun wl51 bx13 hw hzl51 => ?_)
        have hB51 : Bel wL47 wl51 := hw13.set hw (by omega)
        have hB := hB5.carry hB51; have hs := hs5.carry hB51; have hcal := hcal5.carry hB51; have hva := hva5.carry hB51
        have hwc := hwc.carry hB51
        refine L.nil ?_
        refine thn_n ?_
        refine W.cut (fun D' E' w' => D' = [] ∧ E' 1 = .slice (some ⟨bb, o, none⟩) l.length cv ∧ E' 5 = .pointer (some ⟨b, 0, none⟩) ∧ E' 9 = .int .i64 (roomN (secM n) : Nat) ∧ E' 12 = .int .i64 (i : Nat) ∧ ∃ D2 K2 q2 G2 va2 bs2 bl2, E' 7 = .pointer (some ⟨bs2, 0, none⟩) ∧ E' 10 = .int .i64 (Pt.tail q2 : Nat) ∧ E' 11 = va2 ∧ StM w.heap.size w' b bs2 bl2 va2 D2 K2 q2 G2 (i + 1) (secM n) cm ∧ SasAt (fun k => w.heap.size ≤ k) w' (.slice (some ⟨bb, o, none⟩) l.length cv) l ∧ Bel w w') ?_ ?_
        ·refine W.block ?_
         refine W.seq ?_
         refine W.region ?_
         refine L.val (x_fa kstos_fo52_0 rfl) rfl ?_
         refine L.val (x_ld (v := .int _ _) kstos_oc3 rfl (bx13.cell0 rfl)) rfl ?_
         refine L.val (x_eql rfl rfl) rfl ?_
         refine L.val (x_as (v := .bool _) rfl) rfl ?_
         refine L.nil ?_
         refine thn_n ?_
         refine W.cond (b := _) rfl (fun g60 => ?_) (fun g60 => ?_)
         ·have h60 := of_decide_eq_true g60
          refine W.seq ?_
          refine W.region ?_
          refine L.val (x_mv (v := .pointer _) rfl) rfl ?_
          refine L.ret (x_call kstos_en12 rfl) rfl (open_c (n0 := w.heap.size) hcal.disk hcal.rep hcal.live hB.size) ?_
          rintro v63 w63 ⟨⟨bs2, bl2, rfl, hS2, hL2⟩, hw⟩
          have hB := hB.carry hw; have hs := hs.carry hw; have hcal := hcal.carry hw; have hva := hva.carry hw; have hwc := hwc.carry hw; have bx13 := bx13.carry hw
          refine L.val (x_mv (v := _) rfl) rfl ?_
          refine L.val (x_ext (v := .pointer _) rfl rfl) rfl ?_
          refine L.val (x_ext (v := .int _ _) rfl rfl) rfl ?_
          refine L.val (x_as (v := .pointer _) rfl) rfl ?_
          refine L.val (x_as (v := .int _ _) rfl) rfl ?_
          refine L.nil ?_
          refine thn_n ?_
          refine W.seq ?_
          refine W.region ?_
          refine L.val (x_mv (v := .int _ _) rfl) rfl ?_
          refine L.val (x_neq rfl rfl) rfl ?_
          refine L.val (x_mv (v := .bool _) rfl) rfl ?_
          refine L.splitat (dj := 68) (b := _) rfl (fun g68 => ?_) (fun g68 => ?_)
          ·have h68 := dne_t g68
           cases g68
          ·have h68 := dne_f g68
           refine L.gyes' (dj := 68) (b := _) rfl rfl g68 ?_
           refine L.val (x_mv (v := .pointer _) rfl) rfl ?_
           refine L.gyes' (dj := 68) (b := _) rfl rfl g68 ?_
           refine L.val (x_eqp0 Tryz.underlying23 rfl rfl) rfl ?_
           refine L.val (x_pick_f (v := .bool _) (congrArg Value.bool g68) rfl) rfl ?_
           refine L.nil ?_
           refine thn_n ?_
           refine W.cond (b := _) rfl (fun g70 => ?_) (fun g70 => ?_)
           ·have h70 := g70
            cases g70
           ·have h70 := g70
            refine W.skip ?_
            refine blk_n ?_
            refine thn_n ?_
            exact ⟨rfl, rfl, rfl, rfl, rfl, D, K, q, G, _, bs2, bl2, rfl, rfl, rfl, ⟨⟨hcal.disk, hL2, hS2, hcal.rep.mono (by omega), hcal.arm, hcal.live⟩, by omega, by omega, hpl, hva, by omega⟩, hs, hB⟩
         ·have h60 := of_decide_eq_false g60
          refine W.seq ?_
          refine W.region ?_
          refine L.val (x_fa kstos_fo52_0 rfl) rfl ?_
          refine L.val (x_ld (v := .int _ _) kstos_oc3 rfl (bx13.cell0 rfl)) rfl ?_
          refine L.val (x_eql rfl rfl) rfl ?_
          refine L.val (x_as (v := .bool _) rfl) rfl ?_
          refine L.nil ?_
          refine thn_n ?_
          refine W.cond (b := _) rfl (fun g75 => ?_) (fun g75 => ?_)
          ·have h75 := of_decide_eq_true g75
           refine W.seq ?_
           refine W.region ?_
           refine L.val (x_as (v := .int _ _) rfl) rfl ?_
           refine L.nil ?_
           refine thn_n ?_
           refine W.seq ?_
           refine W.seq ?_
           refine W.region ?_
           refine L.val (x_mv (v := .slice _ _ _) rfl) rfl ?_
           refine L.ret (x_call kstos_en17 rfl) rfl (whole23 _ _ G _ hva hmG (by omega)) ?_
           rintro v77 w77 ⟨rfl, hw⟩
           have hB := hB.carry hw; have hs := hs.carry hw; have hcal := hcal.carry hw; have hva := hva.carry hw; have hwc := hwc.carry hw; have bx13 := bx13.carry hw
           refine L.val (x_mv (v := .int _ _) rfl) rfl ?_
           refine L.val (x_gtr rfl rfl) rfl ?_
           refine L.nil ?_
           refine thn_n ?_
           refine W.cond (b := _) rfl (fun g79 => ?_) (fun g79 => ?_)
           ·have h79 := of_decide_eq_true g79
            have hw79 : ¬ whl G ≤ roomN D.pl.length := by rw [hpl]; omega
            refine W.region ?_
            refine L.val (x_as (v := .int _ _) rfl) rfl ?_
            refine L.nil ?_
            refine thn_n ?_
            refine W.seq ?_
            refine W.seq ?_
            refine W.region ?_
            refine L.val (x_mv (v := .pointer _) rfl) rfl ?_
            refine L.ret (x_call kstos_en11 rfl) rfl (compact_c hcal hfw hB.size (by omega) (by omega) (by omega)) ?_
            rintro v81 w81 ⟨rfl, ⟨D2, K2, q2, hc2, hl2, ht2, he2, ho2⟩, hg81⟩
            have hB := hg81.bel hB
            have hs := hs.carryR hg81 (fun j hj => hj.1)
            have hva := hva.dg hg81
            first
            | rw [if_pos hw79] at ht2 ⊢
            | rw [if_neg hw79] at ht2 ⊢
            have hcal := hc2
            have hM : StM w.heap.size w81 b bs bl (.slice pva G.length cva) D2 K2 q2 G (i + 1) (secM n) cm := ⟨hc2, by omega, by omega, hl2.trans hpl, hva, by omega⟩
            refine L.val (x_mv (v := .int _ _) rfl) rfl ?_
            refine L.val (x_neq rfl rfl) rfl ?_
            refine L.nil ?_
            refine thn_n ?_
            refine W.cond (b := _) rfl (fun g83 => ?_) (fun g83 => ?_)
            ·have h83 := dne_t g83
             simp at g83
            ·have h83 := dne_f g83
             refine W.skip ?_
             refine thn_n ?_
             refine W.seq ?_
             refine W.region ?_
             refine L.val (x_mv (v := .int _ _) rfl) rfl ?_
             refine L.val (x_eql rfl rfl) rfl ?_
             refine L.nil ?_
             refine thn_n ?_
             refine W.cond (b := _) rfl (fun g85 => ?_) (fun g85 => ?_)
             ·have h85 := of_decide_eq_true g85
              cases g85
             ·have h85 := of_decide_eq_false g85
              refine W.skip ?_
              refine blk_n ?_
              refine thn_n ?_
              exact ⟨rfl, rfl, rfl, rfl, rfl, D2, K2, q2, G, _, bs, bl, rfl, congrArg (fun t : Nat => Value.int .i64 (t : Nat)) ht2.symm, rfl, hM, hs, hB⟩
           ·have h79 := dlt_f g79
            have hw79 : whl G ≤ roomN D.pl.length := by rw [hpl]; omega
            refine W.skip ?_
            refine thn_n ?_
            refine W.seq ?_
            refine W.seq ?_
            refine W.region ?_
            refine L.val (x_mv (v := .pointer _) rfl) rfl ?_
            refine L.ret (x_call kstos_en11 rfl) rfl (compact_c hcal hfw hB.size (by omega) (by omega) (by omega)) ?_
            rintro v81 w81 ⟨rfl, ⟨D2, K2, q2, hc2, hl2, ht2, he2, ho2⟩, hg81⟩
            have hB := hg81.bel hB
            have hs := hs.carryR hg81 (fun j hj => hj.1)
            have hva := hva.dg hg81
            first
            | rw [if_pos hw79] at ht2 ⊢
            | rw [if_neg hw79] at ht2 ⊢
            have hcal := hc2
            have hM : StM w.heap.size w81 b bs bl (.slice pva G.length cva) D2 K2 q2 G (i + 1) (secM n) cm := ⟨hc2, by omega, by omega, hl2.trans hpl, hva, by omega⟩
            refine L.val (x_mv (v := .int _ _) rfl) rfl ?_
            refine L.val (x_neq rfl rfl) rfl ?_
            refine L.nil ?_
            refine thn_n ?_
            refine W.cond (b := _) rfl (fun g83 => ?_) (fun g83 => ?_)
            ·have h83 := dne_t g83
             simp at g83
            ·have h83 := dne_f g83
             refine W.skip ?_
             refine thn_n ?_
             refine W.seq ?_
             refine W.region ?_
             refine L.val (x_mv (v := .int _ _) rfl) rfl ?_
             refine L.val (x_eql rfl rfl) rfl ?_
             refine L.nil ?_
             refine thn_n ?_
             refine W.cond (b := _) rfl (fun g85 => ?_) (fun g85 => ?_)
             ·have h85 := of_decide_eq_true g85
              refine W.region ?_
              refine L.val (x_mv (v := .slice _ _ _) rfl) rfl ?_
              refine L.ret (x_call kstos_en17 rfl) rfl (whole23 _ _ G _ hva hmG (by omega)) ?_
              rintro v87 w87 ⟨rfl, hw⟩
              have hB := hB.carry hw; have hs := hs.carry hw; have hva := hva.carry hw; have hM := hM.carry hw
              refine L.val (x_as (v := .int _ _) rfl) rfl ?_
              refine L.nil ?_
              refine blk_n ?_
              refine thn_n ?_
              exact ⟨rfl, rfl, rfl, rfl, rfl, D2, K2, q2, G, _, bs, bl, rfl, congrArg (fun t : Nat => Value.int .i64 (t : Nat)) ht2.symm, rfl, hM, hs, hB⟩
             ·have h85 := of_decide_eq_false g85
              cases g85
          ·have h75 := of_decide_eq_false g75
           refine W.seq ?_
           refine W.region ?_
           refine L.val (x_fa kstos_fo52_0 rfl) rfl ?_
           refine L.val (x_ld (v := .int _ _) kstos_oc3 rfl (bx13.cell0 rfl)) rfl ?_
           refine L.val (x_eql rfl rfl) rfl ?_
           refine L.val (x_mv (v := .bool _) rfl) rfl ?_
           refine L.splitat (dj := 92) (b := _) rfl (fun g92 => ?_) (fun g92 => ?_)
           ·have h92 := of_decide_eq_true g92
            refine L.gyes' (dj := 92) (b := _) rfl rfl g92 ?_
            refine L.val (x_fa kstos_fo52_1 rfl) rfl ?_
            refine L.gyes' (dj := 92) (b := _) rfl rfl g92 ?_
            refine L.val (x_ld (v := .slice _ _ _) kstos_oc22 rfl (bx13.cell0 rfl)) rfl ?_
            refine L.gyes' (dj := 92) (b := _) rfl rfl g92 ?_
            refine L.val (x_len_slice Tryz.underlying22 rfl) rfl ?_
            refine L.gyes' (dj := 92) (b := _) rfl rfl g92 ?_
            refine L.val (x_gtr rfl rfl) rfl ?_
            refine L.val (x_pick_t (v := .bool _) (congrArg Value.bool g92) rfl) rfl ?_
            refine L.val (x_as (v := .bool _) rfl) rfl ?_
            refine L.nil ?_
            refine thn_n ?_
            refine W.cond (b := _) rfl (fun g96 => ?_) (fun g96 => ?_)
            ·have h96 := of_decide_eq_true g96
             have hne : a.eds ≠ [] := fun e => by rw [e] at h96; simp at h96
             refine W.seq ?_
             refine W.region ?_
             refine L.val (x_fa kstos_fo52_1 rfl) rfl ?_
             refine L.val (x_ld (v := .slice _ _ _) kstos_oc22 rfl (bx13.cell0 rfl)) rfl ?_
             refine L.val (x_mv (v := .slice _ _ _) rfl) rfl ?_
             refine L.val (x_mv (v := .int _ _) rfl) rfl ?_
             refine L.val (x_mv (v := .int _ _) rfl) rfl ?_
             refine L.ret (x_call kstos_en18 rfl) rfl (full23 _ _ _ _ a.eds G (roomN (secM n)) q.tail _ (sa_eds hwc) hva hrG hmG hne (by omega) (by omega) hrmS (by omega)) ?_
             rintro v104 w104 ⟨rfl, hw⟩
             have hB := hB.carry hw; have hs := hs.carry hw; have hcal := hcal.carry hw; have hva := hva.carry hw; have hwc := hwc.carry hw; have bx13 := bx13.carry hw
             refine L.val (x_mv (v := _) rfl) rfl ?_
             refine L.val (x_ext (v := .int _ _) rfl rfl) rfl ?_
             refine L.val (x_ext (v := .int _ _) rfl rfl) rfl ?_
             refine L.val (x_as (v := .int _ _) rfl) rfl ?_
             refine L.val (x_as (v := .int _ _) rfl) rfl ?_
             refine L.nil ?_
             refine thn_n ?_
             refine W.seq ?_
             refine W.seq ?_
             refine W.region ?_
             refine L.val (x_mv (v := .pointer _) rfl) rfl ?_
             refine L.val (x_fa kstos_fo52_1 rfl) rfl ?_
             refine L.val (x_ld (v := .slice _ _ _) kstos_oc22 rfl (bx13.cell0 rfl)) rfl ?_
             refine L.ret (x_call kstos_en10 rfl) rfl (commit_c hcal hfw (fun k => w.heap.size ≤ k) _ a.eds (sa_eds hwc) hB.size (by omega) (by omega) (by omega) (fun hm => by have := hesz hm; omega)) ?_
             rintro v110 w110 ⟨rfl, ⟨D2, K2, q2, hc2, hl2, ht2, he2, ho2⟩, hg110⟩
             have hB := hg110.bel hB
             have hs := hs.carryR hg110 (fun j hj => hj.1)
             have hva := hva.dg hg110
             have bx13 := bx13.dg hg110 rfl
             have hwc := Car.carryR hwc hg110 (fun j hj => hj.1)
             rw [hpl] at hc2 ht2 ⊢
             have hcm2 : (codeC (roomN (secM n)) q.tail G a.eds).1 = 0 → mayL a.eds = true := fun hc => by
               cases hm : mayL a.eds with
               | true => rfl
               | false =>
                 have e : codeC (roomN (secM n)) q.tail G a.eds = (230, q.tail) := by unfold codeC; rw [if_neg (by rw [hm]; decide)]
                 rw [e] at hc
                 have hc : (230 : Int) = 0 := hc
                 exact absurd hc (by decide)
             generalize hcc : codeC (roomN (secM n)) q.tail G a.eds = cc at *
             have hcal := hc2
             refine L.val (x_mv (v := .int _ _) rfl) rfl ?_
             refine L.val (x_neq rfl rfl) rfl ?_
             refine L.nil ?_
             refine thn_n ?_
             refine W.cond (b := _) rfl (fun g112 => ?_) (fun g112 => ?_)
             ·have h112 := dne_t g112
              simp at g112
             ·have h112 := dne_f g112
              refine W.skip ?_
              refine thn_n ?_
              refine W.seq ?_
              refine W.region ?_
              refine L.val (x_mv (v := .int _ _) rfl) rfl ?_
              refine L.val (x_as (v := .int _ _) rfl) rfl ?_
              refine L.nil ?_
              refine thn_n ?_
              refine W.seq ?_
              refine W.region ?_
              refine L.val (x_mv (v := .int _ _) rfl) rfl ?_
              refine L.val (x_eql rfl rfl) rfl ?_
              refine L.nil ?_
              refine thn_n ?_
              refine W.cond (b := _) rfl (fun g115 => ?_) (fun g115 => ?_)
              ·have h115 := of_decide_eq_true g115
               have h115 : cc.1 = 0 := by simpa using g115
               rw [if_pos h115] at hcal
               have hm115 := hesz (hcm2 h115)
               refine W.region ?_
               refine L.val (x_mv (v := .slice _ _ _) rfl) rfl ?_
               refine L.val (x_fa kstos_fo52_1 rfl) rfl ?_
               refine L.val (x_ld (v := .slice _ _ _) kstos_oc22 rfl (bx13.cell0 rfl)) rfl ?_
               refine L.ret (x_call kstos_en19 rfl) rfl (goes23 w.heap.size _ _ _ _ G a.eds _ hva (sa_eds hwc) hrG (by omega)) ?_
               rintro v119 w119 ⟨hv119, hw⟩
               have hB := hB.carry hw; have hs := hs.carry hw; have hcal := hcal.carry hw; have hva := hva.carry hw; have hwc := hwc.carry hw
               obtain ⟨p119, c119, r119, rfl, -⟩ := id hv119
               refine L.val (x_as (v := .slice _ _ _) rfl) rfl ?_
               refine L.nil ?_
               refine blk_n ?_
               refine thn_n ?_
               exact ⟨rfl, rfl, rfl, rfl, rfl, D2, K2, q2, _, _, bs, bl, rfl, congrArg (fun t : Nat => Value.int .i64 (t : Nat)) ht2.symm, rfl, ⟨hcal, by omega, by omega, hl2.trans hpl, hv119, by omega⟩, hs, hB⟩
              ·have h115 := of_decide_eq_false g115
               have h115 : ¬ cc.1 = 0 := by simpa using g115
               rw [if_neg h115] at hcal
               refine W.skip ?_
               refine blk_n ?_
               refine thn_n ?_
               exact ⟨rfl, rfl, rfl, rfl, rfl, D2, K2, q2, _, _, bs, bl, rfl, congrArg (fun t : Nat => Value.int .i64 (t : Nat)) ht2.symm, rfl, ⟨hcal, by omega, by omega, hl2.trans hpl, hva, by omega⟩, hs, hB⟩
            ·have h96 := dlt_f g96
             refine W.skip ?_
             refine blk_n ?_
             refine thn_n ?_
             exact ⟨rfl, rfl, rfl, rfl, rfl, D, K, q, G, _, bs, bl, rfl, rfl, rfl, ⟨hcal.mono (by omega), by omega, by omega, hpl, hva, by omega⟩, hs, hB⟩
           ·have h92 := of_decide_eq_false g92
            refine L.gno (dj := 92) (b := _) rfl rfl g92 rfl ?_
            refine L.gno (dj := 92) (b := _) rfl rfl g92 rfl ?_
            refine L.gno (dj := 92) (b := _) rfl rfl g92 rfl ?_
            refine L.gno (dj := 92) (b := _) rfl rfl g92 rfl ?_
            refine L.val (x_pick_f (v := .bool _) (congrArg Value.bool g92) rfl) rfl ?_
            refine L.val (x_as (v := .bool _) rfl) rfl ?_
            refine L.nil ?_
            refine thn_n ?_
            refine W.cond (b := false) rfl (fun h => nomatch h) (fun _ => ?_)
            refine W.skip ?_
            refine blk_n ?_
            refine thn_n ?_
            exact ⟨rfl, rfl, rfl, rfl, rfl, D, K, q, G, _, bs, bl, rfl, rfl, rfl, ⟨hcal.mono (by omega), by omega, by omega, hpl, hva, by omega⟩, hs, hB⟩
        ·rintro D' E w120 ⟨rfl, e1, e5, e9, e12, D2, K2, q2, G2, va2, bs2, bl2, e7, e10, e11, hC2, hs, hB⟩
         have hva2 := hC2.held
         obtain ⟨pv2, cv2, rv2, rfl, -⟩ := id hva2
         rw [upd_self e1, upd_self e5, upd_self e7, upd_self e9, upd_self e10, upd_self e11, upd_self e12]
         have hsz5 := hC2.siz
         refine W.seq ?_
         refine W.region ?_
         refine L.val (x_mv (v := .pointer _) rfl) rfl ?_
         refine L.val (x_mv (v := .slice _ _ _) rfl) rfl ?_
         refine L.ret (x_call kstos_en20 rfl) rfl (held23 w.heap.size bs2 bl2 _ _ G2 _ _ hC2.calm.sto hC2.calm.rep.rises hC2.calm.rep.keys (by omega) hva2 hC2.calm.rep.rises) ?_
         rintro v122 w122 ⟨rfl, hw⟩
         have hB := hB.carry hw; have hs := hs.carry hw; have hC2 := hC2.carry hw
         refine L.val (x_not rfl) rfl ?_
         refine L.nil ?_
         refine thn_n ?_
         refine W.cond (b := _) rfl (fun g123 => ?_) (fun g123 => ?_)
         ·have h123 := (not_t g123)
          simp at g123
         ·have h123 := (not_f g123)
          refine W.skip ?_
          refine blk_n ?_
          refine thn_n ?_
          refine W.region ?_
          refine L.val (x_mv (v := .int _ _) rfl) rfl ?_
          refine L.val (x_add rfl rfl (wr64 (by omega))) rfl ?_
          refine L.val (x_as (v := .int _ _) rfl) rfl ?_
          refine L.nil ?_
          refine thn_n ⟨rfl, ?_⟩
          refine ⟨_, ?_, i + 1, D2, K2, q2, G2, _, bs2, bl2, rfl, by first | rfl | exact vi (by omega) | exact vs (by first | assumption | (rw [hst]; done) | (rw [hst]; simp only [List.append_assoc])), by first | rfl | exact vi (by omega) | exact vs (by first | assumption | (rw [hst]; done) | (rw [hst]; simp only [List.append_assoc])), by first | rfl | exact vi (by omega) | exact vs (by first | assumption | (rw [hst]; done) | (rw [hst]; simp only [List.append_assoc])), by first | rfl | exact vi (by omega) | exact vs (by first | assumption | (rw [hst]; done) | (rw [hst]; simp only [List.append_assoc])), by first | rfl | exact vi (by omega) | exact vs (by first | assumption | (rw [hst]; done) | (rw [hst]; simp only [List.append_assoc])), by first | rfl | exact vi (by omega) | exact vs (by first | assumption | (rw [hst]; done) | (rw [hst]; simp only [List.append_assoc])), by first | rfl | exact vi (by omega) | exact vs (by first | assumption | (rw [hst]; done) | (rw [hst]; simp only [List.append_assoc])), (by first | assumption | omega | rfl), (by exact hcm ▸ hC2), (by first | assumption | omega | rfl), (by first | assumption | omega | rfl)⟩
          omega
       ·have h50 := dlt_f g50
        refine W.exit (thn_x (thn_x (blk_hit ?_)))
        refine thn_n ?_
        refine W.seq ?_
        refine W.region ?_
        refine L.ret (x_call kstos_en13 rfl) rfl (awake23 _) ?_
        rintro v124 w124 ⟨rfl, hw⟩
        have hB := hB.carry hw
        refine L.val (x_as (v := .bool _) rfl) rfl ?_
        refine L.nil ?_
        refine thn_n ?_
        refine W.ret (fin_mk (.inr rfl) ?_)
        exact ⟨rfl, hB⟩
theorem law_map23 (A : Nat → Prop) (n : Int) (l : List Sa) (v : Value) (w : World) (_ : True) (h : SasAt A w v l) : Ret Tryz.prog 4 #[.int .i64 n, v] w fun v w' => v = .bool true ∧ Bel w w' := map23 A n v l w h
end Go.Gx
