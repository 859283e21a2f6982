/- The law of falls. Conditions: none. -/
import Derived.Test.YtfbcmonbmkafpaaCjWaf3
namespace Go.Gx
open Go.Proofs
theorem kcrs6_ag40 : aggT Try.prog 40 3 = true := by kernel_rfl
theorem kcrs6_ag51 : aggT Try.prog 51 6 = true := by kernel_rfl
theorem kcrs6_en12 : Go.Proofs.Enters Try.prog 12 := Go.Proofs.enters_of Try.func12 (by kernel_rfl) rfl
theorem kcrs6_en13 : Go.Proofs.Enters Try.prog 13 := Go.Proofs.enters_of Try.func13 (by kernel_rfl) rfl
theorem kcrs6_en14 : Go.Proofs.Enters Try.prog 14 := Go.Proofs.enters_of Try.func14 (by kernel_rfl) rfl
theorem kcrs6_en15 : Go.Proofs.Enters Try.prog 15 := Go.Proofs.enters_of Try.func15 (by kernel_rfl) rfl
theorem kcrs6_en16 : Go.Proofs.Enters Try.prog 16 := Go.Proofs.enters_of Try.func16 (by kernel_rfl) rfl
theorem kcrs6_en18 : Go.Proofs.Enters Try.prog 18 := Go.Proofs.enters_of Try.func18 (by kernel_rfl) rfl
theorem kcrs6_en19 : Go.Proofs.Enters Try.prog 19 := Go.Proofs.enters_of Try.func19 (by kernel_rfl) rfl
theorem kcrs6_en20 : Go.Proofs.Enters Try.prog 20 := Go.Proofs.enters_of Try.func20 (by kernel_rfl) rfl
theorem kcrs6_en22 : Go.Proofs.Enters Try.prog 22 := Go.Proofs.enters_of Try.func22 (by kernel_rfl) rfl
theorem kcrs6_en23 : Go.Proofs.Enters Try.prog 23 := Go.Proofs.enters_of Try.func23 (by kernel_rfl) rfl
theorem kcrs6_en24 : Go.Proofs.Enters Try.prog 24 := Go.Proofs.enters_of Try.func24 (by kernel_rfl) rfl
theorem kcrs6_fo51_0 : fieldOff Try.prog 51 0 = some 0 := by kernel_rfl
theorem kcrs6_fo51_2 : fieldOff Try.prog 51 2 = some 2 := by kernel_rfl
theorem kcrs6_fo51_3 : fieldOff Try.prog 51 3 = some 3 := by kernel_rfl
theorem kcrs6_oc3 : oneCellT Try.prog 3 = true := by kernel_rfl
theorem kcrs6_sz51 : (Try.prog.info? 51).map (·.size) = some 6 := by kernel_rfl
theorem kcrs6_zr51 : (Try.prog.info? 51).bind (·.zero) = some (Value.agg [Value.int .i64 0, Value.slice none 0 0, Value.int .i64 0, Value.slice none 0 0, Value.int .i64 0, Value.int .i64 0].toArray) := by kernel_rfl
theorem LogB.of (n0 : Nat) {n1 bl b : Nat} {w : World} {p : Pt} (h : LogAt n1 w bl b p) (hn : n0 ≤ n1) : LogB n0 w bl b p false := ⟨Nat.le_trans hn h.1, h.2⟩
theorem wc_keep {A : Nat → Prop} {w : World} {a : Wc} {vb vk : Value} (h : WcC A w (wcV a vb vk) a) : BlsAt A w vk a.keep := by
  obtain ⟨vb', vk', eW, -, h2, -⟩ := h
  simp only [wcV, List.cons.injEq] at eW
  rw [eW.2.2.2.1]; exact h2
theorem RepC.arm {D : Dk} {q : Pt} {all : List Str} (h : RepC (una D) q all) (i : Int) : RepC (una (armD D i)) q all ∧ (armD D i).dead = D.dead ∧ (armD D i).ops = D.ops ∧ (armD D i).pl = D.pl := by
  unfold armD
  split
  · exact ⟨h, rfl, rfl, rfl⟩
  · exact ⟨h, rfl, rfl, rfl⟩
theorem armD_le {D : Dk} {i : Int} (h : D.armed ≤ 9223372036854775807) (hi : i ≤ 9223372036854775807) : (armD D i).armed ≤ 9223372036854775807 := by
  unfold armD
  split
  · exact h
  · show i.toNat ≤ _; omega
theorem AllAt.eq {n0 : Nat} {w : World} {v : Value} {l m : List Str} (h : AllAt n0 w v l) (e : l = m) : AllAt n0 w v m := e ▸ h
structure CrS (n0 : Nat) (w : World) (b bl : Nat) (va : Value) (D : Dk) (K : Fl) (q : Pt) (all : List Str) (i n m : Nat) : Prop where
  rep : RepC (una D) q all
  live : D.dead = false
  arm : D.armed ≤ 9223372036854775807
  ops : D.ops ≤ 2300 * i
  ep : q.ep ≤ i
  len : all.length ≤ m
  pl : D.pl.length = n
  disk : DiskF n0 w b D K
  log : LogB n0 w bl b q false
  held : AllAt n0 w va all
theorem goesA_len2 (all : List Str) (a : Wc) {p : Prop} [Decidable p] : (if p then goesA all a else all).length ≤ all.length + a.bods.length := by
  have := goesA_len all a 0
  rw [if_pos rfl] at this
  split
  · exact this
  · omega
theorem crash21 (A : Nat → Prop) (n : Int) (v : Value) (l : List Wc) (w : World) (h0 : WcsAt A w v l) (hat : ∀ i, i < l.length → (l.getD i default).at' ≤ 9223372036854775807) : Ret Try.prog 6 #[.int .i64 n, v] w fun v w' => v = .bool true ∧ Bel w w' := by
  have hs := (h0.up).mono (A' := fun k => w.heap.size ≤ k) (fun _ _ hk => .inr hk)
  obtain ⟨pv, cv, row, rfl, -, -, hln, -⟩ := id h0
  have hsec := secN_le n
  refine ret_of_W Try.func6 rfl (Nat.le_of_ble_eq_true rfl) (res1 rfl) ?_
  have hB := Gr.refl (fun _ => False) w
  refine W.seq ?_
  refine W.region ?_
  refine L.val (x_as (v := .bool _) rfl) rfl ?_
  refine L.nil ?_
  refine thn_n ?_
  refine W.seq ?_
  refine W.seq ?_
  refine W.region ?_
  refine L.val (x_mv (v := .slice _ _ _) rfl) rfl ?_
  refine L.ret (x_call kcrs6_en14 rfl) rfl (few21 _ _ l _ h0) ?_
  rintro v22 w22 ⟨rfl, hq⟩
  rw [hq]
  refine L.val (x_not rfl) rfl ?_
  refine L.nil ?_
  refine thn_n ?_
  refine W.cond (b := _) rfl (fun g23 => ?_) (fun g23 => ?_)
  ·have h23 := (not_t g23)
   refine W.seq ?_
   refine W.region ?_
   refine L.ret (x_call kcrs6_en13 rfl) rfl (awake21 _) ?_
   rintro v24 w24 ⟨rfl, hw⟩
   have hB := hB.carry hw; have hs := hs.carry hw
   refine L.val (x_as (v := .bool _) rfl) rfl ?_
   refine L.nil ?_
   refine thn_n ?_
   refine W.ret (thn_r (fin_mk (.inr rfl) ?_))
   exact ⟨rfl, hB⟩
  ·have h23 := (not_f g23)
   have hfew : costW l ≤ 60000 := by unfold fewA at g23; simpa using g23
   refine W.skip ?_
   refine thn_n ?_
   refine W.seq ?_
   refine W.region ?_
   refine L.val (x_mv (v := .int _ _) rfl) rfl ?_
   refine L.ret (x_call kcrs6_en16 rfl) rfl (sectors21 n _) ?_
   rintro v27 w27 ⟨rfl, hq⟩
   rw [hq]
   refine L.ret (x_call kcrs6_en15 rfl) rfl (newdisk_f (secN n) (by omega) _) ?_
   rintro v28 w28 ⟨b, rfl, h, hw⟩
   have hB := hB.carry hw; have hs := hs.carry hw
   refine L.val (x_mv (v := _) rfl) rfl ?_
   refine L.val (x_ext (v := .pointer _) rfl rfl) rfl ?_
   refine L.val (x_ext (v := .int _ _) rfl rfl) rfl ?_
   refine L.val (x_as (v := .pointer _) rfl) rfl ?_
   refine L.val (x_as (v := .int _ _) rfl) rfl ?_
   refine L.nil ?_
   refine thn_n ?_
   refine W.seq ?_
   refine W.region ?_
   have hs28 := hB.size
   refine L.val (x_mv (v := .pointer _) rfl) rfl ?_
   refine L.ret (x_call kcrs6_en12 rfl) rfl (open_w w.heap.size b (newD (secN n)) _ h.at rfl (by show 6 ≤ (List.replicate _ _).length; rw [List.length_replicate]; omega)) ?_
   rintro v33 w33 ⟨hw, hr⟩
   have hB := hB.carry hw; have hs := hs.carry hw; have h := h.carry hw
   rw [open_new ⟨secN n, by omega⟩ (by show 6 ≤ secN n; omega)] at hr
   obtain ⟨-, bl, u, rfl, hl, hU⟩ := hr.resolve_left (fun e => e.1 rfl)
   have hl : LogB w.heap.size w33 bl b pt0 false := LogB.of _ hl hs28
   obtain ⟨pu, cu, rfl, -⟩ := id hU
   refine L.val (x_mv (v := _) rfl) rfl ?_
   refine L.val (x_ext (v := .pointer _) rfl rfl) rfl ?_
   refine L.val (x_ext (v := .slice _ _ _) rfl rfl) rfl ?_
   refine L.val (x_ext (v := .int _ _) rfl rfl) rfl ?_
   refine L.val (x_as (v := .pointer _) rfl) rfl ?_
   refine L.val (x_as (v := .slice _ _ _) rfl) rfl ?_
   refine L.val (x_as (v := .int _ _) rfl) rfl ?_
   refine L.nil ?_
   refine thn_n ?_
   refine W.seq ?_
   refine W.seq ?_
   refine W.region ?_
   refine L.val (x_mv (v := .int _ _) rfl) rfl ?_
   refine L.val (x_neq rfl rfl) rfl ?_
   refine L.val (x_mv (v := .bool _) rfl) rfl ?_
   refine L.splitat (dj := 39) (b := _) rfl (fun g39 => ?_) (fun g39 => ?_)
   ·have h39 := dne_t g39
    cases g39
   ·have h39 := dne_f g39
    refine L.gyes' (dj := 39) (b := _) rfl rfl g39 ?_
    refine L.val (x_mv (v := .int _ _) rfl) rfl ?_
    refine L.gyes' (dj := 39) (b := _) rfl rfl g39 ?_
    refine L.val (x_neq rfl rfl) rfl ?_
    refine L.val (x_pick_f (v := .bool _) (congrArg Value.bool g39) rfl) rfl ?_
    refine L.val (x_mv (v := .bool _) rfl) rfl ?_
    refine L.splitat (dj := 43) (b := _) rfl (fun g43 => ?_) (fun g43 => ?_)
    ·have h43 := dne_t g43
     cases g43
    ·have h43 := dne_f g43
     refine L.gyes' (dj := 43) (b := _) rfl rfl g43 ?_
     refine L.val (x_mv (v := .pointer _) rfl) rfl ?_
     refine L.gyes' (dj := 43) (b := _) rfl rfl g43 ?_
     refine L.val (x_eqp0 Try.underlying23 rfl rfl) rfl ?_
     refine L.val (x_pick_f (v := .bool _) (congrArg Value.bool g43) rfl) rfl ?_
     refine L.val (x_mv (v := .bool _) rfl) rfl ?_
     refine L.splitat (dj := 47) (b := _) rfl (fun g47 => ?_) (fun g47 => ?_)
     ·have h47 := g47
      cases g47
     ·have h47 := g47
      refine L.gyes' (dj := 47) (b := _) rfl rfl g47 ?_
      refine L.val (x_mv (v := .slice _ _ _) rfl) rfl ?_
      refine L.gyes' (dj := 47) (b := _) rfl rfl g47 ?_
      refine L.val (x_len_slice Try.underlying22 rfl) rfl ?_
      refine L.gyes' (dj := 47) (b := _) rfl rfl g47 ?_
      refine L.val (x_neq rfl rfl) rfl ?_
      refine L.val (x_pick_f (v := .bool _) (congrArg Value.bool g47) rfl) rfl ?_
      refine L.nil ?_
      refine thn_n ?_
      refine W.cond (b := _) rfl (fun g50 => ?_) (fun g50 => ?_)
      ·have h50 := dne_t g50
       cases g50
      ·have h50 := dne_f g50
       refine W.skip ?_
       refine thn_n ?_
       refine W.seq ?_
       refine W.region ?_
       refine L.val (x_as (v := .slice _ _ _) rfl) rfl ?_
       refine L.nil ?_
       refine thn_n ?_
       refine W.seq ?_
       refine W.seq ?_
       refine W.region ?_
       refine L.val (x_as (v := .int _ _) rfl) rfl ?_
       refine L.nil ?_
       refine thn_n ?_
       refine W.block ?_
       refine W.loop (fun m' E w' => ∃ (i : Nat) (D : Dk) (K : Fl) (q : Pt) (all : List Str) (va : Value) (bl : Nat), m' = l.length - i ∧ E 1 = .slice pv l.length cv ∧ E 5 = .pointer (some ⟨b, 0, none⟩) ∧ E 7 = .pointer (some ⟨bl, 0, none⟩) ∧ E 10 = va ∧ E 11 = .int .i64 (i : Nat) ∧ (i ≤ l.length) ∧ (CrS w.heap.size w' b bl va D K q all i (secN n) (costW (l.take i))) ∧ (WcsAt (fun k => w.heap.size ≤ k) w' (.slice pv l.length cv) l) ∧ (Bel w w')) (l.length) ?_ ?_
       ·exact ⟨0, newD (secN n), K0, pt0, [], .slice none 0 0, _, by omega, by first | rfl | exact vi (by omega) | exact vs (by first | assumption | (rw [hst]; done) | (rw [hst]; simp only [List.append_assoc])), by first | rfl | exact vi (by omega) | exact vs (by first | assumption | (rw [hst]; done) | (rw [hst]; simp only [List.append_assoc])), by first | rfl | exact vi (by omega) | exact vs (by first | assumption | (rw [hst]; done) | (rw [hst]; simp only [List.append_assoc])), by first | rfl | exact vi (by omega) | exact vs (by first | assumption | (rw [hst]; done) | (rw [hst]; simp only [List.append_assoc])), by first | rfl | exact vi (by omega) | exact vs (by first | assumption | (rw [hst]; done) | (rw [hst]; simp only [List.append_assoc])), (by first | assumption | omega | rfl), (by exact ⟨repC_new (by omega), rfl, Nat.zero_le _, Nat.le_refl _, Nat.le_refl _, Nat.zero_le _, by simp [newD], h, hl, StrsAt.nil _ _ _ _ (by omega)⟩), (by first | assumption | omega | rfl), (by first | assumption | omega | rfl)⟩
       ·rintro _ E wL52 ⟨i, D, K, q, all, va, bl, em, e1, e5, e7, e10, e11, hi, hC, hs, hB⟩
        rw [upd_self e1, upd_self e5, upd_self e7, upd_self e10, upd_self e11]
        refine W.seq ?_
        refine W.seq ?_
        refine W.region ?_
        refine L.val (x_mv (v := .int _ _) rfl) rfl ?_
        refine L.val (x_mv (v := .slice _ _ _) rfl) rfl ?_
        refine L.val (x_len_slice Try.underlying45 rfl) rfl ?_
        refine L.val (x_lss rfl rfl) rfl ?_
        refine L.nil ?_
        refine thn_n ?_
        refine W.cond (b := _) rfl (fun g55 => ?_) (fun g55 => ?_)
        ·have h55 := of_decide_eq_true g55
         have hlt : i < l.length := by omega
         obtain ⟨hR, hdd, har, hops, hep, hlen, hpl, h, hl, hva⟩ := hC
         obtain ⟨p2, c2, row2, e2, -, -, -, hRw⟩ := id hs
         cases e2
         obtain ⟨bb, o, rfl, -, hc⟩ := hRw.elem hlt
         have hwc := hRw.each i hlt
         obtain ⟨vb, vk, hrow, hsb, hk, hbig⟩ := id hwc
         obtain ⟨pb, cb, rfl, s1, s2, s3, s4, -⟩ := id hsb
         obtain ⟨pk, ck, rfl, -⟩ := id hk
         rw [hrow] at hwc
         have hrc : ∀ j, j < 6 → wL52.cell? ⟨bb, o + i * 6 + j, none⟩ = (wcV (l.getD i default) (.slice pb (l.getD i default).bods.length cb) (.slice pk (l.getD i default).keep.length ck))[j]? := fun j hj => by rw [hc j hj, hrow]
         have hst := costW_take hlt
         have hle := costW_le l (i + 1)
         have hlb := len_costB (l.getD i default).bods
         have hlw := costW_len l
         have hnb := need_le (l := (l.getD i default).bods)
         have hatl := hat i hlt
         obtain ⟨pva, cva, rfl, -⟩ := id hva
         have hsizeL := hB.size
         have hok0 := h.2.1
         refine W.skip ?_
         refine thn_n ?_
         refine W.cut (fun D' E' w' => D' = [] ∧ E' 1 = .slice (some ⟨bb, o, none⟩) l.length cv ∧ E' 5 = .pointer (some ⟨b, 0, none⟩) ∧ E' 11 = .int .i64 (i : Nat) ∧ ∃ D2 K2 q2 all2 va2 bl2, E' 7 = .pointer (some ⟨bl2, 0, none⟩) ∧ E' 10 = va2 ∧ CrS w.heap.size w' b bl2 va2 D2 K2 q2 all2 (i + 1) (secN n) (costW (l.take (i + 1))) ∧ WcsAt (fun k => w.heap.size ≤ k) w' (.slice (some ⟨bb, o, none⟩) l.length cv) l ∧ Bel w w') ?_ ?_
         ·refine W.block ?_
          refine W.seq ?_
          refine W.region ?_
          refine L.val (x_mv (v := .slice _ _ _) rfl) rfl ?_
          refine L.val (x_mv (v := .int _ _) rfl) rfl ?_
          refine L.val (x_ia (j := i) Try.underlying45 kcrs6_sz51 rfl rfl (by omega) (by omega)) rfl ?_
          refine L.val (x_ldn (vs := wcV (l.getD i default) (.slice pb (l.getD i default).bods.length cb) (.slice pk (l.getD i default).keep.length ck)) kcrs6_ag51 rfl rfl hrc) rfl ?_
          have hB5 := hB; have hs5 := hs; have h5 := h; have hl5 := hl; have hva5 := hva
          refine L.alloc (cs := [Value.int .i64 0, Value.slice none 0 0, Value.int .i64 0, Value.slice none 0 0, Value.int .i64 0, Value.int .i64 0]) kcrs6_zr51 rfl rfl (fun w12 bx12 hw hz12 => ?_)
          have hB := hB.carry hw; have hs := hs.carry hw
          have hl12 := bx12.lt
          obtain ⟨bA, hbA⟩ : ∃ bA, bA = wL52.heap.size := ⟨_, rfl⟩
          rw [← hbA] at bx12 ⊢
          have hw12 : Bel wL52 w12 := by assumption
          refine L.setRow kcrs6_ag51 rfl rfl bx12 rfl rfl (wcV_one hwc) (fun wl51 bx12 hw hzl51 => ?_)
          have hB51 : Bel wL52 wl51 := hw12.set hw (by omega)
          have hB := hB5.carry hB51; have hs := hs5.carry hB51; have h := h5.bel hB51; have hl := hl5.bel hB51; have hva := hva5.dg (Dg.of_bel hB51)
          have hwc := Car.carry hwc hB51
          refine L.nil ?_
          refine thn_n ?_
          refine W.seq ?_
          refine W.seq ?_
          refine W.region ?_
          refine L.val (x_fa kcrs6_fo51_0 rfl) rfl ?_
          refine L.val (x_ld (v := .int _ _) kcrs6_oc3 rfl (bx12.cell0 rfl)) rfl ?_
          refine L.val (x_eql rfl rfl) rfl ?_
          refine L.nil ?_
          refine thn_n ?_
          refine W.cond (b := _) rfl (fun g64 => ?_) (fun g64 => ?_)
          ·have h64 := of_decide_eq_true g64
           refine W.seq ?_
           refine W.region ?_
           refine L.val (x_mv (v := .pointer _) rfl) rfl ?_
           refine L.val (x_fa kcrs6_fo51_2 rfl) rfl ?_
           refine L.val (x_ld (v := .int _ _) kcrs6_oc3 rfl (bx12.cell0 rfl)) rfl ?_
           refine L.val (x_fa kcrs6_fo51_3 rfl) rfl ?_
           refine L.val (x_ldn (vs := [.slice pk (l.getD i default).keep.length ck, .int .i64 (l.getD i default).torn, .int .i64 (l.getD i default).cut]) kcrs6_ag40 rfl rfl (bx12.rowD 3 (k := 3) rfl)) rfl ?_
           refine L.ret (x_call kcrs6_en22 rfl) rfl (arm_f w.heap.size b (fun k => w.heap.size ≤ k) (l.getD i default).at' (.slice pk (l.getD i default).keep.length ck) K ⟨(l.getD i default).keep, (l.getD i default).torn, (l.getD i default).cut⟩ D _ h hdd (wc_keep hwc) h.1) ?_
           rintro v70 w70 ⟨h70, hg70⟩
           have hg70L : Dg lgTy w.heap.size _ _ := Dg.mono hg70 lg_of_dk
           have hB := hg70L.bel hB
           have hs := hs.carryR hg70L (fun j hj => hj.1)
           have hva := hva.dg hg70L
           have hl := hl.dg hg70
           have h := h70
           refine L.nil ?_
           refine thn_n ?_
           refine W.exit (thn_x (blk_hit ?_))
           refine thn_n ?_
           exact ⟨rfl, rfl, rfl, rfl, armD D (l.getD i default).at', _, q, all, _, bl, rfl, rfl, ⟨(hR.arm _).1, (hR.arm _).2.1.trans hdd, armD_le har hatl, by rw [(hR.arm _).2.2.1]; omega, by omega, by omega, by rw [(hR.arm _).2.2.2]; exact hpl, h, hl, hva⟩, hs, hB⟩
          ·have h64 := of_decide_eq_false g64
           refine W.skip ?_
           refine thn_n ?_
           refine W.seq ?_
           refine W.region ?_
           refine L.val (x_mv (v := .pointer _) rfl) rfl ?_
           refine L.val (x_ldn (vs := _) kcrs6_ag51 rfl rfl (bx12.row rfl)) rfl ?_
           refine L.ret (x_call kcrs6_en18 rfl) rfl (does_f w.heap.size bl b _ (l.getD i default) D K q _ h hl hR.ok har hwc hB.size (by omega)) ?_
           rintro v73 w73 ⟨rfl, ⟨K3, h73⟩, hl73, hg73⟩
           have hB := hg73.bel hB
           have hs := hs.carryR hg73 (fun j hj => hj.1)
           have hva := hva.dg hg73
           have bx12 := bx12.dg hg73 rfl
           have hwc := Car.carryR hwc hg73 (fun j hj => hj.1)
           have hF := does_fin (l.getD i default) hdd hR hok0 h73.2.1 (by omega) (by omega) (by omega)
           obtain ⟨r, hr⟩ : ∃ r, doesF D K q (l.getD i default) = r := ⟨_, rfl⟩
           rw [hr] at h73 hl73 hF ⊢
           have h := h73; have hl := hl73
           have hg2 := goesA_len2 all (l.getD i default) (p := r.1 = 0)
           have hg3 := goesA_len2 all (l.getD i default) (p := r.1 = 0 ∨ r.1 = 190)
           refine L.val (x_as (v := .int _ _) rfl) rfl ?_
           refine L.nil ?_
           refine thn_n ?_
           refine W.seq ?_
           refine W.region ?_
           refine L.val (x_mv (v := .slice _ _ _) rfl) rfl ?_
           refine L.val (x_as (v := .slice _ _ _) rfl) rfl ?_
           refine L.nil ?_
           refine thn_n ?_
           refine W.cut (fun D' E' w' => D' = [] ∧ E' 1 = .slice (some ⟨bb, o, none⟩) l.length cv ∧ E' 5 = .pointer (some ⟨b, 0, none⟩) ∧ E' 7 = .pointer (some ⟨bl, 0, none⟩) ∧ E' 10 = .slice pva all.length cva ∧ E' 11 = .int .i64 (i : Nat) ∧ E' 12 = .pointer (some ⟨bA, 0, none⟩) ∧ E' 13 = .int .i64 r.1 ∧ ∃ vm, E' 14 = vm ∧ AllAt w.heap.size w' vm (if r.1 = 0 ∨ r.1 = 190 then goesA all (l.getD i default) else all) ∧ WcsAt (fun k => w.heap.size ≤ k) w' (.slice (some ⟨bb, o, none⟩) l.length cv) l ∧ DiskF w.heap.size w' b r.2.1 K3 ∧ LogB w.heap.size w' bl b r.2.2 r.2.1.dead ∧ AllAt w.heap.size w' (.slice pva all.length cva) all ∧ Box w' bA 51 (wcV (l.getD i default) (.slice pb (l.getD i default).bods.length cb) (.slice pk (l.getD i default).keep.length ck)) ∧ Bel w w') ?_ ?_
           ·refine W.seq ?_
            refine W.region ?_
            refine L.val (x_mv (v := .int _ _) rfl) rfl ?_
            refine L.val (x_eql rfl rfl) rfl ?_
            refine L.val (x_mv (v := .bool _) rfl) rfl ?_
            refine' L.group0 2 78 79 79 77 false rfl ?_ ?_ ?_
            rotate_left 1
            ·intro g77
             have h77 := of_decide_eq_false g77
             refine L.gyes' (dj := 77) (b := _) rfl rfl g77 ?_
             refine L.val (x_mv (v := .int _ _) rfl) rfl ?_
             refine L.gyes' (dj := 77) (b := _) rfl rfl g77 ?_
             refine L.val (x_eql rfl rfl) rfl ?_
             refine L.nil ?_
             refine thn_n ⟨rfl, rfl, ?_, rfl⟩
             repeat (first | exact jeq.refl _ _ _ | refine jeq.upd rfl ?_ | refine jeq.jk rfl rfl ?_)
            ·intro g77
             refine L.gno (dj := 77) (b := _) rfl rfl g77 rfl ?_
             refine L.gno (dj := 77) (b := _) rfl rfl g77 rfl ?_
             refine L.nil (thn_n ⟨rfl, rfl, ?_⟩)
             repeat (first | exact jeq.refl _ _ _ | refine jeq.upd rfl ?_ | refine jeq.jk rfl rfl ?_)
            intro J77 j77
            refine L.val (x_or rfl j77) rfl ?_
            refine L.nil ?_
            refine thn_n ?_
            refine W.cond (b := _) rfl (fun g80 => ?_) (fun g80 => ?_)
            ·have h80 := g80
             have hk80 : r.1 = 0 ∨ r.1 = 190 := by simpa using g80
             refine W.region ?_
             refine L.val (x_mv (v := .slice _ _ _) rfl) rfl ?_
             refine L.val (x_ldn (vs := _) kcrs6_ag51 rfl rfl (bx12.row rfl)) rfl ?_
             refine L.ret (x_call kcrs6_en19 rfl) rfl (goes21 w.heap.size _ _ all _ (l.getD i default) _ hva hwc (by omega)) ?_
             rintro v83 w83 ⟨hv83, hw⟩
             have hB := hB.carry hw; have hs := hs.carry hw; have h := h.carry hw; have hl := hl.carry hw; have hva := hva.carry hw; have hwc := hwc.carry hw; have bx12 := bx12.carry hw
             obtain ⟨p83, c83, rfl, -⟩ := id hv83
             refine L.val (x_as (v := .slice _ _ _) rfl) rfl ?_
             refine L.nil ?_
             refine thn_n ?_
             exact ⟨rfl, rfl, rfl, rfl, rfl, rfl, rfl, rfl, _, rfl, by rw [if_pos hk80]; exact hv83, hs, h, hl, hva, bx12, hB⟩
            ·have h80 := g80
             have hk80 : ¬ (r.1 = 0 ∨ r.1 = 190) := by simpa using g80
             refine W.skip ?_
             refine thn_n ?_
             exact ⟨rfl, rfl, rfl, rfl, rfl, rfl, rfl, rfl, _, rfl, by rw [if_neg hk80]; exact hva, hs, h, hl, hva, bx12, hB⟩
           ·rintro D' E w84 ⟨rfl, e1, e5, e7, e10, e11, e12, e13, vm, e14, hvm, hs, h, hl, hva, bx12, hB⟩
            obtain ⟨pvm, cvm, rfl, -⟩ := id hvm
            rw [upd_self e1, upd_self e5, upd_self e7, upd_self e10, upd_self e11, upd_self e12, upd_self e13, upd_self e14]
            refine W.cut (fun D' E' w' => D' = [] ∧ E' 1 = .slice (some ⟨bb, o, none⟩) l.length cv ∧ E' 5 = .pointer (some ⟨b, 0, none⟩) ∧ E' 7 = .pointer (some ⟨bl, 0, none⟩) ∧ E' 11 = .int .i64 (i : Nat) ∧ E' 12 = .pointer (some ⟨bA, 0, none⟩) ∧ E' 13 = .int .i64 r.1 ∧ ∃ vm va2, E' 14 = vm ∧ E' 10 = va2 ∧ AllAt w.heap.size w' vm (if r.1 = 0 ∨ r.1 = 190 then goesA all (l.getD i default) else all) ∧ AllAt w.heap.size w' va2 (if r.1 = 0 then goesA all (l.getD i default) else all) ∧ WcsAt (fun k => w.heap.size ≤ k) w' (.slice (some ⟨bb, o, none⟩) l.length cv) l ∧ DiskF w.heap.size w' b r.2.1 K3 ∧ LogB w.heap.size w' bl b r.2.2 r.2.1.dead ∧ Box w' bA 51 (wcV (l.getD i default) (.slice pb (l.getD i default).bods.length cb) (.slice pk (l.getD i default).keep.length ck)) ∧ Bel w w') ?_ ?_
            ·refine W.seq ?_
             refine W.region ?_
             refine L.val (x_mv (v := .int _ _) rfl) rfl ?_
             refine L.val (x_eql rfl rfl) rfl ?_
             refine L.nil ?_
             refine thn_n ?_
             refine W.cond (b := _) rfl (fun g85 => ?_) (fun g85 => ?_)
             ·have h85 := of_decide_eq_true g85
              refine W.region ?_
              refine L.val (x_mv (v := .slice _ _ _) rfl) rfl ?_
              refine L.val (x_as (v := .slice _ _ _) rfl) rfl ?_
              refine L.nil ?_
              refine thn_n ?_
              have h85 : r.1 = 0 := by simpa using g85
              exact ⟨rfl, rfl, rfl, rfl, rfl, rfl, rfl, _, _, rfl, rfl, hvm, hvm.eq (by rw [if_pos h85, if_pos (.inl h85)]), hs, h, hl, bx12, hB⟩
             ·have h85 := of_decide_eq_false g85
              refine W.skip ?_
              refine thn_n ?_
              have h85 : ¬ r.1 = 0 := by simpa using g85
              exact ⟨rfl, rfl, rfl, rfl, rfl, rfl, rfl, _, _, rfl, rfl, hvm, by rw [if_neg h85]; exact hva, hs, h, hl, bx12, hB⟩
            ·rintro D' E w87 ⟨rfl, e1, e5, e7, e11, e12, e13, vm, va2, e14, e10, hvm, hva, hs, h, hl, bx12, hB⟩
             obtain ⟨pvm, cvm, rfl, -⟩ := id hvm
             obtain ⟨pv2, cv2, rfl, -⟩ := id hva
             rw [upd_self e1, upd_self e5, upd_self e7, upd_self e10, upd_self e11, upd_self e12, upd_self e13, upd_self e14]
             refine W.seq ?_
             refine W.seq ?_
             refine W.region ?_
             refine L.val (x_mv (v := .int _ _) rfl) rfl ?_
             refine L.val (x_eql rfl rfl) rfl ?_
             refine L.val (x_mv (v := .pointer _) rfl) rfl ?_
             refine L.ret (x_call kcrs6_en23 rfl) rfl (dead_d w.heap.size b r.2.1 _ h.at) ?_
             rintro v90 w90 ⟨rfl, hq⟩
             rw [hq]
             refine L.val (x_neb Try.underlying4 rfl rfl) rfl ?_
             refine L.nil ?_
             refine thn_n ?_
             refine W.cond (b := _) rfl (fun g91 => ?_) (fun g91 => ?_)
             ·have h91 := g91
              have e1 : decide (r.1 = 190) = r.2.1.dead := by cases hd : r.2.1.dead with | true => exact decide_eq_true (hF.code.2 hd) | false => exact decide_eq_false (fun e => by have := hF.code.1 e; rw [hd] at this; cases this)
              simp [e1] at g91
             ·have h91 := g91
              refine W.skip ?_
              refine thn_n ?_
              refine W.cut (fun D' E' w' => D' = [] ∧ E' 1 = .slice (some ⟨bb, o, none⟩) l.length cv ∧ E' 5 = .pointer (some ⟨b, 0, none⟩) ∧ E' 10 = .slice pv2 (if r.1 = 0 then goesA all (l.getD i default) else all).length cv2 ∧ E' 11 = .int .i64 (i : Nat) ∧ E' 14 = .slice pvm (if r.1 = 0 ∨ r.1 = 190 then goesA all (l.getD i default) else all).length cvm ∧ AllAt w.heap.size w' (.slice pvm (if r.1 = 0 ∨ r.1 = 190 then goesA all (l.getD i default) else all).length cvm) (if r.1 = 0 ∨ r.1 = 190 then goesA all (l.getD i default) else all) ∧ AllAt w.heap.size w' (.slice pv2 (if r.1 = 0 then goesA all (l.getD i default) else all).length cv2) (if r.1 = 0 then goesA all (l.getD i default) else all) ∧ WcsAt (fun k => w.heap.size ≤ k) w' (.slice (some ⟨bb, o, none⟩) l.length cv) l ∧ DiskF w.heap.size w' b r.2.1 K3 ∧ Bel w w') ?_ ?_
              ·refine W.seq ?_
               refine W.region ?_
               refine L.val (x_fa kcrs6_fo51_0 rfl) rfl ?_
               refine L.val (x_ld (v := .int _ _) kcrs6_oc3 rfl (bx12.cell0 rfl)) rfl ?_
               refine L.val (x_neq rfl rfl) rfl ?_
               refine L.val (x_mv (v := .bool _) rfl) rfl ?_
               refine L.splitat (dj := 95) (b := _) rfl (fun g95 => ?_) (fun g95 => ?_)
               ·have h95 := dne_t g95
                refine L.gyes' (dj := 95) (b := _) rfl rfl g95 ?_
                refine L.val (x_mv (v := .pointer _) rfl) rfl ?_
                refine L.gyes' (dj := 95) (b := _) rfl rfl g95 ?_
                refine L.ret (x_call kcrs6_en23 rfl) rfl (dead_d w.heap.size b r.2.1 _ h.at) ?_
                rintro v97 w97 ⟨rfl, hq⟩
                rw [hq]
                refine L.gyes' (dj := 95) (b := _) rfl rfl g95 ?_
                refine L.val (x_not rfl) rfl ?_
                refine L.val (x_pick_t (v := .bool _) (congrArg Value.bool g95) rfl) rfl ?_
                refine L.nil ?_
                refine thn_n ?_
                refine W.cond (b := _) rfl (fun g98 => ?_) (fun g98 => ?_)
                ·have h98 := (not_t g98)
                 have hd98 : r.2.1.dead = false := by simpa using g98
                 obtain ⟨f1, f2⟩ := hF.live hd98
                 have hl : LogB w.heap.size _ bl b r.2.2 false := hd98 ▸ hl
                 refine W.exit (thn_x (blk_hit ?_))
                 refine thn_n ?_
                 exact ⟨rfl, rfl, rfl, rfl, r.2.1, K3, r.2.2, _, _, bl, rfl, rfl, ⟨f2, hd98, Nat.le_trans hF.arm har, by have := hF.ops; omega, by omega, by omega, hF.len.trans hpl, h, hl, hva⟩, hs, hB⟩
                ·have h98 := (not_f g98)
                 refine W.skip ?_
                 refine thn_n ?_
                 exact ⟨rfl, rfl, rfl, rfl, rfl, rfl, hvm, hva, hs, h, hB⟩
               ·have h95 := dne_f g95
                refine L.gno (dj := 95) (b := _) rfl rfl g95 rfl ?_
                refine L.gno (dj := 95) (b := _) rfl rfl g95 rfl ?_
                refine L.gno (dj := 95) (b := _) rfl rfl g95 rfl ?_
                refine L.val (x_pick_f (v := .bool _) (congrArg Value.bool g95) rfl) rfl ?_
                refine L.nil ?_
                refine thn_n ?_
                refine W.cond (b := false) rfl (fun h => nomatch h) (fun _ => ?_)
                refine W.skip ?_
                refine thn_n ?_
                exact ⟨rfl, rfl, rfl, rfl, rfl, rfl, hvm, hva, hs, h, hB⟩
              ·rintro D' E w100 ⟨rfl, e1, e5, e10, e11, e14, hvm, hva, hs, h, hB⟩
               rw [upd_self e1, upd_self e5, upd_self e10, upd_self e11, upd_self e14]
               obtain ⟨p, m, hp1, hp2, hp3⟩ := hF.boot
               have hml : m.length ≤ all.length + (l.getD i default).bods.length := by rcases hp3 with e | e <;> rw [e] <;> assumption
               refine W.seq ?_
               refine W.region ?_
               refine L.val (x_mv (v := .pointer _) rfl) rfl ?_
               refine L.ret (x_call kcrs6_en24 rfl) rfl (boot_f w.heap.size b r.2.1 K3 _ h) ?_
               rintro v101 w101 ⟨rfl, h101, hg101⟩
               have hg101 : Dg lgTy w.heap.size _ _ := Dg.mono hg101 lg_of_dk
               have hB := hg101.bel hB
               have hs := hs.carryR hg101 (fun j hj => hj.1)
               have hva := hva.dg hg101
               have hvm := hvm.dg hg101
               have h : DiskF w.heap.size _ b (bt r.2.1) K3 := h101
               have hob : openA (bt r.2.1) = (0, p, m) := (una_open _).symm.trans (open_repC hp2 h.2.1.una)
               have h6b : 6 ≤ (bt r.2.1).pl.length := by have := hF.len; show 6 ≤ r.2.1.pl.length; omega
               have hsB := hB.size
               refine L.nil ?_
               refine thn_n ?_
               refine W.seq ?_
               refine W.region ?_
               refine L.val (x_mv (v := .pointer _) rfl) rfl ?_
               refine L.ret (x_call kcrs6_en12 rfl) rfl (open_own w.heap.size b (bt r.2.1) _ h.at rfl h6b) ?_
               rintro v104 w104 ⟨hw, hr1⟩
               have hB := hB.carry hw; have hs := hs.carry hw; have h := h.carry hw; have hva := hva.carry hw; have hvm := hvm.carry hw
               rw [hob] at hr1
               obtain ⟨-, bl2, u2, rfl, hl2, hU, base2, hO2⟩ := hr1.resolve_left (fun e => e.1 rfl)
               have hl2 : LogB w.heap.size w104 bl2 b p false := LogB.of _ hl2 hsB
               have hU : StrsAt _ w104 u2 m := hU
               have hu2 : AllAt w.heap.size w104 u2 m := strs_own hO2 (by omega) hU.short
               obtain ⟨pu2, cu2, rfl, -⟩ := id hU
               refine L.val (x_mv (v := _) rfl) rfl ?_
               refine L.val (x_ext (v := .pointer _) rfl rfl) rfl ?_
               refine L.val (x_ext (v := .slice _ _ _) rfl rfl) rfl ?_
               refine L.val (x_ext (v := .int _ _) rfl rfl) rfl ?_
               refine L.val (x_as (v := .pointer _) rfl) rfl ?_
               refine L.val (x_as (v := .slice _ _ _) rfl) rfl ?_
               refine L.val (x_as (v := .int _ _) rfl) rfl ?_
               refine L.nil ?_
               refine thn_n ?_
               refine W.seq ?_
               refine W.region ?_
               refine L.val (x_mv (v := .pointer _) rfl) rfl ?_
               refine L.ret (x_call kcrs6_en12 rfl) rfl (open_w w.heap.size b (bt r.2.1) _ h.at rfl h6b) ?_
               rintro v110 w110 ⟨hw, hr2⟩
               have hB := hB.carry hw; have hs := hs.carry hw; have h := h.carry hw; have hva := hva.carry hw; have hvm := hvm.carry hw; have hl2 := hl2.carry hw; have hu2 := hu2.carry hw
               rw [hob] at hr2
               obtain ⟨-, bl3, u3, rfl, hl3, hU3⟩ := hr2.resolve_left (fun e => e.1 rfl)
               have hU3 : StrsAt _ w110 u3 m := hU3
               obtain ⟨pu3, cu3, rfl, -⟩ := id hU3
               refine L.val (x_mv (v := _) rfl) rfl ?_
               refine L.val (x_ext (v := .pointer _) rfl rfl) rfl ?_
               refine L.val (x_ext (v := .slice _ _ _) rfl rfl) rfl ?_
               refine L.val (x_ext (v := .int _ _) rfl rfl) rfl ?_
               refine L.val (x_as (v := .pointer _) rfl) rfl ?_
               refine L.val (x_as (v := .slice _ _ _) rfl) rfl ?_
               refine L.val (x_as (v := .int _ _) rfl) rfl ?_
               refine L.nil ?_
               refine thn_n ?_
               refine W.seq ?_
               refine W.seq ?_
               refine W.region ?_
               refine L.val (x_mv (v := .int _ _) rfl) rfl ?_
               refine L.val (x_neq rfl rfl) rfl ?_
               refine L.val (x_mv (v := .bool _) rfl) rfl ?_
               refine L.splitat (dj := 116) (b := _) rfl (fun g116 => ?_) (fun g116 => ?_)
               ·have h116 := dne_t g116
                cases g116
               ·have h116 := dne_f g116
                refine L.gyes' (dj := 116) (b := _) rfl rfl g116 ?_
                refine L.val (x_mv (v := .int _ _) rfl) rfl ?_
                refine L.gyes' (dj := 116) (b := _) rfl rfl g116 ?_
                refine L.val (x_neq rfl rfl) rfl ?_
                refine L.val (x_pick_f (v := .bool _) (congrArg Value.bool g116) rfl) rfl ?_
                refine L.val (x_mv (v := .bool _) rfl) rfl ?_
                refine L.splitat (dj := 120) (b := _) rfl (fun g120 => ?_) (fun g120 => ?_)
                ·have h120 := dne_t g120
                 cases g120
                ·have h120 := dne_f g120
                 refine L.gyes' (dj := 120) (b := _) rfl rfl g120 ?_
                 refine L.val (x_mv (v := .pointer _) rfl) rfl ?_
                 refine L.gyes' (dj := 120) (b := _) rfl rfl g120 ?_
                 refine L.val (x_eqp0 Try.underlying23 rfl rfl) rfl ?_
                 refine L.val (x_pick_f (v := .bool _) (congrArg Value.bool g120) rfl) rfl ?_
                 refine L.val (x_mv (v := .bool _) rfl) rfl ?_
                 refine L.splitat (dj := 124) (b := _) rfl (fun g124 => ?_) (fun g124 => ?_)
                 ·have h124 := g124
                  cases g124
                 ·have h124 := g124
                  refine L.gyes' (dj := 124) (b := _) rfl rfl g124 ?_
                  refine L.val (x_mv (v := .pointer _) rfl) rfl ?_
                  refine L.gyes' (dj := 124) (b := _) rfl rfl g124 ?_
                  refine L.val (x_eqp0 Try.underlying23 rfl rfl) rfl ?_
                  refine L.val (x_pick_f (v := .bool _) (congrArg Value.bool g124) rfl) rfl ?_
                  refine L.val (x_mv (v := .bool _) rfl) rfl ?_
                  refine L.splitat (dj := 128) (b := _) rfl (fun g128 => ?_) (fun g128 => ?_)
                  ·have h128 := g128
                   cases g128
                  ·have h128 := g128
                   refine L.gyes' (dj := 128) (b := _) rfl rfl g128 ?_
                   refine L.val (x_mv (v := .slice _ _ _) rfl) rfl ?_
                   refine L.gyes' (dj := 128) (b := _) rfl rfl g128 ?_
                   refine L.val (x_mv (v := .slice _ _ _) rfl) rfl ?_
                   refine L.gyes' (dj := 128) (b := _) rfl rfl g128 ?_
                   refine L.ret (x_call kcrs6_en20 rfl) rfl (same21 _ _ _ _ _ _ _ hu2 hU3) ?_
                   rintro v131 w131 ⟨rfl, hw⟩
                   have hB := hB.carry hw; have hs := hs.carry hw; have h := h.carry hw; have hva := hva.carry hw; have hvm := hvm.carry hw; have hl2 := hl2.carry hw; have hu2 := hu2.carry hw
                   refine L.gyes' (dj := 128) (b := _) rfl rfl g128 ?_
                   refine L.val (x_not rfl) rfl ?_
                   refine L.val (x_pick_f (v := .bool _) (congrArg Value.bool g128) rfl) rfl ?_
                   refine L.val (x_mv (v := .bool _) rfl) rfl ?_
                   refine L.splitat (dj := 134) (b := _) rfl (fun g134 => ?_) (fun g134 => ?_)
                   ·have h134 := (not_t g134)
                    simp at g134
                   ·have h134 := (not_f g134)
                    refine L.gyes' (dj := 134) (b := _) rfl rfl g134 ?_
                    refine L.val (x_mv (v := .slice _ _ _) rfl) rfl ?_
                    refine L.gyes' (dj := 134) (b := _) rfl rfl g134 ?_
                    refine L.val (x_mv (v := .slice _ _ _) rfl) rfl ?_
                    refine L.gyes' (dj := 134) (b := _) rfl rfl g134 ?_
                    refine L.ret (x_call kcrs6_en20 rfl) rfl (same21 _ _ _ _ _ _ _ hu2 hva) ?_
                    rintro v137 w137 ⟨rfl, hw⟩
                    have hB := hB.carry hw; have hs := hs.carry hw; have h := h.carry hw; have hva := hva.carry hw; have hvm := hvm.carry hw; have hl2 := hl2.carry hw; have hu2 := hu2.carry hw
                    refine L.gyes' (dj := 134) (b := _) rfl rfl g134 ?_
                    refine L.val (x_not rfl) rfl ?_
                    refine L.gyes' (dj := 134) (b := _) rfl rfl g134 ?_
                    refine L.val (x_mv (v := .bool _) rfl) rfl ?_
                    refine L.splitat (dj := 139) (b := _) rfl (fun g139 => ?_) (fun g139 => ?_)
                    ·have h139 := (not_t g139)
                     have hm139 : m = (if r.1 = 0 ∨ r.1 = 190 then goesA all (l.getD i default) else all) := hp3.resolve_left (fun e => by rw [decide_eq_true e] at g139; cases g139)
                     refine L.gyes' (dj := 139) (b := _) rfl rfl g139 ?_
                     refine L.val (x_mv (v := .slice _ _ _) rfl) rfl ?_
                     refine L.gyes' (dj := 139) (b := _) rfl rfl g139 ?_
                     refine L.val (x_mv (v := .slice _ _ _) rfl) rfl ?_
                     refine L.gyes' (dj := 139) (b := _) rfl rfl g139 ?_
                     refine L.ret (x_call kcrs6_en20 rfl) rfl (same21 _ _ _ _ _ _ _ hu2 hvm) ?_
                     rintro v142 w142 ⟨rfl, hw⟩
                     have hB := hB.carry hw; have hs := hs.carry hw; have h := h.carry hw; have hva := hva.carry hw; have hvm := hvm.carry hw; have hl2 := hl2.carry hw; have hu2 := hu2.carry hw
                     refine L.gyes' (dj := 139) (b := _) rfl rfl g139 ?_
                     refine L.val (x_not rfl) rfl ?_
                     refine L.gyes' (dj := 134) (b := _) rfl rfl g134 ?_
                     refine L.val (x_pick_t (v := .bool _) (congrArg Value.bool g139) rfl) rfl ?_
                     refine L.val (x_pick_f (v := .bool _) (congrArg Value.bool g134) rfl) rfl ?_
                     refine L.nil ?_
                     refine thn_n ?_
                     refine W.cond (b := _) rfl (fun g143 => ?_) (fun g143 => ?_)
                     ·have h143 := (not_t g143)
                      rw [decide_eq_true hm139] at g143; cases g143
                     ·have h143 := (not_f g143)
                      refine W.skip ?_
                      refine thn_n ?_
                      refine W.seq ?_
                      refine W.region ?_
                      refine L.val (x_mv (v := .pointer _) rfl) rfl ?_
                      refine L.val (x_as (v := .pointer _) rfl) rfl ?_
                      refine L.nil ?_
                      refine thn_n ?_
                      refine W.region ?_
                      refine L.val (x_mv (v := .slice _ _ _) rfl) rfl ?_
                      refine L.val (x_as (v := .slice _ _ _) rfl) rfl ?_
                      refine L.nil ?_
                      refine blk_n ?_
                      refine thn_n ?_
                      exact ⟨rfl, rfl, rfl, rfl, bt r.2.1, K3, p, m, _, bl2, rfl, rfl, ⟨hp2, rfl, Nat.le_trans hF.arm har, by have := hF.ops; show r.2.1.ops ≤ _; omega, by omega, by omega, hF.len.trans hpl, h, hl2, hu2⟩, hs, hB⟩
                    ·have h139 := (not_f g139)
                     refine L.gno (dj := 139) (b := _) rfl rfl g139 rfl ?_
                     refine L.gno (dj := 139) (b := _) rfl rfl g139 rfl ?_
                     refine L.gno (dj := 139) (b := _) rfl rfl g139 rfl ?_
                     refine L.gno (dj := 139) (b := _) rfl rfl g139 rfl ?_
                     refine L.gyes' (dj := 134) (b := _) rfl rfl g134 ?_
                     refine L.val (x_pick_f (v := .bool _) (congrArg Value.bool g139) rfl) rfl ?_
                     refine L.val (x_pick_f (v := .bool _) (congrArg Value.bool g134) rfl) rfl ?_
                     refine L.nil ?_
                     refine thn_n ?_
                     refine W.cond (b := false) rfl (fun h => nomatch h) (fun _ => ?_)
                     refine W.skip ?_
                     refine thn_n ?_
                     refine W.seq ?_
                     refine W.region ?_
                     refine L.val (x_mv (v := .pointer _) rfl) rfl ?_
                     refine L.val (x_as (v := .pointer _) rfl) rfl ?_
                     refine L.nil ?_
                     refine thn_n ?_
                     refine W.region ?_
                     refine L.val (x_mv (v := .slice _ _ _) rfl) rfl ?_
                     refine L.val (x_as (v := .slice _ _ _) rfl) rfl ?_
                     refine L.nil ?_
                     refine blk_n ?_
                     refine thn_n ?_
                     exact ⟨rfl, rfl, rfl, rfl, bt r.2.1, K3, p, m, _, bl2, rfl, rfl, ⟨hp2, rfl, Nat.le_trans hF.arm har, by have := hF.ops; show r.2.1.ops ≤ _; omega, by omega, by omega, hF.len.trans hpl, h, hl2, hu2⟩, hs, hB⟩
         ·rintro D' E w56 ⟨rfl, e1, e5, e11, D2, K2, q2, all2, va2, bl2, e7, e10, hC2, hs, hB⟩
          rw [upd_self e1, upd_self e5, upd_self e7, upd_self e10, upd_self e11]
          refine W.region ?_
          refine L.val (x_mv (v := .int _ _) rfl) rfl ?_
          refine L.val (x_add rfl rfl (wr64 (by omega))) rfl ?_
          refine L.val (x_as (v := .int _ _) rfl) rfl ?_
          refine L.nil ?_
          refine thn_n ⟨rfl, ?_⟩
          refine ⟨_, ?_, i + 1, D2, K2, q2, all2, va2, bl2, rfl, by first | rfl | exact vi (by omega) | exact vs (by first | assumption | (rw [hst]; done) | (rw [hst]; simp only [List.append_assoc])), by first | rfl | exact vi (by omega) | exact vs (by first | assumption | (rw [hst]; done) | (rw [hst]; simp only [List.append_assoc])), by first | rfl | exact vi (by omega) | exact vs (by first | assumption | (rw [hst]; done) | (rw [hst]; simp only [List.append_assoc])), by first | rfl | exact vi (by omega) | exact vs (by first | assumption | (rw [hst]; done) | (rw [hst]; simp only [List.append_assoc])), by first | rfl | exact vi (by omega) | exact vs (by first | assumption | (rw [hst]; done) | (rw [hst]; simp only [List.append_assoc])), (by first | assumption | omega | rfl), (by exact hC2), (by first | assumption | omega | rfl), (by first | assumption | omega | rfl)⟩
          omega
        ·have h55 := dlt_f g55
         refine W.exit (thn_x (thn_x (blk_hit ?_)))
         refine thn_n ?_
         refine W.seq ?_
         refine W.region ?_
         refine L.ret (x_call kcrs6_en13 rfl) rfl (awake21 _) ?_
         rintro v148 w148 ⟨rfl, hw⟩
         have hB := hB.carry hw
         refine L.val (x_as (v := .bool _) rfl) rfl ?_
         refine L.nil ?_
         refine thn_n ?_
         refine W.ret (fin_mk (.inr rfl) ?_)
         exact ⟨rfl, hB⟩
theorem law_crash21 (A : Nat → Prop) (n : Int) (l : List Wc) (v : Value) (w : World) (_ : True) (h : WcsAt A w v l ∧ ∀ i, i < l.length → (l.getD i default).at' ≤ 9223372036854775807) : Ret Try.prog 6 #[.int .i64 n, v] w fun v w' => v = .bool true ∧ Bel w w' := crash21 A n v l w h.1 h.2
end Go.Gx
