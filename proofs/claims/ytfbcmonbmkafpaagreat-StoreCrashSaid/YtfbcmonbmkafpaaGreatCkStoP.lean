/- The law of a store's falls. Conditions: none. -/
import Derived.Test.YtfbcmonbmkafpaaGreatCkStoN
namespace Go.Gx
open Go.Proofs Go.Sort
theorem kstop_ag50 : aggT Tryz.prog 50 3 = true := by kernel_rfl
theorem kstop_ag52 : aggT Tryz.prog 52 7 = true := by kernel_rfl
theorem kstop_en10 : Go.Proofs.Enters Tryz.prog 10 := Go.Proofs.enters_of Tryz.func10 (by kernel_rfl) rfl
theorem kstop_en11 : Go.Proofs.Enters Tryz.prog 11 := Go.Proofs.enters_of Tryz.func11 (by kernel_rfl) rfl
theorem kstop_en12 : Go.Proofs.Enters Tryz.prog 12 := Go.Proofs.enters_of Tryz.func12 (by kernel_rfl) rfl
theorem kstop_en13 : Go.Proofs.Enters Tryz.prog 13 := Go.Proofs.enters_of Tryz.func13 (by kernel_rfl) rfl
theorem kstop_en14 : Go.Proofs.Enters Tryz.prog 14 := Go.Proofs.enters_of Tryz.func14 (by kernel_rfl) rfl
theorem kstop_en15 : Go.Proofs.Enters Tryz.prog 15 := Go.Proofs.enters_of Tryz.func15 (by kernel_rfl) rfl
theorem kstop_en16 : Go.Proofs.Enters Tryz.prog 16 := Go.Proofs.enters_of Tryz.func16 (by kernel_rfl) rfl
theorem kstop_en19 : Go.Proofs.Enters Tryz.prog 19 := Go.Proofs.enters_of Tryz.func19 (by kernel_rfl) rfl
theorem kstop_en20 : Go.Proofs.Enters Tryz.prog 20 := Go.Proofs.enters_of Tryz.func20 (by kernel_rfl) rfl
theorem kstop_en27 : Go.Proofs.Enters Tryz.prog 27 := Go.Proofs.enters_of Tryz.func27 (by kernel_rfl) rfl
theorem kstop_en28 : Go.Proofs.Enters Tryz.prog 28 := Go.Proofs.enters_of Tryz.func28 (by kernel_rfl) rfl
theorem kstop_en29 : Go.Proofs.Enters Tryz.prog 29 := Go.Proofs.enters_of Tryz.func29 (by kernel_rfl) rfl
theorem kstop_fo52_0 : fieldOff Tryz.prog 52 0 = some 0 := by kernel_rfl
theorem kstop_fo52_1 : fieldOff Tryz.prog 52 1 = some 1 := by kernel_rfl
theorem kstop_fo52_2 : fieldOff Tryz.prog 52 2 = some 2 := by kernel_rfl
theorem kstop_fo52_3 : fieldOff Tryz.prog 52 3 = some 3 := by kernel_rfl
theorem kstop_oc22 : oneCellT Tryz.prog 22 = true := by kernel_rfl
theorem kstop_oc3 : oneCellT Tryz.prog 3 = true := by kernel_rfl
theorem kstop_sz52 : (Tryz.prog.info? 52).map (·.size) = some 7 := by kernel_rfl
theorem kstop_zr52 : (Tryz.prog.info? 52).bind (·.zero) = some (Value.agg [Value.int .i64 0, Value.slice none 0 0, Value.int .i64 0, Value.slice none 0 0, Value.int .i64 0, Value.int .i64 0, S []].toArray) := by kernel_rfl
theorem DiskF.le0 {n0 n1 b : Nat} {w : World} {D : Dk} (h : DiskF n1 w b D K0) (hn : n0 ≤ n1) : DiskF n0 w b D K0 := by
  obtain ⟨h1, h2, bp, vc, vk, h3, h4, ⟨pk, ck, e, a1, a2, a3, a4⟩, h6, h7⟩ := h
  exact ⟨Nat.le_trans hn h1, h2, bp, vc, vk, Nat.le_trans hn h3, h4, ⟨pk, ck, e, a1, a2, a3, fun h => absurd rfl h⟩, h6, h7.weak hn⟩
theorem sa_eds {A : Nat → Prop} {w : World} {a : Sa} {ve vk : Value} (h : SaC A w (saV a ve vk) a) : EdsAt A w ve a.eds := by
  obtain ⟨ve', vk', eW, h1, -⟩ := h
  simp only [saV, List.cons.injEq] at eW
  rw [eW.2.1]; exact h1
theorem sa_keep {A : Nat → Prop} {w : World} {a : Sa} {ve vk : Value} (h : SaC A w (saV a ve vk) a) : BlsAt A w vk a.keep := by
  obtain ⟨ve', vk', eW, -, h2, -⟩ := h
  simp only [saV, List.cons.injEq] at eW
  rw [eW.2.2.2.1]; exact h2
theorem sa_fall {w : World} {b : Nat} {T : TypeId} {a : Sa} {ve vk : Value} (h : Box w b T (saV a ve vk)) : ∀ j, j < 3 → w.cell? ⟨b, 0 + 3 + j, none⟩ = [vk, .int .i64 a.torn, .int .i64 a.cut][j]? := fun j hj => by
  have hj : j = 0 ∨ j = 1 ∨ j = 2 := by omega
  rcases hj with rfl | rfl | rfl
  · exact h.cell0 (i := 3) rfl
  · exact h.cell0 (i := 4) rfl
  · exact h.cell0 (i := 5) rfl
theorem saV_one {A : Nat → Prop} {w : World} {a : Sa} {ve vk : Value} (h : SaC A w (saV a ve vk) a) : ∀ v ∈ saV a ve vk, v.oneCell' = true := Car.one h
theorem SaC.carry {A : Nat → Prop} {w w' : World} {cs : List Value} {a : Sa} (h : SaC A w cs a) (g : Bel w w') : SaC A w' cs a := Car.carry h g
theorem SRep.arm {D : Dk} {q : Pt} {G : List Ed} {c : Nat} (h : SRep (una D) q G c) (i : Int) : SRep (una (armD D i)) q G c ∧ (armD D i).dead = D.dead ∧ (armD D i).ops = D.ops ∧ (armD D i).pl = D.pl := by
  unfold armD
  split
  · exact ⟨h, rfl, rfl, rfl⟩
  · exact ⟨h, rfl, rfl, rfl⟩
theorem armS_le {D : Dk} {i : Int} (h : D.armed ≤ 9223372036854775807) (hi : i ≤ 9223372036854775807) : (armD D i).armed ≤ 9223372036854775807 := by
  unfold armD
  split
  · exact h
  · show i.toNat ≤ _; omega
theorem SRep.keys {D : Dk} {q : Pt} {G : List Ed} {c : Nat} (h : SRep D q G c) : ∀ e ∈ G, e.key.length ≤ 1000 := fun e he => by
  have hm := h.may
  unfold mayL at hm
  have := mayE_len (List.all_eq_true.1 hm e he)
  omega
structure StS (n0 : Nat) (w : World) (b bs bl : Nat) (va : Value) (D : Dk) (K : Fl) (q : Pt) (G : List Ed) (i n m : Nat) : Prop where
  rep : SRep (una D) q G (60000 + i)
  live : D.dead = false
  arm : D.armed ≤ 9223372036854775807
  ops : D.ops ≤ 2300 * i
  ep : q.ep ≤ i
  pl : D.pl.length = n
  disk : DiskF n0 w b D K
  log : LogB n0 w bl b q false
  sto : StoAt n0 w bs bl G
  held : AllE n0 w va G
  siz : sizG G ≤ 3 * m ∧ G.length ≤ m
theorem StS.carry {n0 : Nat} {w w' : World} {b bs bl : Nat} {va : Value} {D : Dk} {K : Fl} {q : Pt} {G : List Ed} {i n m : Nat} (h : StS n0 w b bs bl va D K q G i n m) (g : Bel w w') : StS n0 w' b bs bl va D K q G i n m :=
  ⟨h.rep, h.live, h.arm, h.ops, h.ep, h.pl, h.disk.bel g, h.log.bel g, h.sto.carry g, h.held.carry g, h.siz⟩
structure StR (n0 : Nat) (w : World) (b bs bl : Nat) (va vm : Value) (D : Dk) (q : Pt) (G G' : List Ed) (c m : Nat) (r : Int × Dk × Pt) (K : Fl) : Prop where
  fin : FinS D q G G' c r
  disk : DiskF n0 w b r.2.1 K
  log : LogB n0 w bl b r.2.2 r.2.1.dead
  sto : StoAt n0 w bs bl (if r.1 = 0 then G' else G)
  held : AllE n0 w va G
  may : AllE n0 w vm (if r.1 = 0 ∨ r.1 = 190 then G' else G)
  rises : Rises G'
  siz : sizG G ≤ 3 * m ∧ G.length ≤ m
  siz' : r.1 = 0 ∨ r.1 = 190 → sizG G' ≤ 3 * m ∧ G'.length ≤ m
theorem crash23 (A : Nat → Prop) (n : Int) (v : Value) (l : List Sa) (w : World) (h0 : SasAt A w v l) : Ret Tryz.prog 6 #[.int .i64 n, v] w fun v w' => v = .bool true ∧ Bel w w' := by
  have hs := (h0.up).mono (A' := fun k => w.heap.size ≤ k) (fun _ _ hk => .inr hk)
  obtain ⟨pv, cv, row, rfl, -, -, hln, -⟩ := id h0
  have hsec := secM_le n
  refine ret_of_W Tryz.func6 rfl (Nat.le_of_ble_eq_true rfl) (res1 rfl) ?_
  have hB := Gr.refl (fun _ => False) w
  refine W.seq ?_
  refine W.region ?_
  refine L.val (x_as (v := .bool _) rfl) rfl ?_
  refine L.nil ?_
  refine thn_n ?_
  refine W.seq ?_
  refine W.seq ?_
  refine W.region ?_
  refine L.val (x_mv (v := .slice _ _ _) rfl) rfl ?_
  refine L.ret (x_call kstop_en14 rfl) rfl (few23 _ _ l _ h0) ?_
  rintro v17 w17 ⟨rfl, hw⟩
  have hB := hB.carry hw; have hs := hs.carry hw
  refine L.val (x_not rfl) rfl ?_
  refine L.nil ?_
  refine thn_n ?_
  refine W.cond (b := _) rfl (fun g18 => ?_) (fun g18 => ?_)
  ·have h18 := (not_t g18)
   refine W.seq ?_
   refine W.region ?_
   refine L.ret (x_call kstop_en13 rfl) rfl (awake23 _) ?_
   rintro v19 w19 ⟨rfl, hw⟩
   have hB := hB.carry hw; have hs := hs.carry hw
   refine L.val (x_as (v := .bool _) rfl) rfl ?_
   refine L.nil ?_
   refine thn_n ?_
   refine W.ret (thn_r (fin_mk (.inr rfl) ?_))
   exact ⟨rfl, hB⟩
  ·have h18 := (not_f g18)
   have hfew : costS l ≤ 60000 := by unfold fewS at g18; simpa using g18
   refine W.skip ?_
   refine thn_n ?_
   refine W.seq ?_
   refine W.region ?_
   refine L.val (x_mv (v := .int _ _) rfl) rfl ?_
   refine L.ret (x_call kstop_en16 rfl) rfl (sectors23 n _) ?_
   rintro v22 w22 ⟨rfl, hq⟩
   rw [hq]
   have hs22 := hB.size
   refine L.ret (x_call kstop_en15 rfl) rfl (newdisk_f (secM n) (by omega) _) ?_
   rintro v23 w23 ⟨b, rfl, h, hw⟩
   have hB := hB.carry hw; have hs := hs.carry hw
   refine L.val (x_mv (v := _) rfl) rfl ?_
   refine L.val (x_ext (v := .pointer _) rfl rfl) rfl ?_
   refine L.val (x_ext (v := .int _ _) rfl rfl) rfl ?_
   refine L.val (x_as (v := .pointer _) rfl) rfl ?_
   refine L.val (x_as (v := .int _ _) rfl) rfl ?_
   refine L.nil ?_
   refine thn_n ?_
   refine W.seq ?_
   refine W.region ?_
   have hs23 := hB.size
   have hD0 : SRep (una (newD (secM n))) pt0 [] 0 := SRep.new (by omega)
   have h := h.le0 hs22
   refine L.val (x_mv (v := .pointer _) rfl) rfl ?_
   refine L.ret (x_call kstop_en12 rfl) rfl (open_c (n0 := w.heap.size) h hD0 rfl hs23) ?_
   rintro v28 w28 ⟨⟨bs, bl, rfl, hS, hL⟩, hw⟩
   have hB := hB.carry hw; have hs := hs.carry hw; have h := h.carry hw
   refine L.val (x_mv (v := _) rfl) rfl ?_
   refine L.val (x_ext (v := .pointer _) rfl rfl) rfl ?_
   refine L.val (x_ext (v := .int _ _) rfl rfl) rfl ?_
   refine L.val (x_as (v := .pointer _) rfl) rfl ?_
   refine L.val (x_as (v := .int _ _) rfl) rfl ?_
   refine L.nil ?_
   refine thn_n ?_
   refine W.seq ?_
   refine W.seq ?_
   refine W.region ?_
   refine L.val (x_mv (v := .int _ _) rfl) rfl ?_
   refine L.val (x_neq rfl rfl) rfl ?_
   refine L.val (x_mv (v := .bool _) rfl) rfl ?_
   refine L.splitat (dj := 33) (b := _) rfl (fun g33 => ?_) (fun g33 => ?_)
   ·have h33 := dne_t g33
    cases g33
   ·have h33 := dne_f g33
    refine L.gyes' (dj := 33) (b := _) rfl rfl g33 ?_
    refine L.val (x_mv (v := .int _ _) rfl) rfl ?_
    refine L.gyes' (dj := 33) (b := _) rfl rfl g33 ?_
    refine L.val (x_neq rfl rfl) rfl ?_
    refine L.val (x_pick_f (v := .bool _) (congrArg Value.bool g33) rfl) rfl ?_
    refine L.val (x_mv (v := .bool _) rfl) rfl ?_
    refine L.splitat (dj := 37) (b := _) rfl (fun g37 => ?_) (fun g37 => ?_)
    ·have h37 := dne_t g37
     cases g37
    ·have h37 := dne_f g37
     refine L.gyes' (dj := 37) (b := _) rfl rfl g37 ?_
     refine L.val (x_mv (v := .pointer _) rfl) rfl ?_
     refine L.gyes' (dj := 37) (b := _) rfl rfl g37 ?_
     refine L.val (x_eqp0 Tryz.underlying23 rfl rfl) rfl ?_
     refine L.val (x_pick_f (v := .bool _) (congrArg Value.bool g37) rfl) rfl ?_
     refine L.nil ?_
     refine thn_n ?_
     refine W.cond (b := _) rfl (fun g39 => ?_) (fun g39 => ?_)
     ·have h39 := g39
      cases g39
     ·have h39 := g39
      refine W.skip ?_
      refine thn_n ?_
      refine W.seq ?_
      refine W.region ?_
      refine L.val (x_as (v := .slice _ _ _) rfl) rfl ?_
      refine L.nil ?_
      refine thn_n ?_
      refine W.seq ?_
      refine W.seq ?_
      refine W.region ?_
      refine L.val (x_as (v := .int _ _) rfl) rfl ?_
      refine L.nil ?_
      refine thn_n ?_
      refine W.block ?_
      refine W.loop (fun m' E w' => ∃ (i : Nat) (D : Dk) (K : Fl) (q : Pt) (G : List Ed) (va : Value) (bs bl : Nat), m' = l.length - i ∧ E 1 = .slice pv l.length cv ∧ E 5 = .pointer (some ⟨b, 0, none⟩) ∧ E 7 = .pointer (some ⟨bs, 0, none⟩) ∧ E 9 = va ∧ E 10 = .int .i64 (i : Nat) ∧ (i ≤ l.length) ∧ (StS w.heap.size w' b bs bl va D K q G i (secM n) (costS (l.take i))) ∧ (SasAt (fun k => w.heap.size ≤ k) w' (.slice pv l.length cv) l) ∧ (Bel w w')) (l.length) ?_ ?_
      ·exact ⟨0, newD (secM n), K0, pt0, [], .slice none 0 0, _, _, by omega, by first | rfl | exact vi (by omega) | exact vs (by first | assumption | (rw [hst]; done) | (rw [hst]; simp only [List.append_assoc])), by first | rfl | exact vi (by omega) | exact vs (by first | assumption | (rw [hst]; done) | (rw [hst]; simp only [List.append_assoc])), by first | rfl | exact vi (by omega) | exact vs (by first | assumption | (rw [hst]; done) | (rw [hst]; simp only [List.append_assoc])), by first | rfl | exact vi (by omega) | exact vs (by first | assumption | (rw [hst]; done) | (rw [hst]; simp only [List.append_assoc])), by first | rfl | exact vi (by omega) | exact vs (by first | assumption | (rw [hst]; done) | (rw [hst]; simp only [List.append_assoc])), (by first | assumption | omega | rfl), (by exact ⟨hD0.mono (by omega), rfl, Nat.zero_le _, Nat.le_refl _, Nat.le_refl _, by simp [newD], h, hL, hS, RecsAt.nil (by omega), by simp [sizG]⟩), (by first | assumption | omega | rfl), (by first | assumption | omega | rfl)⟩
      ·rintro _ E wL41 ⟨i, D, K, q, G, va, bs, bl, em, e1, e5, e7, e9, e10, hi, hC, hs, hB⟩
       rw [upd_self e1, upd_self e5, upd_self e7, upd_self e9, upd_self e10]
       refine W.seq ?_
       refine W.seq ?_
       refine W.region ?_
       refine L.val (x_mv (v := .int _ _) rfl) rfl ?_
       refine L.val (x_mv (v := .slice _ _ _) rfl) rfl ?_
       refine L.val (x_len_slice Tryz.underlying42 rfl) rfl ?_
       refine L.val (x_lss rfl rfl) rfl ?_
       refine L.nil ?_
       refine thn_n ?_
       refine W.cond (b := _) rfl (fun g44 => ?_) (fun g44 => ?_)
       ·have h44 := of_decide_eq_true g44
        have hlt : i < l.length := by omega
        obtain ⟨hR, hdd, har, hops, hep, hpl, h, hl, hsto, hva, hsz⟩ := hC
        obtain ⟨bb, o, pe, ce, pk, ck, rfl, hse, hk, hatl, hrc⟩ := sas_elem hs hlt
        have hwc : SaC (fun k => w.heap.size ≤ k) wL41 (saV (l.getD i default) (.slice pe (l.getD i default).eds.length ce) (.slice pk (l.getD i default).keep.length ck)) (l.getD i default) := ⟨_, _, rfl, hse, hk, hatl⟩
        have hst := costS_take hlt
        have hle := costS_le l (i + 1)
        have hll := costS_len l
        have hel := costE_len (l.getD i default).eds
        have hesz := fun (h : mayL (l.getD i default).eds = true) => costE_siz h
        have hrG := hR.rises
        have hmG := hR.may
        have hqk := hR.ok
        obtain ⟨pva, cva, rva, rfl, -⟩ := id hva
        have hsizeL := hB.size
        have hok0 := h.2.1
        have hcl := comes_len (l.getD i default).eds G
        have hcz := sizG_comes (l.getD i default).eds G
        generalize haa : l.getD i default = a at *
        obtain ⟨cm, hcm⟩ : ∃ cm, cm = costS (l.take (i + 1)) := ⟨_, rfl⟩
        rw [← hcm] at hst hle
        refine W.skip ?_
        refine thn_n ?_
        refine W.cut (fun D' E' w' => D' = [] ∧ E' 1 = .slice (some ⟨bb, o, none⟩) l.length cv ∧ E' 5 = .pointer (some ⟨b, 0, none⟩) ∧ E' 10 = .int .i64 (i : Nat) ∧ ∃ D2 K2 q2 G2 va2 bs2 bl2, E' 7 = .pointer (some ⟨bs2, 0, none⟩) ∧ E' 9 = va2 ∧ StS w.heap.size w' b bs2 bl2 va2 D2 K2 q2 G2 (i + 1) (secM n) (costS (l.take (i + 1))) ∧ SasAt (fun k => w.heap.size ≤ k) w' (.slice (some ⟨bb, o, none⟩) l.length cv) l ∧ Bel w w') ?_ ?_
        ·refine W.block ?_
         refine W.seq ?_
         refine W.region ?_
         refine L.val (x_mv (v := .slice _ _ _) rfl) rfl ?_
         refine L.val (x_mv (v := .int _ _) rfl) rfl ?_
         refine L.val (x_ia (j := i) Tryz.underlying42 kstop_sz52 rfl rfl (by omega) (by omega)) rfl ?_
         refine L.val (x_ldn (vs := saV a (.slice pe a.eds.length ce) (.slice pk a.keep.length ck)) kstop_ag52 rfl rfl hrc) rfl ?_
         have hB5 := hB; have hs5 := hs; have h5 := h; have hl5 := hl; have hsto5 := hsto; have hva5 := hva
         refine L.alloc (cs := [Value.int .i64 0, Value.slice none 0 0, Value.int .i64 0, Value.slice none 0 0, Value.int .i64 0, Value.int .i64 0, S []]) kstop_zr52 rfl rfl (fun w11 bx11 hw hz11 => ?_)
         have hB := hB.carry hw; have hs := hs.carry hw
         have hl11 := bx11.lt
         obtain ⟨bA, hbA⟩ : ∃ bA, bA = wL41.heap.size := ⟨_, rfl⟩
         rw [← hbA] at bx11 ⊢
         have hw11 : Bel wL41 w11 := by assumption
         refine L.setRow kstop_ag52 rfl rfl bx11 rfl rfl (saV_one hwc) (fun wl44 bx11 hw hzl44 => ?_)
         have hB44 : Bel wL41 wl44 := hw11.set hw (by omega)
         have hB := hB5.carry hB44; have hs := hs5.carry hB44; have h := h5.bel hB44; have hl := hl5.bel hB44; have hsto := hsto5.carry hB44; have hva := hva5.carry hB44
         have hwc := hwc.carry hB44
         refine L.nil ?_
         refine thn_n ?_
         refine W.seq ?_
         refine W.region ?_
         refine L.val (x_as (v := .int _ _) rfl) rfl ?_
         refine L.nil ?_
         refine thn_n ?_
         refine W.seq ?_
         refine W.region ?_
         refine L.val (x_mv (v := .slice _ _ _) rfl) rfl ?_
         refine L.val (x_as (v := .slice _ _ _) rfl) rfl ?_
         refine L.nil ?_
         refine thn_n ?_
         refine W.cut (fun D' E' w' => D' = [] ∧ E' 1 = .slice (some ⟨bb, o, none⟩) l.length cv ∧ E' 5 = .pointer (some ⟨b, 0, none⟩) ∧ E' 7 = .pointer (some ⟨bs, 0, none⟩) ∧ E' 9 = .slice pva G.length cva ∧ E' 10 = .int .i64 (i : Nat) ∧ E' 11 = .pointer (some ⟨bA, 0, none⟩) ∧ ∃ r vm G' K3 bl3, E' 12 = .int .i64 r.1 ∧ E' 13 = vm ∧ StR w.heap.size w' b bs bl3 (.slice pva G.length cva) vm D q G G' (60000 + i + 1) cm r K3 ∧ SasAt (fun k => w.heap.size ≤ k) w' (.slice (some ⟨bb, o, none⟩) l.length cv) l ∧ Box w' bA 52 (saV a (.slice pe a.eds.length ce) (.slice pk a.keep.length ck)) ∧ Bel w w') ?_ ?_
         ·refine W.seq ?_
          refine W.region ?_
          refine L.val (x_fa kstop_fo52_0 rfl) rfl ?_
          refine L.val (x_ld (v := .int _ _) kstop_oc3 rfl (bx11.cell0 rfl)) rfl ?_
          refine L.nil ?_
          refine thn_n ?_
          refine W.block ?_
          refine W.seq ?_
          refine W.region ?_
          refine L.val (x_eql rfl rfl) rfl ?_
          refine L.val (x_as (v := .bool _) rfl) rfl ?_
          refine L.nil ?_
          refine thn_n ?_
          refine W.cond (b := _) rfl (fun g55 => ?_) (fun g55 => ?_)
          ·have h55 := of_decide_eq_true g55
           refine W.seq ?_
           refine W.region ?_
           refine L.val (x_mv (v := .pointer _) rfl) rfl ?_
           refine L.val (x_fa kstop_fo52_2 rfl) rfl ?_
           refine L.val (x_ld (v := .int _ _) kstop_oc3 rfl (bx11.cell0 rfl)) rfl ?_
           refine L.val (x_fa kstop_fo52_3 rfl) rfl ?_
           refine L.val (x_ldn (vs := [.slice pk a.keep.length ck, .int .i64 a.torn, .int .i64 a.cut]) kstop_ag50 rfl rfl (sa_fall bx11)) rfl ?_
           refine L.ret (x_call kstop_en27 rfl) rfl (arm_f w.heap.size b (fun k => w.heap.size ≤ k) a.at' (.slice pk a.keep.length ck) K ⟨a.keep, a.torn, a.cut⟩ D _ h hdd (sa_keep hwc) h.1) ?_
           rintro v61 w61 ⟨h61, hg61⟩
           have hg61L : Dg lgTy w.heap.size _ _ := Dg.mono hg61 lg_of_dk
           have hg61S := Dg.mono hg61L st_of_lg
           have hB := hg61L.bel hB
           have hs := hs.carryR hg61L (fun j hj => hj.1)
           have hva := hva.dg hg61S
           have hl := hl.dg hg61
           have hsto := hsto.dg hg61L
           have h := h61
           refine L.nil ?_
           refine thn_n ?_
           refine W.exit (blk_miss rfl (thn_x (blk_hit ?_)))
           refine thn_n ?_
           exact ⟨rfl, rfl, rfl, rfl, armD D a.at', _, q, G, _, bs, bl, rfl, rfl, ⟨(hR.arm _).1.mono (by omega), (hR.arm _).2.1.trans hdd, armS_le har hatl, by rw [(hR.arm _).2.2.1]; omega, by omega, by rw [(hR.arm _).2.2.2]; exact hpl, h, hl, hsto, hva, by omega⟩, hs, hB⟩
          ·have h55 := of_decide_eq_false g55
           refine W.seq ?_
           refine W.region ?_
           refine L.val (x_eql rfl rfl) rfl ?_
           refine L.val (x_as (v := .bool _) rfl) rfl ?_
           refine L.nil ?_
           refine thn_n ?_
           refine W.cond (b := _) rfl (fun g63 => ?_) (fun g63 => ?_)
           ·have h63 := of_decide_eq_true g63
            refine W.seq ?_
            refine W.region ?_
            refine L.val (x_mv (v := .pointer _) rfl) rfl ?_
            refine L.val (x_fa kstop_fo52_1 rfl) rfl ?_
            refine L.val (x_ld (v := .slice _ _ _) kstop_oc22 rfl (bx11.cell0 rfl)) rfl ?_
            refine L.ret (x_call kstop_en10 rfl) rfl (commit_s w.heap.size bs bl b (fun k => w.heap.size ≤ k) _ a.eds D K q G _ h hl hqk har hsto hrG hmG (sa_eds hwc) hB.size (by omega) (by omega) (fun hm => by have h1 := need_snap (may_comes hmG hm); have h2 := hesz hm; omega)) ?_
            rintro v67 w67 ⟨K1, rfl, ⟨K3, h67⟩, hl67, hsto67, hg67⟩
            have hB := hg67.bel hB
            have hs := hs.carryR hg67 (fun j hj => hj.1)
            have hva := hva.dg hg67
            have bx11 := bx11.dg hg67 rfl
            have hwc := Car.carryR hwc hg67 (fun j hj => hj.1)
            have hF := com_fin (K := K) (K1 := K1) (l := a.eds) hdd hR hok0 h67.2.1 (by omega) (by omega) (by omega) (by omega)
            have hcode : (comS D K K1 q G a.eds).1 = 0 ∨ (comS D K K1 q G a.eds).1 = 190 → mayL a.eds = true := fun hc => by
              cases hm : mayL a.eds with
              | true => rfl
              | false =>
                have e : comS D K K1 q G a.eds = (230, D, q) := by unfold comS; rw [if_neg (by rw [hm]; decide)]
                rw [e] at hc
                have hc : (230 : Int) = 0 ∨ (230 : Int) = 190 := hc
                rcases hc with hc | hc <;> exact absurd hc (by decide)
            have h := h67; have hl := hl67; have hsto := hsto67
            obtain ⟨r, hr⟩ : ∃ r, comS D K K1 q G a.eds = r := ⟨_, rfl⟩
            rw [hr] at h hl hsto hF hcode ⊢
            have hsz1 : sizG G ≤ 3 * cm ∧ G.length ≤ cm := by omega
            have hsz2 : r.1 = 0 ∨ r.1 = 190 → sizG (comes G a.eds) ≤ 3 * cm ∧ (comes G a.eds).length ≤ cm := fun hc => by have := hesz (hcode hc); omega
            refine L.val (x_as (v := .int _ _) rfl) rfl ?_
            refine L.nil ?_
            refine thn_n ?_
            refine W.seq ?_
            refine W.region ?_
            refine L.val (x_mv (v := .int _ _) rfl) rfl ?_
            refine L.val (x_eql rfl rfl) rfl ?_
            refine L.val (x_mv (v := .bool _) rfl) rfl ?_
            refine' L.group0 2 71 72 72 70 false rfl ?_ ?_ ?_
            rotate_left 1
            ·intro g70
             have h70 := of_decide_eq_false g70
             refine L.gyes' (dj := 70) (b := _) rfl rfl g70 ?_
             refine L.val (x_mv (v := .int _ _) rfl) rfl ?_
             refine L.gyes' (dj := 70) (b := _) rfl rfl g70 ?_
             refine L.val (x_eql rfl rfl) rfl ?_
             refine L.nil ?_
             refine thn_n ⟨rfl, rfl, ?_, rfl⟩
             repeat (first | exact jeq.refl _ _ _ | refine jeq.upd rfl ?_ | refine jeq.jk rfl rfl ?_)
            ·intro g70
             refine L.gno (dj := 70) (b := _) rfl rfl g70 rfl ?_
             refine L.gno (dj := 70) (b := _) rfl rfl g70 rfl ?_
             refine L.nil (thn_n ⟨rfl, rfl, ?_⟩)
             repeat (first | exact jeq.refl _ _ _ | refine jeq.upd rfl ?_ | refine jeq.jk rfl rfl ?_)
            intro J70 j70
            refine L.val (x_or rfl j70) rfl ?_
            refine L.nil ?_
            refine thn_n ?_
            refine W.cond (b := _) rfl (fun g73 => ?_) (fun g73 => ?_)
            ·have h73 := g73
             have h73 : r.1 = 0 ∨ r.1 = 190 := by simpa using g73
             refine W.region ?_
             refine L.val (x_mv (v := .slice _ _ _) rfl) rfl ?_
             refine L.val (x_fa kstop_fo52_1 rfl) rfl ?_
             refine L.val (x_ld (v := .slice _ _ _) kstop_oc22 rfl (bx11.cell0 rfl)) rfl ?_
             refine L.ret (x_call kstop_en19 rfl) rfl (goes23 w.heap.size _ _ _ _ G a.eds _ hva (sa_eds hwc) hrG (by omega)) ?_
             rintro v77 w77 ⟨hv77, hw⟩
             have hB := hB.carry hw; have hs := hs.carry hw; have h := h.carry hw; have hl := hl.carry hw; have hsto := hsto.carry hw; have hva := hva.carry hw; have hwc := hwc.carry hw; have bx11 := bx11.carry hw
             obtain ⟨p77, c77, r77, rfl, -⟩ := id hv77
             refine L.val (x_as (v := .slice _ _ _) rfl) rfl ?_
             refine L.nil ?_
             refine blk_n ?_
             refine thn_n ?_
             exact ⟨rfl, rfl, rfl, rfl, rfl, rfl, rfl, _, _, _, _, _, rfl, rfl, ⟨hF, h, hl, hsto, hva, (hv77.eq (by rw [if_pos h73])), comes_rises hrG, hsz1, hsz2⟩, hs, bx11, hB⟩
            ·have h73 := g73
             have h73 : ¬ (r.1 = 0 ∨ r.1 = 190) := by simpa using g73
             refine W.skip ?_
             refine blk_n ?_
             refine thn_n ?_
             exact ⟨rfl, rfl, rfl, rfl, rfl, rfl, rfl, _, _, _, _, _, rfl, rfl, ⟨hF, h, hl, hsto, hva, (hva.eq (by rw [if_neg h73])), comes_rises hrG, hsz1, hsz2⟩, hs, bx11, hB⟩
           ·have h63 := of_decide_eq_false g63
            refine W.seq ?_
            refine W.region ?_
            refine L.val (x_eql rfl rfl) rfl ?_
            refine L.val (x_as (v := .bool _) rfl) rfl ?_
            refine L.nil ?_
            refine thn_n ?_
            refine W.cond (b := _) rfl (fun g79 => ?_) (fun g79 => ?_)
            ·have h79 := of_decide_eq_true g79
             refine W.region ?_
             refine L.val (x_mv (v := .pointer _) rfl) rfl ?_
             refine L.ret (x_call kstop_en11 rfl) rfl (compact_s w.heap.size bs bl b D K q G _ h hl hqk har hsto hrG hmG hB.size (by omega) (by have h1 := need_snap hmG; omega)) ?_
             rintro v81 w81 ⟨rfl, ⟨K3, h81⟩, hl81, hsto81, hg81⟩
             have hB := hg81.bel hB
             have hs := hs.carryR hg81 (fun j hj => hj.1)
             have hva := hva.dg hg81
             have bx11 := bx11.dg hg81 rfl
             have hF := turn_fin (K := K) (G' := G) (c := 60000 + i + 1) hdd (hR.mono (by omega)) hok0 h81.2.1 hrG hmG (by omega) (by omega) (by omega) (by omega)
             have h := h81; have hl := hl81; have hsto := hsto81
             obtain ⟨r, hr⟩ : ∃ r, turnF D K q (allB (snapL G)) = r := ⟨_, rfl⟩
             rw [hr] at h hl hF ⊢
             have hsz1 : sizG G ≤ 3 * cm ∧ G.length ≤ cm := by omega
             refine L.val (x_as (v := .int _ _) rfl) rfl ?_
             refine L.nil ?_
             refine blk_n ?_
             refine thn_n ?_
             exact ⟨rfl, rfl, rfl, rfl, rfl, rfl, rfl, _, _, _, _, _, rfl, rfl, ⟨hF, h, hl, (by rw [ite_self]; exact hsto), hva, (hva.eq (by rw [ite_self])), hrG, hsz1, fun _ => hsz1⟩, hs, bx11, hB⟩
            ·have h79 := of_decide_eq_false g79
             have hF : FinS D q G G (60000 + i + 1) (0, D, q) := FinS.same hdd (hR.mono (by omega)) (by decide) (fun _ => rfl)
             have hsz1 : sizG G ≤ 3 * cm ∧ G.length ≤ cm := by omega
             refine W.skip ?_
             refine blk_n ?_
             refine thn_n ?_
             exact ⟨rfl, rfl, rfl, rfl, rfl, rfl, rfl, _, _, _, _, _, rfl, rfl, ⟨hF, h, (show (D.dead = false) from hdd) ▸ hl, (by rw [ite_self]; exact hsto), hva, (hva.eq (by rw [ite_self])), hrG, hsz1, fun _ => hsz1⟩, hs, bx11, hB⟩
         ·rintro D' E w82 ⟨rfl, e1, e5, e7, e9, e10, e11, r, vm, G', K3, bl3, e12, e13, ⟨hF, h, hl, hsto, hva, hvm, hrG', hsz1, hsz2⟩, hs, bx11, hB⟩
          obtain ⟨pvm, cvm, rvm, rfl, -⟩ := id hvm
          rw [upd_self e1, upd_self e5, upd_self e7, upd_self e9, upd_self e10, upd_self e11, upd_self e12, upd_self e13]
          refine W.cut (fun D' E' w' => D' = [] ∧ E' 1 = .slice (some ⟨bb, o, none⟩) l.length cv ∧ E' 5 = .pointer (some ⟨b, 0, none⟩) ∧ E' 7 = .pointer (some ⟨bs, 0, none⟩) ∧ E' 10 = .int .i64 (i : Nat) ∧ E' 11 = .pointer (some ⟨bA, 0, none⟩) ∧ E' 12 = .int .i64 r.1 ∧ E' 13 = .slice pvm (if r.1 = 0 ∨ r.1 = 190 then G' else G).length cvm ∧ ∃ va2, E' 9 = va2 ∧ AllE w.heap.size w' va2 (if r.1 = 0 then G' else G) ∧ AllE w.heap.size w' (.slice pvm (if r.1 = 0 ∨ r.1 = 190 then G' else G).length cvm) (if r.1 = 0 ∨ r.1 = 190 then G' else G) ∧ StoAt w.heap.size w' bs bl3 (if r.1 = 0 then G' else G) ∧ DiskF w.heap.size w' b r.2.1 K3 ∧ LogB w.heap.size w' bl3 b r.2.2 r.2.1.dead ∧ SasAt (fun k => w.heap.size ≤ k) w' (.slice (some ⟨bb, o, none⟩) l.length cv) l ∧ Box w' bA 52 (saV a (.slice pe a.eds.length ce) (.slice pk a.keep.length ck)) ∧ Bel w w') ?_ ?_
          ·refine W.seq ?_
           refine W.region ?_
           refine L.val (x_mv (v := .int _ _) rfl) rfl ?_
           refine L.val (x_eql rfl rfl) rfl ?_
           refine L.nil ?_
           refine thn_n ?_
           refine W.cond (b := _) rfl (fun g83 => ?_) (fun g83 => ?_)
           ·have h83 := of_decide_eq_true g83
            refine W.region ?_
            refine L.val (x_mv (v := .slice _ _ _) rfl) rfl ?_
            refine L.val (x_as (v := .slice _ _ _) rfl) rfl ?_
            refine L.nil ?_
            refine thn_n ?_
            have h83 : r.1 = 0 := by simpa using g83
            exact ⟨rfl, rfl, rfl, rfl, rfl, rfl, rfl, rfl, _, rfl, hvm.eq (by rw [if_pos (.inl h83), if_pos h83]), hvm, hsto, h, hl, hs, bx11, hB⟩
           ·have h83 := of_decide_eq_false g83
            refine W.skip ?_
            refine thn_n ?_
            have h83 : ¬ r.1 = 0 := by simpa using g83
            exact ⟨rfl, rfl, rfl, rfl, rfl, rfl, rfl, rfl, _, rfl, hva.eq (by rw [if_neg h83]), hvm, hsto, h, hl, hs, bx11, hB⟩
          ·rintro D' E w85 ⟨rfl, e1, e5, e7, e10, e11, e12, e13, va2, e9, hva, hvm, hsto, h, hl, hs, bx11, hB⟩
           obtain ⟨pv2, cv2, rv2, rfl, -⟩ := id hva
           rw [upd_self e1, upd_self e5, upd_self e7, upd_self e9, upd_self e10, upd_self e11, upd_self e12, upd_self e13]
           have hsz3 : sizG (if r.1 = 0 then G' else G) ≤ 3 * cm ∧ (if r.1 = 0 then G' else G).length ≤ cm := by
             split
             · rename_i h; exact hsz2 (.inl h)
             · exact hsz1
           have hsz4 : sizG (if r.1 = 0 ∨ r.1 = 190 then G' else G) ≤ 3 * cm ∧ (if r.1 = 0 ∨ r.1 = 190 then G' else G).length ≤ cm := by
             split
             · rename_i h; exact hsz2 h
             · exact hsz1
           have hrA : Rises (if r.1 = 0 then G' else G) := by split <;> assumption
           have hrM : Rises (if r.1 = 0 ∨ r.1 = 190 then G' else G) := by split <;> assumption
           refine W.seq ?_
           refine W.seq ?_
           refine W.region ?_
           refine L.val (x_mv (v := .int _ _) rfl) rfl ?_
           refine L.val (x_eql rfl rfl) rfl ?_
           refine L.val (x_mv (v := .pointer _) rfl) rfl ?_
           refine L.ret (x_call kstop_en28 rfl) rfl (dead_d w.heap.size b r.2.1 _ h.at) ?_
           rintro v88 w88 ⟨rfl, hq⟩
           rw [hq]
           refine L.val (x_neb Tryz.underlying4 rfl rfl) rfl ?_
           refine L.nil ?_
           refine thn_n ?_
           refine W.cond (b := _) rfl (fun g89 => ?_) (fun g89 => ?_)
           ·have h89 := g89
            have e1 : decide (r.1 = 190) = r.2.1.dead := by cases hd : r.2.1.dead with | true => exact decide_eq_true (hF.code.2 hd) | false => exact decide_eq_false (fun e => by have := hF.code.1 e; rw [hd] at this; cases this)
            simp [e1] at g89
           ·have h89 := g89
            refine W.skip ?_
            refine thn_n ?_
            refine W.cut (fun D' E' w' => D' = [] ∧ E' 1 = .slice (some ⟨bb, o, none⟩) l.length cv ∧ E' 5 = .pointer (some ⟨b, 0, none⟩) ∧ E' 10 = .int .i64 (i : Nat) ∧ ∃ D2 K2 q2 G2 va2 bs2 bl2, E' 7 = .pointer (some ⟨bs2, 0, none⟩) ∧ E' 9 = va2 ∧ StS w.heap.size w' b bs2 bl2 va2 D2 K2 q2 G2 (i + 1) (secM n) cm ∧ SasAt (fun k => w.heap.size ≤ k) w' (.slice (some ⟨bb, o, none⟩) l.length cv) l ∧ Bel w w') ?_ ?_
            ·refine W.seq ?_
             refine W.region ?_
             refine L.val (x_fa kstop_fo52_0 rfl) rfl ?_
             refine L.val (x_ld (v := .int _ _) kstop_oc3 rfl (bx11.cell0 rfl)) rfl ?_
             refine L.val (x_eql rfl rfl) rfl ?_
             refine L.val (x_mv (v := .bool _) rfl) rfl ?_
             refine L.splitat (dj := 93) (b := _) rfl (fun g93 => ?_) (fun g93 => ?_)
             ·have h93 := of_decide_eq_true g93
              refine L.gno (dj := 93) (b := _) rfl rfl g93 rfl ?_
              refine L.gno (dj := 93) (b := _) rfl rfl g93 rfl ?_
              refine L.val (x_pick_t (v := .bool _) (congrArg Value.bool g93) rfl) rfl ?_
              refine L.nil ?_
              refine thn_n ?_
              refine W.cond (b := true) rfl (fun _ => ?_) (fun h => nomatch h)
              refine W.seq ?_
              refine W.region ?_
              refine L.val (x_mv (v := .pointer _) rfl) rfl ?_
              refine L.ret (x_call kstop_en29 rfl) rfl (boot_f w.heap.size b r.2.1 K3 _ h) ?_
              rintro v98 w98 ⟨rfl, h98, hg98⟩
              have hg98L : Dg lgTy w.heap.size _ w98 := Dg.mono hg98 lg_of_dk
              have hg98S : Dg stTy w.heap.size _ w98 := Dg.mono hg98L st_of_lg
              have hB := hg98L.bel hB
              have hs := hs.carryR hg98L (fun j hj => hj.1)
              have hva := hva.dg hg98S
              have hvm := hvm.dg hg98S
              have h : DiskF w.heap.size w98 b (bt r.2.1) K3 := h98
              obtain ⟨p, m, hp1, hp2, hp3⟩ := hF.boot
              have hszm : sizG m ≤ 3 * cm ∧ m.length ≤ cm := by rcases hp3 with e | e <;> rw [e] <;> assumption
              have hl : True := trivial
              have hsto : True := trivial
              have bx11 : True := trivial
              refine L.nil ?_
              refine thn_n ?_
              refine W.seq ?_
              refine W.region ?_
              refine L.val (x_mv (v := .pointer _) rfl) rfl ?_
              refine L.ret (x_call kstop_en12 rfl) rfl (open_c (n0 := w.heap.size) h hp2 rfl hB.size) ?_
              rintro v101 w101 ⟨⟨bs2, bl2, rfl, hS2, hL2⟩, hw⟩
              have hB := hB.carry hw; have hs := hs.carry hw; have h := h.carry hw; have hva := hva.carry hw; have hvm := hvm.carry hw
              refine L.val (x_mv (v := _) rfl) rfl ?_
              refine L.val (x_ext (v := .pointer _) rfl rfl) rfl ?_
              refine L.val (x_ext (v := .int _ _) rfl rfl) rfl ?_
              refine L.val (x_as (v := .pointer _) rfl) rfl ?_
              refine L.val (x_as (v := .int _ _) rfl) rfl ?_
              refine L.nil ?_
              refine thn_n ?_
              refine W.seq ?_
              refine W.seq ?_
              refine W.region ?_
              refine L.val (x_mv (v := .int _ _) rfl) rfl ?_
              refine L.val (x_neq rfl rfl) rfl ?_
              refine L.val (x_mv (v := .bool _) rfl) rfl ?_
              refine L.splitat (dj := 106) (b := _) rfl (fun g106 => ?_) (fun g106 => ?_)
              ·have h106 := dne_t g106
               cases g106
              ·have h106 := dne_f g106
               refine L.gyes' (dj := 106) (b := _) rfl rfl g106 ?_
               refine L.val (x_mv (v := .pointer _) rfl) rfl ?_
               refine L.gyes' (dj := 106) (b := _) rfl rfl g106 ?_
               refine L.val (x_eqp0 Tryz.underlying23 rfl rfl) rfl ?_
               refine L.val (x_pick_f (v := .bool _) (congrArg Value.bool g106) rfl) rfl ?_
               refine L.val (x_mv (v := .bool _) rfl) rfl ?_
               refine L.splitat (dj := 110) (b := _) rfl (fun g110 => ?_) (fun g110 => ?_)
               ·have h110 := g110
                cases g110
               ·have h110 := g110
                refine L.gyes' (dj := 110) (b := _) rfl rfl g110 ?_
                refine L.val (x_mv (v := .pointer _) rfl) rfl ?_
                refine L.gyes' (dj := 110) (b := _) rfl rfl g110 ?_
                refine L.val (x_mv (v := .slice _ _ _) rfl) rfl ?_
                refine L.gyes' (dj := 110) (b := _) rfl rfl g110 ?_
                refine L.ret (x_call kstop_en20 rfl) rfl (held23 w.heap.size bs2 bl2 _ _ m _ _ hS2 hp2.rises hp2.keys (by omega) hva hrA) ?_
                rintro v113 w113 ⟨rfl, hw⟩
                have hB := hB.carry hw; have hs := hs.carry hw; have h := h.carry hw; have hva := hva.carry hw; have hvm := hvm.carry hw; have hS2 := hS2.carry hw; have hL2 := hL2.carry hw
                refine L.gyes' (dj := 110) (b := _) rfl rfl g110 ?_
                refine L.val (x_not rfl) rfl ?_
                refine L.gyes' (dj := 110) (b := _) rfl rfl g110 ?_
                refine L.val (x_mv (v := .bool _) rfl) rfl ?_
                refine L.splitat (dj := 115) (b := _) rfl (fun g115 => ?_) (fun g115 => ?_)
                ·have h115 := (not_t g115)
                 have hm115 : m = (if r.1 = 0 ∨ r.1 = 190 then G' else G) := hp3.resolve_left (fun e => by rw [decide_eq_true e] at g115; cases g115)
                 refine L.gyes' (dj := 115) (b := _) rfl rfl g115 ?_
                 refine L.val (x_mv (v := .pointer _) rfl) rfl ?_
                 refine L.gyes' (dj := 115) (b := _) rfl rfl g115 ?_
                 refine L.val (x_mv (v := .slice _ _ _) rfl) rfl ?_
                 refine L.gyes' (dj := 115) (b := _) rfl rfl g115 ?_
                 refine L.ret (x_call kstop_en20 rfl) rfl (held23 w.heap.size bs2 bl2 _ _ m _ _ hS2 hp2.rises hp2.keys (by omega) hvm hrM) ?_
                 rintro v118 w118 ⟨rfl, hw⟩
                 have hB := hB.carry hw; have hs := hs.carry hw; have h := h.carry hw; have hva := hva.carry hw; have hvm := hvm.carry hw; have hS2 := hS2.carry hw; have hL2 := hL2.carry hw
                 refine L.gyes' (dj := 115) (b := _) rfl rfl g115 ?_
                 refine L.val (x_not rfl) rfl ?_
                 refine L.gyes' (dj := 110) (b := _) rfl rfl g110 ?_
                 refine L.val (x_pick_t (v := .bool _) (congrArg Value.bool g115) rfl) rfl ?_
                 refine L.val (x_pick_f (v := .bool _) (congrArg Value.bool g110) rfl) rfl ?_
                 refine L.nil ?_
                 refine thn_n ?_
                 refine W.cond (b := _) rfl (fun g119 => ?_) (fun g119 => ?_)
                 ·have h119 := (not_t g119)
                  rw [decide_eq_true hm115] at g119; cases g119
                 ·have h119 := (not_f g119)
                  refine W.skip ?_
                  refine thn_n ?_
                  refine W.seq ?_
                  refine W.seq ?_
                  refine W.region ?_
                  refine L.val (x_mv (v := .pointer _) rfl) rfl ?_
                  refine L.val (x_mv (v := .slice _ _ _) rfl) rfl ?_
                  refine L.ret (x_call kstop_en20 rfl) rfl (held23 w.heap.size bs2 bl2 _ _ m _ _ hS2 hp2.rises hp2.keys (by omega) hva hrA) ?_
                  rintro v124 w124 ⟨rfl, hw⟩
                  have hB := hB.carry hw; have hs := hs.carry hw; have h := h.carry hw; have hva := hva.carry hw; have hvm := hvm.carry hw; have hS2 := hS2.carry hw; have hL2 := hL2.carry hw
                  refine L.val (x_not rfl) rfl ?_
                  refine L.nil ?_
                  refine thn_n ?_
                  refine W.cond (b := _) rfl (fun g125 => ?_) (fun g125 => ?_)
                  ·have h125 := (not_t g125)
                   have hm125 : m = (if r.1 = 0 ∨ r.1 = 190 then G' else G) := hp3.resolve_left (fun e => by rw [decide_eq_true e] at g125; cases g125)
                   refine W.region ?_
                   refine L.val (x_mv (v := .slice _ _ _) rfl) rfl ?_
                   refine L.val (x_as (v := .slice _ _ _) rfl) rfl ?_
                   refine L.nil ?_
                   refine thn_n ?_
                   refine W.region ?_
                   refine L.val (x_mv (v := .pointer _) rfl) rfl ?_
                   refine L.val (x_as (v := .pointer _) rfl) rfl ?_
                   refine L.nil ?_
                   refine thn_n ?_
                   exact ⟨rfl, rfl, rfl, rfl, bt r.2.1, K3, p, m, _, bs2, bl2, rfl, rfl, ⟨hp2, rfl, Nat.le_trans hF.arm har, by have := hF.ops; show r.2.1.ops ≤ _; omega, by omega, hF.len.trans hpl, h, hL2, hS2, hvm.eq hm125.symm, hszm⟩, hs, hB⟩
                  ·have h125 := (not_f g125)
                   have hm125 : m = (if r.1 = 0 then G' else G) := of_decide_eq_true (by simpa using g125)
                   refine W.skip ?_
                   refine thn_n ?_
                   refine W.region ?_
                   refine L.val (x_mv (v := .pointer _) rfl) rfl ?_
                   refine L.val (x_as (v := .pointer _) rfl) rfl ?_
                   refine L.nil ?_
                   refine thn_n ?_
                   exact ⟨rfl, rfl, rfl, rfl, bt r.2.1, K3, p, m, _, bs2, bl2, rfl, rfl, ⟨hp2, rfl, Nat.le_trans hF.arm har, by have := hF.ops; show r.2.1.ops ≤ _; omega, by omega, hF.len.trans hpl, h, hL2, hS2, hva.eq hm125.symm, hszm⟩, hs, hB⟩
                ·have h115 := (not_f g115)
                 refine L.gno (dj := 115) (b := _) rfl rfl g115 rfl ?_
                 refine L.gno (dj := 115) (b := _) rfl rfl g115 rfl ?_
                 refine L.gno (dj := 115) (b := _) rfl rfl g115 rfl ?_
                 refine L.gno (dj := 115) (b := _) rfl rfl g115 rfl ?_
                 refine L.gyes' (dj := 110) (b := _) rfl rfl g110 ?_
                 refine L.val (x_pick_f (v := .bool _) (congrArg Value.bool g115) rfl) rfl ?_
                 refine L.val (x_pick_f (v := .bool _) (congrArg Value.bool g110) rfl) rfl ?_
                 refine L.nil ?_
                 refine thn_n ?_
                 refine W.cond (b := false) rfl (fun h => nomatch h) (fun _ => ?_)
                 refine W.skip ?_
                 refine thn_n ?_
                 refine W.seq ?_
                 refine W.seq ?_
                 refine W.region ?_
                 refine L.val (x_mv (v := .pointer _) rfl) rfl ?_
                 refine L.val (x_mv (v := .slice _ _ _) rfl) rfl ?_
                 refine L.ret (x_call kstop_en20 rfl) rfl (held23 w.heap.size bs2 bl2 _ _ m _ _ hS2 hp2.rises hp2.keys (by omega) hva hrA) ?_
                 rintro v124 w124 ⟨rfl, hw⟩
                 have hB := hB.carry hw; have hs := hs.carry hw; have h := h.carry hw; have hva := hva.carry hw; have hvm := hvm.carry hw; have hS2 := hS2.carry hw; have hL2 := hL2.carry hw
                 refine L.val (x_not rfl) rfl ?_
                 refine L.nil ?_
                 refine thn_n ?_
                 refine W.cond (b := _) rfl (fun g125 => ?_) (fun g125 => ?_)
                 ·have h125 := (not_t g125)
                  have hm125 : m = (if r.1 = 0 ∨ r.1 = 190 then G' else G) := hp3.resolve_left (fun e => by rw [decide_eq_true e] at g125; cases g125)
                  refine W.region ?_
                  refine L.val (x_mv (v := .slice _ _ _) rfl) rfl ?_
                  refine L.val (x_as (v := .slice _ _ _) rfl) rfl ?_
                  refine L.nil ?_
                  refine thn_n ?_
                  refine W.region ?_
                  refine L.val (x_mv (v := .pointer _) rfl) rfl ?_
                  refine L.val (x_as (v := .pointer _) rfl) rfl ?_
                  refine L.nil ?_
                  refine thn_n ?_
                  exact ⟨rfl, rfl, rfl, rfl, bt r.2.1, K3, p, m, _, bs2, bl2, rfl, rfl, ⟨hp2, rfl, Nat.le_trans hF.arm har, by have := hF.ops; show r.2.1.ops ≤ _; omega, by omega, hF.len.trans hpl, h, hL2, hS2, hvm.eq hm125.symm, hszm⟩, hs, hB⟩
                 ·have h125 := (not_f g125)
                  have hm125 : m = (if r.1 = 0 then G' else G) := of_decide_eq_true (by simpa using g125)
                  refine W.skip ?_
                  refine thn_n ?_
                  refine W.region ?_
                  refine L.val (x_mv (v := .pointer _) rfl) rfl ?_
                  refine L.val (x_as (v := .pointer _) rfl) rfl ?_
                  refine L.nil ?_
                  refine thn_n ?_
                  exact ⟨rfl, rfl, rfl, rfl, bt r.2.1, K3, p, m, _, bs2, bl2, rfl, rfl, ⟨hp2, rfl, Nat.le_trans hF.arm har, by have := hF.ops; show r.2.1.ops ≤ _; omega, by omega, hF.len.trans hpl, h, hL2, hS2, hva.eq hm125.symm, hszm⟩, hs, hB⟩
             ·have h93 := of_decide_eq_false g93
              refine L.gyes' (dj := 93) (b := _) rfl rfl g93 ?_
              refine L.val (x_mv (v := .pointer _) rfl) rfl ?_
              refine L.gyes' (dj := 93) (b := _) rfl rfl g93 ?_
              refine L.ret (x_call kstop_en28 rfl) rfl (dead_d w.heap.size b r.2.1 _ h.at) ?_
              rintro v95 w95 ⟨rfl, hq⟩
              rw [hq]
              refine L.val (x_pick_f (v := .bool _) (congrArg Value.bool g93) rfl) rfl ?_
              refine L.nil ?_
              refine thn_n ?_
              refine W.cond (b := _) rfl (fun g95 => ?_) (fun g95 => ?_)
              ·have h95 := g95
               refine W.seq ?_
               refine W.region ?_
               refine L.val (x_mv (v := .pointer _) rfl) rfl ?_
               refine L.ret (x_call kstop_en29 rfl) rfl (boot_f w.heap.size b r.2.1 K3 _ h) ?_
               rintro v98 w98 ⟨rfl, h98, hg98⟩
               have hg98L : Dg lgTy w.heap.size _ w98 := Dg.mono hg98 lg_of_dk
               have hg98S : Dg stTy w.heap.size _ w98 := Dg.mono hg98L st_of_lg
               have hB := hg98L.bel hB
               have hs := hs.carryR hg98L (fun j hj => hj.1)
               have hva := hva.dg hg98S
               have hvm := hvm.dg hg98S
               have h : DiskF w.heap.size w98 b (bt r.2.1) K3 := h98
               obtain ⟨p, m, hp1, hp2, hp3⟩ := hF.boot
               have hszm : sizG m ≤ 3 * cm ∧ m.length ≤ cm := by rcases hp3 with e | e <;> rw [e] <;> assumption
               have hl : True := trivial
               have hsto : True := trivial
               have bx11 : True := trivial
               refine L.nil ?_
               refine thn_n ?_
               refine W.seq ?_
               refine W.region ?_
               refine L.val (x_mv (v := .pointer _) rfl) rfl ?_
               refine L.ret (x_call kstop_en12 rfl) rfl (open_c (n0 := w.heap.size) h hp2 rfl hB.size) ?_
               rintro v101 w101 ⟨⟨bs2, bl2, rfl, hS2, hL2⟩, hw⟩
               have hB := hB.carry hw; have hs := hs.carry hw; have h := h.carry hw; have hva := hva.carry hw; have hvm := hvm.carry hw
               refine L.val (x_mv (v := _) rfl) rfl ?_
               refine L.val (x_ext (v := .pointer _) rfl rfl) rfl ?_
               refine L.val (x_ext (v := .int _ _) rfl rfl) rfl ?_
               refine L.val (x_as (v := .pointer _) rfl) rfl ?_
               refine L.val (x_as (v := .int _ _) rfl) rfl ?_
               refine L.nil ?_
               refine thn_n ?_
               refine W.seq ?_
               refine W.seq ?_
               refine W.region ?_
               refine L.val (x_mv (v := .int _ _) rfl) rfl ?_
               refine L.val (x_neq rfl rfl) rfl ?_
               refine L.val (x_mv (v := .bool _) rfl) rfl ?_
               refine L.splitat (dj := 106) (b := _) rfl (fun g106 => ?_) (fun g106 => ?_)
               ·have h106 := dne_t g106
                cases g106
               ·have h106 := dne_f g106
                refine L.gyes' (dj := 106) (b := _) rfl rfl g106 ?_
                refine L.val (x_mv (v := .pointer _) rfl) rfl ?_
                refine L.gyes' (dj := 106) (b := _) rfl rfl g106 ?_
                refine L.val (x_eqp0 Tryz.underlying23 rfl rfl) rfl ?_
                refine L.val (x_pick_f (v := .bool _) (congrArg Value.bool g106) rfl) rfl ?_
                refine L.val (x_mv (v := .bool _) rfl) rfl ?_
                refine L.splitat (dj := 110) (b := _) rfl (fun g110 => ?_) (fun g110 => ?_)
                ·have h110 := g110
                 cases g110
                ·have h110 := g110
                 refine L.gyes' (dj := 110) (b := _) rfl rfl g110 ?_
                 refine L.val (x_mv (v := .pointer _) rfl) rfl ?_
                 refine L.gyes' (dj := 110) (b := _) rfl rfl g110 ?_
                 refine L.val (x_mv (v := .slice _ _ _) rfl) rfl ?_
                 refine L.gyes' (dj := 110) (b := _) rfl rfl g110 ?_
                 refine L.ret (x_call kstop_en20 rfl) rfl (held23 w.heap.size bs2 bl2 _ _ m _ _ hS2 hp2.rises hp2.keys (by omega) hva hrA) ?_
                 rintro v113 w113 ⟨rfl, hw⟩
                 have hB := hB.carry hw; have hs := hs.carry hw; have h := h.carry hw; have hva := hva.carry hw; have hvm := hvm.carry hw; have hS2 := hS2.carry hw; have hL2 := hL2.carry hw
                 refine L.gyes' (dj := 110) (b := _) rfl rfl g110 ?_
                 refine L.val (x_not rfl) rfl ?_
                 refine L.gyes' (dj := 110) (b := _) rfl rfl g110 ?_
                 refine L.val (x_mv (v := .bool _) rfl) rfl ?_
                 refine L.splitat (dj := 115) (b := _) rfl (fun g115 => ?_) (fun g115 => ?_)
                 ·have h115 := (not_t g115)
                  have hm115 : m = (if r.1 = 0 ∨ r.1 = 190 then G' else G) := hp3.resolve_left (fun e => by rw [decide_eq_true e] at g115; cases g115)
                  refine L.gyes' (dj := 115) (b := _) rfl rfl g115 ?_
                  refine L.val (x_mv (v := .pointer _) rfl) rfl ?_
                  refine L.gyes' (dj := 115) (b := _) rfl rfl g115 ?_
                  refine L.val (x_mv (v := .slice _ _ _) rfl) rfl ?_
                  refine L.gyes' (dj := 115) (b := _) rfl rfl g115 ?_
                  refine L.ret (x_call kstop_en20 rfl) rfl (held23 w.heap.size bs2 bl2 _ _ m _ _ hS2 hp2.rises hp2.keys (by omega) hvm hrM) ?_
                  rintro v118 w118 ⟨rfl, hw⟩
                  have hB := hB.carry hw; have hs := hs.carry hw; have h := h.carry hw; have hva := hva.carry hw; have hvm := hvm.carry hw; have hS2 := hS2.carry hw; have hL2 := hL2.carry hw
                  refine L.gyes' (dj := 115) (b := _) rfl rfl g115 ?_
                  refine L.val (x_not rfl) rfl ?_
                  refine L.gyes' (dj := 110) (b := _) rfl rfl g110 ?_
                  refine L.val (x_pick_t (v := .bool _) (congrArg Value.bool g115) rfl) rfl ?_
                  refine L.val (x_pick_f (v := .bool _) (congrArg Value.bool g110) rfl) rfl ?_
                  refine L.nil ?_
                  refine thn_n ?_
                  refine W.cond (b := _) rfl (fun g119 => ?_) (fun g119 => ?_)
                  ·have h119 := (not_t g119)
                   rw [decide_eq_true hm115] at g119; cases g119
                  ·have h119 := (not_f g119)
                   refine W.skip ?_
                   refine thn_n ?_
                   refine W.seq ?_
                   refine W.seq ?_
                   refine W.region ?_
                   refine L.val (x_mv (v := .pointer _) rfl) rfl ?_
                   refine L.val (x_mv (v := .slice _ _ _) rfl) rfl ?_
                   refine L.ret (x_call kstop_en20 rfl) rfl (held23 w.heap.size bs2 bl2 _ _ m _ _ hS2 hp2.rises hp2.keys (by omega) hva hrA) ?_
                   rintro v124 w124 ⟨rfl, hw⟩
                   have hB := hB.carry hw; have hs := hs.carry hw; have h := h.carry hw; have hva := hva.carry hw; have hvm := hvm.carry hw; have hS2 := hS2.carry hw; have hL2 := hL2.carry hw
                   refine L.val (x_not rfl) rfl ?_
                   refine L.nil ?_
                   refine thn_n ?_
                   refine W.cond (b := _) rfl (fun g125 => ?_) (fun g125 => ?_)
                   ·have h125 := (not_t g125)
                    have hm125 : m = (if r.1 = 0 ∨ r.1 = 190 then G' else G) := hp3.resolve_left (fun e => by rw [decide_eq_true e] at g125; cases g125)
                    refine W.region ?_
                    refine L.val (x_mv (v := .slice _ _ _) rfl) rfl ?_
                    refine L.val (x_as (v := .slice _ _ _) rfl) rfl ?_
                    refine L.nil ?_
                    refine thn_n ?_
                    refine W.region ?_
                    refine L.val (x_mv (v := .pointer _) rfl) rfl ?_
                    refine L.val (x_as (v := .pointer _) rfl) rfl ?_
                    refine L.nil ?_
                    refine thn_n ?_
                    exact ⟨rfl, rfl, rfl, rfl, bt r.2.1, K3, p, m, _, bs2, bl2, rfl, rfl, ⟨hp2, rfl, Nat.le_trans hF.arm har, by have := hF.ops; show r.2.1.ops ≤ _; omega, by omega, hF.len.trans hpl, h, hL2, hS2, hvm.eq hm125.symm, hszm⟩, hs, hB⟩
                   ·have h125 := (not_f g125)
                    have hm125 : m = (if r.1 = 0 then G' else G) := of_decide_eq_true (by simpa using g125)
                    refine W.skip ?_
                    refine thn_n ?_
                    refine W.region ?_
                    refine L.val (x_mv (v := .pointer _) rfl) rfl ?_
                    refine L.val (x_as (v := .pointer _) rfl) rfl ?_
                    refine L.nil ?_
                    refine thn_n ?_
                    exact ⟨rfl, rfl, rfl, rfl, bt r.2.1, K3, p, m, _, bs2, bl2, rfl, rfl, ⟨hp2, rfl, Nat.le_trans hF.arm har, by have := hF.ops; show r.2.1.ops ≤ _; omega, by omega, hF.len.trans hpl, h, hL2, hS2, hva.eq hm125.symm, hszm⟩, hs, hB⟩
                 ·have h115 := (not_f g115)
                  refine L.gno (dj := 115) (b := _) rfl rfl g115 rfl ?_
                  refine L.gno (dj := 115) (b := _) rfl rfl g115 rfl ?_
                  refine L.gno (dj := 115) (b := _) rfl rfl g115 rfl ?_
                  refine L.gno (dj := 115) (b := _) rfl rfl g115 rfl ?_
                  refine L.gyes' (dj := 110) (b := _) rfl rfl g110 ?_
                  refine L.val (x_pick_f (v := .bool _) (congrArg Value.bool g115) rfl) rfl ?_
                  refine L.val (x_pick_f (v := .bool _) (congrArg Value.bool g110) rfl) rfl ?_
                  refine L.nil ?_
                  refine thn_n ?_
                  refine W.cond (b := false) rfl (fun h => nomatch h) (fun _ => ?_)
                  refine W.skip ?_
                  refine thn_n ?_
                  refine W.seq ?_
                  refine W.seq ?_
                  refine W.region ?_
                  refine L.val (x_mv (v := .pointer _) rfl) rfl ?_
                  refine L.val (x_mv (v := .slice _ _ _) rfl) rfl ?_
                  refine L.ret (x_call kstop_en20 rfl) rfl (held23 w.heap.size bs2 bl2 _ _ m _ _ hS2 hp2.rises hp2.keys (by omega) hva hrA) ?_
                  rintro v124 w124 ⟨rfl, hw⟩
                  have hB := hB.carry hw; have hs := hs.carry hw; have h := h.carry hw; have hva := hva.carry hw; have hvm := hvm.carry hw; have hS2 := hS2.carry hw; have hL2 := hL2.carry hw
                  refine L.val (x_not rfl) rfl ?_
                  refine L.nil ?_
                  refine thn_n ?_
                  refine W.cond (b := _) rfl (fun g125 => ?_) (fun g125 => ?_)
                  ·have h125 := (not_t g125)
                   have hm125 : m = (if r.1 = 0 ∨ r.1 = 190 then G' else G) := hp3.resolve_left (fun e => by rw [decide_eq_true e] at g125; cases g125)
                   refine W.region ?_
                   refine L.val (x_mv (v := .slice _ _ _) rfl) rfl ?_
                   refine L.val (x_as (v := .slice _ _ _) rfl) rfl ?_
                   refine L.nil ?_
                   refine thn_n ?_
                   refine W.region ?_
                   refine L.val (x_mv (v := .pointer _) rfl) rfl ?_
                   refine L.val (x_as (v := .pointer _) rfl) rfl ?_
                   refine L.nil ?_
                   refine thn_n ?_
                   exact ⟨rfl, rfl, rfl, rfl, bt r.2.1, K3, p, m, _, bs2, bl2, rfl, rfl, ⟨hp2, rfl, Nat.le_trans hF.arm har, by have := hF.ops; show r.2.1.ops ≤ _; omega, by omega, hF.len.trans hpl, h, hL2, hS2, hvm.eq hm125.symm, hszm⟩, hs, hB⟩
                  ·have h125 := (not_f g125)
                   have hm125 : m = (if r.1 = 0 then G' else G) := of_decide_eq_true (by simpa using g125)
                   refine W.skip ?_
                   refine thn_n ?_
                   refine W.region ?_
                   refine L.val (x_mv (v := .pointer _) rfl) rfl ?_
                   refine L.val (x_as (v := .pointer _) rfl) rfl ?_
                   refine L.nil ?_
                   refine thn_n ?_
                   exact ⟨rfl, rfl, rfl, rfl, bt r.2.1, K3, p, m, _, bs2, bl2, rfl, rfl, ⟨hp2, rfl, Nat.le_trans hF.arm har, by have := hF.ops; show r.2.1.ops ≤ _; omega, by omega, hF.len.trans hpl, h, hL2, hS2, hva.eq hm125.symm, hszm⟩, hs, hB⟩
              ·have h95 := g95
               have hd95 : r.2.1.dead = false := by simpa using g95
               obtain ⟨f1, f2⟩ := hF.live hd95
               have hl : LogB w.heap.size _ bl3 b r.2.2 false := hd95 ▸ hl
               refine W.skip ?_
               refine thn_n ?_
               exact ⟨rfl, rfl, rfl, rfl, r.2.1, K3, r.2.2, _, _, bs, bl3, rfl, rfl, ⟨f2, hd95, Nat.le_trans hF.arm har, by have := hF.ops; omega, by omega, hF.len.trans hpl, h, hl, hsto, hva, hsz3⟩, hs, hB⟩
            ·rintro D' E w128 ⟨rfl, e1, e5, e10, D2, K2, q2, G2, va2, bs2, bl2, e7, e9, hC2, hs, hB⟩
             have hva2 := hC2.held
             obtain ⟨pv2, cv2, rv2, rfl, -⟩ := id hva2
             rw [upd_self e1, upd_self e5, upd_self e7, upd_self e9, upd_self e10]
             have hsz5 := hC2.siz
             refine W.seq ?_
             refine W.region ?_
             refine L.val (x_mv (v := .pointer _) rfl) rfl ?_
             refine L.val (x_mv (v := .slice _ _ _) rfl) rfl ?_
             refine L.ret (x_call kstop_en20 rfl) rfl (held23 w.heap.size bs2 bl2 _ _ G2 _ _ hC2.sto hC2.rep.rises hC2.rep.keys (by omega) hva2 hC2.rep.rises) ?_
             rintro v130 w130 ⟨rfl, hw⟩
             have hB := hB.carry hw; have hs := hs.carry hw; have hC2 := hC2.carry hw
             refine L.val (x_not rfl) rfl ?_
             refine L.nil ?_
             refine thn_n ?_
             refine W.cond (b := _) rfl (fun g131 => ?_) (fun g131 => ?_)
             ·have h131 := (not_t g131)
              simp at g131
             ·have h131 := (not_f g131)
              refine W.skip ?_
              refine blk_n ?_
              refine thn_n ?_
              exact ⟨rfl, rfl, rfl, rfl, D2, K2, q2, G2, _, bs2, bl2, rfl, rfl, (by rw [← hcm]; exact hC2), hs, hB⟩
        ·rintro D' E w45 ⟨rfl, e1, e5, e10, D2, K2, q2, G2, va2, bs2, bl2, e7, e9, hC2, hs, hB⟩
         rw [upd_self e1, upd_self e5, upd_self e7, upd_self e9, upd_self e10]
         refine W.region ?_
         refine L.val (x_mv (v := .int _ _) rfl) rfl ?_
         refine L.val (x_add rfl rfl (wr64 (by omega))) rfl ?_
         refine L.val (x_as (v := .int _ _) rfl) rfl ?_
         refine L.nil ?_
         refine thn_n ⟨rfl, ?_⟩
         refine ⟨_, ?_, i + 1, D2, K2, q2, G2, va2, bs2, bl2, rfl, by first | rfl | exact vi (by omega) | exact vs (by first | assumption | (rw [hst]; done) | (rw [hst]; simp only [List.append_assoc])), by first | rfl | exact vi (by omega) | exact vs (by first | assumption | (rw [hst]; done) | (rw [hst]; simp only [List.append_assoc])), by first | rfl | exact vi (by omega) | exact vs (by first | assumption | (rw [hst]; done) | (rw [hst]; simp only [List.append_assoc])), by first | rfl | exact vi (by omega) | exact vs (by first | assumption | (rw [hst]; done) | (rw [hst]; simp only [List.append_assoc])), by first | rfl | exact vi (by omega) | exact vs (by first | assumption | (rw [hst]; done) | (rw [hst]; simp only [List.append_assoc])), (by first | assumption | omega | rfl), (by exact hC2), (by first | assumption | omega | rfl), (by first | assumption | omega | rfl)⟩
         omega
       ·have h44 := dlt_f g44
        refine W.exit (thn_x (thn_x (blk_hit ?_)))
        refine thn_n ?_
        refine W.seq ?_
        refine W.region ?_
        refine L.ret (x_call kstop_en13 rfl) rfl (awake23 _) ?_
        rintro v132 w132 ⟨rfl, hw⟩
        have hB := hB.carry hw
        refine L.val (x_as (v := .bool _) rfl) rfl ?_
        refine L.nil ?_
        refine thn_n ?_
        refine W.ret (fin_mk (.inr rfl) ?_)
        exact ⟨rfl, hB⟩
theorem law_crash23 (A : Nat → Prop) (n : Int) (l : List Sa) (v : Value) (w : World) (_ : True) (h : SasAt A w v l) : Ret Tryz.prog 6 #[.int .i64 n, v] w fun v w' => v = .bool true ∧ Bel w w' := crash23 A n v l w h
end Go.Gx
