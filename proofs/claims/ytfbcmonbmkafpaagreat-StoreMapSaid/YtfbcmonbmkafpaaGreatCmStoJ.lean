/- A store whose disk does not fall: its calls; the answers that the document fixes. Conditions: none. -/
import Derived.Test.YtfbcmonbmkafpaaGreatCmStoG
import Derived.Test.YtfbcmonbmkafpaaGreatCmWal9
namespace Go.Gx
open Go.Proofs Go.Sort
theorem kstoj_el9 : elT Tryz.prog 9 1 = true := by kernel_rfl
theorem kstoj_el95 : elT Tryz.prog 95 3 = true := by kernel_rfl
theorem kstoj_en10 : Go.Proofs.Enters Tryz.prog 10 := Go.Proofs.enters_of Tryz.func10 (by kernel_rfl) rfl
theorem kstoj_en11 : Go.Proofs.Enters Tryz.prog 11 := Go.Proofs.enters_of Tryz.func11 (by kernel_rfl) rfl
theorem kstoj_en12 : Go.Proofs.Enters Tryz.prog 12 := Go.Proofs.enters_of Tryz.func12 (by kernel_rfl) rfl
theorem kstoj_en15 : Go.Proofs.Enters Tryz.prog 15 := Go.Proofs.enters_of Tryz.func15 (by kernel_rfl) rfl
theorem kstoj_en50 : Go.Proofs.Enters Tryz.prog 50 := Go.Proofs.enters_of Tryz.func50 (by kernel_rfl) rfl
theorem kstoj_en8 : Go.Proofs.Enters Tryz.prog 8 := Go.Proofs.enters_of Tryz.func8 (by kernel_rfl) rfl
theorem kstoj_en9 : Go.Proofs.Enters Tryz.prog 9 := Go.Proofs.enters_of Tryz.func9 (by kernel_rfl) rfl
theorem kstoj_si95 : structInfo Tryz.prog 95 = some ([(0, 1), (1, 1), (2, 1)], [S [], S [], Value.bool false]) := by kernel_rfl
theorem comes_len : ∀ (l G : List Ed), (comes G l).length ≤ G.length + l.length
  | [], G => Nat.le_add_right _ _
  | e :: l, G => by
    have h1 : ∀ (G : List Ed), (come1 G e).length ≤ G.length + 1 := fun G => by
      induction G with
      | nil => rw [come1]; split <;> simp
      | cons x G ih =>
        rw [come1]
        split
        · simp only [List.length_cons]; omega
        · rw [List.length_append]
          split <;> split <;> simp only [List.length_cons, List.length_nil] <;> omega
    have h2 := comes_len l (come1 G e)
    have := h1 G
    have e1 : comes G (e :: l) = comes (come1 G e) l := rfl
    rw [e1, List.length_cons]; omega
structure Calm (n0 : Nat) (w : World) (b bs bl : Nat) (D : Dk) (K : Fl) (q : Pt) (G : List Ed) (c : Nat) : Prop where
  disk : DiskF n0 w b D K
  log : LogB n0 w bl b q false
  sto : StoAt n0 w bs bl G
  rep : SRep (una D) q G c
  arm : D.armed = 0
  live : D.dead = false
theorem Calm.carry {n0 : Nat} {w w' : World} {b bs bl : Nat} {D : Dk} {K : Fl} {q : Pt} {G : List Ed} {c : Nat} (h : Calm n0 w b bs bl D K q G c) (g : Bel w w') : Calm n0 w' b bs bl D K q G c := ⟨h.disk.bel g, h.log.bel g, h.sto.carry g, h.rep, h.arm, h.live⟩
structure Few (D : Dk) (q : Pt) (c : Nat) : Prop where
  ep : q.ep + 1 < 1000000000
  cnt : c + c + 2 < 2000000000
  ops : D.ops + 2300 < 900000000
theorem commit_c {n0 : Nat} {w : World} {b bs bl : Nat} {D : Dk} {K : Fl} {q : Pt} {G : List Ed} {c : Nat} (h : Calm n0 w b bs bl D K q G c) (hf : Few D q c) (A : Nat → Prop) (v : Value) (l : List Ed) (hs : EdsAt A w v l) (hn : n0 ≤ w.heap.size)
    (hln : l.length ≤ 10000) (hGl : G.length ≤ 10000) (hc : (comes G l).length ≤ c + 1) (hz : mayL l = true → sizG G + sizG l ≤ 10000000) :
    Ret Tryz.prog 10 #[.pointer (some ⟨bs, 0, none⟩), v] w fun v w' => v = .int .i64 (codeC (roomN D.pl.length) q.tail G l).1 ∧ (∃ D' K' q', Calm n0 w' b bs bl D' K' q' (if (codeC (roomN D.pl.length) q.tail G l).1 = 0 then comes G l else G) (c + 1) ∧ D'.pl.length = D.pl.length ∧ q'.tail = (codeC (roomN D.pl.length) q.tail G l).2 ∧ q'.ep ≤ q.ep + 1 ∧ D'.ops ≤ D.ops + 2300) ∧ Dg stTy n0 w w' := by
  have hq := h.rep.ok
  have hG := h.rep.rises
  have hm := h.rep.may
  have hlen := comes_len l G
  refine (commit_s n0 bs bl b A v l D K q G w h.disk h.log hq (by rw [h.arm]; omega) h.sto hG hm hs hn hln (by omega) (fun hml => Nat.le_trans (need_snap (may_comes hm hml)) (Nat.le_trans (sizG_comes l G) (hz hml)))).mono ?_
  rintro v' w' ⟨K1, rfl, ⟨K2, hD⟩, hL, hS, hg⟩
  obtain ⟨c1, c2, c3, c4⟩ := com_calm h.arm h.live K K1 q (l := l) hm
  have hF := com_fin (K := K) (K1 := K1) (l := l) h.live h.rep h.disk.2.1 hD.2.1 hc hf.ep hf.cnt hf.ops
  obtain ⟨f1, f2⟩ := hF.live c4
  rw [c1] at hS f2 ⊢
  rw [c4] at hL
  exact ⟨rfl, ⟨_, K2, _, ⟨hD, hL, hS, f2, c3, c4⟩, hF.len, c2, f1, hF.ops⟩, hg⟩
theorem compact_c {n0 : Nat} {w : World} {b bs bl : Nat} {D : Dk} {K : Fl} {q : Pt} {G : List Ed} {c : Nat} (h : Calm n0 w b bs bl D K q G c) (hf : Few D q c) (hn : n0 ≤ w.heap.size) (hGl : G.length ≤ 10000) (hc : G.length ≤ c + 1) (hz : sizG G ≤ 10000000) :
    Ret Tryz.prog 11 #[.pointer (some ⟨bs, 0, none⟩)] w fun v w' => v = .int .i64 (if whl G ≤ roomN D.pl.length then 0 else 210) ∧ (∃ D' K' q', Calm n0 w' b bs bl D' K' q' G (c + 1) ∧ D'.pl.length = D.pl.length ∧ q'.tail = (if whl G ≤ roomN D.pl.length then whl G else q.tail) ∧ q'.ep ≤ q.ep + 1 ∧ D'.ops ≤ D.ops + 2300) ∧ Dg stTy n0 w w' := by
  have hq := h.rep.ok
  have hG := h.rep.rises
  have hm := h.rep.may
  refine (compact_s n0 bs bl b D K q G w h.disk h.log hq (by rw [h.arm]; omega) h.sto hG hm hn (by omega) (Nat.le_trans (need_snap hm) hz)).mono ?_
  rintro v' w' ⟨rfl, ⟨K2, hD⟩, hL, hS, hg⟩
  obtain ⟨c1, c2, c3, c4⟩ := turn_calm h.arm h.live K q hm
  have hF := turn_fin (K := K) (G' := G) h.live (h.rep.mono (Nat.le_succ c)) h.disk.2.1 hD.2.1 hG hm hc hf.ep (by have := hf.cnt; omega) hf.ops
  obtain ⟨f1, f2⟩ := hF.live c4
  rw [ite_self] at f2
  rw [c1]
  rw [c4] at hL
  exact ⟨rfl, ⟨_, K2, _, ⟨hD, hL, hS, f2, c3, c4⟩, hF.len, c2, f1, hF.ops⟩, hg⟩
theorem open_c {n0 : Nat} {w : World} {b : Nat} {D : Dk} {K : Fl} {q : Pt} {G : List Ed} {c : Nat} (h : DiskF n0 w b D K) (hr : SRep (una D) q G c) (hd : D.dead = false) (hn : n0 ≤ w.heap.size) :
    Ret Tryz.prog 12 #[.pointer (some ⟨b, 0, none⟩)] w fun v w' => (∃ bs bl, v = .tuple #[.pointer (some ⟨bs, 0, none⟩), .int .i64 0] ∧ StoAt n0 w' bs bl G ∧ LogB n0 w' bl b q false) ∧ Bel w w' := by
  obtain ⟨ls, h1, h2, h3, rfl⟩ := hr.open h.2.1
  refine (open_s n0 b D q ls w h.at hd hr.ok.h6 h1 h2 h3).mono ?_
  rintro v w' ⟨⟨bs, bl, rfl, ⟨m, a1, a2, a3⟩, a4⟩, hB⟩
  refine ⟨⟨bs, bl, rfl, ⟨m, by omega, a2, ?_⟩, ⟨Nat.le_trans hn a4.1, a4.2⟩⟩, hB⟩
  rcases a3 with h | ⟨mb, l', e1, e2, e3⟩
  · exact .inl h
  · exact .inr ⟨mb, l', e1, by omega, e3⟩
def ab1 : List Ed := [⟨[98], [50], false⟩, ⟨[97], [49], false⟩]
def ab2 : List Ed := [⟨[98], [], true⟩]
def ab3 : List Ed := [⟨[], [], false⟩]
def aG1 : List Ed := [⟨[97], [49], false⟩, ⟨[98], [50], false⟩]
def aG2 : List Ed := [⟨[97], [49], false⟩]
theorem ab1c : codeC 576 0 [] ab1 = (0, 18) := by decide +kernel
theorem ab2c : codeC 576 18 aG1 ab2 = (0, 29) := by decide +kernel
theorem ab3c (t : Nat) : codeC 576 t aG2 ab3 = (230, t) := rfl
theorem aG1c : comes [] ab1 = aG1 := by decide +kernel
theorem aG2c : comes aG1 ab2 = aG2 := by decide +kernel
theorem awhl : whl aG2 ≤ 576 := by decide +kernel
theorem aroom : roomN (newD 20).pl.length = 576 := by decide +kernel
theorem awake23 (w : World) : Ret Tryz.prog 13 #[] w fun v w' => v = .bool true ∧ Bel w w' := by
  refine ret_of_W Tryz.func13 rfl (Nat.le_of_ble_eq_true rfl) (res1 rfl) ?_
  have hB := Gr.refl (fun _ => False) w
  refine W.seq ?_
  refine W.region ?_
  refine L.val (x_as (v := .bool _) rfl) rfl ?_
  refine L.nil ?_
  refine thn_n ?_
  refine W.seq ?_
  refine W.region ?_
  refine L.ret (x_call kstoj_en15 rfl) rfl (newdisk_f 20 (by decide) _) ?_
  rintro _ w10 ⟨b, rfl, h, hw⟩
  have hB := hB.carry hw
  refine L.val (x_mv (v := _) rfl) rfl ?_
  refine L.val (x_ext (v := .pointer _) rfl rfl) rfl ?_
  refine L.val (x_ext (v := .int _ _) rfl rfl) rfl ?_
  refine L.val (x_as (v := .pointer _) rfl) rfl ?_
  refine L.val (x_as (v := .int _ _) rfl) rfl ?_
  refine L.nil ?_
  refine thn_n ?_
  refine W.seq ?_
  refine W.region ?_
  have hs10 := hB.size
  refine L.val (x_mv (v := .pointer _) rfl) rfl ?_
  refine L.ret (x_call kstoj_en12 rfl) rfl (open_c (n0 := w.heap.size) h (show SRep (una (newD 20)) pt0 [] 0 from SRep.new (by decide)) rfl hs10) ?_
  rintro _ w15 ⟨⟨bs, bl, rfl, hS, hL⟩, hw⟩
  have hB := hB.carry hw; have h := h.carry hw
  have hC : Calm w.heap.size w15 b bs bl (newD 20) K0 pt0 [] 5 := ⟨h, hL, hS, (show SRep (una (newD 20)) pt0 [] 0 from SRep.new (by decide)).mono (by omega), rfl, rfl⟩
  have hs15 := hB.size
  refine L.val (x_mv (v := _) rfl) rfl ?_
  refine L.val (x_ext (v := .pointer _) rfl rfl) rfl ?_
  refine L.val (x_ext (v := .int _ _) rfl rfl) rfl ?_
  refine L.val (x_as (v := .pointer _) rfl) rfl ?_
  refine L.val (x_as (v := .int _ _) rfl) rfl ?_
  refine L.nil ?_
  refine thn_n ?_
  refine W.seq ?_
  refine W.seq ?_
  refine W.region ?_
  refine L.val (x_mv (v := .int _ _) rfl) rfl ?_
  refine L.val (x_neq rfl rfl) rfl ?_
  refine L.val (x_mv (v := .bool _) rfl) rfl ?_
  refine L.splitat (dj := 20) (b := _) rfl (fun g20 => ?_) (fun g20 => ?_)
  ·have h20 := dne_t g20
   cases g20
  ·have h20 := dne_f g20
   refine L.gyes' (dj := 20) (b := _) rfl rfl g20 ?_
   refine L.val (x_mv (v := .int _ _) rfl) rfl ?_
   refine L.gyes' (dj := 20) (b := _) rfl rfl g20 ?_
   refine L.val (x_neq rfl rfl) rfl ?_
   refine L.val (x_pick_f (v := .bool _) (congrArg Value.bool g20) rfl) rfl ?_
   refine L.val (x_mv (v := .bool _) rfl) rfl ?_
   refine L.splitat (dj := 24) (b := _) rfl (fun g24 => ?_) (fun g24 => ?_)
   ·have h24 := dne_t g24
    cases g24
   ·have h24 := dne_f g24
    refine L.gyes' (dj := 24) (b := _) rfl rfl g24 ?_
    refine L.val (x_mv (v := .pointer _) rfl) rfl ?_
    refine L.gyes' (dj := 24) (b := _) rfl rfl g24 ?_
    refine L.val (x_eqp0 Tryz.underlying23 rfl rfl) rfl ?_
    refine L.val (x_pick_f (v := .bool _) (congrArg Value.bool g24) rfl) rfl ?_
    refine L.val (x_mv (v := .bool _) rfl) rfl ?_
    refine L.splitat (dj := 28) (b := _) rfl (fun g28 => ?_) (fun g28 => ?_)
    ·have h28 := g28
     cases g28
    ·have h28 := g28
     refine L.gyes' (dj := 28) (b := _) rfl rfl g28 ?_
     refine L.val (x_mv (v := .pointer _) rfl) rfl ?_
     refine L.gyes' (dj := 28) (b := _) rfl rfl g28 ?_
     refine L.val (x_build (cells := [S _, S _, .bool _]) kstoj_si95 rfl rfl) rfl ?_
     refine L.gyes' (dj := 28) (b := _) rfl rfl g28 ?_
     refine L.val (x_build (cells := [S _, S _, .bool _]) kstoj_si95 rfl rfl) rfl ?_
     refine L.gyes' (dj := 28) (b := _) rfl rfl g28 ?_
     refine L.bs (sz := 3) (cells := (ab1.map edV).flatten) Tryz.underlying22 kstoj_el95 rfl rfl rfl rfl (fun w32 bx32 hw hz32 => ?_)
     have hB := hB.carry hw; have hC := hC.carry hw
     have hs32 := hB.size
     refine L.gyes' (dj := 28) (b := _) rfl rfl g28 ?_
     refine L.ret (x_call kstoj_en10 rfl) rfl (commit_c hC ⟨by decide, by decide, by decide⟩ (fun _ => False) _ ab1 (eds_of_box ab1 bx32 (fun f => f) (by decide) (may_ok_eds (by decide))) hs32 (by decide) (by decide) (by decide) (fun _ => by decide)) ?_
     rintro _ w33 ⟨rfl, ⟨D1, K1, q1, hC, hl1, ht1, he1, ho1⟩, hg33⟩
     have hB := hg33.bel hB
     have eR : codeC (roomN (newD 20).pl.length) pt0.tail [] ab1 = (0, 18) := by rw [aroom]; exact ab1c
     rw [eR] at hC ht1 ⊢
     rw [if_pos rfl, aG1c] at hC
     have hr1 : roomN D1.pl.length = 576 := by rw [hl1]; exact aroom
     have hs33 := hB.size
     refine L.gyes' (dj := 28) (b := _) rfl rfl g28 ?_
     refine L.val (x_neq rfl rfl) rfl ?_
     refine L.val (x_pick_f (v := .bool _) (congrArg Value.bool g28) rfl) rfl ?_
     refine L.val (x_mv (v := .bool _) rfl) rfl ?_
     refine L.splitat (dj := 36) (b := _) rfl (fun g36 => ?_) (fun g36 => ?_)
     ·have h36 := dne_t g36
      cases g36
     ·have h36 := dne_f g36
      refine L.gyes' (dj := 36) (b := _) rfl rfl g36 ?_
      refine L.val (x_mv (v := .pointer _) rfl) rfl ?_
      refine L.gyes' (dj := 36) (b := _) rfl rfl g36 ?_
      refine L.val (x_build (cells := [S _, S _, .bool _]) kstoj_si95 rfl rfl) rfl ?_
      refine L.gyes' (dj := 36) (b := _) rfl rfl g36 ?_
      refine L.bs (sz := 3) (cells := (ab2.map edV).flatten) Tryz.underlying22 kstoj_el95 rfl rfl rfl rfl (fun w39 bx39 hw hz39 => ?_)
      have hB := hB.carry hw; have hC := hC.carry hw
      have hs39 := hB.size
      refine L.gyes' (dj := 36) (b := _) rfl rfl g36 ?_
      refine L.ret (x_call kstoj_en10 rfl) rfl (commit_c hC ⟨by have : pt0.ep = 0 := rfl; omega, by decide, by have : (newD 20).ops = 0 := rfl; omega⟩ (fun _ => False) _ ab2 (eds_of_box ab2 bx39 (fun f => f) (by decide) (may_ok_eds (by decide))) hs39 (by decide) (by decide) (by decide) (fun _ => by decide)) ?_
      rintro _ w40 ⟨rfl, ⟨D2, K2, q2, hC, hl2, ht2, he2, ho2⟩, hg40⟩
      have hB := hg40.bel hB
      have eR2 : codeC (roomN D1.pl.length) q1.tail aG1 ab2 = (0, 29) := by rw [hr1, ht1]; exact ab2c
      rw [eR2] at hC ht2 ⊢
      rw [if_pos rfl, aG2c] at hC
      have hr2 : roomN D2.pl.length = 576 := by rw [hl2]; exact hr1
      have hs40 := hB.size
      refine L.gyes' (dj := 36) (b := _) rfl rfl g36 ?_
      refine L.val (x_neq rfl rfl) rfl ?_
      refine L.val (x_pick_f (v := .bool _) (congrArg Value.bool g36) rfl) rfl ?_
      refine L.nil ?_
      refine thn_n ?_
      refine W.cond (b := _) rfl (fun g41 => ?_) (fun g41 => ?_)
      ·have h41 := dne_t g41
       cases g41
      ·have h41 := dne_f g41
       refine W.skip ?_
       refine thn_n ?_
       refine W.seq ?_
       refine W.region ?_
       refine L.val (x_mv (v := .pointer _) rfl) rfl ?_
       refine L.ret (x_call kstoj_en12 rfl) rfl (open_c (n0 := w.heap.size) hC.disk hC.rep hC.live hB.size) ?_
       rintro _ w45 ⟨⟨bs2, bl2, rfl, hS2, hL2⟩, hw⟩
       have hB := hB.carry hw; have hC := hC.carry hw
       have hC2 : Calm w.heap.size w45 b bs2 bl2 D2 K2 q2 aG2 (5 + 1 + 1) := ⟨hC.disk, hL2, hS2, hC.rep, hC.arm, hC.live⟩
       have hs45 := hB.size
       refine L.val (x_mv (v := _) rfl) rfl ?_
       refine L.val (x_ext (v := .pointer _) rfl rfl) rfl ?_
       refine L.val (x_ext (v := .int _ _) rfl rfl) rfl ?_
       refine L.val (x_as (v := .pointer _) rfl) rfl ?_
       refine L.val (x_as (v := .int _ _) rfl) rfl ?_
       refine L.nil ?_
       refine thn_n ?_
       refine W.seq ?_
       refine W.region ?_
       refine L.val (x_mv (v := .pointer _) rfl) rfl ?_
       refine L.ret (x_call kstoj_en8 rfl) rfl (get_s w.heap.size bs2 bl2 aG2 [97] _ hC2.sto) ?_
       rintro _ w50 ⟨rfl, hq50⟩
       rw [hq50]
       refine L.val (x_mv (v := _) rfl) rfl ?_
       refine L.val (x_ext (v := S _) rfl rfl) rfl ?_
       refine L.val (x_ext (v := .bool _) rfl rfl) rfl ?_
       refine L.val (x_as (v := S _) rfl) rfl ?_
       refine L.val (x_as (v := .bool _) rfl) rfl ?_
       refine L.nil ?_
       refine thn_n ?_
       refine W.seq ?_
       refine W.region ?_
       refine L.val (x_mv (v := .int _ _) rfl) rfl ?_
       refine L.val (x_eql rfl rfl) rfl ?_
       refine L.val (x_mv (v := .bool _) rfl) rfl ?_
       refine L.splitat (dj := 55) (b := _) rfl (fun g55 => ?_) (fun g55 => ?_)
       ·have h55 := of_decide_eq_true g55
        refine L.gyes' (dj := 55) (b := _) rfl rfl g55 ?_
        refine L.val (x_mv (v := S _) rfl) rfl ?_
        refine L.gyes' (dj := 55) (b := _) rfl rfl g55 ?_
        refine L.val (x_eqs rfl rfl) rfl ?_
        refine L.val (x_pick_t (v := .bool _) (congrArg Value.bool g55) rfl) rfl ?_
        refine L.val (x_mv (v := .bool _) rfl) rfl ?_
        refine L.splitat (dj := 59) (b := _) rfl (fun g59 => ?_) (fun g59 => ?_)
        ·have h59 := seq_t g59
         refine L.gyes' (dj := 59) (b := _) rfl rfl g59 ?_
         refine L.val (x_mv (v := .bool _) rfl) rfl ?_
         refine L.val (x_pick_t (v := .bool _) (congrArg Value.bool g59) rfl) rfl ?_
         refine L.val (x_mv (v := .bool _) rfl) rfl ?_
         refine L.splitat (dj := 62) (b := _) rfl (fun g62 => ?_) (fun g62 => ?_)
         ·have h62 := g62
          refine L.gyes' (dj := 62) (b := _) rfl rfl g62 ?_
          refine L.val (x_mv (v := .pointer _) rfl) rfl ?_
          refine L.gyes' (dj := 62) (b := _) rfl rfl g62 ?_
          refine L.ret (x_call kstoj_en9 rfl) rfl (keys_s w.heap.size bs2 bl2 aG2 [] _ hC2.sto hC2.rep.rises (by decide) (by decide)) ?_
          rintro v64 w64 ⟨hk64, hw⟩
          have hB := hB.carry hw; have hC2 := hC2.carry hw
          have hk64 : StrsAt _ w64 v64 [[97]] := hk64
          obtain ⟨p64, c64, rfl, -⟩ := id hk64
          refine L.gyes' (dj := 62) (b := _) rfl rfl g62 ?_
          refine L.bs (sz := 1) (cells := [S [97]]) Tryz.underlying33 kstoj_el9 rfl rfl rfl rfl (fun w65 bx65 hw hz65 => ?_)
          have hB := hB.carry hw; have hC2 := hC2.carry hw; have hk64 := hk64.carry hw
          refine L.gyes' (dj := 62) (b := _) rfl rfl g62 ?_
          refine L.ret (x_call kstoj_en50 rfl) rfl (same21 _ _ _ _ [[97]] [[97]] _ hk64 (strs_new [[97]] bx65 (by decide) (by decide))) ?_
          rintro v66 w66 ⟨rfl, hw⟩
          have hB := hB.carry hw; have hC2 := hC2.carry hw; have hk64 := hk64.carry hw; have bx65 := bx65.carry hw
          have hs66 := hB.size
          refine L.val (x_pick_t (v := .bool _) (congrArg Value.bool g62) rfl) rfl ?_
          refine L.val (x_mv (v := .bool _) rfl) rfl ?_
          refine L.splitat (dj := 68) (b := _) rfl (fun g68 => ?_) (fun g68 => ?_)
          ·have h68 := g68
           refine L.gyes' (dj := 68) (b := _) rfl rfl g68 ?_
           refine L.val (x_mv (v := .pointer _) rfl) rfl ?_
           refine L.gyes' (dj := 68) (b := _) rfl rfl g68 ?_
           refine L.ret (x_call kstoj_en11 rfl) rfl (compact_c hC2 ⟨by have : pt0.ep = 0 := rfl; omega, by decide, by have : (newD 20).ops = 0 := rfl; omega⟩ hs66 (by decide) (by decide) (by decide)) ?_
           rintro _ w70 ⟨rfl, ⟨D3, K3, q3, hC3, hl3, ht3, he3, ho3⟩, hg70⟩
           have hB := hg70.bel hB
           rw [hr2, if_pos awhl]
           have hs70 := hB.size
           have hr3 : roomN D3.pl.length = 576 := by rw [hl3]; exact hr2
           refine L.gyes' (dj := 68) (b := _) rfl rfl g68 ?_
           refine L.val (x_eql rfl rfl) rfl ?_
           refine L.val (x_pick_t (v := .bool _) (congrArg Value.bool g68) rfl) rfl ?_
           refine L.val (x_mv (v := .bool _) rfl) rfl ?_
           refine L.splitat (dj := 73) (b := _) rfl (fun g73 => ?_) (fun g73 => ?_)
           ·have h73 := of_decide_eq_true g73
            refine L.gyes' (dj := 73) (b := _) rfl rfl g73 ?_
            refine L.val (x_mv (v := .pointer _) rfl) rfl ?_
            refine L.gyes' (dj := 73) (b := _) rfl rfl g73 ?_
            refine L.val (x_build (cells := [S _, S _, .bool _]) kstoj_si95 rfl rfl) rfl ?_
            refine L.gyes' (dj := 73) (b := _) rfl rfl g73 ?_
            refine L.bs (sz := 3) (cells := (ab3.map edV).flatten) Tryz.underlying22 kstoj_el95 rfl rfl rfl rfl (fun w76 bx76 hw hz76 => ?_)
            have hB := hB.carry hw; have hC3 := hC3.carry hw
            have hs76 := hB.size
            refine L.gyes' (dj := 73) (b := _) rfl rfl g73 ?_
            refine L.ret (x_call kstoj_en10 rfl) rfl (commit_c hC3 ⟨by have : pt0.ep = 0 := rfl; omega, by decide, by have : (newD 20).ops = 0 := rfl; omega⟩ (fun _ => False) _ ab3 (eds_of_box ab3 bx76 (fun f => f) (by decide) (fun e he => by rw [List.mem_singleton.1 he]; exact ⟨by decide, by decide⟩)) hs76 (by decide) (by decide) (by decide) (fun e => absurd e (by decide))) ?_
            rintro _ w77 ⟨rfl, ⟨D4, K4, q4, hC4, hl4, ht4, he4, ho4⟩, hg77⟩
            have hB := hg77.bel hB
            rw [hr3, ab3c]
            refine L.gyes' (dj := 73) (b := _) rfl rfl g73 ?_
            refine L.val (x_eql rfl rfl) rfl ?_
            refine L.val (x_pick_t (v := .bool _) (congrArg Value.bool g73) rfl) rfl ?_
            refine L.val (x_as (v := .bool _) rfl) rfl ?_
            refine L.nil ?_
            refine thn_n ?_
            refine W.ret (fin_mk (.inr rfl) ?_)
            exact ⟨rfl, hB⟩
           ·have h73 := of_decide_eq_false g73
            cases g73
          ·have h68 := g68
           cases g68
         ·have h62 := g62
          cases g62
        ·have h59 := seq_f g59
         exact absurd g59 (by decide)
       ·have h55 := of_decide_eq_false g55
        cases g55
end Go.Gx
namespace Go.Gx
open Go.Proofs Go.Sort
def NoS (w : World) (p : Option Addr) : Prop := p = none ∨ ∃ b, p = some ⟨b, 0, none⟩ ∧ Box w b 29 [.map none, .pointer none]
theorem NoS.carry {w w' : World} {p : Option Addr} (h : NoS w p) (g : Bel w w') : NoS w' p := by
  rcases h with h | ⟨b, h1, h2⟩
  · exact .inl h
  · exact .inr ⟨b, h1, h2.carry g⟩
end Go.Gx
