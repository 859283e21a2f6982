/- A commit through a fall: what the log tells then. Conditions: none. -/
import Derived.Test.YtfbcmonbmkafpaaGreatCmDsf4
import Derived.Test.YtfbcmonbmkafpaaGreatCmWal7
namespace Go.Gx
open Go.Proofs
def una (D : Dk) : Dk := { D with armed := 0 }
def bt (D : Dk) : Dk := { D with dead := false }
theorem DkOk.una {D : Dk} (h : DkOk D) : DkOk (una D) := ⟨h.pos, h.small, h.sec, h.cac, h.few⟩
theorem DkOk.bt {D : Dk} (h : DkOk D) : DkOk (bt D) := ⟨h.pos, h.small, h.sec, h.cac, h.few⟩
theorem comD_dk {D : Dk} {q p : Pt} {at' : Nat} {s : Str} {all' : List Str} (hok : DkOk D) (hca : D.ca = []) (h6 : 6 ≤ D.pl.length) (nx : Nx D q p at' s all') (hops : D.ops ≤ 900000000) : DkOk (comD D p at' s) := by
  have ho := comD_ops hok h6 nx.half nx.room
  have hr := roomN_le hok.small
  have hrm := nx.room
  refine ⟨by rw [comD_len]; exact hok.pos, by rw [comD_len]; exact hok.small, ?_, fun x hx => (by cases hx), ?_⟩
  · have h1 : ∀ x ∈ (wrD (wrs D p at' s) (p.ep % 2) (zeros 64)).ca, x.2.length = 64 := fun x hx => by
      simp only [wrD, wrs, wrC, hca, List.nil_append, List.mem_append, List.mem_singleton] at hx
      rcases hx with hx | rfl
      · obtain ⟨k, -, rfl⟩ := List.mem_map.1 hx; exact ckS_len _ _
      · exact zeros_len _
    have h2 : ∀ x ∈ (wrD (flD (wrD (wrs D p at' s) (p.ep % 2) (zeros 64))) (p.ep % 2) (hdrS p)).ca, x.2.length = 64 := fun x hx => by
      simp only [wrD, flD, List.nil_append, List.mem_singleton] at hx
      subst hx; exact hdrS_len _
    exact apD_sec (apD_sec hok.sec h1) h2
  · have : s.length / 64 ≤ 1000000 := by omega
    refine ⟨?_, by omega⟩
    show 0 ≤ 100000; omega
theorem crash_com {D : Dk} {K : Fl} {q p : Pt} {all all' : List Str} {at' : Nat} {s : Str} (hd : D.dead = false) (h : RepC (una D) q all) (hok : DkOk D) (nx : Nx (una D) q p at' s all')
    {R : Dk} (hR : comF D K (chk (una D) p at' s) (p.ep % 2) (hdrS p) = R) (hokR : DkOk R) (hep : p.ep < 1000000000) (hcn : p.cnt < 2000000000) (hops : D.ops + 2300 < 900000000) :
    R.pl.length = D.pl.length ∧ R.ca = [] ∧ D.ops ≤ R.ops ∧ R.ops ≤ D.ops + 2300 ∧ (R.dead = false → RepC (una R) p all') ∧ (R.dead = true → R.armed = 0 ∧ (RepC (bt R) q all ∨ RepC (bt R) p all')) := by
  have hca : D.ca = [] := h.ok.ca
  have h6 : 6 ≤ D.pl.length := h.ok.h6
  have hnk : at' / 64 + nck (una D) p at' s ≤ hlf D.pl.length ∧ nck (una D) p at' s ≤ 2200 := nck_le hok.una h6 nx
  have hst := stN_le h6 nx.half
  have hstq := stN_le h6 h.ok.half
  have hrN : roomN D.pl.length = hlf D.pl.length * 64 := rfl
  have h2 : 2 ≤ stN D.pl.length p.half := by unfold stN; omega
  have h2q : 2 ≤ stN D.pl.length q.half := by unfold stN; omega
  have eU : (una D).pl = D.pl := rfl
  have hC : DkOk (comD (una D) p at' s) := comD_dk hok.una hca h6 nx (by show D.ops ≤ _; omega)
  have hpe := nx.ep
  have hqt : q.tail ≤ roomN D.pl.length := h.ok.tail
  have htl : p.tail ≤ roomN D.pl.length := by rw [nx.tail]; exact nx.room
  have hws : (chk (una D) p at' s).length = nck (una D) p at' s := by unfold chk; rw [List.length_map, List.length_range]
  obtain ⟨r1, r2, r3, r4⟩ := comF_case (D := D) K (chk (una D) p at' s) (p.ep % 2) (hdrS p) hd hca
  rw [hR] at r1 r2 r3 r4
  rw [hws] at r3
  have hcm : ∀ x ∈ chk (una D) p at' s ++ [(p.ep % 2, zeros 64)], x.1 < D.pl.length := fun x hx => by
    rcases List.mem_append.1 hx with hx | hx
    · obtain ⟨k, hk, rfl⟩ := chk_mem hx
      show stN D.pl.length p.half + at' / 64 + k < _; omega
    · rw [List.mem_singleton.1 hx]; show p.ep % 2 < _; omega
  have ePC : (comD (una D) p at' s).pl = apD (apD D.pl (chk (una D) p at' s ++ [(p.ep % 2, zeros 64)])) [(p.ep % 2, hdrS p)] := by
    have e1 : (comD (una D) p at' s).pl = apD (apD D.pl (D.ca ++ chk (una D) p at' s ++ [(p.ep % 2, zeros 64)])) [(p.ep % 2, hdrS p)] := rfl
    rw [e1, hca, List.nil_append]
  have mkq : ∀ (E : Dk) (x : Pt), E.pl.length = D.pl.length → E.armed = 0 → E.dead = false → E.ca = [] → E.ops ≤ D.ops + 2300 → x.half ≤ 1 → x.tail ≤ roomN D.pl.length → x.ep < 1000000000 → x.cnt < 2000000000 → QOk E x := fun E x a1 a2 a3 a4 a5 a6 a7 a8 a9 =>
    ⟨by rw [a1]; exact h6, a2, a3, a4, by omega, a6, by rw [a1]; exact a7, a8, a9⟩
  have p1 : ∀ i, (apD D.pl (chk (una D) p at' s ++ [(p.ep % 2, zeros 64)])).getD i [] = if i = p.ep % 2 then zeros 64 else if stN D.pl.length p.half + at' / 64 ≤ i ∧ i < stN D.pl.length p.half + at' / 64 + nck (una D) p at' s then ckS (allS (una D) p at' s) (i - (stN D.pl.length p.half + at' / 64)) else D.pl.getD i [] := fun i => by
    have e : apD D.pl (chk (una D) p at' s ++ [(p.ep % 2, zeros 64)]) = (apD D.pl (chk (una D) p at' s)).set (p.ep % 2) (zeros 64) := by rw [apD_app]; rfl
    rw [e, getD_set0 (by rw [apD_len]; omega)]
    unfold chk
    rw [apC_get D.pl _ (ckS (allS (una D) p at' s)) i _ (by rw [eU]; omega)]; rfl
  have done : ∀ E : Dk, DkOk E → E.pl.length = D.pl.length → E.armed = 0 → E.dead = false → E.ca = [] → E.ops ≤ D.ops + 2300 → (∀ i, E.pl.getD i [] = (comD (una D) p at' s).pl.getD i []) → RepC E p all' := fun E a0 a1 a2 a3 a4 a5 a6 =>
    repC_done h hok.una a0 (mkq E p a1 a2 a3 a4 a5 nx.half htl hep hcn) nx hC a1 fun i => by rw [rdD_pl a4, rdD_pl (show (comD (una D) p at' s).ca = [] from rfl), a6]
  rcases r4 with ⟨d1, d2, d3⟩ | ⟨d1, d2⟩
  · have hlen : R.pl.length = D.pl.length := by
      rcases d3 with ⟨m, d3⟩ | d3
      · rw [d3, dropL_len]
      · rw [d3, dropL_len, apD_len]
    refine ⟨hlen, r1, r2, by omega, fun e => (by rw [d1] at e; cases e), fun _ => ⟨d2, ?_⟩⟩
    have hqB : QOk (bt R) q := mkq (bt R) q hlen d2 rfl r1 (by show R.ops ≤ _; omega) h.ok.half hqt h.ok.ep h.ok.cnt
    have erd : ∀ i, rdD (bt R) i = R.pl.getD i [] := fun i => rdD_pl (D := bt R) r1 i
    have erD : ∀ i, rdD (una D) i = D.pl.getD i [] := fun i => rdD_pl (D := una D) hca i
    have hz := h.zp
    rcases d3 with ⟨m, d3⟩ | d3
    · left
      have hg := dropL_get K ((chk (una D) p at' s ++ [(p.ep % 2, zeros 64)]).take m) 0 D.pl (by
          rw [List.map_take]; exact (chk_nodup (p.ep % 2) (by omega)).sublist (List.take_sublist _ _)) (fun x hx => hcm x (List.mem_of_mem_take hx))
      rw [← d3] at hg
      have hmem : ∀ {i : Nat} {t : Str}, (i, t) ∈ (chk (una D) p at' s ++ [(p.ep % 2, zeros 64)]).take m → i = p.ep % 2 ∧ t = zeros 64 ∨ ∃ k, k < nck (una D) p at' s ∧ i = stN D.pl.length p.half + at' / 64 + k ∧ t = ckS (allS (una D) p at' s) k := fun {i t} hx => by
        rcases List.mem_append.1 (List.mem_of_mem_take hx) with hx | hx
        · obtain ⟨k, hk, e⟩ := chk_mem hx
          simp only [Prod.mk.injEq] at e
          exact .inr ⟨k, hk, e.1, e.2⟩
        · simp only [List.mem_singleton, Prod.mk.injEq] at hx
          exact .inl hx
      have hsl : ∃ n, n ≤ 64 ∧ R.pl.getD ((q.ep + 1) % 2) [] = zeros n ++ (D.pl.getD ((q.ep + 1) % 2) []).drop n := by
        rcases hg ((q.ep + 1) % 2) with ⟨g1, -⟩ | ⟨t, n, g1, g2, g3⟩
        · exact ⟨0, by omega, by rw [g1]; rfl⟩
        · rcases hmem g1 with ⟨e1, e2⟩ | ⟨k, hk, e1, e2⟩
          · refine ⟨n, g2, ?_⟩
            rw [g3, e2]
            congr 1
            unfold zeros
            rw [List.take_replicate, Nat.min_eq_left g2]
          · omega
      have hDl : (D.pl.getD ((q.ep + 1) % 2) []).length = 64 := by rw [← erD]; exact rdD_len hok.una (by show _ < D.pl.length; omega)
      rw [erD] at hz
      refine repC_stay h hok.una hokR.bt hqB hlen (fun j hj => ?_) ?_ ?_ ?_
      · rw [erd, erD]
        show (R.pl.getD (stN D.pl.length q.half + j / 64) [])[j % 64]? = (D.pl.getD (stN D.pl.length q.half + j / 64) [])[j % 64]?
        rcases hg (stN D.pl.length q.half + j / 64) with ⟨g1, -⟩ | ⟨t, n, g1, g2, g3⟩
        · rw [g1]
        · rcases hmem g1 with ⟨e1, e2⟩ | ⟨k, hk, e1, e2⟩
          · omega
          · have := left_bytes h hok.una nx hj hk e1 n
            rw [erD] at this
            rw [g3, e2]; exact this
      · rw [erd, erD]
        rcases hg (q.ep % 2) with ⟨g1, -⟩ | ⟨t, n, g1, g2, g3⟩
        · exact g1
        · rcases hmem g1 with ⟨e1, e2⟩ | ⟨k, hk, e1, e2⟩ <;> omega
      · obtain ⟨n, hn, e⟩ := hsl
        rw [erd, erD, e]
        intro hk
        have := rd_34 (room := roomN (una D).pl.length) (hz n hn hk)
        exact ⟨by rw [← this.1]; exact hk, this.2⟩
      · obtain ⟨n, hn, e⟩ := hsl
        rw [erd, e]
        exact ZP_zero hDl hz hn
    · have hgB : ∀ i, R.pl.getD i [] = if i = p.ep % 2 then (hdrS p).take (ndrop K 0) ++ zeros (64 - ndrop K 0) else (apD D.pl (chk (una D) p at' s ++ [(p.ep % 2, zeros 64)])).getD i [] := fun i => by
        have e : dropL K 0 [(p.ep % 2, hdrS p)] (apD D.pl (chk (una D) p at' s ++ [(p.ep % 2, zeros 64)])) = (apD D.pl (chk (una D) p at' s ++ [(p.ep % 2, zeros 64)])).set (p.ep % 2) ((hdrS p).take (ndrop K 0) ++ ((apD D.pl (chk (una D) p at' s ++ [(p.ep % 2, zeros 64)])).getD (p.ep % 2) []).drop (ndrop K 0)) := rfl
        rw [d3, e, getD_set0 (by rw [apD_len]; omega), p1 (p.ep % 2), if_pos rfl]
        have e2 : (zeros 64).drop (ndrop K 0) = zeros (64 - ndrop K 0) := by unfold zeros; rw [List.drop_replicate]
        rw [e2]
      cases hk : rdOk ((hdrS p).take (ndrop K 0) ++ zeros (64 - ndrop K 0)) (roomN D.pl.length) with
      | true =>
        right
        have hw := torn_whole (ndrop_le K 0) hk
        refine done (bt R) hokR.bt hlen d2 rfl r1 (by show R.ops ≤ _; omega) fun i => ?_
        show R.pl.getD i [] = _
        rw [hgB, hw, ePC]
        have e : apD (apD D.pl (chk (una D) p at' s ++ [(p.ep % 2, zeros 64)])) [(p.ep % 2, hdrS p)] = (apD D.pl (chk (una D) p at' s ++ [(p.ep % 2, zeros 64)])).set (p.ep % 2) (hdrS p) := rfl
        rw [e, getD_set0 (by rw [apD_len]; omega)]
      | false =>
        left
        have hso : R.pl.getD ((q.ep + 1) % 2) [] = (hdrS p).take (ndrop K 0) ++ zeros (64 - ndrop K 0) := by rw [hgB, if_pos (by omega)]
        refine repC_stay h hok.una hokR.bt hqB hlen (fun j hj => ?_) ?_ ?_ ?_
        · rw [erd, erD]
          show (R.pl.getD (stN D.pl.length q.half + j / 64) [])[j % 64]? = (D.pl.getD (stN D.pl.length q.half + j / 64) [])[j % 64]?
          rw [hgB, if_neg (by omega), p1, if_neg (by omega)]
          by_cases hw : stN D.pl.length p.half + at' / 64 ≤ stN D.pl.length q.half + j / 64 ∧ stN D.pl.length q.half + j / 64 < stN D.pl.length p.half + at' / 64 + nck (una D) p at' s
          · rw [if_pos hw]
            obtain ⟨k, hk⟩ : ∃ k, k = stN D.pl.length q.half + j / 64 - (stN D.pl.length p.half + at' / 64) := ⟨_, rfl⟩
            have := left_bytes h hok.una nx (j := j) (k := k) hj (by omega) (by show stN D.pl.length q.half + j / 64 = stN D.pl.length p.half + at' / 64 + k; omega) 64
            rw [erD, List.take_of_length_le (by rw [ckS_len]; exact Nat.le_refl _), List.getElem?_append_left (by rw [ckS_len]; omega)] at this
            rw [← hk]; exact this
          · rw [if_neg hw]
        · rw [erd, erD, hgB, if_neg (by omega), p1, if_neg (by omega), if_neg (by omega)]
        · rw [erd, hso]
          intro e
          have e : rdOk ((hdrS p).take (ndrop K 0) ++ zeros (64 - ndrop K 0)) (roomN D.pl.length) = true := e
          rw [hk] at e; cases e
        · rw [erd, hso]; exact ZP_torn _ p (ndrop_le K 0)
  · have hlen : R.pl.length = D.pl.length := by rw [d2, apD_len, apD_len]
    refine ⟨hlen, r1, r2, by omega, fun _ => ?_, fun e => (by rw [d1] at e; cases e)⟩
    exact done (una R) hokR.una hlen rfl d1 r1 (by show R.ops ≤ _; omega) fun i => by
      show R.pl.getD i [] = _
      rw [d2, ePC]
end Go.Gx
namespace Go.Gx
open Go.Proofs
theorem kwaf1_en33 : Go.Proofs.Enters Tryz.prog 33 := Go.Proofs.enters_of Tryz.func33 (by kernel_rfl) rfl
theorem kwaf1_en35 : Go.Proofs.Enters Tryz.prog 35 := Go.Proofs.enters_of Tryz.func35 (by kernel_rfl) rfl
theorem kwaf1_fo134_1 : fieldOff Tryz.prog 134 1 = some 4 := by kernel_rfl
theorem kwaf1_fo134_2 : fieldOff Tryz.prog 134 2 = some 5 := by kernel_rfl
theorem kwaf1_oc4 : oneCellT Tryz.prog 4 = true := by kernel_rfl
theorem kwaf1_oc44 : oneCellT Tryz.prog 44 = true := by kernel_rfl
theorem kwaf1_sz4 : (Tryz.prog.info? 4).map (·.size) = some 1 := by kernel_rfl
def LogB (n0 : Nat) (w : World) (bl b : Nat) (p : Pt) (br : Bool) : Prop := n0 ≤ bl ∧ Box w bl 134 (logV p b br)
theorem LogB.dg {n0 n1 bl b : Nat} {w w' : World} {p : Pt} {br : Bool} (h : LogB n0 w bl b p br) (g : Dg dkTy n1 w w') : LogB n0 w' bl b p br := ⟨h.1, h.2.dg g rfl⟩
theorem e190 (D : Dk) : (!decide ((if D.armed = 1 then (190 : Int) else 0) = 0)) = decide (D.armed = 1) := by
  by_cases h : D.armed = 1
  · rw [if_pos h, decide_eq_true h]; rfl
  · rw [if_neg h, decide_eq_false h]; rfl
theorem Dg.logB {n0 bl b : Nat} {w w' : World} {p : Pt} {br : Bool} (hl : LogB n0 w bl b p br) (g : Gr (fun k => k = bl) w w') : Dg lgTy n0 w w' :=
  Gr.mono g (fun k _ e => by have e : k = bl := e; rw [e]; exact DkB.box hl.2 (by kernel_rfl) hl.1)
theorem write_lf (n0 bl b : Nat) (D : Dk) (K : Fl) (p : Pt) (i : Nat) (s : Str) (w : World) (h : DiskF n0 w b D K) (hl : LogB n0 w bl b p false) (ha : D.armed ≤ 9223372036854775807) (hd : D.dead = false) (hi : i < D.pl.length) (hs : s.length = 64) (hn : n0 ≤ w.heap.size) (hf : D.ca.length < 100000 ∧ D.ops < 1000000000) :
    Ret Tryz.prog 113 #[.pointer (some ⟨bl, 0, none⟩), .int .i64 (i : Nat), S s] w fun v w' => v = .bool (!decide (D.armed = 1)) ∧ DiskF n0 w' b (wrF D K i s) (Kn D K) ∧ LogB n0 w' bl b p (decide (D.armed = 1)) ∧ Dg lgTy n0 w w' := by
  have hb := hl.2
  refine ret_of_W Tryz.func113 rfl (Nat.le_of_ble_eq_true rfl) (res1 rfl) ?_
  refine W.seq ?_
  refine W.region ?_
  refine L.val (x_as (v := .bool _) rfl) rfl ?_
  refine L.nil ?_
  refine thn_n ?_
  refine W.seq ?_
  refine W.region ?_
  refine L.val (x_mv (v := .pointer _) rfl) rfl ?_
  refine L.val (x_mv (v := .pointer _) rfl) rfl ?_
  refine L.val (x_nil rfl) rfl ?_
  refine L.val (x_fa kwaf1_fo134_2 rfl) rfl ?_
  refine L.val (x_ld (v := .bool _) kwaf1_oc4 rfl (hb.cell0 rfl)) rfl ?_
  refine L.val (x_mv (v := .bool _) rfl) rfl ?_
  refine L.splitat (dj := 12) (b := _) rfl (fun g12 => ?_) (fun g12 => ?_)
  ·have h12 := g12
   cases g12
  ·have h12 := g12
   refine L.gyes' (dj := 12) (b := _) rfl rfl g12 ?_
   refine L.val (x_mv (v := .pointer _) rfl) rfl ?_
   refine L.gyes' (dj := 12) (b := _) rfl rfl g12 ?_
   refine L.val (x_nil rfl) rfl ?_
   refine L.gyes' (dj := 12) (b := _) rfl rfl g12 ?_
   refine L.val (x_fa kwaf1_fo134_1 rfl) rfl ?_
   refine L.gyes' (dj := 12) (b := _) rfl rfl g12 ?_
   refine L.val (x_ld (v := .pointer _) kwaf1_oc44 rfl (hb.cell0 rfl)) rfl ?_
   refine L.gyes' (dj := 12) (b := _) rfl rfl g12 ?_
   refine L.val (x_mv (v := .int _ _) rfl) rfl ?_
   refine L.gyes' (dj := 12) (b := _) rfl rfl g12 ?_
   refine L.val (x_mv (v := S _) rfl) rfl ?_
   refine L.gyes' (dj := 12) (b := _) rfl rfl g12 ?_
   refine L.ret (x_call kwaf1_en33 rfl) rfl (write_f n0 b D K i s _ h ha hd hi hs hn hf) ?_
   rintro _ w19 ⟨rfl, hD19, hg19⟩
   have hl19 := hl.dg hg19
   have hb := hl19.2
   have hDg := Dg.mono hg19 lg_of_dk
   refine L.gyes' (dj := 12) (b := _) rfl rfl g12 ?_
   refine L.val (x_neq rfl rfl) rfl ?_
   rw [e190]
   refine L.val (x_pick_f (v := .bool _) (congrArg Value.bool g12) rfl) rfl ?_
   refine L.val (x_nil rfl) rfl ?_
   refine L.val (x_fa kwaf1_fo134_2 rfl) rfl ?_
   refine L.set (v := .bool _) kwaf1_sz4 rfl rfl rfl hb rfl (fun wl19 hb hw hzl19 => ?_)
   have hDl := hD19.log hl19.2 hl19.1 hw
   have hDg := hDg.trans (Dg.logB hl19 hw)
   refine L.nil ?_
   refine thn_n ?_
   refine W.seq ?_
   refine W.region ?_
   refine L.val (x_mv (v := .pointer _) rfl) rfl ?_
   refine L.val (x_nil rfl) rfl ?_
   refine L.val (x_fa kwaf1_fo134_2 rfl) rfl ?_
   refine L.val (x_ld (v := .bool _) kwaf1_oc4 rfl (hb.cell0 rfl)) rfl ?_
   refine L.val (x_not rfl) rfl ?_
   refine L.val (x_as (v := .bool _) rfl) rfl ?_
   refine L.nil ?_
   refine thn_n ?_
   refine W.ret (fin_mk (.inr rfl) ?_)
   exact ⟨rfl, hDl, ⟨hl.1, hb⟩, hDg⟩
theorem flush_lf (n0 bl b : Nat) (D : Dk) (K : Fl) (p : Pt) (w : World) (h : DiskF n0 w b D K) (hl : LogB n0 w bl b p false) (ha : D.armed ≤ 9223372036854775807) (hd : D.dead = false) (hn : n0 ≤ w.heap.size) (hf : D.ops < 1000000000) :
    Ret Tryz.prog 114 #[.pointer (some ⟨bl, 0, none⟩)] w fun v w' => v = .bool (!decide (D.armed = 1)) ∧ DiskF n0 w' b (flF D K) (Kn D K) ∧ LogB n0 w' bl b p (decide (D.armed = 1)) ∧ Dg lgTy n0 w w' := by
  have hb := hl.2
  refine ret_of_W Tryz.func114 rfl (Nat.le_of_ble_eq_true rfl) (res1 rfl) ?_
  refine W.seq ?_
  refine W.region ?_
  refine L.val (x_as (v := .bool _) rfl) rfl ?_
  refine L.nil ?_
  refine thn_n ?_
  refine W.seq ?_
  refine W.region ?_
  refine L.val (x_mv (v := .pointer _) rfl) rfl ?_
  refine L.val (x_mv (v := .pointer _) rfl) rfl ?_
  refine L.val (x_nil rfl) rfl ?_
  refine L.val (x_fa kwaf1_fo134_2 rfl) rfl ?_
  refine L.val (x_ld (v := .bool _) kwaf1_oc4 rfl (hb.cell0 rfl)) rfl ?_
  refine L.val (x_mv (v := .bool _) rfl) rfl ?_
  refine L.splitat (dj := 8) (b := _) rfl (fun g8 => ?_) (fun g8 => ?_)
  ·have h8 := g8
   cases g8
  ·have h8 := g8
   refine L.gyes' (dj := 8) (b := _) rfl rfl g8 ?_
   refine L.val (x_mv (v := .pointer _) rfl) rfl ?_
   refine L.gyes' (dj := 8) (b := _) rfl rfl g8 ?_
   refine L.val (x_nil rfl) rfl ?_
   refine L.gyes' (dj := 8) (b := _) rfl rfl g8 ?_
   refine L.val (x_fa kwaf1_fo134_1 rfl) rfl ?_
   refine L.gyes' (dj := 8) (b := _) rfl rfl g8 ?_
   refine L.val (x_ld (v := .pointer _) kwaf1_oc44 rfl (hb.cell0 rfl)) rfl ?_
   refine L.gyes' (dj := 8) (b := _) rfl rfl g8 ?_
   refine L.ret (x_call kwaf1_en35 rfl) rfl (flush_f n0 b D K _ h ha hd hn hf) ?_
   rintro _ w13 ⟨rfl, hD13, hg13⟩
   have hl13 := hl.dg hg13
   have hb := hl13.2
   have hDg := Dg.mono hg13 lg_of_dk
   refine L.gyes' (dj := 8) (b := _) rfl rfl g8 ?_
   refine L.val (x_neq rfl rfl) rfl ?_
   rw [e190]
   refine L.val (x_pick_f (v := .bool _) (congrArg Value.bool g8) rfl) rfl ?_
   refine L.val (x_nil rfl) rfl ?_
   refine L.val (x_fa kwaf1_fo134_2 rfl) rfl ?_
   refine L.set (v := .bool _) kwaf1_sz4 rfl rfl rfl hb rfl (fun wl17 hb hw hzl17 => ?_)
   have hDl := hD13.log hl13.2 hl13.1 hw
   have hDg := hDg.trans (Dg.logB hl13 hw)
   refine L.nil ?_
   refine thn_n ?_
   refine W.seq ?_
   refine W.region ?_
   refine L.val (x_mv (v := .pointer _) rfl) rfl ?_
   refine L.val (x_nil rfl) rfl ?_
   refine L.val (x_fa kwaf1_fo134_2 rfl) rfl ?_
   refine L.val (x_ld (v := .bool _) kwaf1_oc4 rfl (hb.cell0 rfl)) rfl ?_
   refine L.val (x_not rfl) rfl ?_
   refine L.val (x_as (v := .bool _) rfl) rfl ?_
   refine L.nil ?_
   refine thn_n ?_
   refine W.ret (fin_mk (.inr rfl) ?_)
   exact ⟨rfl, hDl, ⟨hl.1, hb⟩, hDg⟩
end Go.Gx
