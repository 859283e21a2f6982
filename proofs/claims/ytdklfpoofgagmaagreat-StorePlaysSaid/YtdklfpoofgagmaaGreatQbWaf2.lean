/- A log's commit through a fall. Conditions: none. -/
import Derived.Test.YtdklfpoofgagmaaGreatQbDsf4
import Derived.Test.YtdklfpoofgagmaaGreatQbWal8
import Derived.Test.YtdklfpoofgagmaaGreatQbStoB
namespace Go.Gx
open Go.Proofs
theorem wrF_alive {D:Dk} {K:Fl} {i:Nat} {s:Str} (h:¬ D.armed=1):wrF D K i s={ wrD D i s with armed:=D.armed - 1 }:=by unfold wrF;rw [if_neg h]
theorem flF_alive {D:Dk} {K:Fl} (h:¬ D.armed=1):flF D K={ flD D with armed:=D.armed - 1 }:=by unfold flF;rw [if_neg h]
theorem Kn_alive {D:Dk} {K:Fl} (h:¬ D.armed=1):Kn D K=K:=by unfold Kn;rw [if_neg h]
theorem comF_1 {D:Dk} {K:Fl} {ws:List (Nat × Str)} {sl:Nat} {hd:Str} (h:(runW K D ws).dead=true):comF D K ws sl hd=runW K D ws:=by unfold comF;dsimp only;rw [if_pos h]
def comG (K:Fl) (A:Dk) (sl:Nat) (hd:Str):Dk:=
  if (wrF A K sl (zeros 64)).dead then wrF A K sl (zeros 64) else
    if (flF (wrF A K sl (zeros 64)) K).dead then flF (wrF A K sl (zeros 64)) K else
      if (wrF (flF (wrF A K sl (zeros 64)) K) K sl hd).dead then wrF (flF (wrF A K sl (zeros 64)) K) K sl hd else flF (wrF (flF (wrF A K sl (zeros 64)) K) K sl hd) K
theorem comF_tail {D:Dk} {K:Fl} {ws:List (Nat × Str)} {sl:Nat} {hd:Str} (h:(runW K D ws).dead=false):comF D K ws sl hd=comG K (runW K D ws) sl hd:=by
  unfold comF comG;dsimp only;rw [h,if_neg (by decide)]
section
variable {K:Fl} {A B C E:Dk} {sl:Nat} {hd:Str}
theorem comG_2 (e1:wrF A K sl (zeros 64)=B) (h1:B.dead=true):comG K A sl hd=B:=by unfold comG;rw [e1,if_pos h1]
theorem comG_3 (e1:wrF A K sl (zeros 64)=B) (h1:B.dead=false) (e2:flF B K=C) (h2:C.dead=true):comG K A sl hd=C:=by unfold comG;rw [e1,h1,if_neg (by decide),e2,if_pos h2]
theorem comG_4 (e1:wrF A K sl (zeros 64)=B) (h1:B.dead=false) (e2:flF B K=C) (h2:C.dead=false) (e3:wrF C K sl hd=E) (h3:E.dead=true):comG K A sl hd=E:=by unfold comG;rw [e1,h1,if_neg (by decide),e2,h2,if_neg (by decide),e3,if_pos h3]
theorem comG_5 (e1:wrF A K sl (zeros 64)=B) (h1:B.dead=false) (e2:flF B K=C) (h2:C.dead=false) (e3:wrF C K sl hd=E) (h3:E.dead=false):comG K A sl hd=flF E K:=by unfold comG;rw [e1,h1,if_neg (by decide),e2,h2,if_neg (by decide),e3,h3,if_neg (by decide)]
end
theorem runW_alive {D:Dk} {K:Fl} {l:List (Nat × Str)} (hd:D.dead=false) (h:(runW K D l).dead=false):runW K D l={ D with ca:=D.ca++l,ops:=D.ops+l.length,armed:=D.armed - l.length }:=by
  rcases runW_case K l D hd with ⟨h1,-⟩ | ⟨h1,-⟩
  · exact h1
  · rw [h] at h1;cases h1
theorem runW_next {D:Dk} {K:Fl} {l:List (Nat × Str)} {j:Nat} (hd:D.dead=false) (hj:j<l.length) (h:(runW K D (l.take j)).dead=false):runW K D (l.take (j+1))=wrF (runW K D (l.take j)) K (l.getD j default).1 (l.getD j default).2:=by
  rw [take_snoc (d:=default) hj,runW_app K _ _ _ hd,h,if_neg (by decide),runW];split
  · rfl
  · rfl
theorem runW_stop {D:Dk} {K:Fl} {l:List (Nat × Str)} {j:Nat} (hd:D.dead=false) (h:(runW K D (l.take j)).dead=true):runW K D l=runW K D (l.take j):=by
  conv=>lhs;rw [← List.take_append_drop j l]
  rw [runW_app K _ _ _ hd,if_pos h]
theorem chk_len (D:Dk) (p:Pt) (at':Nat) (s:Str):(chk D p at' s).length=nck D p at' s:=by unfold chk;rw [List.length_map,List.length_range]
theorem chk_get {D:Dk} {p:Pt} {at':Nat} {s:Str} {j:Nat} (h:j<nck D p at' s):(chk D p at' s).getD j default=(stN D.pl.length p.half+at' / 64+j,ckS (allS D p at' s) j):=by
  unfold chk;rw [List.getD_eq_getElem?_getD,List.getElem?_map,List.getElem?_range h];rfl
end Go.Gx
namespace Go.Gx
open Go.Proofs
def outF (D:Dk) (K:Fl) (q p:Pt) (at':Nat) (s:Str):Int × Dk × Pt:=
  (if (comF D K (chk D p at' s) (p.ep % 2) (hdrS p)).dead then 190 else 0,comF D K (chk D p at' s) (p.ep % 2) (hdrS p),if (comF D K (chk D p at' s) (p.ep % 2) (hdrS p)).dead then q else p)
end Go.Gx
namespace Go.Gx
open Go.Proofs
theorem LogB.bel {n0 bl b:Nat} {w w':World} {p:Pt} {br:Bool} (h:LogB n0 w bl b p br) (g:Bel w w'):LogB n0 w' bl b p br:=⟨h.1,h.2.carry g⟩
theorem LogB.carry {n0 bl b:Nat} {w w':World} {p:Pt} {br:Bool} (h:LogB n0 w bl b p br) (g:Bel w w'):LogB n0 w' bl b p br:=h.bel g
end Go.Gx
namespace Go.Gx
open Go.Proofs
theorem wrF_arm (D:Dk) (K:Fl) (i:Nat) (s:Str):(wrF D K i s).armed≤D.armed:=by
  unfold wrF;split
  · exact Nat.zero_le _
  · exact Nat.sub_le _ _
theorem flF_arm (D:Dk) (K:Fl):(flF D K).armed≤D.armed:=by
  unfold flF;split
  · exact Nat.zero_le _
  · exact Nat.sub_le _ _
theorem runW_arm (K:Fl):∀ (l:List (Nat × Str)) (D:Dk),(runW K D l).armed≤D.armed
  | [],_=>Nat.le_refl _
  | x :: r,D=>by
    rw [runW];split
    · exact wrF_arm D K _ _
    · exact Nat.le_trans (runW_arm K r _) (wrF_arm D K _ _)
theorem comF_arm (D:Dk) (K:Fl) (ws:List (Nat × Str)) (sl:Nat) (hd:Str):(comF D K ws sl hd).armed≤D.armed:=by
  have h1:=runW_arm K ws D;have h2:=wrF_arm (runW K D ws) K sl (zeros 64);have h3:=flF_arm (wrF (runW K D ws) K sl (zeros 64)) K;have h4:=wrF_arm (flF (wrF (runW K D ws) K sl (zeros 64)) K) K sl hd;have h5:=flF_arm (wrF (flF (wrF (runW K D ws) K sl (zeros 64)) K) K sl hd) K;unfold comF;dsimp only;split
  · exact h1
  · split
    · omega
    · split
      · omega
      · split <;> omega
structure Fin2 (D:Dk) (q:Pt) (all all':List Str) (r:Int × Dk × Pt):Prop where
  len:r.2.1.pl.length=D.pl.length
  ops:r.2.1.ops≤D.ops+2300
  arm:r.2.1.armed≤D.armed
  code:r.1=190↔r.2.1.dead=true
  live:r.2.1.dead=false→r.2.2.ep≤q.ep+1∧RepC (una r.2.1) r.2.2 (if r.1=0 then all' else all)
  dead:r.2.1.dead=true→r.2.1.armed=0∧∃ p,p.ep≤q.ep+1∧(RepC (bt r.2.1) p all∨RepC (bt r.2.1) p all')
theorem Fin2.same {D:Dk} {q:Pt} {all all':List Str} {e:Int} (hd:D.dead=false) (h:RepC (una D) q all) (h1:e≠190) (h2:e=0→all'=all):Fin2 D q all all' (e,D,q):=by
  refine ⟨rfl,Nat.le_add_right _ _,Nat.le_refl _,⟨fun e=>absurd e h1,fun e=>?_⟩,fun _=>⟨Nat.le_succ _,?_⟩,fun e=>?_⟩
  · have e:D.dead=true:=e;rw [hd] at e;cases e
  · dsimp only;split
    · rename_i e;rw [h2 e];exact h
    · exact h
  · have e:D.dead=true:=e;rw [hd] at e;cases e
theorem una_open (D:Dk):openA (una D)=openA D:=rfl
end Go.Gx
namespace Go.Gx
open Go.Proofs
theorem krfe_el5:elT Tryz.prog 5 1=true:=by kernel_rfl
theorem krfe_en101:Go.Proofs.Enters Tryz.prog 101:=Go.Proofs.enters_of Tryz.func101 kr_ rfl
theorem krfe_en111:Go.Proofs.Enters Tryz.prog 111:=Go.Proofs.enters_of Tryz.func111 kr_ rfl
theorem krfe_mixed:Tryz.prog.follows .mixedOrders=true:=by kernel_rfl
theorem krfe_oc9:oneCellT Tryz.prog 9=true:=by kernel_rfl
theorem krfe_sz9:(Tryz.prog.info? 9).map (·.size)=some 1:=by kernel_rfl
theorem widN_zero:widN 0=0:=by decide +kernel
theorem widN_step {n:Nat} (h0:n≠0) (hn:n<18446744073709551616):widN n=widN (n / 256)+1:=by
  rcases Nat.lt_or_ge n 256 with h | h
  · rw [widN_1 h0 h,Nat.div_eq_of_lt h,widN_zero]
  · unfold widN;rw [Lib.bitLen_shift8 n h hn];omega
theorem beN_succ (k n:Nat):beN (k+1) n=beN k (n / 256)++[lowB (n:Nat)]:=by
  unfold beN;rw [List.range_succ,List.map_append];congr 1
  · refine List.map_congr_left fun i hi=>?_
    have hi:i<k:=List.mem_range.1 hi;have e:8 * (k+1 - 1 - i)=8+8 * (k - 1 - i):=by omega
    rw [e,Int.pow_add,Int.natCast_ediv];show lowB ((n:Int) / (2 ^ 8 * 2 ^ (8 * (k - 1 - i))))=lowB ((n:Int) / 256 / 2 ^ (8 * (k - 1 - i)));rw [Int.ediv_ediv_of_nonneg (by decide)];rfl
  · simp
theorem dig_step {n:Nat} (h0:n≠0) (hn:n<18446744073709551616):beN (widN n) n=beN (widN (n / 256)) (n / 256)++[lowB (n:Nat)]:=by rw [widN_step h0 hn,beN_succ]
theorem lowB_mod (n:Nat):lowB ((n % 256:Nat):Int)=lowB (n:Nat):=by unfold lowB;congr 1;omega
theorem number01 (n:Nat) (hn:n<18446744073709551616) (w:World):Ret Tryz.prog 111 #[.int .u64 (n:Nat)] w fun v w'=>v=S (numB n)∧Bel w w':=by
  refine ret_of_W Tryz.func111 rfl (Nat.le_of_ble_eq_true rfl) (res1 rfl) ?_;have hB:=Gr.refl (fun _=>False) w;refine W.seq (W.region (L.val (x_as (v:=S _) rfl) rfl ?_));refine L.nil (thn_n (W.seq (W.seq (W.region (L.val (x_mv (v:=.int _ _) rfl) rfl ?_)))));refine L.val (x_leq rfl rfl) rfl ?_;refine L.nil (thn_n (W.cond (b:=_) rfl (fun g6=>?_) (fun g6=>?_)))
  ·have h6:=of_decide_eq_true g6;refine W.seq (W.region (L.val (x_mv (v:=.int _ _) rfl) rfl ?_));refine L.val (x_convB (by rw [Tryz.underlying80];rfl) Tryz.underlying5 rfl) rfl ?_;refine L.bs (sz:=1) (cells:=[B8 (lowB (n:Nat))]) Tryz.underlying59 krfe_el5 rfl rfl rfl rfl (fun w9 bx9 hw hz9=>?_);have hB:=hB.carry hw;refine L.val (x_b2s (l:=[lowB (n:Nat)]) Tryz.underlying59 Tryz.underlying5 Tryz.underlying9 rfl rfl (fun j hj=>bx9.row rfl j hj)) rfl ?_;refine L.val (x_as (v:=S _) rfl) rfl ?_;refine L.nil (thn_n (W.ret (thn_r (fin_mk (.inr rfl) ?_))));refine ⟨?_,hB⟩;unfold numB;rw [if_pos om_];rfl
  ·have h6:=dle_f g6;refine W.skip (thn_n (W.seq (W.region (L.val (x_as (v:=S _) rfl) rfl ?_))));refine L.nil (thn_n (W.seq (W.region (L.val (x_as (v:=.int _ _) rfl) rfl ?_))));refine L.nil (thn_n (W.seq (W.block (W.loop (fun m' E w'=>∃ (m k:Nat) (x:Str),m'=m∧E 0=.int .u64 (m:Nat)∧E 3=S x∧E 4=.int .i64 (k:Nat)∧(m≤n)∧(beN (widN m) m++x=beN (widN n) n)∧(k+widN m=widN n)∧(Bel w w')) (n) ?_ ?_))))
   ·exact ⟨n,0,[],by omega,vi_,vi_,vi_,ao_,(by rw [List.append_nil]),(by exact Nat.zero_add _),ao_⟩
   ·rintro _ E wL11 ⟨m,k,x,em,e0,e3,e4,hmn,hx,hk,hB⟩;rw [upd_self e0,upd_self e3,upd_self e4];refine W.seq (W.seq (W.region (L.val (x_mv (v:=.int _ _) rfl) rfl ?_)));refine L.val (x_gtr rfl rfl) rfl ?_;refine L.nil (thn_n (W.cond (b:=_) rfl (fun g12=>?_) (fun g12=>?_)))
    ·have h12:=of_decide_eq_true g12;have hm0:m≠0:=by omega
     have hw8:=widN_le hn;have hxl:x.length≤8:=by have:=congrArg List.length hx;rw [List.length_append,beN_len,beN_len] at this;omega
     have hx2:beN (widN (m / 256)) (m / 256)++(lowB ((m % 256:Nat):Int) :: x)=beN (widN n) n:=by
       rw [← hx,dig_step hm0 om_,List.append_assoc,lowB_mod];rfl
     have hk2:k+1+widN (m / 256)=widN n:=by rw [← hk,widN_step hm0 om_];omega
     refine W.skip (thn_n (W.block (W.seq (W.region (L.val (x_mv (v:=.int _ _) rfl) rfl ?_)))));refine L.val (x_rem (c:=((m % 256:Nat):Int)) rfl rfl om_ (by decide) om_) rfl ?_;refine L.val (x_convB (by rw [Tryz.underlying80];rfl) Tryz.underlying5 rfl) rfl ?_;refine L.bs (sz:=1) (cells:=[B8 (lowB ((m % 256:Nat):Int))]) Tryz.underlying59 krfe_el5 rfl rfl rfl rfl (fun w16 bx16 hw hz16=>?_);have hB:=hB.carry hw;refine L.val (x_b2s (l:=[lowB ((m % 256:Nat):Int)]) Tryz.underlying59 Tryz.underlying5 Tryz.underlying9 rfl rfl (fun j hj=>bx16.row rfl j hj)) rfl ?_;refine L.val (x_mv (v:=S _) rfl) rfl ?_;refine L.val (x_cat rfl rfl (by simp only [List.length_append,List.length_cons,List.length_nil];omega)) rfl ?_;refine L.val (x_as (v:=S _) rfl) rfl ?_;refine L.nil (thn_n (W.seq (W.region (L.val (x_mv (v:=.int _ _) rfl) rfl ?_))));refine L.val (x_quo (c:=((m / 256:Nat):Int)) rfl rfl (by decide) (by rw [show ((m:Int).tdiv 256)=((m / 256:Nat):Int) by rw [Int.tdiv_eq_ediv_of_nonneg om_];omega];exact wru64 om_)) rfl ?_;refine L.val (x_as (v:=.int _ _) rfl) rfl ?_;refine L.nil (thn_n (W.region (L.val (x_mv (v:=.int _ _) rfl) rfl ?_)));refine L.val (x_add rfl rfl (wr64 om_)) rfl ?_;refine L.val (x_as (v:=.int _ _) rfl) rfl ?_;refine L.nil (blk_n (thn_n ⟨rfl,?_⟩));refine ⟨_,?_,m / 256,k+1,lowB ((m % 256:Nat):Int) :: x,rfl,vi_,vi_,vi_,ao_,(by exact hx2),(by exact hk2),ao_⟩;omega
    ·have h12:=dlt_f g12;have hm0:m=0:=by omega
     subst hm0;rw [widN_zero] at hx hk;have hw8:=widN_le hn;have hx:x=beN (widN n) n:=hx;have hk:k=widN n:=hk;subst hx hk;have hxl:=beN_len (widN n) n;refine W.exit (thn_x (thn_x (blk_hit ?_)));refine thn_n (W.seq (W.region (L.val (x_mv (v:=.int _ _) rfl) rfl ?_)));refine L.val (x_add rfl rfl (wr64 om_)) rfl ?_;refine L.val (x_convB (by rw [Tryz.underlying3];rfl) Tryz.underlying5 rfl) rfl ?_;refine L.bs (sz:=1) (cells:=[B8 (lowB (247+(widN n:Nat)))]) Tryz.underlying59 krfe_el5 rfl rfl rfl rfl (fun w27 bx27 hw hz27=>?_);have hB:=hB.carry hw;refine L.val (x_b2s (l:=[lowB (247+(widN n:Nat))]) Tryz.underlying59 Tryz.underlying5 Tryz.underlying9 rfl rfl (fun j hj=>bx27.row rfl j hj)) rfl ?_;refine L.val (x_mv (v:=S _) rfl) rfl ?_;refine L.val (x_cat rfl rfl (by simp only [List.length_append,List.length_cons,List.length_nil];omega)) rfl ?_;refine L.val (x_as (v:=S _) rfl) rfl ?_;refine L.nil (thn_n (W.ret (fin_mk (.inr rfl) ?_)));refine ⟨?_,hB⟩;unfold numB;rw [if_neg om_];rfl
theorem text01 (s:Str) (hs:s.length≤140737488355328) (w:World):Ret Tryz.prog 101 #[S s] w fun v w'=>v=S (textB s)∧Bel w w':=by
  have hnb:=numB_len (n:=s.length) om_;refine ret_of_W Tryz.func101 rfl (Nat.le_of_ble_eq_true rfl) (res1 rfl) ?_;have hB:=Gr.refl (fun _=>False) w;refine W.seq (W.region (L.val (x_as (v:=S _) rfl) rfl ?_));refine L.nil (thn_n (W.seq (W.region (L.val (x_mv (v:=S _) rfl) rfl ?_))));refine L.val (x_len_str Tryz.underlying9 rfl) rfl ?_;refine L.val (x_conv (k':=.u64) (by rw [Tryz.underlying3];rfl) Tryz.underlying80 rfl (wru64 om_)) rfl ?_;refine L.ret (x_call krfe_en111 rfl) rfl (number01 s.length om_ _) ?_;rintro _ w6 ⟨rfl,hw⟩;have hB:=hB.carry hw;refine L.val (x_mv (v:=S _) rfl) rfl ?_;refine L.val (x_cat rfl rfl om_) rfl ?_;refine L.val (x_as (v:=S _) rfl) rfl ?_;refine L.nil (thn_n (W.ret (fin_mk (.inr rfl) ?_)));exact ⟨rfl,hB⟩
theorem list01 (A:Nat→Prop) (v:Value) (l:List Str) (w:World) (h:StrsAt A w v l) (hl:(listB l).length≤100000000):Ret Tryz.prog 82 #[v] w fun v w'=>v=S (listB l)∧Bel w w':=by
  obtain ⟨pv,cv,rfl,a1,a2,a3,a4,-⟩:=id h;have hlL:(listB l).length=(numB l.length).length+((l.map textB).flatten).length:=by unfold listB;rw [List.length_append]
  refine ret_of_W Tryz.func82 rfl (Nat.le_of_ble_eq_true rfl) (res1 rfl) ?_;have hB:=Gr.refl (fun _=>False) w;refine W.seq (W.region (L.val (x_as (v:=S _) rfl) rfl ?_));refine L.nil (thn_n (W.seq (W.region (L.val (x_mv (v:=.slice _ _ _) rfl) rfl ?_))));refine L.val (x_len_slice Tryz.underlying22 rfl) rfl ?_;refine L.val (x_conv (k':=.u64) (by rw [Tryz.underlying3];rfl) Tryz.underlying80 rfl (wru64 om_)) rfl ?_;refine L.ret (x_call krfe_en111 rfl) rfl (number01 l.length om_ _) ?_;rintro _ w8 ⟨rfl,hw⟩;have hB:=hB.carry hw;have h:=h.carry hw;have hz0:numB l.length=numB l.length++((l.take 0).map textB).flatten:=by simp
  refine L.val (x_as (v:=S _) rfl) rfl ?_;refine L.nil (thn_n (W.seq (W.seq (W.region (L.val (x_as (v:=.int _ _) rfl) rfl ?_)))));refine L.nil (thn_n (W.block (W.loop (fun m' E w'=>∃ (i:Nat),m'=l.length - i∧E 0=.slice pv l.length cv∧E 3=S (numB l.length++((l.take i).map textB).flatten)∧E 4=.int .i64 (i:Nat)∧(i≤l.length)∧(Bel w w')∧(StrsAt A w' (.slice pv l.length cv) l)) (l.length) ?_ ?_)))
  ·exact ⟨0,by omega,by first | rfl | exact vi om_ | exact vs (by first | assumption | (rw [hst];done) | (rw [hst];simp only [List.append_assoc])),by first | rfl | exact vi om_ | exact vs (by first | assumption | (rw [hst];done) | (rw [hst];simp only [List.append_assoc])),by first | rfl | exact vi om_ | exact vs (by first | assumption | (rw [hst];done) | (rw [hst];simp only [List.append_assoc])),ao_,ao_,ao_⟩
  ·rintro _ E wL9 ⟨i,em,e0,e3,e4,hi,hB,h⟩;rw [upd_self e0,upd_self e3,upd_self e4];refine W.seq (W.seq (W.region (L.val (x_mv (v:=.int _ _) rfl) rfl ?_)));refine L.val (x_mv (v:=.slice _ _ _) rfl) rfl ?_;refine L.val (x_len_slice Tryz.underlying22 rfl) rfl ?_;refine L.val (x_lss rfl rfl) rfl ?_;refine L.nil (thn_n (W.cond (b:=_) rfl (fun g12=>?_) (fun g12=>?_)))
   ·have h12:=of_decide_eq_true g12;have hlt:i<l.length:=by omega
    obtain ⟨b,o,rfl,hc⟩:=h.elem hlt;have hst:=texts_take hlt;have hle:=texts_take_le l (i+1);rw [hst,List.length_append] at hle;have htp:=textB_pos (l.getD i []);refine W.skip (thn_n (W.seq (W.block (W.region (L.val (x_mv (v:=S _) rfl) rfl ?_)))));refine L.val (x_mv (v:=.slice _ _ _) rfl) rfl ?_;refine L.val (x_mv (v:=.int _ _) rfl) rfl ?_;refine L.val (x_ia1 (j:=i) Tryz.underlying22 krfe_sz9 rfl rfl om_ om_) rfl ?_;refine L.val (x_ld (v:=S _) krfe_oc9 rfl hc) rfl ?_;refine L.ret (x_call krfe_en101 rfl) rfl (text01 (l.getD i []) om_ _) ?_;rintro _ w20 ⟨rfl,hw⟩;have hB:=hB.carry hw;have h:=h.carry hw;refine L.val (x_cat rfl rfl (by simp only [List.length_append];omega)) rfl ?_;refine L.val (x_as (v:=S _) rfl) rfl ?_;refine L.nil (blk_n (thn_n (W.region (L.val (x_mv (v:=.int _ _) rfl) rfl ?_))));refine L.val (x_add rfl rfl (wr64 om_)) rfl ?_;refine L.val (x_as (v:=.int _ _) rfl) rfl ?_;refine L.nil (thn_n ⟨rfl,?_⟩);refine ⟨_,?_,i+1,rfl,by first | rfl | exact vi om_ | exact vs (by first | assumption | (rw [hst];done) | (rw [hst];simp only [List.append_assoc])),by first | rfl | exact vi om_ | exact vs (by first | assumption | (rw [hst];done) | (rw [hst];simp only [List.append_assoc])),by first | rfl | exact vi om_ | exact vs (by first | assumption | (rw [hst];done) | (rw [hst];simp only [List.append_assoc])),ao_,ao_,ao_⟩;omega
   ·have h12:=dlt_f g12;have hie:i=l.length:=by omega
    subst hie;rw [List.take_length];refine W.exit (thn_x (thn_x (blk_hit ?_)));refine thn_n (W.seq (W.region (L.val (x_mv (v:=S _) rfl) rfl ?_)));refine L.val (x_as (v:=S _) rfl) rfl ?_;refine L.nil (thn_n (W.ret (fin_mk (.inr rfl) ?_)));exact ⟨rfl,hB⟩
theorem beN_beV:∀ (n:Nat) (l:Str),l.length=n→beN n (beV l)=l
  | 0,l,h=>by rw [List.eq_nil_of_length_eq_zero h];rfl
  | n+1,l,h=>by
    have e:l=l.take n++[l.getD n 0]:=by
      have:=take_snoc (k:=n) (d:=0) (l:=l) om_
      rwa [List.take_of_length_le om_] at this
    have hb:=(l.getD n 0).toNat_lt;have ih:=beN_beV n (l.take n) (by rw [List.length_take];omega);have e0:beV l=beV (l.take n) * 256+(l.getD n 0).toNat:=by conv=>lhs;rw [e,beV_snoc]
    have e1:(beV (l.take n) * 256+(l.getD n 0).toNat) / 256=beV (l.take n):=by omega
    have e2:lowB ((beV (l.take n) * 256+(l.getD n 0).toNat:Nat):Int)=l.getD n 0:=by
      unfold lowB;rw [show (((beV (l.take n) * 256+(l.getD n 0).toNat:Nat):Int) % 256).toNat=(l.getD n 0).toNat by omega];exact UInt8.ofNat_toNat
    rw [e0,beN_succ,e1,e2,ih];exact e.symm
theorem numB_beV {l:Str} {f:UInt8} (hl:l.length≤8) (hf:f.toNat=247+l.length) (h1:1≤l.length):numB (beV l)=f :: l↔¬ (beV l<248∨widN (beV l)≠l.length):=by
  constructor
  · intro h;unfold numB at h;split at h
    · have:=congrArg List.length h;simp only [List.length_cons,List.length_nil] at this;omega
    · rename_i hge
      have:=congrArg List.length h;simp only [List.length_cons,beN_len] at this;rintro (e | e) <;> omega
  · intro h;have h2:¬ beV l<248:=fun e=>h (.inl e)
    have h3:widN (beV l)=l.length:=Classical.byContradiction fun e=>h (.inr e)
    unfold numB;rw [if_neg h2,h3,beN_beV _ _ rfl];congr 1;unfold lowB;rw [show ((247+(l.length:Nat):Int) % 256).toNat=f.toNat by have:=f.toNat_lt;omega];exact UInt8.ofNat_toNat
theorem beV_take_succ {l:Str} {j:Nat} (h:j<l.length):beV (l.take (j+1))=beV (l.take j) * 256+(l.getD j 0).toNat:=by
  rw [take_snoc (d:=0) h,beV_snoc]
theorem takeNum01 (s:Str) (a:Nat) (ha:a≤s.length) (hs:s.length≤1000000000) (w:World):
    Ret Tryz.prog 99 #[S s,.int .i64 (a:Nat)] w fun v w'=>v=.tuple #[.int .u64 ((takeNum s a).1:Nat),.int .i64 ((takeNum s a).2.1:Nat),.int .i64 (takeNum s a).2.2]∧Bel w w':=by
  have hdl:(s.drop a).length=s.length - a:=List.length_drop;refine ret_of_W Tryz.func99 rfl (Nat.le_of_ble_eq_true rfl) (res3 rfl) ?_;have hB:=Gr.refl (fun _=>False) w;refine W.seq (W.region ?_);(iterate 3 refine L.val (x_as (v:=.int _ _) rfl) rfl ?_);refine L.nil (thn_n (W.seq (W.seq (W.region (L.val (x_mv (v:=.int _ _) rfl) rfl ?_)))));refine L.val (x_lss rfl rfl) rfl ?_;refine L.val (x_mv (v:=.bool _) rfl) rfl ?_;refine' L.group0 4 13 16 16 12 false rfl ?_ ?_ ?_;rotate_left 1
  ·intro g12;have h12:=dlt_f g12;refine L.gyes' (dj:=12) (b:=_) rfl rfl g12 ?_;refine L.val (x_mv (v:=.int _ _) rfl) rfl ?_;refine L.gyes' (dj:=12) (b:=_) rfl rfl g12 ?_;refine L.val (x_mv (v:=S _) rfl) rfl ?_;refine L.gyes' (dj:=12) (b:=_) rfl rfl g12 ?_;refine L.val (x_len_str Tryz.underlying9 rfl) rfl ?_;refine L.gyes' (dj:=12) (b:=_) rfl rfl g12 ?_;refine L.val (x_gtr rfl rfl) rfl ?_;refine L.nil (thn_n ⟨rfl,rfl,?_,rfl⟩);repeat (first | exact jeq.refl _ _ _ | refine jeq.upd rfl ?_ | refine jeq.jk rfl rfl ?_)
  ·intro g12;(iterate 4 refine L.gno (dj:=12) (b:=_) rfl rfl g12 rfl ?_);refine L.nil (thn_n ⟨rfl,rfl,?_⟩);repeat (first | exact jeq.refl _ _ _ | refine jeq.upd rfl ?_ | refine jeq.jk rfl rfl ?_)
  intro J12 j12;refine L.val (x_or rfl j12) rfl ?_;refine L.nil (thn_n (W.cond (b:=_) rfl (fun g17=>?_) (fun g17=>?_)))
  ·have h17:=g17;simp only [Bool.or_eq_true,decide_eq_true_eq] at g17;omega
  ·have h17:=g17;refine W.skip (thn_n (W.seq (W.region (L.val (x_mv (v:=S _) rfl) rfl ?_))));refine L.val (x_mv (v:=.int _ _) rfl) rfl ?_;refine L.val (x_slB Tryz.underlying9 rfl rfl rfl ha) rfl ?_;refine L.val (x_as (v:=S _) rfl) rfl ?_;refine L.nil (thn_n (W.seq (W.seq (W.region (L.val (x_mv (v:=S _) rfl) rfl ?_)))));refine L.val (x_eqs rfl rfl) rfl ?_;refine L.nil (thn_n (W.cond (b:=_) rfl (fun g22=>?_) (fun g22=>?_)))
   ·have h22:=seq_t g22;have hnil:s.drop a=[]:=h22;refine W.seq (W.region ?_);(iterate 3 refine L.val (x_as (v:=.int _ _) rfl) rfl ?_);refine L.nil (thn_n (W.ret (thn_r (fin_mk (.inr rfl) ?_))));unfold takeNum;rw [hnil];exact ⟨rfl,hB⟩
   ·have h22:=seq_f g22;obtain ⟨f,r,hd⟩:∃ f r,s.drop a=f :: r:=by
      cases hc:s.drop a with
      | nil=>exact absurd hc h22
      | cons f r=>exact ⟨f,r,rfl⟩
    rw [hd] at hdl ⊢;have hrl:r.length+1=s.length - a:=by simpa using hdl
    have hfb:=f.toNat_lt;have hf0:((f :: r).getD 0 0).toNat=f.toNat:=rfl;have hrc:(f :: r).length=r.length+1:=rfl;have htn:takeNum s a=if f.toNat<248 then (f.toNat,a+1,0) else if r.length<f.toNat - 247 then (0,0,10) else if beV (r.take (f.toNat - 247))<248∨widN (beV (r.take (f.toNat - 247)))≠f.toNat - 247 then (0,0,11) else (beV (r.take (f.toNat - 247)),a+1+(f.toNat - 247),0):=by
      unfold takeNum;rw [hd]
    rw [htn];refine W.skip (thn_n (W.seq (W.seq (W.region (L.val (x_mv (v:=S _) rfl) rfl ?_)))));refine L.val (x_ixs (j:=0) Tryz.underlying9 rfl rfl rfl om_) rfl ?_;refine L.val (x_leq rfl rfl) rfl ?_;refine L.nil (thn_n (W.cond (b:=_) rfl (fun g25=>?_) (fun g25=>?_)))
    ·have h25:=of_decide_eq_true g25;refine W.seq (W.region (L.val (x_mv (v:=S _) rfl) rfl ?_));refine L.val (x_ixs (j:=0) Tryz.underlying9 rfl rfl rfl om_) rfl ?_;refine L.val (x_conv (k':=.u64) (by rw [Tryz.underlying5];rfl) Tryz.underlying80 rfl (wru64 om_)) rfl ?_;refine L.val (x_mv (v:=.int _ _) rfl) rfl ?_;refine L.val (x_add rfl rfl (wr64 om_)) rfl ?_;(iterate 3 refine L.val (x_as (v:=.int _ _) rfl) rfl ?_);refine L.nil (thn_n (W.ret (thn_r (fin_mk (.inr rfl) ?_))));rw [if_pos om_];exact ⟨rfl,hB⟩
    ·have h25:=dle_f g25;rw [if_neg om_];obtain ⟨K,hK⟩:∃ K,K=f.toNat - 247:=⟨_,rfl⟩;rw [← hK];have hK1:1≤K∧K≤8:=by omega
     refine W.skip (thn_n (W.seq (W.region (L.val (x_mv (v:=S _) rfl) rfl ?_))));refine L.val (x_ixs (j:=0) Tryz.underlying9 rfl rfl rfl om_) rfl ?_;refine L.val (x_conv (k':=.i64) (by rw [Tryz.underlying5];rfl) Tryz.underlying3 rfl (wr64 om_)) rfl ?_;refine L.val (x_sub rfl rfl (wr64 om_)) rfl ?_;refine L.val (x_as (v:=.int _ _) rfl) rfl ?_;refine L.nil (thn_n (W.seq (W.seq (W.region (L.val (x_mv (v:=S _) rfl) rfl ?_)))));refine L.val (x_len_str Tryz.underlying9 rfl) rfl ?_;refine L.val (x_mv (v:=.int _ _) rfl) rfl ?_;refine L.val (x_add rfl rfl (wr64 om_)) rfl ?_;refine L.val (x_lss rfl rfl) rfl ?_;refine L.nil (thn_n (W.cond (b:=_) rfl (fun g39=>?_) (fun g39=>?_)))
     ·have h39:=of_decide_eq_true g39;refine W.seq (W.region ?_);(iterate 3 refine L.val (x_as (v:=.int _ _) rfl) rfl ?_);refine L.nil (thn_n (W.ret (thn_r (fin_mk (.inr rfl) ?_))));rw [if_pos om_];exact ⟨rfl,hB⟩
     ·have h39:=dlt_f g39;rw [if_neg om_];refine W.skip (thn_n (W.seq (W.region (L.val (x_as (v:=.int _ _) rfl) rfl ?_))));refine L.nil (thn_n (W.seq (W.seq (W.region (L.val (x_as (v:=.int _ _) rfl) rfl ?_)))));refine L.nil (thn_n (W.block (W.loop (fun m' E w'=>∃ (j:Nat),m'=K - j∧E 0=S (f :: r)∧E 1=.int .i64 (a:Nat)∧E 7=.int .i64 (K:Nat)∧E 8=.int .u64 (beV (r.take j):Nat)∧E 9=.int .i64 (j+1:Nat)∧(j≤K)∧(Bel w w')) (K) ?_ ?_)))
      ·exact ⟨0,by omega,by first | rfl | exact vi om_ | exact vs (by first | assumption | (rw [hst];done) | (rw [hst];simp only [List.append_assoc])),by first | rfl | exact vi om_ | exact vs (by first | assumption | (rw [hst];done) | (rw [hst];simp only [List.append_assoc])),by first | rfl | exact vi om_ | exact vs (by first | assumption | (rw [hst];done) | (rw [hst];simp only [List.append_assoc])),by first | rfl | exact vi om_ | exact vs (by first | assumption | (rw [hst];done) | (rw [hst];simp only [List.append_assoc])),by first | rfl | exact vi om_ | exact vs (by first | assumption | (rw [hst];done) | (rw [hst];simp only [List.append_assoc])),ao_,ao_⟩
      ·rintro _ E wL40 ⟨j,em,e0,e1,e7,e8,e9,hj,hB⟩;rw [upd_self e0,upd_self e1,upd_self e7,upd_self e8,upd_self e9];refine W.seq (W.seq (W.region (L.val (x_mv (v:=.int _ _) rfl) rfl ?_)));refine L.val (x_mv (v:=.int _ _) rfl) rfl ?_;refine L.val (x_leq rfl rfl) rfl ?_;refine L.nil (thn_n (W.cond (b:=_) rfl (fun g42=>?_) (fun g42=>?_)))
       ·have h42:=of_decide_eq_true g42;have hjK:j<K:=by omega
        have hst:=beV_take_succ (l:=r) (j:=j) om_;have hbv:beV (r.take j)<72057594037927936:=Nat.lt_of_lt_of_le (beV_lt _) (Nat.le_trans (Nat.pow_le_pow_right om_ (show (r.take j).length≤7 by rw [List.length_take];omega)) (by decide));have hgb:=(r.getD j 0).toNat_lt;have hg1:((f :: r).getD (j+1) 0).toNat=(r.getD j 0).toNat:=rfl;refine W.skip (thn_n (W.seq (W.block (W.region (L.val (x_mv (v:=.int _ _) rfl) rfl ?_)))));refine L.val (x_mul rfl rfl (wru64 om_)) rfl ?_;refine L.val (x_mv (v:=S _) rfl) rfl ?_;refine L.val (x_mv (v:=.int _ _) rfl) rfl ?_;refine L.val (x_ixs (j:=j+1) Tryz.underlying9 rfl rfl om_ om_) rfl ?_;refine L.val (x_conv (k':=.u64) (by rw [Tryz.underlying5];rfl) Tryz.underlying80 rfl (wru64 om_)) rfl ?_;refine L.val (x_add rfl rfl (wru64 om_)) rfl ?_;refine L.val (x_as (v:=.int _ _) rfl) rfl ?_;refine L.nil (blk_n (thn_n (W.region (L.val (x_mv (v:=.int _ _) rfl) rfl ?_))));refine L.val (x_add rfl rfl (wr64 om_)) rfl ?_;refine L.val (x_as (v:=.int _ _) rfl) rfl ?_;refine L.nil (thn_n ⟨rfl,?_⟩);refine ⟨_,?_,j+1,rfl,by first | rfl | exact vi om_ | exact vs (by first | assumption | (rw [hst];done) | (rw [hst];simp only [List.append_assoc])),by first | rfl | exact vi om_ | exact vs (by first | assumption | (rw [hst];done) | (rw [hst];simp only [List.append_assoc])),by first | rfl | exact vi om_ | exact vs (by first | assumption | (rw [hst];done) | (rw [hst];simp only [List.append_assoc])),by first | rfl | exact vi om_ | exact vs (by first | assumption | (rw [hst];done) | (rw [hst];simp only [List.append_assoc])),by first | rfl | exact vi om_ | exact vs (by first | assumption | (rw [hst];done) | (rw [hst];simp only [List.append_assoc])),ao_,ao_⟩;omega
       ·have h42:=dle_f g42;have hjK:j=K:=by omega
        subst hjK;have hbv:beV (r.take j)<18446744073709551616:=Nat.lt_of_lt_of_le (beV_lt _) (Nat.le_trans (Nat.pow_le_pow_right om_ (show (r.take j).length≤8 by rw [List.length_take];omega)) (by decide));have hrl2:(r.take j).length=j:=by rw [List.length_take];omega
        have hnb:=numB_beV (l:=r.take j) (f:=f) om_ om_ om_;rw [hrl2] at hnb;refine W.exit (thn_x (thn_x (blk_hit ?_)));refine thn_n (W.seq (W.seq (W.drawB krfe_mixed kr_ ?_)));refine LQ.val (fun w hw=>x_mv (v:=.int _ _) rfl) rfl ?_;refine LQ.ret (fun w=>x_call krfe_en111 rfl) (fun w hw=>Ret.mono (number01 (beV (r.take j)) hbv w) (fun _ _ h=>⟨h.1,Gr.trans hw h.2⟩)) rfl ?_;refine LQ.val (fun w hw=>x_mv (v:=S _) rfl) rfl ?_;refine LQ.val (fun w hw=>x_mv (v:=.int _ _) rfl) rfl ?_;refine LQ.val (fun w hw=>x_add rfl rfl (wr64 om_)) rfl ?_;refine LQ.val (fun w hw=>x_slS (j:=j+1) Tryz.underlying9 rfl rfl om_ (by rw [hrc];omega)) rfl ?_;refine LQ.val (fun w hw=>x_nes rfl rfl) rfl ?_;refine LQ.nil ?_;intro w52 hw;have hB:=hB.carry hw;refine thn_n (W.cond (b:=_) rfl (fun g58=>?_) (fun g58=>?_))
        ·have h58:=sne_t g58;refine W.seq (W.region ?_);(iterate 3 refine L.val (x_as (v:=.int _ _) rfl) rfl ?_);refine L.nil (thn_n (W.ret (thn_r (fin_mk (.inr rfl) ?_))));rw [if_pos (by rw [← Classical.not_not (a:=beV (r.take j)<248∨widN (beV (r.take j))≠j),← hnb];exact h58)];exact ⟨rfl,hB⟩
        ·have h58:=sne_f g58;refine W.skip (thn_n (W.seq (W.region ?_)));(iterate 3 refine L.val (x_mv (v:=.int _ _) rfl) rfl ?_);refine L.val (x_add rfl rfl (wr64 om_)) rfl ?_;refine L.val (x_add rfl rfl (wr64 om_)) rfl ?_;(iterate 3 refine L.val (x_as (v:=.int _ _) rfl) rfl ?_);refine L.nil (thn_n (W.ret (fin_mk (.inr rfl) ?_)));rw [if_neg (hnb.1 h58)];exact ⟨by rw [show a+1+j=a+j+1 by omega];rfl,hB⟩
end Go.Gx
namespace Go.Gx
open Go.Proofs
theorem krff_el9:elT Tryz.prog 9 1=true:=by kernel_rfl
theorem krff_en100:Go.Proofs.Enters Tryz.prog 100:=Go.Proofs.enters_of Tryz.func100 kr_ rfl
theorem krff_en99:Go.Proofs.Enters Tryz.prog 99:=Go.Proofs.enters_of Tryz.func99 kr_ rfl
theorem takeText01 (s:Str) (a:Nat) (ha:a≤s.length) (hs:s.length≤1000000000) (w:World):
    Ret Tryz.prog 100 #[S s,.int .i64 (a:Nat)] w fun v w'=>v=.tuple #[S (takeText s a).1,.int .i64 ((takeText s a).2.1:Nat),.int .i64 (takeText s a).2.2]∧Bel w w':=by
  have hlt:=takeNum_lt s a;rw [takeText_eq];refine ret_of_W Tryz.func100 rfl (Nat.le_of_ble_eq_true rfl) (res3 rfl) ?_;have hB:=Gr.refl (fun _=>False) w;refine W.seq (W.region (L.val (x_as (v:=S _) rfl) rfl ?_));refine L.val (x_as (v:=.int _ _) rfl) rfl ?_;refine L.val (x_as (v:=.int _ _) rfl) rfl ?_;refine L.nil (thn_n (W.seq (W.region (L.val (x_mv (v:=S _) rfl) rfl ?_))));refine L.val (x_mv (v:=.int _ _) rfl) rfl ?_;refine L.ret (x_call krff_en99 rfl) rfl (takeNum01 s a ha hs _) ?_;rintro _ w14 ⟨rfl,hw⟩;have hB:=hB.carry hw;refine L.val (x_mv (v:=_) rfl) rfl ?_;(iterate 3 refine L.val (x_ext (v:=.int _ _) rfl rfl) rfl ?_);(iterate 3 refine L.val (x_as (v:=.int _ _) rfl) rfl ?_);refine L.nil (thn_n (W.seq (W.seq (W.region (L.val (x_mv (v:=.int _ _) rfl) rfl ?_)))));refine L.val (x_neq rfl rfl) rfl ?_;refine L.nil (thn_n (W.cond (b:=_) rfl (fun g19=>?_) (fun g19=>?_)))
  ·have h19:=dne_t g19;have he:(takeNum s a).2.2≠0:=h19;refine W.seq (W.region (L.val (x_mv (v:=.int _ _) rfl) rfl ?_));refine L.val (x_as (v:=S _) rfl) rfl ?_;refine L.val (x_as (v:=.int _ _) rfl) rfl ?_;refine L.val (x_as (v:=.int _ _) rfl) rfl ?_;refine L.nil (thn_n (W.ret (thn_r (fin_mk (.inr rfl) ?_))));rw [if_pos he];exact ⟨rfl,hB⟩
  ·have h19:=dne_f g19;have he:(takeNum s a).2.2=0:=by simpa using h19
   obtain ⟨l1,l2,l3⟩:=takeNum_le he;rw [if_neg (by rw [he];decide)];have hdl:(s.drop (takeNum s a).2.1).length=s.length - (takeNum s a).2.1:=List.length_drop;refine W.skip (thn_n (W.seq (W.region (L.val (x_mv (v:=S _) rfl) rfl ?_))));refine L.val (x_mv (v:=.int _ _) rfl) rfl ?_;refine L.val (x_slB (j:=(takeNum s a).2.1) Tryz.underlying9 rfl rfl rfl l2) rfl ?_;refine L.val (x_as (v:=S _) rfl) rfl ?_;refine L.nil (thn_n (W.seq (W.seq (W.region (L.val (x_mv (v:=.int _ _) rfl) rfl ?_)))));refine L.val (x_mv (v:=S _) rfl) rfl ?_;refine L.val (x_len_str Tryz.underlying9 rfl) rfl ?_;refine L.val (x_conv (k':=.u64) (by rw [Tryz.underlying3];rfl) Tryz.underlying80 rfl (wru64 om_)) rfl ?_;refine L.val (x_gtr rfl rfl) rfl ?_;refine L.nil (thn_n (W.cond (b:=_) rfl (fun g28=>?_) (fun g28=>?_)))
   ·have h28:=of_decide_eq_true g28;have h2:s.length - (takeNum s a).2.1<(takeNum s a).1:=by omega
    refine W.seq (W.region (L.val (x_as (v:=S _) rfl) rfl ?_));refine L.val (x_as (v:=.int _ _) rfl) rfl ?_;refine L.val (x_as (v:=.int _ _) rfl) rfl ?_;refine L.nil (thn_n (W.ret (thn_r (fin_mk (.inr rfl) ?_))));rw [if_pos h2];exact ⟨rfl,hB⟩
   ·have h28:=dlt_f g28;have h2:¬ s.length - (takeNum s a).2.1<(takeNum s a).1:=by omega
    rw [if_neg h2];refine W.skip (thn_n (W.seq (W.region (L.val (x_mv (v:=S _) rfl) rfl ?_))));refine L.val (x_mv (v:=.int _ _) rfl) rfl ?_;refine L.val (x_slS (j:=(takeNum s a).1) Tryz.underlying9 rfl rfl rfl om_) rfl ?_;refine L.val (x_mv (v:=.int _ _) rfl) rfl ?_;refine L.val (x_mv (v:=.int _ _) rfl) rfl ?_;refine L.val (x_conv (k':=.i64) (by rw [Tryz.underlying80];rfl) Tryz.underlying3 rfl (wr64 om_)) rfl ?_;refine L.val (x_add rfl rfl (wr64 om_)) rfl ?_;refine L.val (x_as (v:=S _) rfl) rfl ?_;refine L.val (x_as (v:=.int _ _) rfl) rfl ?_;refine L.val (x_as (v:=.int _ _) rfl) rfl ?_;refine L.nil (thn_n (W.ret (fin_mk (.inr rfl) ?_)));exact ⟨by rw [Int.natCast_add];rfl,hB⟩
theorem takeList01 (s:Str) (a:Nat) (ha:a≤s.length) (hs:s.length≤1000000000) (w:World):
    Ret Tryz.prog 70 #[S s,.int .i64 (a:Nat)] w fun r w'=>(∃ u,r=.tuple #[u,.int .i64 ((takeList s a).2.1:Nat),.int .i64 (takeList s a).2.2]∧StrsAt (fun k=>k<w.heap.size) w' u (takeList s a).1)∧Bel w w':=by
  have hlt:=takeNum_lt s a;have hTL:takeList s a=if (takeNum s a).2.2≠0 then ([],0,(takeNum s a).2.2) else takeListF (takeNum s a).1 s (takeNum s a).2.1:=rfl
  refine ret_of_W Tryz.func70 rfl (Nat.le_of_ble_eq_true rfl) (res3 rfl) ?_;have hB:=Gr.refl (fun _=>False) w;refine W.seq (W.region (L.val (x_as (v:=.slice _ _ _) rfl) rfl ?_));refine L.val (x_as (v:=.int _ _) rfl) rfl ?_;refine L.val (x_as (v:=.int _ _) rfl) rfl ?_;refine L.nil (thn_n (W.seq (W.region (L.val (x_mv (v:=S _) rfl) rfl ?_))));refine L.val (x_mv (v:=.int _ _) rfl) rfl ?_;refine L.ret (x_call krff_en99 rfl) rfl (takeNum01 s a ha hs _) ?_;rintro _ w16 ⟨rfl,hw⟩;have hB:=hB.carry hw;refine L.val (x_mv (v:=_) rfl) rfl ?_;(iterate 3 refine L.val (x_ext (v:=.int _ _) rfl rfl) rfl ?_);(iterate 3 refine L.val (x_as (v:=.int _ _) rfl) rfl ?_);refine L.nil (thn_n (W.seq (W.seq (W.region (L.val (x_mv (v:=.int _ _) rfl) rfl ?_)))));refine L.val (x_neq rfl rfl) rfl ?_;refine L.nil (thn_n (W.cond (b:=_) rfl (fun g21=>?_) (fun g21=>?_)))
  ·have h21:=dne_t g21;have he:(takeNum s a).2.2≠0:=h21;refine W.seq (W.region (L.val (x_mv (v:=.int _ _) rfl) rfl ?_));refine L.val (x_as (v:=.slice _ _ _) rfl) rfl ?_;refine L.val (x_as (v:=.int _ _) rfl) rfl ?_;refine L.val (x_as (v:=.int _ _) rfl) rfl ?_;refine L.nil (thn_n (W.ret (thn_r (fin_mk (.inr rfl) ?_))));rw [hTL,if_pos he];exact ⟨⟨_,rfl,StrsAt.nil _ _ _ _ om_⟩,hB⟩
  ·have h21:=dne_f g21;have he:(takeNum s a).2.2=0:=by simpa using h21
   obtain ⟨l1,l2,l3⟩:=takeNum_le he;rw [if_neg (by rw [he];decide)] at hTL;obtain ⟨n,hn⟩:∃ n,n=(takeNum s a).1:=⟨_,rfl⟩;obtain ⟨a0,ha0⟩:∃ a0,a0=(takeNum s a).2.1:=⟨_,rfl⟩;rw [← hn,← ha0] at hTL ⊢;rw [← hn] at hlt;have hm0:takeList s a=moreL [] (takeListF (n - 0) s a0):=by rw [hTL,Nat.sub_zero,moreL_nil]
   refine W.skip (thn_n (W.seq (W.region (L.val (x_as (v:=.slice _ _ _) rfl) rfl ?_))));refine L.nil (thn_n (W.seq (W.block (W.loop (fun m' E w'=>∃ (k at':Nat) (l:List Str) (vo:Value),m'=n - k∧E 0=S s∧E 1=.int .i64 (at':Nat)∧E 7=.int .u64 (n:Nat)∧E 9=vo∧(k≤n)∧(Bel w w')∧(Own w' w.heap.size 9 1 vo k (l.map S))∧(l.length=k)∧(takeList s a=moreL l (takeListF (n - k) s at'))∧(k≤at')∧(at'≤s.length)∧(∀ x∈l,x.length≤s.length)) (n) ?_ ?_))))
   ·exact ⟨0,_,[],.slice none 0 0,by omega,vi_,vi_,vi_,vi_,ao_,ao_,(by exact own_nil),ao_,(by exact hm0),ao_,ao_,(by simp)⟩
   ·rintro _ E wL23 ⟨k,at',l,vo,em,e0,e1,e7,e9,hk,hB,hO,hlk,hm,hka,hat,hx⟩;rw [upd_self e0,upd_self e1,upd_self e7,upd_self e9];refine W.seq (W.seq (W.region ?_));obtain ⟨av,cv,ev,-⟩:=own_shape hO;subst ev;have hql:=fun j hj=>Own.lt hO (j:=j) hj
    refine L.val (x_mv (v:=.slice _ _ _) rfl) rfl ?_;refine L.val (x_len_slice Tryz.underlying22 rfl) rfl ?_;refine L.val (x_conv (k':=.u64) (by rw [Tryz.underlying3];rfl) Tryz.underlying80 rfl (wru64 om_)) rfl ?_;refine L.val (x_mv (v:=.int _ _) rfl) rfl ?_;refine L.val (x_lss rfl rfl) rfl ?_;refine L.nil (thn_n (W.cond (b:=_) rfl (fun g27=>?_) (fun g27=>?_)))
    ·have h27:=of_decide_eq_true g27;have hlt2:k<n:=by omega
     have hnk:n - k=n - (k+1)+1:=by omega
     refine W.skip (thn_n (W.block (W.seq (W.region (L.val (x_mv (v:=S _) rfl) rfl ?_)))));refine L.val (x_mv (v:=.int _ _) rfl) rfl ?_;refine L.ret (x_call krff_en100 rfl) rfl (takeText01 s at' hat hs _) ?_;rintro _ w31 ⟨rfl,hw⟩;have hB:=hB.carry hw;have hO:=hO.carry hw;have hsB:=hB.size;refine L.val (x_mv (v:=_) rfl) rfl ?_;refine L.val (x_ext (v:=S _) rfl rfl) rfl ?_;refine L.val (x_ext (v:=.int _ _) rfl rfl) rfl ?_;refine L.val (x_ext (v:=.int _ _) rfl rfl) rfl ?_;refine L.val (x_as (v:=S _) rfl) rfl ?_;refine L.val (x_as (v:=.int _ _) rfl) rfl ?_;refine L.val (x_as (v:=.int _ _) rfl) rfl ?_;refine L.nil (thn_n (W.seq (W.seq (W.region (L.val (x_mv (v:=.int _ _) rfl) rfl ?_)))));refine L.val (x_neq rfl rfl) rfl ?_;refine L.nil (thn_n (W.cond (b:=_) rfl (fun g36=>?_) (fun g36=>?_)))
     ·have h36:=dne_t g36;have hf:(takeText s at').2.2≠0:=h36;rw [hnk,takeListF_fail hf] at hm;unfold moreL at hm;rw [if_pos hf] at hm;refine W.seq (W.region (L.val (x_mv (v:=.int _ _) rfl) rfl ?_));refine L.val (x_as (v:=.slice _ _ _) rfl) rfl ?_;refine L.val (x_as (v:=.int _ _) rfl) rfl ?_;refine L.val (x_as (v:=.int _ _) rfl) rfl ?_;refine L.nil (thn_n (W.ret (thn_r (blk_r (thn_r (blk_r (thn_r (fin_mk (.inr rfl) ?_))))))));rw [hm];exact ⟨⟨_,rfl,StrsAt.nil _ _ _ _ om_⟩,hB⟩
     ·have h36:=dne_f g36;have hf:(takeText s at').2.2=0:=by simpa using h36
      obtain ⟨n1,n2,n3⟩:=takeText_le hf;have hm2:takeList s a=moreL (l++[(takeText s at').1]) (takeListF (n - (k+1)) s (takeText s at').2.1):=by rw [hm,hnk,moreL_step hf]
      have hx2:∀ x∈l++[(takeText s at').1],x.length≤s.length:=fun x h=>by
        rcases List.mem_append.1 h with h | h
        · exact hx x h
        · rw [List.mem_singleton.1 h];exact takeText_len _ _
      refine W.skip (thn_n (W.seq (W.region (L.val (x_mv (v:=.slice _ _ _) rfl) rfl ?_))));refine L.val (x_mv (v:=S _) rfl) rfl ?_;refine L.bs (sz:=1) (cells:=[S (takeText s at').1]) Tryz.underlying22 krff_el9 rfl rfl rfl rfl (fun w40 bx40 hw hz40=>?_);have hB:=hB.carry hw;have hO:=hO.carry hw;refine L.appendN (m:=1) Tryz.underlying22 krff_el9 rfl rfl rfl hO rfl (holdsN_box bx40) (by simp [Value.oneCell',S]) om_ om_ (fun v41 w41 hO41 hg hob41=>?_);obtain ⟨a41,c41,e41,-⟩:=own_shape hO41;subst e41;have hB:=hB.step hg (fun i hi e=>by have:=(Own.lt hO e).1;omega);have hO2:Own w41 w.heap.size 9 1 (.slice a41 (k+1) c41) (k+1) ((l++[(takeText s at').1]).map S):=by
        rw [List.map_append];exact hO41
      refine L.val (x_as (v:=.slice _ _ _) rfl) rfl ?_;refine L.nil (thn_n (W.region (L.val (x_mv (v:=.int _ _) rfl) rfl ?_)));refine L.val (x_as (v:=.int _ _) rfl) rfl ?_;refine L.nil (blk_n (thn_n ⟨rfl,?_⟩));refine ⟨_,?_,k+1,_,_,_,rfl,vi_,vi_,vi_,vi_,ao_,ao_,(by exact hO2),(by rw [List.length_append,hlk];rfl),(by exact hm2),ao_,ao_,(by exact hx2)⟩;omega
    ·have h27:=dlt_f g27;have hke:k=n:=by omega
     rw [hke,Nat.sub_self,takeListF] at hm;unfold moreL at hm;rw [if_neg (by simp)] at hm;refine W.exit (thn_x (thn_x (blk_hit ?_)));refine thn_n (W.seq (W.region (L.val (x_mv (v:=.slice _ _ _) rfl) rfl ?_)));refine L.val (x_mv (v:=.int _ _) rfl) rfl ?_;refine L.val (x_as (v:=.slice _ _ _) rfl) rfl ?_;refine L.val (x_as (v:=.int _ _) rfl) rfl ?_;refine L.val (x_as (v:=.int _ _) rfl) rfl ?_;refine L.nil (thn_n (W.ret (fin_mk (.inr rfl) ?_)));rw [hm];refine ⟨⟨_,rfl,?_⟩,hB⟩;rw [List.append_nil];exact strs_done (by rw [hlk];exact hO) (show l.length≤_ by omega) (fun x h=>by have:=hx x h;omega) (fun j hj=>by omega)
end Go.Gx
