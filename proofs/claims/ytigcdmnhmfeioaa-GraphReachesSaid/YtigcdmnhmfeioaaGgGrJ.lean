/- The order of names: the program's. Conditions: none. -/
import Derived.ChangeMaps3
import Derived.WideKeyEntry
import Derived.Test.YtigcdmnhmfeioaaGgGrF
import Derived.Test.YtigcdmnhmfeioaaGgDrawD
namespace Go.Gx
open Go.Proofs Go.Sort
theorem kgrj_el9:elT Try.prog 9 1=true:=by kernel_rfl
theorem kgrj_en24:Go.Proofs.Enters Try.prog 24:=Go.Proofs.enters_of Try.func24 kr_ rfl
theorem kgrj_en34:Go.Proofs.Enters Try.prog 34:=Go.Proofs.enters_of Try.func34 kr_ rfl
theorem kgrj_en35:Go.Proofs.Enters Try.prog 35:=Go.Proofs.enters_of Try.func35 kr_ rfl
theorem kgrj_en41:Go.Proofs.Enters Try.prog 41:=Go.Proofs.enters_of Try.func41 kr_ rfl
theorem kgrj_oc9:oneCellT Try.prog 9=true:=by kernel_rfl
theorem kgrj_sz9:(Try.prog.info? 9).map (·.size)=some 1:=by kernel_rfl
theorem delete36 (base:Nat) (v:Value) (l:List Str) (i:Nat) (w:World) (h:LeftAt base w v l) (hi:i<l.length):
    Ret Try.prog 41 #[v,.int .i64 (i:Nat),.int .i64 ((i:Nat)+1)] w fun r w'=>(LeftAt base w' r (l.eraseIdx i)∧r.ownBlock=v.ownBlock)∧Gr (fun k=>some k=v.ownBlock) w w':=by
  rcases h with ⟨rfl,-⟩ | ⟨b,cap,tl,h1,rfl,h2,h3,h4,hb⟩
  · simp at hi
  · have hR:Row S w b 0 9 [] l.toArray tl:=⟨rfl,by simpa using hb⟩;have hk:=Try.slices_Delete_string b 0 cap i (i+1) l w (fun j hj=>by
      have hj:j<l.length:=by simpa using hj
      exact ⟨hR.at (by simpa using hj),hR.free _⟩) h3 h4 om_ om_
    have el:l.length - (i+1 - i)=(l.eraseIdx i).length:=by rw [List.length_eraseIdx_of_lt hi];omega
    have ec:(l.take i++l.drop (i+1))=l.eraseIdx i:=(List.eraseIdx_eq_take_drop_succ l i).symm;rw [el,ec,show i+1 - i=1 by omega] at hk;refine Calls.mono hk fun e w' ⟨he,q,hw⟩=>⟨_,he,⟨?_,rfl⟩,?_⟩
    · subst hw;have h10:=(row_put hR (d':=(l.eraseIdx i++List.replicate 1 []).toArray) (by simp [List.length_eraseIdx_of_lt hi];omega) q).2;have h11:Box (putRow encStr (Sort.ahead w q) b 0 (l.eraseIdx i++List.replicate 1 []).toArray) b 9 ([]++(l.eraseIdx i++List.replicate 1 []).toArray.toList.map S++tl):=h10;by_cases e0:l.eraseIdx i=[]
      · have h12:=h11.lt;rw [e0] at h12 ⊢;exact .inl ⟨rfl,_,cap,rfl,h4,fun a e=>by cases e;exact ⟨h1,h12⟩⟩
      · refine .inr ⟨b,cap,[S []]++tl,h1,rfl,List.length_pos_iff.2 e0,by rw [List.length_eraseIdx_of_lt hi];omega,h4,?_⟩;rw [← List.append_assoc];simpa using h11
    · subst hw;exact (gr_put q).mono fun k _ e=>by have e:k=b:=e;rw [e];rfl
theorem LeftAt.elem {base:Nat} {w:World} {p:Option Addr} {k cap:Nat} {l:List Str} (h:LeftAt base w (.slice p k cap) l) {i:Nat} (hi:i<l.length):∃ b,p=some ⟨b,0,none⟩∧w.cell? ⟨b,0+i,none⟩=some (S (l.getD i [])):=by
  rcases h with ⟨rfl,-⟩ | ⟨b,c,tl,h1,e,-,-,-,hb⟩
  · simp at hi
  · cases e;refine ⟨b,rfl,hb.cell0 ?_⟩;rw [List.getElem?_append_left (by simpa using hi),List.getElem?_map,List.getD_eq_getElem?_getD,List.getElem?_eq_getElem hi];rfl
theorem getI_one {m:List (Str × Int)} {out:List Str} (hm:∀ n,getI m n=if out.contains n then 1 else 0) (n:Str):∀ x,getI (putI m n 1) x=if (out++[n]).contains x then 1 else 0:=fun x=>by
  rw [getI_put,hm];by_cases e:x=n
  · rw [if_pos e,if_pos (by simp [e])]
  · rw [if_neg e];have:(out++[n]).contains x=out.contains x:=by rw [Bool.eq_iff_iff];simp [e]
    rw [this]
set_option maxHeartbeats 1000000 in
theorem orderP (A0 A1:Nat→Prop) (v u:Value) (names:List Str) (l:List Arc) (w:World) (h0:StrsAt A0 w v names) (h1:ArcsAt A1 w u l) (hn:names.length≤400000) (hll:l.length≤400000):
    Ret Try.prog 20 #[v,u] w fun r w'=>(∃ o,r=.tuple #[o,.int .i64 (ansO (ordS names l)).2]∧StrsAt (fun k=>k<w.heap.size) w' o (ansO (ordS names l)).1)∧Bel w w':=by
  have hxn:=h0.short;obtain ⟨q,cq,rfl,-⟩:=id h0;obtain ⟨p,cap,row,rfl,-⟩:=id h1;obtain ⟨all,hall⟩:∃ a,a=onceL names:=⟨_,rfl⟩;have hst:Strict all:=by rw [hall];exact strict_once _
  have hal:all.length≤400000:=by rw [hall];exact Nat.le_trans (once_len _) hn
  have hxa:∀ x∈all,x.length≤9223372036854775807:=by rw [hall];exact once_short hxn
  refine ret_of_W Try.func20 rfl (Nat.le_of_ble_eq_true rfl) (res2 rfl) ?_;have hB:=Gr.refl (fun _=>False) w;refine W.seq (W.region (L.val (x_as (v:=.slice _ _ _) rfl) rfl ?_));refine L.val (x_as (v:=.int _ _) rfl) rfl ?_;refine L.nil (thn_n (W.scope ?_));refine W.seq (W.region (L.val (x_mv (v:=.slice _ _ _) rfl) rfl ?_));refine L.ret (x_call kgrj_en34 rfl) rfl (sorted36 _ _ names _ h0 hn) ?_;rintro v15 w15 ⟨hL,hw⟩;have hB:=hB.carry hw;have h1:=h1.carry hw;rw [← hall] at hL;obtain ⟨pa,ca,rfl,-⟩:=hL.shape;have hs15:=hw.size;have hloL:=fun j hj=>hL.lt (j:=j) hj
  refine L.val (x_as (v:=.slice _ _ _) rfl) rfl ?_;refine L.nil (thn_n (W.seq (W.region (L.val (x_mv (v:=.slice _ _ _) rfl) rfl ?_))));refine L.val (x_mv (v:=.slice _ _ _) rfl) rfl ?_;refine L.ret (x_call kgrj_en35 rfl) rfl (among36 _ _ _ _ all l _ (hL.strs hxa om_ (fun k=>k<w.heap.size) (fun j hj e=>by have e:j<_:=e;omega)) h1 hll) ?_;rintro v18 w18 ⟨hc,hw⟩;have hB:=hB.carry hw;have h1:=h1.carry hw;have hL:=hL.carry hw;obtain ⟨cl,hcl⟩:∃ c,c=countL all l:=⟨_,rfl⟩;rw [← hcl] at hc;have hO0:ordS names l=ordF all cl all.length []:=by unfold ordS;rw [← hall,← hcl]
  have hxc:∀ a∈cl,a.1.length≤9223372036854775807∧a.2.length≤9223372036854775807:=by obtain ⟨_,_,_,_,-,-,-,hr⟩:=hc;exact arcs_len hr
  obtain ⟨pc,cc,rc,rfl,-⟩:=id hc;have hs18:=hw.size;have hl0:leftL all []=all:=by unfold leftL;rw [List.filter_eq_self];intro a _;rfl
  refine L.ret (x_call kgrj_en24 rfl) rfl (outs36 _ _ cl _ hc (by have:=count_len all l;rw [hcl];omega)) ?_;rintro _ w19 ⟨⟨rfl,hN⟩,hw⟩;have hB:=hB.carry hw;have h1:=h1.carry hw;have hL:=hL.carry hw;have hs19:=hw.size;have hs19b:=hB.size;have hN:=hN.mono (A':=fun k=>k≤w18.heap.size∨w19.heap.size≤k) (fun k hk e=>e.resolve_right om_);have hNl:=hN.lt;refine L.val (x_as (v:=.map _) rfl) rfl ?_;refine L.nil (thn_n (W.seq (W.region (L.mkmapK (κ := Str) (K:=S) (V:=fun _=>True) Try.underlying49 rfl (fun w20 mp hw hz20=>?_)))));have hB:=hB.carry hw;have h1:=h1.carry hw;have hL:=hL.carry hw;have hN:=hN.carry hw;have mp:IM w20 w19.heap.size []:=mp;refine L.val (x_as (v:=.map _) rfl) rfl ?_;refine L.nil (thn_n (W.seq (W.region (L.val (x_as (v:=.slice _ _ _) rfl) rfl ?_))));refine L.nil (thn_n (W.seq (W.label ?_)));refine thn_n (W.seq (W.block (W.loop (fun m' E w'=>∃ (out:List Str) (vL vO:Value) (m:List (Str × Int)),m'=(leftL all out).length∧E 6=vL∧E 7=.map (some w18.heap.size)∧E 8=.map (some w19.heap.size)∧E 9=vO∧(Bel w w')∧(LeftAt w.heap.size w' vL (leftL all out))∧(∀ j,some j=vL.ownBlock→w.heap.size≤j∧j<w18.heap.size)∧(NextMap (fun k=>k≤w18.heap.size∨w19.heap.size≤k) w' w18.heap.size (nextS cl))∧(IM w' w19.heap.size m)∧(∀ n,getI m n=if out.contains n then 1 else 0)∧(Own w' (w19.heap.size+1) 9 1 vO out.length (out.map S))∧(DoneL all out)∧(ordS names l=ordF all cl (all.length - out.length) out)) ((leftL all []).length) ?_ ?_)))
  ·exact ⟨[],_,.slice none 0 0,[],by omega,by first | rfl | exact vi om_ | exact vs (by first | assumption | (rw [hst];done) | (rw [hst];simp only [List.append_assoc])),by first | rfl | exact vi om_ | exact vs (by first | assumption | (rw [hst];done) | (rw [hst];simp only [List.append_assoc])),by first | rfl | exact vi om_ | exact vs (by first | assumption | (rw [hst];done) | (rw [hst];simp only [List.append_assoc])),by first | rfl | exact vi om_ | exact vs (by first | assumption | (rw [hst];done) | (rw [hst];simp only [List.append_assoc])),ao_,(by rw [hl0];exact hL),(by exact fun j hj=>by have:=hloL j hj;exact ⟨by omega,by omega⟩),ao_,ao_,(by intro n;rfl),(by exact own_nil),(by exact DoneL.nil _),(by exact hO0)⟩
  ·rintro _ E wL21 ⟨out,vL,vO,m,em,e6,e7,e8,e9,hB,hL,hLo,hN,mp,hm,hO,hd,hE⟩;rw [upd_self e6,upd_self e7,upd_self e8,upd_self e9];refine W.seq (W.seq (W.region ?_));obtain ⟨aL,cL,eL,-⟩:=hL.shape;subst eL;obtain ⟨aO,cO,eO,-⟩:=own_shape hO;subst eO;have hsL:=hB.size;have hll2:=left_len hst.nodup hd;have hmb:=mp.lt;have hlo:=fun j hj=>Own.lt hO (j:=j) hj
   refine L.val (x_mv (v:=.slice _ _ _) rfl) rfl ?_;refine L.val (x_len_slice Try.underlying23 rfl) rfl ?_;refine L.val (x_gtr rfl rfl) rfl ?_;refine L.nil (thn_n (W.cond (b:=_) rfl (fun g23=>?_) (fun g23=>?_)))
   ·have h23:=of_decide_eq_true g23;have hk1:all.length - out.length=all.length - (out.length+1)+1:=by omega
    rw [hk1,ordF] at hE;refine W.skip (thn_n (W.block (W.scope ?_)));refine W.seq (W.label ?_);refine thn_n (W.seq (W.seq (W.region (L.val (x_mv (v:=.slice _ _ _) rfl) rfl ?_))));refine L.val (x_len_slice Try.underlying23 rfl) rfl ?_;refine L.val (x_mv (v:=.int _ _) rfl) rfl ?_;refine L.nil (thn_n (W.block (W.loop (fun m' E w'=>∃ (i:Nat),m'=(leftL all out).length - i∧E 6=.slice aL (leftL all out).length cL∧E 7=.map (some w18.heap.size)∧E 8=.map (some w19.heap.size)∧E 9=.slice aO out.length cO∧E 24=.slice aL (leftL all out).length cL∧E 25=.int .i64 ((leftL all out).length:Nat)∧E 26=.int .i64 (i:Nat)∧(i≤(leftL all out).length)∧(Bel w w')∧(LeftAt w.heap.size w' (.slice aL (leftL all out).length cL) (leftL all out))∧(NextMap (fun k=>k≤w18.heap.size∨w19.heap.size≤k) w' w18.heap.size (nextS cl))∧(IM w' w19.heap.size m)∧(Own w' (w19.heap.size+1) 9 1 (.slice aO out.length cO) out.length (out.map S))∧(((leftL all out).take i).find? (fun n=>readyL cl n out)=none)) ((leftL all out).length) ?_ ?_)))
    ·exact ⟨0,by omega,by first | rfl | exact vi om_ | exact vs (by first | assumption | (rw [hst];done) | (rw [hst];simp only [List.append_assoc])),by first | rfl | exact vi om_ | exact vs (by first | assumption | (rw [hst];done) | (rw [hst];simp only [List.append_assoc])),by first | rfl | exact vi om_ | exact vs (by first | assumption | (rw [hst];done) | (rw [hst];simp only [List.append_assoc])),by first | rfl | exact vi om_ | exact vs (by first | assumption | (rw [hst];done) | (rw [hst];simp only [List.append_assoc])),by first | rfl | exact vi om_ | exact vs (by first | assumption | (rw [hst];done) | (rw [hst];simp only [List.append_assoc])),by first | rfl | exact vi om_ | exact vs (by first | assumption | (rw [hst];done) | (rw [hst];simp only [List.append_assoc])),by first | rfl | exact vi om_ | exact vs (by first | assumption | (rw [hst];done) | (rw [hst];simp only [List.append_assoc])),ao_,ao_,ao_,ao_,ao_,ao_,(by rfl)⟩
    ·rintro _ E wL27 ⟨i,em,e6,e7,e8,e9,e24,e25,e26,hi,hB,hL,hN,mp,hO,hnone⟩;rw [upd_self e6,upd_self e7,upd_self e8,upd_self e9,upd_self e24,upd_self e25,upd_self e26];refine W.seq (W.region ?_);have hsL2:=hB.size;have hmb2:=mp.lt;refine L.val (x_lss rfl rfl) rfl ?_;refine L.nil (thn_n (W.seq (W.cond (b:=_) rfl (fun g27=>?_) (fun g27=>?_))))
     ·have h27:=of_decide_eq_true g27;have hlt2:i<(leftL all out).length:=by omega
      obtain ⟨bL,hpL,hcl2⟩:=hL.elem hlt2;subst hpL;obtain ⟨n,hn0⟩:∃ n,n=(leftL all out).getD i []:=⟨_,rfl⟩;rw [← hn0] at hcl2;obtain ⟨lN,hN1,hN2⟩:=id hN;have hvN:=hN2 n;obtain ⟨pN,cN,eN,-⟩:=id hvN;rw [eN] at hvN;refine W.skip (thn_n (W.seq (W.block (W.seq (W.region (L.val (x_mv (v:=.int _ _) rfl) rfl ?_))))));refine L.val (x_ia1 (j:=i) Try.underlying23 kgrj_sz9 rfl rfl rfl hlt2) rfl ?_;refine L.val (x_ld (v:=S _) kgrj_oc9 rfl hcl2) rfl ?_;refine L.val (x_as (v:=.int _ _) rfl) rfl ?_;refine L.val (x_as (v:=S _) rfl) rfl ?_;refine L.nil (thn_n (W.seq (W.seq (W.region (L.val (x_mv (v:=.map _) rfl) rfl ?_)))));refine L.val (x_mv (v:=S _) rfl) rfl ?_;refine L.val (x_look0 (z:=.slice none 0 0) Try.underlying47 (klawS Try.underlying9) kr_ rfl rfl trivial hN1 eN) rfl ?_;refine L.val (x_len_slice Try.underlying23 rfl) rfl ?_;refine L.val (x_mv (v:=.int _ _) rfl) rfl ?_;refine L.nil (thn_n (W.block (W.loop (fun m' E w'=>∃ (j:Nat),m'=(nextS cl n).length - j∧E 6=.slice (some ⟨bL,0,none⟩) (leftL all out).length cL∧E 7=.map (some w18.heap.size)∧E 8=.map (some w19.heap.size)∧E 9=.slice aO out.length cO∧E 10=.int .i64 (i:Nat)∧E 11=S n∧E 24=.slice (some ⟨bL,0,none⟩) (leftL all out).length cL∧E 25=.int .i64 ((leftL all out).length:Nat)∧E 26=.int .i64 (i:Nat)∧E 33=.slice pN (nextS cl n).length cN∧E 34=.int .i64 ((nextS cl n).length:Nat)∧E 35=.int .i64 (j:Nat)∧(j≤(nextS cl n).length)∧(Bel w w')∧(LeftAt w.heap.size w' (.slice (some ⟨bL,0,none⟩) (leftL all out).length cL) (leftL all out))∧(NextMap (fun k=>k≤w18.heap.size∨w19.heap.size≤k) w' w18.heap.size (nextS cl))∧(IM w' w19.heap.size m)∧(Own w' (w19.heap.size+1) 9 1 (.slice aO out.length cO) out.length (out.map S))∧(StrsAt (fun k=>k≤w18.heap.size∨w19.heap.size≤k) w' (.slice pN (nextS cl n).length cN) (nextS cl n))∧(∀ x∈(nextS cl n).take j,x∈out)) ((nextS cl n).length) ?_ ?_)))
      ·exact ⟨0,by omega,by first | rfl | exact vi om_ | exact vs (by first | assumption | (rw [hst];done) | (rw [hst];simp only [List.append_assoc])),by first | rfl | exact vi om_ | exact vs (by first | assumption | (rw [hst];done) | (rw [hst];simp only [List.append_assoc])),by first | rfl | exact vi om_ | exact vs (by first | assumption | (rw [hst];done) | (rw [hst];simp only [List.append_assoc])),by first | rfl | exact vi om_ | exact vs (by first | assumption | (rw [hst];done) | (rw [hst];simp only [List.append_assoc])),by first | rfl | exact vi om_ | exact vs (by first | assumption | (rw [hst];done) | (rw [hst];simp only [List.append_assoc])),by first | rfl | exact vi om_ | exact vs (by first | assumption | (rw [hst];done) | (rw [hst];simp only [List.append_assoc])),by first | rfl | exact vi om_ | exact vs (by first | assumption | (rw [hst];done) | (rw [hst];simp only [List.append_assoc])),by first | rfl | exact vi om_ | exact vs (by first | assumption | (rw [hst];done) | (rw [hst];simp only [List.append_assoc])),by first | rfl | exact vi om_ | exact vs (by first | assumption | (rw [hst];done) | (rw [hst];simp only [List.append_assoc])),by first | rfl | exact vi om_ | exact vs (by first | assumption | (rw [hst];done) | (rw [hst];simp only [List.append_assoc])),by first | rfl | exact vi om_ | exact vs (by first | assumption | (rw [hst];done) | (rw [hst];simp only [List.append_assoc])),by first | rfl | exact vi om_ | exact vs (by first | assumption | (rw [hst];done) | (rw [hst];simp only [List.append_assoc])),ao_,ao_,ao_,ao_,ao_,ao_,ao_,(by intro x hx;simp at hx)⟩
      ·rintro _ E wL36 ⟨j,em,e6,e7,e8,e9,e10,e11,e24,e25,e26,e33,e34,e35,hj,hB,hL,hN,mp,hO,hvN,hdn⟩;rw [upd_self e6,upd_self e7,upd_self e8,upd_self e9,upd_self e10,upd_self e11,upd_self e24,upd_self e25,upd_self e26,upd_self e33,upd_self e34,upd_self e35];refine W.seq (W.region ?_);have hsL3:=hB.size;have hnl3:=hN.lt;have hmb3:=mp.lt;refine L.val (x_lss rfl rfl) rfl ?_;refine L.nil (thn_n (W.seq (W.cond (b:=_) rfl (fun g36=>?_) (fun g36=>?_))))
       ·have h36:=of_decide_eq_true g36;have hlt3:j<(nextS cl n).length:=by omega
        have hvl:=hvN;obtain ⟨_,_,e3,hv1,hv2,hv3,-⟩:=id hvN;obtain ⟨bN,oN,rfl,hcN⟩:=hvN.elem hlt3;have hts:=take_snoc (d:=([]:Str)) hlt3;have hmj:(nextS cl n).getD j []∈nextS cl n:=by rw [List.getD_eq_getElem?_getD,List.getElem?_eq_getElem hlt3];exact List.getElem_mem _
        refine W.skip (thn_n (W.seq (W.block (W.seq (W.region (L.val (x_ia1 (j:=j) Try.underlying23 kgrj_sz9 rfl rfl om_ om_) rfl ?_))))));refine L.val (x_ld (v:=S _) kgrj_oc9 rfl hcN) rfl ?_;refine L.val (x_as (v:=S _) rfl) rfl ?_;refine L.nil (thn_n (W.seq (W.region (L.val (x_mv (v:=.map _) rfl) rfl ?_))));refine L.val (x_mv (v:=S _) rfl) rfl ?_;refine L.val (x_look0 (z:=.int .i64 0) Try.underlying49 (klawS Try.underlying9) kr_ rfl rfl trivial mp (getI_look m _)) rfl ?_;refine L.val (x_eql rfl rfl) rfl ?_;refine L.nil (thn_n (W.cond (b:=_) rfl (fun g42=>?_) (fun g42=>?_)))
        ·have h42:=of_decide_eq_true g42;have hno:¬ (nextS cl n).getD j []∈out:=fun e=>by
           have h1:=hm ((nextS cl n).getD j []);rw [if_pos (List.contains_iff_mem.2 e)] at h1;rw [h1] at h42;exact absurd h42 (by decide)
         have hp:readyL cl ((leftL all out).getD i []) out=false:=by
           rw [← hn0,ready_next,List.all_eq_false];exact ⟨_,hmj,by simpa using hno⟩
         have hnone2:=find_none_take [] hlt2 hnone hp;refine W.exit (blk_miss rfl (thn_x (thn_x (blk_miss rfl (thn_x (blk_hit ?_))))));refine thn_n (W.region (L.val (x_add rfl rfl (wr64 om_)) rfl ?_));refine L.val (x_mv (v:=.int _ _) rfl) rfl ?_;refine L.nil (thn_n ⟨rfl,?_⟩);refine ⟨_,?_,i+1,rfl,by first | rfl | exact vi om_ | exact vs (by first | assumption | (rw [hst];done) | (rw [hst];simp only [List.append_assoc])),by first | rfl | exact vi om_ | exact vs (by first | assumption | (rw [hst];done) | (rw [hst];simp only [List.append_assoc])),by first | rfl | exact vi om_ | exact vs (by first | assumption | (rw [hst];done) | (rw [hst];simp only [List.append_assoc])),by first | rfl | exact vi om_ | exact vs (by first | assumption | (rw [hst];done) | (rw [hst];simp only [List.append_assoc])),by first | rfl | exact vi om_ | exact vs (by first | assumption | (rw [hst];done) | (rw [hst];simp only [List.append_assoc])),by first | rfl | exact vi om_ | exact vs (by first | assumption | (rw [hst];done) | (rw [hst];simp only [List.append_assoc])),by first | rfl | exact vi om_ | exact vs (by first | assumption | (rw [hst];done) | (rw [hst];simp only [List.append_assoc])),ao_,ao_,ao_,ao_,ao_,ao_,(by exact hnone2)⟩;omega
        ·have h42:=of_decide_eq_false g42;have hyes:(nextS cl n).getD j []∈out:=by
           refine Classical.byContradiction fun e=>?_
           have h1:=hm ((nextS cl n).getD j []);rw [if_neg (fun h=>e (List.contains_iff_mem.1 h))] at h1;exact h42 h1
         have hdn2:∀ x∈(nextS cl n).take (j+1),x∈out:=fun x hx=>by
           rw [hts] at hx;rcases List.mem_append.1 hx with hx | hx
           · exact hdn x hx
           · rw [List.mem_singleton.1 hx];exact hyes
         refine W.skip (blk_n (thn_n (W.region (L.val (x_add rfl rfl (wr64 om_)) rfl ?_))));refine L.val (x_mv (v:=.int _ _) rfl) rfl ?_;refine L.nil (thn_n ⟨rfl,?_⟩);refine ⟨_,?_,j+1,rfl,by first | rfl | exact vi om_ | exact vs (by first | assumption | (rw [hst];done) | (rw [hst];simp only [List.append_assoc])),by first | rfl | exact vi om_ | exact vs (by first | assumption | (rw [hst];done) | (rw [hst];simp only [List.append_assoc])),by first | rfl | exact vi om_ | exact vs (by first | assumption | (rw [hst];done) | (rw [hst];simp only [List.append_assoc])),by first | rfl | exact vi om_ | exact vs (by first | assumption | (rw [hst];done) | (rw [hst];simp only [List.append_assoc])),by first | rfl | exact vi om_ | exact vs (by first | assumption | (rw [hst];done) | (rw [hst];simp only [List.append_assoc])),by first | rfl | exact vi om_ | exact vs (by first | assumption | (rw [hst];done) | (rw [hst];simp only [List.append_assoc])),by first | rfl | exact vi om_ | exact vs (by first | assumption | (rw [hst];done) | (rw [hst];simp only [List.append_assoc])),by first | rfl | exact vi om_ | exact vs (by first | assumption | (rw [hst];done) | (rw [hst];simp only [List.append_assoc])),by first | rfl | exact vi om_ | exact vs (by first | assumption | (rw [hst];done) | (rw [hst];simp only [List.append_assoc])),by first | rfl | exact vi om_ | exact vs (by first | assumption | (rw [hst];done) | (rw [hst];simp only [List.append_assoc])),by first | rfl | exact vi om_ | exact vs (by first | assumption | (rw [hst];done) | (rw [hst];simp only [List.append_assoc])),by first | rfl | exact vi om_ | exact vs (by first | assumption | (rw [hst];done) | (rw [hst];simp only [List.append_assoc])),ao_,ao_,ao_,ao_,ao_,ao_,ao_,(by exact hdn2)⟩;omega
       ·have h36:=dlt_f g36;have hjj:j=(nextS cl n).length:=by omega
        rw [hjj,List.take_length] at hdn;have hp:readyL cl ((leftL all out).getD i []) out=true:=by
          rw [← hn0,ready_next,List.all_eq_true];exact fun x hx=>List.contains_iff_mem.2 (hdn x hx)
        have hpk:pickL all cl out=some n:=by
          rw [pick_left,find_some_take [] hlt2 hnone hp,hn0]
        have hpm:=pick_mem hpk;have hstep:=left_step hst.nodup hlt2;rw [← hn0] at hstep;refine W.exit (thn_x (thn_x (blk_hit ?_)));refine thn_n (W.seq (W.region (L.val (x_mv (v:=.map _) rfl) rfl ?_)));refine L.val (x_mv (v:=S _) rfl) rfl ?_;refine L.val (x_mv (v:=.slice _ _ _) rfl) rfl ?_;refine L.val (x_mv (v:=S _) rfl) rfl ?_;refine L.bs (sz:=1) (cells:=[S n]) Try.underlying23 kgrj_el9 rfl rfl rfl rfl (fun w48 bx48 hw hz48=>?_);have hB:=hB.carry hw;have hL:=hL.carry hw;have hN:=hN.carry hw;have mp:=mp.carry hw;have hO:=hO.carry hw;have hs49:=hB.size;have hz48b:=hz48;refine L.appendN (m:=1) Try.underlying23 kgrj_el9 rfl rfl rfl hO rfl (holdsN_box bx48) (by simp [Value.oneCell',S]) om_ om_ (fun v49 w49 hO49 hg hob49=>?_);have hB:=hB.step hg (fun j hj e=>by have:=hlo j e;omega);have hL:=hL.carryR hg (fun j hj e=>by have:=hLo j hj;have:=hlo j e;omega);have hN:=hN.carryR hg (fun e=>by have:=hlo _ e;omega) (fun k e=>.inr (by have:=hlo k e;omega));have mp:=MapAtK.carryR mp hg (fun e=>by have:=hlo _ e;omega);obtain ⟨a49,c49,e49,-⟩:=own_shape hO49;subst e49;have hO2:Own w49 (w19.heap.size+1) 9 1 (.slice a49 (out.length+1) c49) (out++[n]).length ((out++[n]).map S):=by
          rw [List.length_append,List.map_append];exact hO49
        have hlo2:=fun j hj=>Own.lt hO2 (j:=j) hj
        refine L.val (x_as (v:=.slice _ _ _) rfl) rfl ?_;refine L.mapsetK (k:=n) (v:=.int .i64 1) Try.underlying49 (klawS Try.underlying9) rfl rfl trivial rfl mp (fun wl48 mp hw hzl48=>?_);rw [encI_put] at mp;have hB:=hB.set hw om_;have hL:=hL.carryR hw (fun j hj e=>by have e:j=_:=e;have:=hLo j hj;omega);have hN:=hN.carryR hw (fun e=>by have e:_=_:=e;omega) (fun k e=>.inr (by have e:k=_:=e;omega));have hO2:=Own.carryR hO2 hw (fun j hj e=>by have e:j=_:=e;have:=hlo2 j hj;omega);have hm2:=getI_one hm n;refine L.nil (thn_n (W.seq (W.region (L.val (x_mv (v:=.slice _ _ _) rfl) rfl ?_))));refine L.val (x_mv (v:=.int _ _) rfl) rfl ?_;refine L.val (x_mv (v:=.int _ _) rfl) rfl ?_;refine L.val (x_add rfl rfl (wr64 om_)) rfl ?_;refine L.ret (x_call kgrj_en41 rfl) rfl (delete36 _ _ (leftL all out) i _ hL hlt2) ?_;rintro v54 w54 ⟨⟨hL2,hob⟩,hg54⟩;rw [hstep] at hL2;have hLo2:∀ j,some j=v54.ownBlock→w.heap.size≤j∧j<w18.heap.size:=fun j hj=>hLo j (hj.trans hob)
        have hB:=hB.step hg54 (fun j hj e=>by have:=hLo j e;omega);have hN:=hN.carryR hg54 (fun e=>by have:=hLo _ e;omega) (fun k e=>.inl (by have:=hLo k e;omega));have mp:=MapAtK.carryR mp hg54 (fun e=>by have:=hLo _ e;omega);have hO2:=Own.carryR hO2 hg54 (fun j hj e=>by have:=hLo j e;have:=hlo2 j hj;omega);obtain ⟨p54,c54,rfl,-⟩:=hL2.shape;have hd2:=hd.snoc hpm.1 hpm.2.1;have hE2:ordS names l=ordF all cl (all.length - (out++[n]).length) (out++[n]):=by
          rw [hE,hpk,List.length_append];rfl
        have hsh:(leftL all (out++[n])).length<(leftL all out).length:=by
          rw [← hstep,List.length_eraseIdx_of_lt hlt2];omega
        refine L.val (x_as (v:=.slice _ _ _) rfl) rfl ?_;refine L.nil (thn_n (W.exit (blk_miss rfl (thn_x (thn_x (blk_miss rfl (thn_x (nog_x (blk_hit ?_)))))))));refine thn_n ⟨rfl,?_⟩;refine ⟨_,?_,out++[n],_,_,_,rfl,by first | rfl | exact vi om_ | exact vs (by first | assumption | (rw [hst];done) | (rw [hst];simp only [List.append_assoc])),by first | rfl | exact vi om_ | exact vs (by first | assumption | (rw [hst];done) | (rw [hst];simp only [List.append_assoc])),by first | rfl | exact vi om_ | exact vs (by first | assumption | (rw [hst];done) | (rw [hst];simp only [List.append_assoc])),by first | rfl | exact vi om_ | exact vs (by first | assumption | (rw [hst];done) | (rw [hst];simp only [List.append_assoc])),ao_,(by exact hL2),(by exact hLo2),ao_,ao_,(by exact hm2),(by exact hO2),(by exact hd2),(by exact hE2)⟩;omega
     ·have h27:=dlt_f g27;have hii:i=(leftL all out).length:=by omega
      rw [hii,List.take_length] at hnone;have hE3:ordS names l=none:=by rw [hE,pick_left,hnone];rfl
      refine W.exit (thn_x (thn_x (blk_hit ?_)));refine thn_n (W.seq (W.region (L.val (x_as (v:=.slice _ _ _) rfl) rfl ?_)));refine L.val (x_as (v:=.int _ _) rfl) rfl ?_;refine L.nil (thn_n (W.ret (nog_r (blk_r (thn_r (blk_r (thn_r (nog_r (fin_mk (.inr rfl) ?_)))))))));rw [hE3];exact ⟨⟨_,rfl,StrsAt.nil _ _ _ _ om_⟩,hB⟩
   ·have h23:=dlt_f g23;refine W.exit (thn_x (thn_x (blk_hit ?_)));refine thn_n (W.seq (W.region (L.val (x_mv (v:=.slice _ _ _) rfl) rfl ?_)));refine L.val (x_as (v:=.slice _ _ _) rfl) rfl ?_;refine L.val (x_as (v:=.int _ _) rfl) rfl ?_;refine L.nil (thn_n (W.ret (nog_r (fin_mk (.inr rfl) ?_))));have hE3:ordS names l=some out:=by rw [hE,show all.length - out.length=0 by omega];rfl
    rw [hE3];exact ⟨⟨_,rfl,(show StrsAt (fun k=>k<w.heap.size) _ _ out from strs_done hO om_ (fun x hx=>hxa x (hd.2 x hx)) (fun j hj e=>by have e:j<_:=e;omega))⟩,hB⟩
end Go.Gx
namespace Go.Gx
open Go.Proofs Go.Sort
theorem StrsAt.move {A A':Nat→Prop} {w w':World} {v:Value} {l:List Str} (hc:∀ (a:Addr) v,¬ A a.block→w.cell? a=some v→w'.cell? a=some v∧¬ A' a.block) (h:StrsAt A w v l):StrsAt A' w' v l:=by
  obtain ⟨p,cap,rfl,h1,h2,h3,h4,h5⟩:=h;refine ⟨p,cap,rfl,h1,h2,h3,h4,fun hne=>?_⟩;obtain ⟨b,o,e,hA,h6⟩:=h5 hne;refine ⟨b,o,e,?_,fun i hi=>(hc _ _ hA (h6 i hi)).1⟩;exact (hc ⟨b,o+0,none⟩ _ hA (h6 0 (List.length_pos_iff.2 hne))).2
def GsC (A:Nat→Prop) (w:World) (cs:List Value) (l:List Str):Prop:=∃ v,cs=[v]∧StrsAt A w v l
instance car_gs:Car GsC 1 where
  pos:=by omega
  len:=fun h=>by obtain ⟨v,rfl,-⟩:=h;rfl
  one:=fun h=>by
    obtain ⟨v,rfl,p,cap,rfl,-⟩:=h
    intro u hu
    rw [List.mem_singleton.1 hu];rfl
  move:=fun hc h=>by obtain ⟨v,e,h⟩:=h;exact ⟨v,e,h.move hc⟩
abbrev GssAt (A:Nat→Prop) (w:World) (v:Value) (l:List (List Str)):Prop:=RecsAt GsC 1 A w v l
theorem strs_doneB {A:Nat→Prop} {w:World} {base:Nat} {e:TypeId} {v:Value} {l:List Str} (h:Own w base e 1 v l.length (l.map S)) (hl:l.length≤70368744177664) (hx:∀ x∈l,x.length≤9223372036854775807) (hb:∀ j,some j=v.ownBlock→¬ A j):StrsAt A w v l:=by
  have h1:=strs_done (A:=fun j=>A j∧j<base) h hl hx (fun j hj e=>by omega);obtain ⟨p,cap,rfl,a1,a2,a3,a4,a5⟩:=h1;refine ⟨p,cap,rfl,a1,a2,a3,a4,fun hne=>?_⟩;obtain ⟨b,o,rfl,hA,h6⟩:=a5 hne;exact ⟨b,o,rfl,hb b rfl,h6⟩
def AvB (n0 b:Nat) (w:World) (v1 v2:Value) (k:Nat):Prop:=k<n0∨k+1=b∨some k=v1.ownBlock∨some k=v2.ownBlock∨w.heap.size≤k
theorem avB_step {n0 b:Nat} {w w2:World} {v1 v2 u1 u2:Value} (hs:w.heap.size≤w2.heap.size) (h1:u1.ownBlock=v1.ownBlock∨∀ k,some k=u1.ownBlock→w.heap.size≤k) (h2:u2.ownBlock=v2.ownBlock∨∀ k,some k=u2.ownBlock→w.heap.size≤k) {j:Nat} (h:AvB n0 b w2 u1 u2 j):AvB n0 b w v1 v2 j:=by
  rcases h with h | h | h | h | h
  · exact .inl h
  · exact .inr (.inl h)
  · rcases h1 with e | e
    · exact .inr (.inr (.inl (h.trans e)))
    · exact .inr (.inr (.inr (.inr (e j h))))
  · rcases h2 with e | e
    · exact .inr (.inr (.inr (.inl (h.trans e))))
    · exact .inr (.inr (.inr (.inr (e j h))))
  · exact .inr (.inr (.inr (.inr om_)))
end Go.Gx
namespace Go.Gx
open Go.Proofs Go.Sort
theorem kgrl_oc9:oneCellT Try.prog 9=true:=by kernel_rfl
theorem kgrl_sz9:(Try.prog.info? 9).map (·.size)=some 1:=by kernel_rfl
theorem idxf36 (g:Nat) (eg:Enters Try.prog g) (cb:List Value) (q:Str→Bool) (A:Nat→Prop) (v:Value) (l:List Str) (w:World) (h:StrsAt A w v l)
    (hq:∀ w1 x,Bel w w1→Ret Try.prog g ([S x]++cb).toArray w1 fun v w'=>v=.bool (q x)∧Bel w1 w'):
    Ret Try.prog 31 #[v,.func (.func g) #[] cb.toArray] w fun r w'=>(∃ i:Int,r=.int .i64 i∧((i=-1∧∀ j,j<l.length→q (l.getD j [])=false)∨∃ k:Nat,i=k∧k<l.length∧q (l.getD k [])=true∧∀ j,j<k→q (l.getD j [])=false))∧Bel w w':=by
  obtain ⟨p,cap,rfl,p1,p2,p3,-⟩:=id h;refine ret_of_W Try.func31 rfl (Nat.le_of_ble_eq_true rfl) (res1 rfl) ?_;have hB:=Gr.refl (fun _=>False) w;refine W.seq (W.region (L.val (x_as (v:=.int _ _) rfl) rfl ?_));refine L.nil (thn_n (W.seq (W.seq (W.region (L.val (x_mv (v:=.slice _ _ _) rfl) rfl ?_)))));refine L.val (x_len_slice Try.underlying23 rfl) rfl ?_;refine L.val (x_mv (v:=.int _ _) rfl) rfl ?_;refine L.nil (thn_n (W.block (W.loop (fun m' E w'=>∃ (k:Nat),m'=l.length - k∧E 0=.slice p l.length cap∧E 1=.func (.func g) #[] cb.toArray∧E 7=.int .i64 (l.length:Nat)∧E 8=.int .i64 (k:Nat)∧(Bel w w')∧(StrsAt A w' (.slice p l.length cap) l)∧(k≤l.length)∧(∀ j,j<k→q (l.getD j [])=false)) (l.length) ?_ ?_)))
  ·exact ⟨0,by omega,vi_,vi_,vi_,vi_,ao_,ao_,ao_,(by exact fun j hj=>absurd hj om_)⟩
  ·rintro _ E wL9 ⟨k,em,e0,e1,e7,e8,hB,h,hk,hne⟩;rw [upd_self e0,upd_self e1,upd_self e7,upd_self e8];refine W.seq (W.region (L.val (x_lss rfl rfl) rfl ?_));refine L.nil (thn_n (W.seq (W.cond (b:=_) rfl (fun g9=>?_) (fun g9=>?_))))
   ·have h9:=of_decide_eq_true g9;have hlt:k<l.length:=by omega
    obtain ⟨b,o,rfl,hc⟩:=h.elem hlt;refine W.skip (thn_n (W.seq (W.block (W.seq (W.region (L.val (x_mv (v:=.int _ _) rfl) rfl ?_))))));refine L.val (x_as (v:=.int _ _) rfl) rfl ?_;refine L.nil (thn_n (W.seq (W.region (L.val (x_mv (v:=.func _ _ _) rfl) rfl ?_))));refine L.val (x_mv (v:=.slice _ _ _) rfl) rfl ?_;refine L.val (x_mv (v:=.int _ _) rfl) rfl ?_;refine L.val (x_ia1 (j:=k) Try.underlying23 kgrl_sz9 rfl rfl om_ om_) rfl ?_;refine L.val (x_ld (v:=S _) kgrl_oc9 rfl hc) rfl ?_;refine L.ret (x_callv eg rfl rfl) rfl (hq _ _ hB) ?_;rintro _ w16 ⟨rfl,hw⟩;have hB:=hB.carry hw;have h:=h.carry hw;refine L.nil (thn_n (W.cond (b:=_) rfl (fun g16=>?_) (fun g16=>?_)))
    ·have h16:=g16;refine W.seq (W.region (L.val (x_mv (v:=.int _ _) rfl) rfl ?_));refine L.val (x_as (v:=.int _ _) rfl) rfl ?_;refine L.nil (thn_n (W.ret (blk_r (thn_r (thn_r (blk_r (thn_r (fin_mk (.inr rfl) ?_))))))));exact ⟨⟨_,rfl,.inr ⟨k,rfl,hlt,h16,hne⟩⟩,hB⟩
    ·have h16:=g16;have hne2:∀ j,j<k+1→q (l.getD j [])=false:=fun j hj=>by
       rcases Nat.lt_or_ge j k with h | h
       · exact hne j h
       · rw [show j=k by omega];exact h16
     refine W.skip (blk_n (thn_n (W.region (L.val (x_add rfl rfl (wr64 om_)) rfl ?_))));refine L.val (x_mv (v:=.int _ _) rfl) rfl ?_;refine L.nil (thn_n ⟨rfl,?_⟩);refine ⟨_,?_,k+1,rfl,vi_,vi_,vi_,vi_,ao_,ao_,ao_,(by exact hne2)⟩;omega
   ·have h9:=dlt_f g9;refine W.exit (thn_x (thn_x (blk_hit ?_)));refine thn_n (W.seq (W.region (L.val (x_as (v:=.int _ _) rfl) rfl ?_)));refine L.nil (thn_n (W.ret (fin_mk (.inr rfl) ?_)));exact ⟨⟨_,rfl,.inl ⟨rfl,fun j hj=>hne j om_⟩⟩,hB⟩
end Go.Gx
namespace Go.Gx
section
variable {κ : Type} [DecidableEq κ] {K:κ → Value} {V:κ → Prop} {P:Program} {n:Nat} {Q:Post} {D:List Deferred} {E:Env} {w:World}
omit [DecidableEq κ] in
theorem x_lenM {x:Operand} {t s kt et:TypeId} {b:Nat} {l:List (κ × Value)} (hu:P.underlying s=some (.map kt et)) (h:ev E x=.map (some b)) (hl:MapAtK K V w b l):
    X P (.call ⟨.builtin .len,#[x],#[s]⟩) t E w (.int .i64 (l.length:Nat)) w:=by
  obtain ⟨es,c,hb,hes,-⟩:=hl;have hsz:es.size=l.length:=by
    have:=congrArg List.length hes;simpa using this
  unfold X;simp [execOp,resolve,invoke,builtin,Builtin.len_,h,run_underlying hu,MapKept.run_getObj_map hb,goInt,hsz]
def HalfK (K:κ → Value) (V:κ → Prop) (w:World) (b:Nat) (l:List (κ × Value)) (k:κ) (st:Nat):Prop:=
  ∃ es clock e0 l1,w.heap[b]? = some (.map es clock)∧MapIsK K V es clock l1∧es.toList[idxK k l1]? = some e0∧e0.born=st∧idxK k l1<l1.length∧∀ v,putK l1 k v=putK l k v
theorem idxK_last {k:κ} {v:Value} {l:List (κ × Value)} (h:¬ idxK k l<l.length):idxK k (l++[(k,v)])=l.length:=by
  rw [idxK_snoc,if_neg h,if_pos rfl]
theorem L.entryK {t kt et ty:TypeId} {ops:Array Oper} {r:List Oper} {d:Nat} {m x:Operand} {p:String} {af:Array Edge} {b:Nat} {l:List (κ × Value)} {k:κ} {z:Value} (hm:P.underlying t=some (.map kt et)) (hk:KLaw P kt K V) (hz:(P.info? et).bind (·.zero)=some z)
    (hx:ev E m=.map (some b)) (hy:ev E x=K k) (hV:V k) (hl:MapAtK K V w b l) (hd:Nat.blt d n=true)
    (kk:∀ w1 (st:Nat) v0,HalfK K V w1 b l k st→Gr (· = b) w w1→w1.heap.size=w.heap.size→L P n ops Q r D (upd E d (.tuple #[v0,.int .i64 (st:Nat)])) w1):
    L P n ops Q (⟨some d,.mapEntry t m x,ty,p,af,none⟩ :: r) D E w:=by
  have hlt:=hl.lt;obtain ⟨es,c,hb,hes,hn,hc,hval,hnd⟩:=hl;have hf:=hk.find k es.toList l w hV hval hnd hes;have hzr:∀ w,(zeroValue et).run P w=.ok z w:=fun w=>by
    cases hi:P.info? et with
    | none=>simp [hi] at hz
    | some i=>
      simp [hi] at hz;simp [zeroValue,typeInfo,hi,hz]
  have hkeep:∀ w o,Gr (· = b) w { w with heap:=w.heap.setIfInBounds b o }:=fun w o=>
    ⟨rfl,rfl,rfl,by simp,fun i _ hi=>by simp [Ne.symm hi]⟩
  by_cases h:idxK k l<l.length
  · rw [if_pos h] at hf;have hlen:es.toList.length=l.length:=by have:=congrArg List.length hes;simpa using this
    obtain ⟨e0,he0⟩:∃ e0,es.toList[idxK k l]? = some e0:=⟨_,List.getElem?_eq_getElem (by rw [hlen];exact h)⟩;have hes2:es[idxK k l]? = some e0:=by rw [← he0];simp
    have hkey:e0.key=K k:=by
      have hg:=congrArg (fun q:List (Value × Value)=>q[idxK k l]?) hes;simp only [List.getElem?_map] at hg;rw [List.getElem?_eq_getElem h,he0] at hg;simp only [Option.map_some,Option.some.injEq,kvM,Prod.mk.injEq] at hg;rw [hg.1,idxK_key h]
    have hsame:es.modify (idxK k l) (fun e=>{ e with key:=K k })=es:=by
      apply Array.ext';rw [Array.toList_modify,ChangeMaps.modify_eq_set _ _ _ _ he0];have:({ e0 with key:=K k }:MapEntry)=e0:=by rw [← hkey]
      rw [this];exact WideElems.set_self _ _ _ he0
    refine L.val (v:=.tuple #[valK l (idxK k l),.int .i64 (e0.born:Nat)]) (w':={ w with heap:=w.heap.setIfInBounds b (.map es c) }) ?_ hd (kk _ e0.born _ ⟨es,c,e0,l,by simp [hlt],⟨hes,hn,hc,hval,hnd⟩,he0,rfl,h,fun _=>rfl⟩ (hkeep _ _) (by simp));unfold X;simp [execOp,hx,hy,Instr.mapEntry,run_underlying hm,MapKept.run_getObj_map hb,hk.check _ k w hV,hf,hes2,hkey,hk.stays k w hV,hsame,MapKept.run_setObj_map _ hb,Result.andThen,goInt]
  · rw [if_neg h] at hf;have hi:=idxK_last (v:=z) h;have hlen:es.toList.length=l.length:=by have:=congrArg List.length hes;simpa using this
    refine L.val (v:=.tuple #[z,.int .i64 (c:Nat)]) (w':={ w with heap:=w.heap.setIfInBounds b (.map (es.push { key:=K k,val:=z,born:=c }) (c+1)) }) ?_ hd (kk _ c _ ⟨es.push { key:=K k,val:=z,born:=c },c+1,{ key:=K k,val:=z,born:=c },l++[(k,z)],by simp [hlt],⟨?_,?_,?_,?_,?_⟩,?_,rfl,by rw [hi];simp,fun v=>?_⟩ (hkeep _ _) (by simp))
    · unfold X;simp [execOp,hx,hy,Instr.mapEntry,run_underlying hm,MapKept.run_getObj_map hb,hk.check _ k w hV,hf,hzr,MapKept.run_setObj_map _ hb,Result.andThen,goInt]
    · rw [Array.toList_push,List.map_append,hes,List.map_append];rfl
    · rw [Array.toList_push,List.map_append];refine List.nodup_append.2 ⟨hn,by simp,fun x hx y hy e=>?_⟩;have:=hc x hx;simp at hy;omega
    · rw [Array.toList_push,List.map_append];intro x hx;rcases List.mem_append.1 hx with hx | hx
      · have:=hc x hx;omega
      · simp at hx;omega
    · have:=putK_valid (v:=z) hval hV;unfold putK at this;rw [if_neg h] at this;exact this
    · have:=putK_nodup (x:=k) (v:=z) hnd;unfold putK at this;rw [if_neg h] at this;exact this
    · rw [hi,Array.toList_push,← hlen];simp
    · unfold putK;rw [hi,if_pos (by simp),if_neg h,List.set_append_right _ _ (Nat.le_refl _),Nat.sub_self];rfl
theorem L.entryStoreK {t ty:TypeId} {ops:Array Oper} {r:List Oper} {m s y:Operand} {p:String} {af:Array Edge} {b st:Nat} {l:List (κ × Value)} {k:κ} {v:Value}
    (hx:ev E m=.map (some b)) (hs:ev E s=.int .i64 (st:Nat)) (hv:ev E y=v) (hV:V k) (h:HalfK K V w b l k st)
    (kk:∀ w1,MapAtK K V w1 b (putK l k v)→Gr (· = b) w w1→w1.heap.size=w.heap.size→L P n ops Q r D E w1):
    L P n ops Q (⟨none,.entryStore t m s y,ty,p,af,none⟩ :: r) D E w:=by
  obtain ⟨es,c,e0,l1,hb,⟨hes,hn,hc,hval,hnd⟩,he0,hst,hi,hput⟩:=h;have hlt:b<w.heap.size:=(Array.getElem?_eq_some_iff.1 hb).1;have hkeep:∀ w o,Gr (· = b) w { w with heap:=w.heap.setIfInBounds b o }:=fun w o=>
    ⟨rfl,rfl,rfl,by simp,fun i _ hi=>by simp [Ne.symm hi]⟩
  have hidx:es.findIdx? (fun e=>((e.born:Nat):Int) == ((st:Nat):Int))=some (idxK k l1):=by
    rw [WideElems.findIdx_arr,← hst];exact WideElems.findIdx_born hn he0
  have hkey:e0.key=K k:=by
    have hg:=congrArg (fun q:List (Value × Value)=>q[idxK k l1]?) hes;simp only [List.getElem?_map] at hg;rw [List.getElem?_eq_getElem hi,he0] at hg;simp only [Option.map_some,Option.some.injEq,kvM,Prod.mk.injEq] at hg;rw [hg.1,idxK_key hi]
  have hmod:es.modify (idxK k l1) (fun e=>{ e with val:=v })=es.modify (idxK k l1) (fun e=>{ e with key:=K k,val:=v }):=by
    apply Array.ext';rw [Array.toList_modify,Array.toList_modify,ChangeMaps.modify_eq_set _ _ _ _ he0,ChangeMaps.modify_eq_set _ _ _ _ he0,← hkey]
  rw [show putK l k v=putK l1 k v from (hput v).symm] at kk;refine L.skip (w':={ w with heap:=w.heap.setIfInBounds b (.map (es.modify (idxK k l1) fun e=>{ e with key:=K k,val:=v }) c) }) ?_ (kk _ ⟨es.modify (idxK k l1) fun e=>{ e with key:=K k,val:=v },c,by simp [hlt],?_,by rw [Array.toList_modify,born_modify];exact hn,by rw [Array.toList_modify,born_modify];exact hc,putK_valid hval hV,putK_nodup hnd⟩ (hkeep _ _) (by simp))
  · unfold Xs;simp [execOp,hx,hs,hv,Instr.entryStore,MapKept.run_getObj_map hb,asInt,asIntOf,hidx,hmod,MapKept.run_setObj_map _ hb,Result.andThen]
  · unfold putK;rw [if_pos hi,Array.toList_modify];exact set_kvK hes
theorem L.insertK {t ty:TypeId} {ops:Array Oper} {r:List Oper} {m x y:Operand} {p:String} {af:Array Edge} (h:L P n ops Q (⟨none,.mapUpdate t m x y,ty,p,af,none⟩ :: r) D E w):L P n ops Q (⟨none,.insert t m x y,ty,p,af,none⟩ :: r) D E w:=by
  intro a ha;have h1:=h a ha;unfold wpList at h1 ⊢;exact h1
end
end Go.Gx
