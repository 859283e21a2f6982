/- What arcs reach: the program's and the document's. Conditions: none. -/
import Derived.Test.YtigcdmnhmfeioaaGgDrawG
import Derived.Test.YtigcdmnhmfeioaaGgRec
namespace Go.Gx
open Go.Proofs Go.Sort
theorem kgrf_el9:elT Try.prog 9 1=true:=by kernel_rfl
theorem kgrf_en24:Go.Proofs.Enters Try.prog 24:=Go.Proofs.enters_of Try.func24 kr_ rfl
theorem kgrf_en25:Go.Proofs.Enters Try.prog 25:=Go.Proofs.enters_of Try.func25 kr_ rfl
theorem kgrf_en26:Go.Proofs.Enters Try.prog 26:=Go.Proofs.enters_of Try.func26 kr_ rfl
theorem kgrf_en27:Go.Proofs.Enters Try.prog 27:=Go.Proofs.enters_of Try.func27 kr_ rfl
theorem kgrf_en50:Go.Proofs.Enters Try.prog 50:=Go.Proofs.enters_of Try.func50 kr_ rfl
theorem kgrf_oc9:oneCellT Try.prog 9=true:=by kernel_rfl
theorem kgrf_sz9:(Try.prog.info? 9).map (·.size)=some 1:=by kernel_rfl
theorem own_cut {w:World} {base:Nat} {e:TypeId} {sz:Nat} {a:Option Addr} {c k j:Nat} {xs:List Value} (h:Own w base e sz (.slice a k c) k xs) (hj:j≤k):Own w base e sz (.slice a j c) j (xs.take (j * sz)):=by
  have hjs:j * sz≤k * sz:=Nat.mul_le_mul_right _ hj;obtain ⟨h0,hh⟩:=h;refine ⟨by rw [List.length_take];omega,?_⟩;rcases hh with ⟨e1,e2⟩ | ⟨b,cap,cur,e1,hb,hg,hk,hc,hcs,ht⟩
  · cases e1;have:j=0:=by omega
    subst this;exact .inl ⟨rfl,by simp⟩
  · cases e1;exact .inr ⟨b,_,cur,rfl,hb,hg,by omega,hc,hcs,by rw [← ht,List.take_take,Nat.min_eq_left hjs]⟩
theorem strs_all {A:Nat→Prop} {w:World} {p:Option Addr} {cap:Nat} {l:List Str} (h:StrsAt A w (.slice p l.length cap) l):HoldsN w (.slice p l.length cap) l.length (l.map S):=by
  have:=strs_take h (Nat.le_refl _)
  rwa [List.take_length] at this
theorem clone36 (A:Nat→Prop) (v:Value) (l:List Str) (w:World) (h:StrsAt A w v l) (hl:l.length≤400000):
    Ret Try.prog 25 #[v] w fun r w'=>Own w' w.heap.size 9 1 r l.length (l.map S)∧Bel w w':=by
  obtain ⟨p,cq,rfl,h1,h2,h3,h4,h5⟩:=h;rcases l with _ | ⟨x,r⟩
  · rcases p with _ | a
    · exact Calls.mono (Try.slices_Clone_string_nil 0 cq w) fun _ _ ⟨he,hw⟩=>⟨_,he,own_nil,hw ▸ Gr.refl _ _⟩
    · exact Calls.mono (Try.slices_Clone_string_zero a cq w) fun _ _ ⟨v',he,ho,_,hb⟩=>⟨_,he,ho,bel_of hb⟩
  · obtain ⟨b,o,rfl,-,hc⟩:=h5 (by simp);have hk:=Try.slices_Clone_string b o (x :: r).length cq ((x :: r).map fun s=>(⟨s.toArray⟩:ByteArray)) w (by simp) om_ (fun j hj=>by
      have hj:j<(x :: r).length:=by simpa using hj
      have e:(((x :: r).map fun s=>(⟨s.toArray⟩:ByteArray)).getD j ByteArray.empty)=⟨((x :: r).getD j []).toArray⟩:=by
        rw [List.getD_eq_getElem?_getD,List.getElem?_map,List.getElem?_eq_getElem hj,List.getD_eq_getElem?_getD,List.getElem?_eq_getElem hj];rfl
      rw [hc j hj,e];rfl)
    refine Calls.mono hk fun _ _ ⟨v',he,ho,_,hb⟩=>⟨_,he,?_,bel_of hb⟩
    have e:(((x :: r).map fun s=>(⟨s.toArray⟩:ByteArray)).take (x :: r).length).map Value.string=(x :: r).map S:=by
      rw [List.take_of_length_le (by simp),List.map_map];rfl
    rw [e] at ho;exact ho
theorem encI_keys (m:List (Str × Int)):(encI m).map (·.1)=m.map (·.1):=by unfold encI;rw [List.map_map];rfl
def unL (l:List Arc) (K:List Str):List Arc:=l.filter fun a=>!K.contains a.1
theorem un_le (l:List Arc) (K:List Str):(unL l K).length≤l.length:=List.length_filter_le _ _
theorem un_same {l:List Arc} {K K':List Str} (h:∀ x,x∈K'↔x∈K):unL l K'=unL l K:=by
  unfold unL;congr 1;funext a;have:K'.contains a.1=K.contains a.1:=by rw [Bool.eq_iff_iff,List.contains_iff_mem,List.contains_iff_mem];exact h _
  rw [this]
theorem un_put {l:List Arc} {K K':List Str} {n:Str} (h:∀ x,x∈K'↔x=n∨x∈K) (hn:n∉K):(unL l K).length=(unL l K').length+(tosL l n).length:=by
  unfold unL tosL;induction l with
  | nil=>rfl
  | cons a l ih=>
    rw [List.length_map] at ih ⊢;have hc:K'.contains a.1=(a.1 == n || K.contains a.1):=by rw [Bool.eq_iff_iff,Bool.or_eq_true,List.contains_iff_mem,List.contains_iff_mem,beq_iff_eq];exact h _
    by_cases e:a.1=n
    · have h1:K.contains a.1=false:=by rw [e];simpa using hn
      have h2:(a.1 == n)=true:=by rw [e];simp
      rw [List.filter_cons,List.filter_cons,List.filter_cons,hc,h1,h2];simp only [Bool.not_false,if_true,Bool.true_or,Bool.not_true,Bool.false_eq_true,if_false,List.length_cons];omega
    · have h2:(a.1 == n)=false:=by simpa using e
      rw [List.filter_cons,List.filter_cons,List.filter_cons,hc,h2,Bool.false_or];simp only [Bool.false_eq_true,if_false];split
      · rw [List.length_cons,List.length_cons];omega
      · exact ih
theorem strict_sub_eq {l m:List Str} (hl:Strict l) (hm:Strict m) (h:∀ x∈l,x∈m) (hlen:m.length=l.length):l=m:=strict_eq hl hm fun x=>by
  refine ⟨h x,fun hx=>?_⟩;refine Classical.byContradiction fun hn=>?_
  have h1:=strict_len_le hl.nodup (m:=m.erase x) fun y hy=>(List.mem_erase_of_ne (fun e=>by rw [e] at hy;exact hn hy)).2 (h y hy)
  rw [List.length_erase_of_mem hx] at h1;have:=List.length_pos_of_mem hx;omega
theorem sortedNew_left {base:Nat} {w:World} {v:Value} {ss:List Str} (h:SortedNew base w v ss) (hn:ss.Nodup):LeftAt base w v (onceL ss):=by
  rcases h with ⟨rfl,rfl⟩ | ⟨b,cap,tl,d,h1,h2,h3,rfl,h5,h6,h7,h8,h9⟩
  · exact .inl ⟨rfl,none,0,rfl,by omega,fun a e=>by cases e⟩
  · have hperm:d.toList.Perm ss:=by
      have h3:=h7.2.2;have e1:(d.extract 0 ss.length).toList=d.toList:=by simp [← h6]
      have e2:(ss.toArray.extract 0 ss.length).toList=ss:=by simp
      rw [e1,e2] at h3;exact h3
    have hst:Strict d.toList:=by
      rw [Strict,List.pairwise_iff_getElem];intro i j hi hj hij;have hi':i<d.size:=by simpa using hi
      have hj':j<d.size:=by simpa using hj
      have h3:=h8 i j (Nat.zero_le _) hij om_;rw [getElem!_pos d j hj',getElem!_pos d i hi'] at h3;refine lt_tot h3 (fun e=>?_);have h4:=List.pairwise_iff_getElem.1 (hperm.nodup_iff.2 hn) i j hi hj hij;exact h4 (by simpa using e.symm)
    have e:=once_eq hst fun x=>hperm.mem_iff
    have hl:(onceL ss).length=ss.length:=by rw [← e];exact hperm.length_eq
    refine .inr ⟨b,cap,tl,h1,by rw [hl],by omega,by omega,h9,?_⟩;rw [← e];simpa using h5.2
theorem reach_short {l:List Arc} {f:List Str} (hx:∀ a∈l,a.1.length≤9223372036854775807∧a.2.length≤9223372036854775807) (hf:∀ x∈f,x.length≤9223372036854775807):∀ x∈reachS l f,x.length≤9223372036854775807:=fun x h=>by
  rcases List.mem_append.1 (rch_uni (mem_reach.1 h)) with h | h
  · exact hf x h
  · obtain ⟨a,ha,rfl⟩:=List.mem_map.1 h;exact (hx a ha).2
set_option maxHeartbeats 1000000 in
theorem reachP (A0 A1:Nat→Prop) (v u:Value) (l:List Arc) (f:List Str) (w:World) (h0:ArcsAt A0 w v l) (h1:StrsAt A1 w u f) (hll:f.length+l.length≤400000):
    Ret Try.prog 12 #[v,u] w fun r w'=>StrsAt (fun k=>k<w.heap.size) w' r (reachS l f)∧Bel w w':=by
  have hxl:∀ a∈l,a.1.length≤9223372036854775807∧a.2.length≤9223372036854775807:=by obtain ⟨p,cap,row,rfl,-,-,-,hr⟩:=h0;exact arcs_len hr
  have hxf:=h1.short;obtain ⟨p,cap,row,rfl,-⟩:=id h0;obtain ⟨q,cq,rfl,-⟩:=id h1;refine ret_of_W Try.func12 rfl (Nat.le_of_ble_eq_true rfl) (res1 rfl) ?_;have hB:=Gr.refl (fun _=>False) w;refine W.seq (W.region (L.val (x_as (v:=.slice _ _ _) rfl) rfl ?_));refine L.nil (thn_n (W.seq (W.region (L.val (x_mv (v:=.slice _ _ _) rfl) rfl ?_))));refine L.ret (x_call kgrf_en24 rfl) rfl (outs36 _ _ l _ h0 om_) ?_;rintro _ w10 ⟨⟨rfl,hN⟩,hw⟩;have hB:=hB.carry hw;have h1:=h1.carry hw;have hbN:=hN.lt;have hN:=hN.mono (A':=fun k=>k≤w.heap.size∨w10.heap.size≤k) (fun k hk e=>e.resolve_right om_);refine L.val (x_as (v:=.map _) rfl) rfl ?_;refine L.nil (thn_n (W.seq (W.region (L.mkmapK (κ := Str) (K:=S) (V:=fun _=>True) Try.underlying49 rfl (fun w11 mp hw hz11=>?_)))));have hB:=hB.carry hw;have h1:=h1.carry hw;have hN:=hN.carry hw;have mp:IM w11 w10.heap.size []:=mp;refine L.val (x_as (v:=.map _) rfl) rfl ?_;refine L.nil (thn_n (W.seq (W.region (L.val (x_mv (v:=.slice _ _ _) rfl) rfl ?_))));refine L.ret (x_call kgrf_en25 rfl) rfl (clone36 _ _ f _ h1 om_) ?_;rintro v13 w13 ⟨hO,hw⟩;have hB:=hB.carry hw;have h1:=h1.carry hw;have hN:=hN.carry hw;have mp:=mp.carry hw;have hO:=hO.weak (base':=w10.heap.size+1) om_;obtain ⟨a13,c13,e13,-⟩:=own_shape hO;subst e13;refine L.val (x_as (v:=.slice _ _ _) rfl) rfl ?_;refine L.nil (thn_n (W.seq (W.block (W.loop (fun m' E w'=>∃ (todo:List Str) (vT:Value) (m:List (Str × Int)) (c:Nat),m'=todo.length+(unL l (m.map (·.1))).length∧E 5=.map (some w.heap.size)∧E 6=.map (some w10.heap.size)∧E 7=vT∧(Bel w w')∧(NextMap (fun k=>k≤w.heap.size∨w10.heap.size≤k) w' w.heap.size (nextS l))∧(IM w' w10.heap.size m)∧(Own w' (w10.heap.size+1) 9 1 vT todo.length (todo.map S))∧(∀ x,x∈todo∨x∈m.map (·.1)→Rch l f x)∧(∀ x∈f,x∈todo∨x∈m.map (·.1))∧(∀ x∈m.map (·.1),∀ y,(x,y)∈l→y∈todo∨y∈m.map (·.1))∧(∀ x,0≤getI m x∧(x∈m.map (·.1)↔1≤getI m x)∧getI m x≤(c:Int))∧(c+(todo.length+(unL l (m.map (·.1))).length)≤400000)) (f.length+(unL l (([]:List (Str × Int)).map (·.1))).length) ?_ ?_))))
  ·exact ⟨f,_,[],0,by omega,vi_,vi_,vi_,ao_,ao_,ao_,ao_,(by rintro x (h | h);exact Rch.base h;cases h),(by exact fun x h=>.inl h),(by intro x h;cases h),(by intro x;rw [getI_nil];exact ⟨by omega,⟨fun h=>(by cases h),fun h=>om_⟩,by omega⟩),(by have:=un_le l (([]:List (Str × Int)).map (·.1));omega)⟩
  ·rintro _ E wL14 ⟨todo,vT,m,c,em,e5,e6,e7,hB,hN,mp,hO,hre,hfr,hcl,hva,hmu⟩;rw [upd_self e5,upd_self e6,upd_self e7];refine W.seq (W.seq (W.region ?_));obtain ⟨aT,cT,eT,-⟩:=own_shape hO;subst eT;have hbm:=mp.lt;have hbn:=hN.lt;have hsL:=hB.size;refine L.val (x_mv (v:=.slice _ _ _) rfl) rfl ?_;refine L.val (x_len_slice Try.underlying23 rfl) rfl ?_;refine L.val (x_gtr rfl rfl) rfl ?_;refine L.nil (thn_n (W.cond (b:=_) rfl (fun g16=>?_) (fun g16=>?_)))
   ·have h16:=of_decide_eq_true g16;have hpos:0<todo.length:=by omega
    obtain ⟨bT,rfl⟩:=own_pos hO om_;obtain ⟨n,hn⟩:∃ n,n=todo.getD (todo.length - 1) []:=⟨_,rfl⟩;obtain ⟨t1,ht1⟩:∃ t,t=todo.take (todo.length - 1):=⟨_,rfl⟩;have hlast:todo=t1++[n]:=by
      rw [ht1,hn];have:=take_snoc (d:=([]:Str)) (l:=todo) (k:=todo.length - 1) om_;rw [show todo.length - 1+1=todo.length by omega,List.take_length] at this;exact this
    have hl1:t1.length=todo.length - 1:=by rw [ht1,List.length_take];omega
    have hcut:=own_cut hO (j:=todo.length - 1) om_;rw [Nat.mul_one,← List.map_take,← ht1,← hl1] at hcut;have hnR:Rch l f n:=hre n (.inl (by rw [hlast];simp));have hvn:=hva n;have hlo:=fun j hj=>Own.lt hO (j:=j) hj
    refine W.skip (thn_n (W.block (W.seq (W.region (L.val (x_mv (v:=.slice _ _ _) rfl) rfl ?_)))));refine L.val (x_mv (v:=.slice _ _ _) rfl) rfl ?_;refine L.val (x_len_slice Try.underlying23 rfl) rfl ?_;refine L.val (x_sub (c:=((todo.length - 1:Nat):Int)) rfl rfl (by rw [wr64 om_];omega)) rfl ?_;refine L.val (x_ia1 (j:=todo.length - 1) Try.underlying23 kgrf_sz9 rfl rfl om_ om_) rfl ?_;refine L.val (x_ld (v:=S _) kgrf_oc9 rfl (own_cell1 hO om_)) rfl ?_;rw [← hn];refine L.val (x_as (v:=S _) rfl) rfl ?_;refine L.nil (thn_n (W.seq (W.region (L.val (x_mv (v:=.slice _ _ _) rfl) rfl ?_))));refine L.val (x_mv (v:=.slice _ _ _) rfl) rfl ?_;refine L.val (x_len_slice Try.underlying23 rfl) rfl ?_;refine L.val (x_sub (c:=((t1.length:Nat):Int)) rfl rfl (by rw [wr64 om_];omega)) rfl ?_;refine L.val (x_shi (j:=t1.length) Try.underlying23 kgrf_sz9 rfl rfl rfl (by obtain ⟨_,_,e,hc⟩:=own_shape hO;cases e;omega)) rfl ?_;refine L.val (x_as (v:=.slice _ _ _) rfl) rfl ?_;refine L.nil (thn_n (W.seq (W.region (L.val (x_mv (v:=.map _) rfl) rfl ?_))));refine L.val (x_mv (v:=S _) rfl) rfl ?_;refine L.val (x_look0 (z:=.int .i64 0) Try.underlying49 (klawS Try.underlying9) kr_ rfl rfl trivial mp (getI_look m n)) rfl ?_;refine L.val (x_add rfl rfl (wr64 om_)) rfl ?_;refine L.mapsetK (k:=n) (v:=.int .i64 (getI m n+1)) Try.underlying49 (klawS Try.underlying9) rfl rfl trivial rfl mp (fun wl30 mp hw hzl30=>?_);rw [encI_put] at mp;obtain ⟨m2,hm2⟩:∃ x,x=putI m n (getI m n+1):=⟨_,rfl⟩;have hk2:∀ x,x∈m2.map (·.1)↔x=n∨x∈m.map (·.1):=fun x=>by rw [hm2];exact keysI_put m n x _
    have hg2:∀ x,getI m2 x=if x=n then getI m n+1 else getI m x:=fun x=>by rw [hm2];exact getI_put m n x _
    have mp:IM wl30 w10.heap.size m2:=by rw [hm2];exact mp
    have hB:=hB.set hw om_;have hN:=hN.carryR hw (fun e=>by have e:_=_:=e;omega) (fun k e=>.inr (by have e:k=_:=e;omega));have hcut:=Own.carryR hcut hw (fun j hj e=>by have e:j=_:=e;have:=hlo j hj;omega);have hva2:∀ x,0≤getI m2 x∧(x∈m2.map (·.1)↔1≤getI m2 x)∧getI m2 x≤((c+1:Nat):Int):=fun x=>by
      have hx:=hva x;rw [hg2 x,hk2 x];by_cases e:x=n
      · rw [if_pos e];exact ⟨by omega,⟨fun _=>by omega,fun _=>.inl e⟩,by omega⟩
      · rw [if_neg e];refine ⟨hx.1,⟨fun h=>hx.2.1.1 (h.resolve_left e),fun h=>.inr (hx.2.1.2 h)⟩,by omega⟩
    refine L.nil (thn_n (W.seq (W.region (L.val (x_mv (v:=.map _) rfl) rfl ?_))));refine L.val (x_mv (v:=S _) rfl) rfl ?_;refine L.val (x_look0 (z:=.int .i64 0) Try.underlying49 (klawS Try.underlying9) kr_ rfl rfl trivial mp (getI_look m2 n)) rfl ?_;refine L.val (x_eql rfl rfl) rfl ?_;refine L.nil (thn_n (W.cond (b:=_) rfl (fun g35=>?_) (fun g35=>?_)))
    ·have h35:=of_decide_eq_true g35;have hnk:n∉m.map (·.1):=fun h=>by
       have h1:=hvn.2.1.1 h;rw [hg2 n,if_pos rfl] at h35;omega
     have hun:=un_put (l:=l) hk2 hnk;have hnx:=next_len l n;obtain ⟨lN,hN1,hN2⟩:=id hN;have hvN:=hN2 n;obtain ⟨pN,cN,eN,-⟩:=id hvN;rw [eN] at hvN;have hre2:∀ x,x∈t1++nextS l n∨x∈m2.map (·.1)→Rch l f x:=fun x h=>by
       rcases h with h | h
       · rcases List.mem_append.1 h with h | h
         · exact hre x (.inl (by rw [hlast];simp [h]))
         · exact Rch.step hnR (mem_next.1 h)
       · rcases (hk2 x).1 h with e | h
         · rw [e];exact hnR
         · exact hre x (.inr h)
     have hto:∀ x,x∈todo∨x∈m.map (·.1)→x∈t1++nextS l n∨x∈m2.map (·.1):=fun x h=>by
       rcases h with h | h
       · rw [hlast] at h;rcases List.mem_append.1 h with h | h
         · exact .inl (List.mem_append.2 (.inl h))
         · exact .inr ((hk2 x).2 (.inl (List.mem_singleton.1 h)))
       · exact .inr ((hk2 x).2 (.inr h))
     have hfr2:∀ x∈f,x∈t1++nextS l n∨x∈m2.map (·.1):=fun x hx=>hto x (hfr x hx)
     have hcl2:∀ x∈m2.map (·.1),∀ y,(x,y)∈l→y∈t1++nextS l n∨y∈m2.map (·.1):=fun x hx y hy=>by
       rcases (hk2 x).1 hx with e | hx
       · exact .inl (List.mem_append.2 (.inr (mem_next.2 (by rw [← e];exact hy))))
       · exact hto y (hcl x hx y hy)
     obtain ⟨td,htd⟩:∃ t,t=t1++nextS l n:=⟨_,rfl⟩;rw [← htd] at hre2 hfr2 hcl2;have htdl:td.length=t1.length+(nextS l n).length:=by rw [htd,List.length_append]
     refine W.region (L.val (x_mv (v:=.slice _ _ _) rfl) rfl ?_);refine L.val (x_mv (v:=.map _) rfl) rfl ?_;refine L.val (x_mv (v:=S _) rfl) rfl ?_;refine L.val (x_look0 (z:=.slice none 0 0) Try.underlying47 (klawS Try.underlying9) kr_ rfl rfl trivial hN1 eN) rfl ?_;refine L.appendN (m:=(nextS l n).length) Try.underlying23 kgrf_el9 rfl rfl rfl hcut (by rw [List.length_map,Nat.mul_one]) (strs_all hvN) (by intro u hu;obtain ⟨x,-,rfl⟩:=List.mem_map.1 hu;rfl) om_ om_ (fun v40 w40 hO40 hg hob40=>?_);have hB:=hB.step hg (fun i hi e=>by have:=hlo i e;omega);have hN:=hN.carryR hg (fun e=>by have:=hlo _ e;omega) (fun k e=>.inr (by have:=hlo k e;omega));have mp:=MapAtK.carryR mp hg (fun e=>by have:=hlo _ e;omega);obtain ⟨a40,c40,e40,-⟩:=own_shape hO40;subst e40;have hO2:Own w40 (w10.heap.size+1) 9 1 (.slice a40 (t1.length+(nextS l n).length) c40) td.length (td.map S):=by
       rw [htdl,htd,List.map_append];exact hO40
     refine L.val (x_as (v:=.slice _ _ _) rfl) rfl ?_;refine L.nil (blk_n (thn_n ⟨rfl,?_⟩));refine ⟨_,?_,td,_,m2,c+1,rfl,vi_,vi_,vi_,ao_,ao_,ao_,(by exact hO2),(by exact hre2),(by exact hfr2),(by exact hcl2),(by exact hva2),om_⟩;omega
    ·have h35:=of_decide_eq_false g35;have hnk:n∈m.map (·.1):=by
       refine Classical.byContradiction fun h=>?_
       have h1:¬ 1≤getI m n:=fun e=>h (hvn.2.1.2 e)
       rw [hg2 n,if_pos rfl] at h35;omega
     have hks:∀ x,x∈m2.map (·.1)↔x∈m.map (·.1):=fun x=>by
       rw [hk2];exact ⟨fun h=>by rcases h with e | h;rw [e];exact hnk;exact h,.inr⟩
     have hun:=congrArg List.length (un_same (l:=l) hks);obtain ⟨td,htd⟩:∃ t,t=t1:=⟨_,rfl⟩;have hto:∀ x,x∈todo∨x∈m.map (·.1)→x∈td∨x∈m2.map (·.1):=fun x h=>by
       rcases h with h | h
       · rw [hlast] at h;rcases List.mem_append.1 h with h | h
         · exact .inl (by rw [htd];exact h)
         · exact .inr ((hk2 x).2 (.inl (List.mem_singleton.1 h)))
       · exact .inr ((hk2 x).2 (.inr h))
     have hre2:∀ x,x∈td∨x∈m2.map (·.1)→Rch l f x:=fun x h=>by
       rcases h with h | h
       · exact hre x (.inl (by rw [hlast];rw [htd] at h;simp [h]))
       · exact hre x (.inr ((hks x).1 h))
     have hfr2:∀ x∈f,x∈td∨x∈m2.map (·.1):=fun x hx=>hto x (hfr x hx)
     have hcl2:∀ x∈m2.map (·.1),∀ y,(x,y)∈l→y∈td∨y∈m2.map (·.1):=fun x hx y hy=>hto y (hcl x ((hks x).1 hx) y hy)
     have htdl:td.length=t1.length:=by rw [htd]
     have hO2:Own wl30 (w10.heap.size+1) 9 1 (.slice (some ⟨bT,0,none⟩) t1.length cT) td.length (td.map S):=by rw [htd];exact hcut
     refine W.skip (blk_n (thn_n ⟨rfl,?_⟩));refine ⟨_,?_,td,_,m2,c+1,rfl,vi_,vi_,vi_,ao_,ao_,ao_,(by exact hO2),(by exact hre2),(by exact hfr2),(by exact hcl2),(by exact hva2),om_⟩;omega
   ·have h16:=dlt_f g16;have ht0:todo=[]:=List.eq_nil_of_length_eq_zero om_;have hnd:(m.map (·.1)).Nodup:=by have:=mp.nodup;unfold encI at this;rw [List.map_map] at this;exact this
    have hE:onceL (m.map (·.1))=reachS l f:=reach_eq (strict_once _) (fun x hx=>mem_once.2 ((hfr x hx).resolve_left (by rw [ht0];simp))) (fun a ha h=>mem_once.2 ((hcl a.1 (mem_once.1 h) a.2 ha).resolve_left (by rw [ht0];simp))) (fun x hx=>hre x (.inr (mem_once.1 hx)));have hml:(m.map (·.1)).length≤400000:=by
      have h1:=strict_len_le hnd (m:=reachS l f) fun x hx=>mem_reach.2 (hre x (.inr hx))
      have:=reach_len l f;omega
    refine W.exit (thn_x (thn_x (blk_hit ?_)));refine thn_n (W.seq (W.region (L.val (x_mv (v:=.map _) rfl) rfl ?_)));refine L.ret (x_call kgrf_en27 rfl) rfl (keys_ok _ _) ?_;rintro _ w42 ⟨rfl,bx42,hw⟩;have hB:=hB.carry hw;have mp:=mp.carry hw;have hs42:=hB.size;refine L.ret (x_call kgrf_en26 rfl) rfl (sorted_ok _ _ ((encI m).map (·.1)) _ kgrf_en50 (by rw [encI_keys];omega) (fun _ h=>h) (by rw [List.length_map];exact keys_seq _ _ _ (encI m) _ bx42.lt (bx42.cell (i:=0) rfl) mp.str)) ?_;rintro v43 w43 ⟨hS,hw⟩;have hB:=hB.carry hw;have mp:=mp.carry hw;rw [encI_keys] at hS;have hL:=sortedNew_left hS hnd;rw [hE] at hL;have hR:=(hL.weak hs42).strs (reach_short hxl hxf) (by have:=reach_len l f;omega) (fun k=>k<w.heap.size) (fun j hj e=>by have e:j<_:=e;omega);obtain ⟨p43,c43,rfl,-⟩:=hL.shape;refine L.val (x_as (v:=.slice _ _ _) rfl) rfl ?_;refine L.nil (thn_n (W.ret (fin_mk (.inr rfl) ?_)));exact ⟨hR,hB⟩
end Go.Gx
namespace Go.Gx
open Go.Proofs Go.Sort
theorem kgrg_en28:Go.Proofs.Enters Try.prog 28:=Go.Proofs.enters_of Try.func28 kr_ rfl
theorem kgrg_en29:Go.Proofs.Enters Try.prog 29:=Go.Proofs.enters_of Try.func29 kr_ rfl
theorem kgrg_en30:Go.Proofs.Enters Try.prog 30:=Go.Proofs.enters_of Try.func30 kr_ rfl
theorem kgrg_fo36_0:fieldOff Try.prog 36 0=some 0:=by kernel_rfl
theorem kgrg_fo36_1:fieldOff Try.prog 36 1=some 1:=by kernel_rfl
theorem kgrg_oc9:oneCellT Try.prog 9=true:=by kernel_rfl
theorem kgrg_sz36:(Try.prog.info? 36).map (·.size)=some 2:=by kernel_rfl
set_option maxHeartbeats 1000000 in
theorem reachR (A0 A1:Nat→Prop) (v u:Value) (l:List Arc) (f:List Str) (w:World) (h0:ArcsAt A0 w v l) (h1:StrsAt A1 w u f) (hll:f.length+l.length≤400000):
    Ret Try.prog 13 #[v,u] w fun r w'=>StrsAt (fun k=>k<w.heap.size) w' r (reachS l f)∧Bel w w':=by
  obtain ⟨p,cap,row,rfl,a1,a2,a3,hr⟩:=h0;have hxl:=arcs_len hr;have hxf:=h1.short;obtain ⟨q,cq,rfl,-⟩:=id h1;have hun:∀ L:List Str,Strict L→(∀ x∈L,Rch l f x)→L.length≤f.length+l.length:=fun L hs hL=>by
    have:=strict_len_le hs.nodup (m:=reachS l f) fun x hx=>mem_reach.2 (hL x hx)
    have:=reach_len l f;omega
  refine ret_of_W Try.func13 rfl (Nat.le_of_ble_eq_true rfl) (res1 rfl) ?_;have hB:=Gr.refl (fun _=>False) w;refine W.seq (W.region (L.val (x_as (v:=.slice _ _ _) rfl) rfl ?_));refine L.nil (thn_n (W.seq (W.region (L.val (x_mv (v:=.slice _ _ _) rfl) rfl ?_))));refine L.ret (x_call kgrg_en28 rfl) rfl (once36 _ _ f _ h1 om_) ?_;rintro v9 w9 ⟨ho,hw⟩;have hB:=hB.carry hw;have hr:=hr.carry hw;obtain ⟨p9,c9,e9,-⟩:=id ho;subst e9;refine L.val (x_as (v:=.slice _ _ _) rfl) rfl ?_;refine L.nil (thn_n (W.block (W.loop (fun m' E w'=>∃ (out:List Str) (vo:Value),m'=f.length+l.length+1 - out.length∧E 0=.slice p l.length cap∧E 5=vo∧(Bel w w')∧(RecRow ArC 2 A0 w' p row l)∧(StrsAt (fun k=>k<w.heap.size) w' vo out)∧(Strict out)∧(∀ x∈out,Rch l f x)∧(∀ x∈f,x∈out)) (f.length+l.length+1 - (onceL f).length) ?_ ?_)))
  ·exact ⟨onceL f,_,by omega,by first | rfl | exact vi om_ | exact vs (by first | assumption | (rw [hst];done) | (rw [hst];simp only [List.append_assoc])),by first | rfl | exact vi om_ | exact vs (by first | assumption | (rw [hst];done) | (rw [hst];simp only [List.append_assoc])),ao_,ao_,ao_,(by exact strict_once _),(by exact fun x hx=>Rch.base (mem_once.1 hx)),(by exact fun x hx=>mem_once.2 hx)⟩
  ·rintro _ E wL10 ⟨out,vo,em,e0,e5,hB,hr,ho,hst,hre,hfr⟩;rw [upd_self e0,upd_self e5];refine W.block (W.seq (W.region ?_));obtain ⟨po,co,eo,-⟩:=id ho;subst eo;have hol:=hun out hst hre;have hsL:=hB.size;refine L.val (x_mv (v:=.slice _ _ _) rfl) rfl ?_;refine L.val (x_as (v:=.slice _ _ _) rfl) rfl ?_;refine L.nil (thn_n (W.seq (W.seq (W.region (L.val (x_as (v:=.int _ _) rfl) rfl ?_)))));refine L.nil (thn_n (W.block (W.loop (fun m' E w'=>∃ (i:Nat) (nx:List Str) (vn:Value),m'=l.length - i∧E 0=.slice p l.length cap∧E 5=.slice po out.length co∧E 6=vn∧E 7=.int .i64 (i:Nat)∧(i≤l.length)∧(Bel w w')∧(RecRow ArC 2 A0 w' p row l)∧(StrsAt (fun k=>k<w.heap.size) w' (.slice po out.length co) out)∧(StrsAt (fun k=>k<w.heap.size) w' vn nx)∧(Strict nx)∧(∀ x∈nx,Rch l f x)∧(∀ x∈out,x∈nx)∧(∀ a∈l.take i,a.1∈out→a.2∈nx)) (l.length) ?_ ?_)))
   ·exact ⟨0,out,_,by omega,by first | rfl | exact vi om_ | exact vs (by first | assumption | (rw [hst];done) | (rw [hst];simp only [List.append_assoc])),by first | rfl | exact vi om_ | exact vs (by first | assumption | (rw [hst];done) | (rw [hst];simp only [List.append_assoc])),by first | rfl | exact vi om_ | exact vs (by first | assumption | (rw [hst];done) | (rw [hst];simp only [List.append_assoc])),by first | rfl | exact vi om_ | exact vs (by first | assumption | (rw [hst];done) | (rw [hst];simp only [List.append_assoc])),ao_,ao_,ao_,ao_,ao_,ao_,ao_,(by exact fun _ h=>h),(by intro a ha;simp at ha)⟩
   ·rintro _ E wL11 ⟨i,nx,vn,em,e0,e5,e6,e7,hi,hB,hr,ho,hn,hnst,hnre,hsub,hcl⟩;rw [upd_self e0,upd_self e5,upd_self e6,upd_self e7];refine W.seq (W.seq (W.region ?_));obtain ⟨pn,cn,en,-⟩:=id hn;subst en;have hnl:=hun nx hnst hnre;have hsL2:=hB.size;refine L.val (x_mv (v:=.int _ _) rfl) rfl ?_;refine L.val (x_mv (v:=.slice _ _ _) rfl) rfl ?_;refine L.val (x_len_slice Try.underlying22 rfl) rfl ?_;refine L.val (x_lss rfl rfl) rfl ?_;refine L.nil (thn_n (W.cond (b:=_) rfl (fun g14=>?_) (fun g14=>?_)))
    ·have h14:=of_decide_eq_true g14;have hlt:i<l.length:=by omega
     obtain ⟨pb,po2,rfl,-,-⟩:=hr.elem hlt;obtain ⟨ea,hx1,hx2⟩:=hr.each i hlt;have hts:=take_snoc (d:=(default:Arc)) hlt;have hmem:l.getD i default∈l:=by rw [List.getD_eq_getElem?_getD,List.getElem?_eq_getElem hlt];exact List.getElem_mem _
     refine W.skip (thn_n (W.seq (W.block (W.seq (W.region (L.val (x_mv (v:=.slice _ _ _) rfl) rfl ?_))))));refine L.val (x_mv (v:=.slice _ _ _) rfl) rfl ?_;refine L.val (x_mv (v:=.int _ _) rfl) rfl ?_;refine L.val (x_ia (j:=i) Try.underlying22 kgrg_sz36 rfl rfl om_ om_) rfl ?_;refine L.val (x_fa kgrg_fo36_0 rfl) rfl ?_;refine L.val (x_ld (v:=S _) kgrg_oc9 rfl (hr.cell hlt (j:=0) (by rw [ea];rfl))) rfl ?_;refine L.ret (x_call kgrg_en29 rfl) rfl (has36 _ _ out _ _ ho) ?_;rintro _ w23 ⟨rfl,hw⟩;have hB:=hB.carry hw;have hr:=hr.carry hw;have ho:=ho.carry hw;have hn:=hn.carry hw;refine L.nil (thn_n (W.cond (b:=_) rfl (fun g23=>?_) (fun g23=>?_)))
     ·have h23:=g23;have hs23:=hB.size;have hin:(l.getD i default).1∈out:=by rw [← List.contains_iff_mem];exact g23
      have hnre2:∀ x∈addL nx (l.getD i default).2,Rch l f x:=fun x hx=>by
        rcases mem_addL.1 hx with e | hx
        · rw [e];exact Rch.step (hre _ hin) hmem
        · exact hnre x hx
      have hcl2:∀ a∈l.take (i+1),a.1∈out→a.2∈addL nx (l.getD i default).2:=fun a ha h=>by
        rw [hts] at ha;rcases List.mem_append.1 ha with ha | ha
        · exact mem_addL.2 (.inr (hcl a ha h))
        · rw [List.mem_singleton.1 ha];exact mem_addL.2 (.inl rfl)
      refine W.region (L.val (x_mv (v:=.slice _ _ _) rfl) rfl ?_);refine L.val (x_mv (v:=.slice _ _ _) rfl) rfl ?_;refine L.val (x_mv (v:=.int _ _) rfl) rfl ?_;refine L.val (x_ia (j:=i) Try.underlying22 kgrg_sz36 rfl rfl om_ om_) rfl ?_;refine L.val (x_fa kgrg_fo36_1 rfl) rfl ?_;refine L.val (x_ld (v:=S _) kgrg_oc9 rfl (hr.cell hlt (j:=1) (by rw [ea];rfl))) rfl ?_;refine L.ret (x_call kgrg_en30 rfl) rfl (add36 _ _ nx _ _ hn hx2 om_) ?_;rintro v30 w30 ⟨ha,hw⟩;have hB:=hB.carry hw;have hr:=hr.carry hw;have ho:=ho.carry hw;have hn:=hn.carry hw;have hs30:=hB.size;have hn2:=ha.mono (A':=fun j=>j<w.heap.size) (fun j _ h=>⟨h,by have h:j<w.heap.size:=h;omega⟩);obtain ⟨p30,c30,e30,-⟩:=id hn2;subst e30;refine L.val (x_as (v:=.slice _ _ _) rfl) rfl ?_;refine L.nil (blk_n (thn_n (W.region (L.val (x_mv (v:=.int _ _) rfl) rfl ?_))));refine L.val (x_add rfl rfl (wr64 om_)) rfl ?_;refine L.val (x_as (v:=.int _ _) rfl) rfl ?_;refine L.nil (thn_n ⟨rfl,?_⟩);first
        | (refine ⟨_,?_,i+1,addL nx (l.getD i default).2,_,rfl,by first | rfl | exact vi om_ | exact vs (by first | assumption | (rw [hst];done) | (rw [hst];simp only [List.append_assoc])),by first | rfl | exact vi om_ | exact vs (by first | assumption | (rw [hst];done) | (rw [hst];simp only [List.append_assoc])),by first | rfl | exact vi om_ | exact vs (by first | assumption | (rw [hst];done) | (rw [hst];simp only [List.append_assoc])),by first | rfl | exact vi om_ | exact vs (by first | assumption | (rw [hst];done) | (rw [hst];simp only [List.append_assoc])),ao_,ao_,ao_,ao_,(by first | exact hn2 | assumption),(by first | exact strict_addL hnst | assumption),(by first | exact hnre2 | assumption),(by first | exact fun x hx=>mem_addL.2 (.inr (hsub x hx)) | assumption),(by exact hcl2)⟩;omega)
        | (refine ⟨_,?_,i+1,nx,_,rfl,by first | rfl | exact vi om_ | exact vs (by first | assumption | (rw [hst];done) | (rw [hst];simp only [List.append_assoc])),by first | rfl | exact vi om_ | exact vs (by first | assumption | (rw [hst];done) | (rw [hst];simp only [List.append_assoc])),by first | rfl | exact vi om_ | exact vs (by first | assumption | (rw [hst];done) | (rw [hst];simp only [List.append_assoc])),by first | rfl | exact vi om_ | exact vs (by first | assumption | (rw [hst];done) | (rw [hst];simp only [List.append_assoc])),ao_,ao_,ao_,ao_,(by first | exact hn2 | assumption),(by first | exact strict_addL hnst | assumption),(by first | exact hnre2 | assumption),(by first | exact fun x hx=>mem_addL.2 (.inr (hsub x hx)) | assumption),(by exact hcl2)⟩;omega)
     ·have h23:=g23;have hcl2:∀ a∈l.take (i+1),a.1∈out→a.2∈nx:=fun a ha h=>by
        rw [hts] at ha;rcases List.mem_append.1 ha with ha | ha
        · exact hcl a ha h
        · rw [List.mem_singleton.1 ha] at h ⊢;rw [← List.contains_iff_mem] at h;rw [h] at g23;cases g23
      refine W.skip (blk_n (thn_n (W.region (L.val (x_mv (v:=.int _ _) rfl) rfl ?_))));refine L.val (x_add rfl rfl (wr64 om_)) rfl ?_;refine L.val (x_as (v:=.int _ _) rfl) rfl ?_;refine L.nil (thn_n ⟨rfl,?_⟩);first
        | (refine ⟨_,?_,i+1,addL nx (l.getD i default).2,_,rfl,by first | rfl | exact vi om_ | exact vs (by first | assumption | (rw [hst];done) | (rw [hst];simp only [List.append_assoc])),by first | rfl | exact vi om_ | exact vs (by first | assumption | (rw [hst];done) | (rw [hst];simp only [List.append_assoc])),by first | rfl | exact vi om_ | exact vs (by first | assumption | (rw [hst];done) | (rw [hst];simp only [List.append_assoc])),by first | rfl | exact vi om_ | exact vs (by first | assumption | (rw [hst];done) | (rw [hst];simp only [List.append_assoc])),ao_,ao_,ao_,ao_,(by first | exact hn2 | assumption),(by first | exact strict_addL hnst | assumption),(by first | exact hnre2 | assumption),(by first | exact fun x hx=>mem_addL.2 (.inr (hsub x hx)) | assumption),(by exact hcl2)⟩;omega)
        | (refine ⟨_,?_,i+1,nx,_,rfl,by first | rfl | exact vi om_ | exact vs (by first | assumption | (rw [hst];done) | (rw [hst];simp only [List.append_assoc])),by first | rfl | exact vi om_ | exact vs (by first | assumption | (rw [hst];done) | (rw [hst];simp only [List.append_assoc])),by first | rfl | exact vi om_ | exact vs (by first | assumption | (rw [hst];done) | (rw [hst];simp only [List.append_assoc])),by first | rfl | exact vi om_ | exact vs (by first | assumption | (rw [hst];done) | (rw [hst];simp only [List.append_assoc])),ao_,ao_,ao_,ao_,(by first | exact hn2 | assumption),(by first | exact strict_addL hnst | assumption),(by first | exact hnre2 | assumption),(by first | exact fun x hx=>mem_addL.2 (.inr (hsub x hx)) | assumption),(by exact hcl2)⟩;omega)
    ·have h14:=dlt_f g14;have hii:i=l.length:=by omega
     rw [hii,List.take_length] at hcl;refine W.exit (thn_x (thn_x (blk_hit ?_)));refine thn_n (W.seq (W.seq (W.region (L.val (x_mv (v:=.slice _ _ _) rfl) rfl ?_))));refine L.val (x_len_slice Try.underlying23 rfl) rfl ?_;refine L.val (x_mv (v:=.slice _ _ _) rfl) rfl ?_;refine L.val (x_len_slice Try.underlying23 rfl) rfl ?_;refine L.val (x_eql rfl rfl) rfl ?_;refine L.nil (thn_n (W.cond (b:=_) rfl (fun g35=>?_) (fun g35=>?_)))
     ·have h35:=of_decide_eq_true g35;have e:out=nx:=strict_sub_eq hst hnst hsub om_;have hE:out=reachS l f:=reach_eq hst hfr (fun a ha h=>by rw [e];exact hcl a ha h) hre;refine W.seq (W.region (L.val (x_mv (v:=.slice _ _ _) rfl) rfl ?_));refine L.val (x_as (v:=.slice _ _ _) rfl) rfl ?_;refine L.nil (thn_n (W.ret (thn_r (blk_r (thn_r (blk_r (fin_mk (.inr rfl) ?_)))))));rw [← hE];exact ⟨ho,hB⟩
     ·have h35:=of_decide_eq_false g35;have hlt2:=strict_len_le hst.nodup hsub;refine W.skip (thn_n (W.region (L.val (x_mv (v:=.slice _ _ _) rfl) rfl ?_)));refine L.val (x_as (v:=.slice _ _ _) rfl) rfl ?_;refine L.nil (blk_n (thn_n ⟨rfl,?_⟩));refine ⟨_,?_,nx,_,rfl,by first | rfl | exact vi om_ | exact vs (by first | assumption | (rw [hst];done) | (rw [hst];simp only [List.append_assoc])),by first | rfl | exact vi om_ | exact vs (by first | assumption | (rw [hst];done) | (rw [hst];simp only [List.append_assoc])),ao_,ao_,ao_,(by exact hnst),(by exact hnre),(by exact fun x hx=>hsub x (hfr x hx))⟩;omega
end Go.Gx
namespace Go.Gx
open Go.Sort
def pickL (all:List Str) (l:List Arc) (out:List Str):Option Str:=all.find? fun n=>!out.contains n && readyL l n out
def ordF (all:List Str) (l:List Arc):Nat→List Str→Option (List Str)
  | 0,out=>some out
  | k+1,out=>(pickL all l out).bind fun n=>ordF all l k (out++[n])
def ordS (names:List Str) (l:List Arc):Option (List Str):=ordF (onceL names) (countL (onceL names) l) (onceL names).length []
def ansO {α : Type}:Option (List α)→List α × Int
  | some o=>(o,0)
  | none=>([],360)
def leftL (all out:List Str):List Str:=all.filter fun n=>!out.contains n
theorem pick_left (all:List Str) (l:List Arc) (out:List Str):pickL all l out=(leftL all out).find? fun n=>readyL l n out:=by
  unfold pickL leftL;rw [List.find?_filter];congr 1;funext n;rw [Bool.eq_iff_iff];simp
theorem pick_mem {all:List Str} {l:List Arc} {out:List Str} {n:Str} (h:pickL all l out=some n):n∈all∧n∉out∧readyL l n out=true:=by
  have h1:=List.find?_some h;have h2:=List.mem_of_find?_eq_some h;rw [Bool.and_eq_true] at h1;exact ⟨h2,by simpa using h1.1,h1.2⟩
theorem find_none_take {α : Type} {p:α → Bool} {l:List α} {i:Nat} (d:α) (hi:i<l.length) (h:(l.take i).find? p=none) (hp:p (l.getD i d)=false):(l.take (i+1)).find? p=none:=by
  rw [List.take_succ_eq_append_getElem hi,List.find?_append,h,Option.none_or];rw [List.getD_eq_getElem?_getD,List.getElem?_eq_getElem hi] at hp;have hp:p l[i]=false:=hp;simp [hp]
theorem find_some_take {α : Type} {p:α → Bool} {l:List α} {i:Nat} (d:α) (hi:i<l.length) (h:(l.take i).find? p=none) (hp:p (l.getD i d)=true):l.find? p=some (l.getD i d):=by
  have e:l.find? p=(l.take i++l.drop i).find? p:=by rw [List.take_append_drop]
  rw [List.getD_eq_getElem?_getD,List.getElem?_eq_getElem hi] at hp ⊢;have hp:p l[i]=true:=hp;rw [e,List.find?_append,h,Option.none_or,List.drop_eq_getElem_cons hi,List.find?_cons,hp];rfl
theorem erase_filter:∀ {l:List Str} {i:Nat},i<l.length→l.Nodup→l.eraseIdx i=l.filter fun n=>n != l.getD i []
  | [],i,h,_=>by simp at h
  | x :: l,0,_,hn=>by
    rw [List.nodup_cons] at hn;rw [List.eraseIdx_zero,List.tail_cons];show l=(x :: l).filter fun n=>n != x
    rw [List.filter_cons,if_neg (by simp)];refine (List.filter_eq_self.2 fun y hy=>?_).symm;rw [bne_iff_ne];exact fun e=>hn.1 (by rw [← e];exact hy)
  | x :: l,i+1,h,hn=>by
    rw [List.nodup_cons] at hn;have hi:i<l.length:=by simpa using h
    have hm:l.getD i []∈l:=by rw [List.getD_eq_getElem?_getD,List.getElem?_eq_getElem hi];exact List.getElem_mem _
    rw [List.eraseIdx_cons_succ,erase_filter hi hn.2];show _=(x :: l).filter fun n=>n != l.getD i []
    rw [List.filter_cons,if_pos (by rw [bne_iff_ne];exact fun e=>hn.1 (by rw [e];exact hm))]
theorem left_step {all out:List Str} {i:Nat} (hn:all.Nodup) (hi:i<(leftL all out).length):(leftL all out).eraseIdx i=leftL all (out++[(leftL all out).getD i []]):=by
  have hnl:(leftL all out).Nodup:=List.Nodup.sublist List.filter_sublist hn;rw [erase_filter hi hnl];obtain ⟨x,hx⟩:∃ x,x=(leftL all out).getD i []:=⟨_,rfl⟩;rw [← hx];unfold leftL;rw [List.filter_filter];congr 1;funext n;rw [Bool.eq_iff_iff];simp only [Bool.and_eq_true,bne_iff_ne,ne_eq,Bool.not_eq_true',List.contains_eq_mem,List.mem_append,List.mem_singleton,decide_eq_false_iff_not,not_or];exact and_comm
def DoneL (all done:List Str):Prop:=done.Nodup∧∀ x∈done,x∈all
theorem DoneL.nil (all:List Str):DoneL all []:=⟨List.nodup_nil,fun x h=>by cases h⟩
theorem DoneL.snoc {all done:List Str} {n:Str} (h:DoneL all done) (h1:n∈all) (h2:n∉done):DoneL all (done++[n]):=by
  refine ⟨List.nodup_append.2 ⟨h.1,by simp,fun a ha b hb e=>?_⟩,fun x hx=>?_⟩
  · rw [List.mem_singleton.1 hb] at e;rw [e] at ha;exact h2 ha
  · rcases List.mem_append.1 hx with hx | hx
    · exact h.2 x hx
    · rw [List.mem_singleton.1 hx];exact h1
theorem left_len {all done:List Str} (hn:all.Nodup) (h:DoneL all done):(leftL all done).length+done.length=all.length:=by
  have hp:(leftL all done++done).Perm all:=by
    refine (List.perm_ext_iff_of_nodup ?_ hn).2 fun x=>?_
    · refine List.nodup_append.2 ⟨List.Nodup.sublist List.filter_sublist hn,h.1,fun a ha b hb e=>?_⟩;rw [← e] at hb;unfold leftL at ha;have:=(List.mem_filter.1 ha).2;simp [hb] at this
    · rw [List.mem_append];unfold leftL;rw [List.mem_filter];constructor
      · rintro (h1 | h1)
        · exact h1.1
        · exact h.2 x h1
      · intro hx;by_cases e:x∈done
        · exact .inr e
        · exact .inl ⟨hx,by simpa using e⟩
  have:=hp.length_eq
  rwa [List.length_append] at this
end Go.Gx
namespace Go.Gx
open Go.Proofs Go.Sort
theorem once_short {l:List Str} (h:∀ x∈l,x.length≤9223372036854775807):∀ x∈onceL l,x.length≤9223372036854775807:=fun x hx=>h x (mem_once.1 hx)
theorem once_len (l:List Str):(onceL l).length≤l.length:=strict_len_le (strict_once l).nodup fun x hx=>mem_once.1 hx
end Go.Gx
