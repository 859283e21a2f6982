/- What arcs reach: the document's. Conditions: none. -/
import Derived.Test.YtigcdmnhmfeioaaGbGrE
import Derived.Test.YtigcdmnhmfeioaaGbRec
namespace Go.Gx
open Go.Proofs Go.Sort
theorem kgrg_en28:Go.Proofs.Enters Try.prog 28:=Go.Proofs.enters_of Try.func28 kr_ rfl
theorem kgrg_en29:Go.Proofs.Enters Try.prog 29:=Go.Proofs.enters_of Try.func29 kr_ rfl
theorem kgrg_en30:Go.Proofs.Enters Try.prog 30:=Go.Proofs.enters_of Try.func30 kr_ rfl
theorem kgrg_fo36_0:fieldOff Try.prog 36 0=some 0:=by kernel_rfl
theorem kgrg_fo36_1:fieldOff Try.prog 36 1=some 1:=by kernel_rfl
theorem kgrg_oc9:oneCellT Try.prog 9=true:=by kernel_rfl
theorem kgrg_sz36:(Try.prog.info? 36).map (·.size)=some 2:=by kernel_rfl
set_option maxHeartbeats 1000000 in
theorem reachR (A0 A1:Nat→Prop) (v u:Value) (l:List Arc) (f:List Str) (w:World) (h0:ArcsAt A0 w v l) (h1:StrsAt A1 w u f) (hll:f.length+l.length≤400000):
    Ret Try.prog 13 #[v,u] w fun r w'=>StrsAt (fun k=>k<w.heap.size) w' r (reachS l f)∧Bel w w':=by
  obtain ⟨p,cap,row,rfl,a1,a2,a3,hr⟩:=h0;have hxl:=arcs_len hr;have hxf:=h1.short;obtain ⟨q,cq,rfl,-⟩:=id h1;have hun:∀ L:List Str,Strict L→(∀ x∈L,Rch l f x)→L.length≤f.length+l.length:=fun L hs hL=>by
    have:=strict_len_le hs.nodup (m:=reachS l f) fun x hx=>mem_reach.2 (hL x hx)
    have:=reach_len l f;omega
  refine ret_of_W Try.func13 rfl (Nat.le_of_ble_eq_true rfl) (res1 rfl) ?_;have hB:=Gr.refl (fun _=>False) w;refine W.seq (W.region (L.val (x_as (v:=.slice _ _ _) rfl) rfl ?_));refine L.nil (thn_n (W.seq (W.region (L.val (x_mv (v:=.slice _ _ _) rfl) rfl ?_))));refine L.ret (x_call kgrg_en28 rfl) rfl (once36 _ _ f _ h1 om_) ?_;rintro v9 w9 ⟨ho,hw⟩;have hB:=hB.carry hw;have hr:=hr.carry hw;obtain ⟨p9,c9,e9,-⟩:=id ho;subst e9;refine L.val (x_as (v:=.slice _ _ _) rfl) rfl ?_;refine L.nil (thn_n (W.block (W.loop (fun m' E w'=>∃ (out:List Str) (vo:Value),m'=f.length+l.length+1 - out.length∧E 0=.slice p l.length cap∧E 5=vo∧(Bel w w')∧(RecRow ArC 2 A0 w' p row l)∧(StrsAt (fun k=>k<w.heap.size) w' vo out)∧(Strict out)∧(∀ x∈out,Rch l f x)∧(∀ x∈f,x∈out)) (f.length+l.length+1 - (onceL f).length) ?_ ?_)))
  ·exact ⟨onceL f,_,by omega,by first | rfl | exact vi om_ | exact vs (by first | assumption | (rw [hst];done) | (rw [hst];simp only [List.append_assoc])),by first | rfl | exact vi om_ | exact vs (by first | assumption | (rw [hst];done) | (rw [hst];simp only [List.append_assoc])),ao_,ao_,ao_,(by exact strict_once _),(by exact fun x hx=>Rch.base (mem_once.1 hx)),(by exact fun x hx=>mem_once.2 hx)⟩
  ·rintro _ E wL10 ⟨out,vo,em,e0,e5,hB,hr,ho,hst,hre,hfr⟩;rw [upd_self e0,upd_self e5];refine W.block (W.seq (W.region ?_));obtain ⟨po,co,eo,-⟩:=id ho;subst eo;have hol:=hun out hst hre;have hsL:=hB.size;refine L.val (x_mv (v:=.slice _ _ _) rfl) rfl ?_;refine L.val (x_as (v:=.slice _ _ _) rfl) rfl ?_;refine L.nil (thn_n (W.seq (W.seq (W.region (L.val (x_as (v:=.int _ _) rfl) rfl ?_)))));refine L.nil (thn_n (W.block (W.loop (fun m' E w'=>∃ (i:Nat) (nx:List Str) (vn:Value),m'=l.length - i∧E 0=.slice p l.length cap∧E 5=.slice po out.length co∧E 6=vn∧E 7=.int .i64 (i:Nat)∧(i≤l.length)∧(Bel w w')∧(RecRow ArC 2 A0 w' p row l)∧(StrsAt (fun k=>k<w.heap.size) w' (.slice po out.length co) out)∧(StrsAt (fun k=>k<w.heap.size) w' vn nx)∧(Strict nx)∧(∀ x∈nx,Rch l f x)∧(∀ x∈out,x∈nx)∧(∀ a∈l.take i,a.1∈out→a.2∈nx)) (l.length) ?_ ?_)))
   ·exact ⟨0,out,_,by omega,by first | rfl | exact vi om_ | exact vs (by first | assumption | (rw [hst];done) | (rw [hst];simp only [List.append_assoc])),by first | rfl | exact vi om_ | exact vs (by first | assumption | (rw [hst];done) | (rw [hst];simp only [List.append_assoc])),by first | rfl | exact vi om_ | exact vs (by first | assumption | (rw [hst];done) | (rw [hst];simp only [List.append_assoc])),by first | rfl | exact vi om_ | exact vs (by first | assumption | (rw [hst];done) | (rw [hst];simp only [List.append_assoc])),ao_,ao_,ao_,ao_,ao_,ao_,ao_,(by exact fun _ h=>h),(by intro a ha;simp at ha)⟩
   ·rintro _ E wL11 ⟨i,nx,vn,em,e0,e5,e6,e7,hi,hB,hr,ho,hn,hnst,hnre,hsub,hcl⟩;rw [upd_self e0,upd_self e5,upd_self e6,upd_self e7];refine W.seq (W.seq (W.region ?_));obtain ⟨pn,cn,en,-⟩:=id hn;subst en;have hnl:=hun nx hnst hnre;have hsL2:=hB.size;refine L.val (x_mv (v:=.int _ _) rfl) rfl ?_;refine L.val (x_mv (v:=.slice _ _ _) rfl) rfl ?_;refine L.val (x_len_slice Try.underlying22 rfl) rfl ?_;refine L.val (x_lss rfl rfl) rfl ?_;refine L.nil (thn_n (W.cond (b:=_) rfl (fun g14=>?_) (fun g14=>?_)))
    ·have h14:=of_decide_eq_true g14;have hlt:i<l.length:=by omega
     obtain ⟨pb,po2,rfl,-,-⟩:=hr.elem hlt;obtain ⟨ea,hx1,hx2⟩:=hr.each i hlt;have hts:=take_snoc (d:=(default:Arc)) hlt;have hmem:l.getD i default∈l:=by rw [List.getD_eq_getElem?_getD,List.getElem?_eq_getElem hlt];exact List.getElem_mem _
     refine W.skip (thn_n (W.seq (W.block (W.seq (W.region (L.val (x_mv (v:=.slice _ _ _) rfl) rfl ?_))))));refine L.val (x_mv (v:=.slice _ _ _) rfl) rfl ?_;refine L.val (x_mv (v:=.int _ _) rfl) rfl ?_;refine L.val (x_ia (j:=i) Try.underlying22 kgrg_sz36 rfl rfl om_ om_) rfl ?_;refine L.val (x_fa kgrg_fo36_0 rfl) rfl ?_;refine L.val (x_ld (v:=S _) kgrg_oc9 rfl (hr.cell hlt (j:=0) (by rw [ea];rfl))) rfl ?_;refine L.ret (x_call kgrg_en29 rfl) rfl (has36 _ _ out _ _ ho) ?_;rintro _ w23 ⟨rfl,hw⟩;have hB:=hB.carry hw;have hr:=hr.carry hw;have ho:=ho.carry hw;have hn:=hn.carry hw;refine L.nil (thn_n (W.cond (b:=_) rfl (fun g23=>?_) (fun g23=>?_)))
     ·have h23:=g23;have hs23:=hB.size;have hin:(l.getD i default).1∈out:=by rw [← List.contains_iff_mem];exact g23
      have hnre2:∀ x∈addL nx (l.getD i default).2,Rch l f x:=fun x hx=>by
        rcases mem_addL.1 hx with e | hx
        · rw [e];exact Rch.step (hre _ hin) hmem
        · exact hnre x hx
      have hcl2:∀ a∈l.take (i+1),a.1∈out→a.2∈addL nx (l.getD i default).2:=fun a ha h=>by
        rw [hts] at ha;rcases List.mem_append.1 ha with ha | ha
        · exact mem_addL.2 (.inr (hcl a ha h))
        · rw [List.mem_singleton.1 ha];exact mem_addL.2 (.inl rfl)
      refine W.region (L.val (x_mv (v:=.slice _ _ _) rfl) rfl ?_);refine L.val (x_mv (v:=.slice _ _ _) rfl) rfl ?_;refine L.val (x_mv (v:=.int _ _) rfl) rfl ?_;refine L.val (x_ia (j:=i) Try.underlying22 kgrg_sz36 rfl rfl om_ om_) rfl ?_;refine L.val (x_fa kgrg_fo36_1 rfl) rfl ?_;refine L.val (x_ld (v:=S _) kgrg_oc9 rfl (hr.cell hlt (j:=1) (by rw [ea];rfl))) rfl ?_;refine L.ret (x_call kgrg_en30 rfl) rfl (add36 _ _ nx _ _ hn hx2 om_) ?_;rintro v30 w30 ⟨ha,hw⟩;have hB:=hB.carry hw;have hr:=hr.carry hw;have ho:=ho.carry hw;have hn:=hn.carry hw;have hs30:=hB.size;have hn2:=ha.mono (A':=fun j=>j<w.heap.size) (fun j _ h=>⟨h,by have h:j<w.heap.size:=h;omega⟩);obtain ⟨p30,c30,e30,-⟩:=id hn2;subst e30;refine L.val (x_as (v:=.slice _ _ _) rfl) rfl ?_;refine L.nil (blk_n (thn_n (W.region (L.val (x_mv (v:=.int _ _) rfl) rfl ?_))));refine L.val (x_add rfl rfl (wr64 om_)) rfl ?_;refine L.val (x_as (v:=.int _ _) rfl) rfl ?_;refine L.nil (thn_n ⟨rfl,?_⟩);first
        | (refine ⟨_,?_,i+1,addL nx (l.getD i default).2,_,rfl,by first | rfl | exact vi om_ | exact vs (by first | assumption | (rw [hst];done) | (rw [hst];simp only [List.append_assoc])),by first | rfl | exact vi om_ | exact vs (by first | assumption | (rw [hst];done) | (rw [hst];simp only [List.append_assoc])),by first | rfl | exact vi om_ | exact vs (by first | assumption | (rw [hst];done) | (rw [hst];simp only [List.append_assoc])),by first | rfl | exact vi om_ | exact vs (by first | assumption | (rw [hst];done) | (rw [hst];simp only [List.append_assoc])),ao_,ao_,ao_,ao_,(by first | exact hn2 | assumption),(by first | exact strict_addL hnst | assumption),(by first | exact hnre2 | assumption),(by first | exact fun x hx=>mem_addL.2 (.inr (hsub x hx)) | assumption),(by exact hcl2)⟩;omega)
        | (refine ⟨_,?_,i+1,nx,_,rfl,by first | rfl | exact vi om_ | exact vs (by first | assumption | (rw [hst];done) | (rw [hst];simp only [List.append_assoc])),by first | rfl | exact vi om_ | exact vs (by first | assumption | (rw [hst];done) | (rw [hst];simp only [List.append_assoc])),by first | rfl | exact vi om_ | exact vs (by first | assumption | (rw [hst];done) | (rw [hst];simp only [List.append_assoc])),by first | rfl | exact vi om_ | exact vs (by first | assumption | (rw [hst];done) | (rw [hst];simp only [List.append_assoc])),ao_,ao_,ao_,ao_,(by first | exact hn2 | assumption),(by first | exact strict_addL hnst | assumption),(by first | exact hnre2 | assumption),(by first | exact fun x hx=>mem_addL.2 (.inr (hsub x hx)) | assumption),(by exact hcl2)⟩;omega)
     ·have h23:=g23;have hcl2:∀ a∈l.take (i+1),a.1∈out→a.2∈nx:=fun a ha h=>by
        rw [hts] at ha;rcases List.mem_append.1 ha with ha | ha
        · exact hcl a ha h
        · rw [List.mem_singleton.1 ha] at h ⊢;rw [← List.contains_iff_mem] at h;rw [h] at g23;cases g23
      refine W.skip (blk_n (thn_n (W.region (L.val (x_mv (v:=.int _ _) rfl) rfl ?_))));refine L.val (x_add rfl rfl (wr64 om_)) rfl ?_;refine L.val (x_as (v:=.int _ _) rfl) rfl ?_;refine L.nil (thn_n ⟨rfl,?_⟩);first
        | (refine ⟨_,?_,i+1,addL nx (l.getD i default).2,_,rfl,by first | rfl | exact vi om_ | exact vs (by first | assumption | (rw [hst];done) | (rw [hst];simp only [List.append_assoc])),by first | rfl | exact vi om_ | exact vs (by first | assumption | (rw [hst];done) | (rw [hst];simp only [List.append_assoc])),by first | rfl | exact vi om_ | exact vs (by first | assumption | (rw [hst];done) | (rw [hst];simp only [List.append_assoc])),by first | rfl | exact vi om_ | exact vs (by first | assumption | (rw [hst];done) | (rw [hst];simp only [List.append_assoc])),ao_,ao_,ao_,ao_,(by first | exact hn2 | assumption),(by first | exact strict_addL hnst | assumption),(by first | exact hnre2 | assumption),(by first | exact fun x hx=>mem_addL.2 (.inr (hsub x hx)) | assumption),(by exact hcl2)⟩;omega)
        | (refine ⟨_,?_,i+1,nx,_,rfl,by first | rfl | exact vi om_ | exact vs (by first | assumption | (rw [hst];done) | (rw [hst];simp only [List.append_assoc])),by first | rfl | exact vi om_ | exact vs (by first | assumption | (rw [hst];done) | (rw [hst];simp only [List.append_assoc])),by first | rfl | exact vi om_ | exact vs (by first | assumption | (rw [hst];done) | (rw [hst];simp only [List.append_assoc])),by first | rfl | exact vi om_ | exact vs (by first | assumption | (rw [hst];done) | (rw [hst];simp only [List.append_assoc])),ao_,ao_,ao_,ao_,(by first | exact hn2 | assumption),(by first | exact strict_addL hnst | assumption),(by first | exact hnre2 | assumption),(by first | exact fun x hx=>mem_addL.2 (.inr (hsub x hx)) | assumption),(by exact hcl2)⟩;omega)
    ·have h14:=dlt_f g14;have hii:i=l.length:=by omega
     rw [hii,List.take_length] at hcl;refine W.exit (thn_x (thn_x (blk_hit ?_)));refine thn_n (W.seq (W.seq (W.region (L.val (x_mv (v:=.slice _ _ _) rfl) rfl ?_))));refine L.val (x_len_slice Try.underlying23 rfl) rfl ?_;refine L.val (x_mv (v:=.slice _ _ _) rfl) rfl ?_;refine L.val (x_len_slice Try.underlying23 rfl) rfl ?_;refine L.val (x_eql rfl rfl) rfl ?_;refine L.nil (thn_n (W.cond (b:=_) rfl (fun g35=>?_) (fun g35=>?_)))
     ·have h35:=of_decide_eq_true g35;have e:out=nx:=strict_sub_eq hst hnst hsub om_;have hE:out=reachS l f:=reach_eq hst hfr (fun a ha h=>by rw [e];exact hcl a ha h) hre;refine W.seq (W.region (L.val (x_mv (v:=.slice _ _ _) rfl) rfl ?_));refine L.val (x_as (v:=.slice _ _ _) rfl) rfl ?_;refine L.nil (thn_n (W.ret (thn_r (blk_r (thn_r (blk_r (fin_mk (.inr rfl) ?_)))))));rw [← hE];exact ⟨ho,hB⟩
     ·have h35:=of_decide_eq_false g35;have hlt2:=strict_len_le hst.nodup hsub;refine W.skip (thn_n (W.region (L.val (x_mv (v:=.slice _ _ _) rfl) rfl ?_)));refine L.val (x_as (v:=.slice _ _ _) rfl) rfl ?_;refine L.nil (blk_n (thn_n ⟨rfl,?_⟩));refine ⟨_,?_,nx,_,rfl,by first | rfl | exact vi om_ | exact vs (by first | assumption | (rw [hst];done) | (rw [hst];simp only [List.append_assoc])),by first | rfl | exact vi om_ | exact vs (by first | assumption | (rw [hst];done) | (rw [hst];simp only [List.append_assoc])),ao_,ao_,ao_,(by exact hnst),(by exact hnre),(by exact fun x hx=>hsub x (hfr x hx))⟩;omega
end Go.Gx
namespace Go.Gx
open Go.Sort
def pickL (all:List Str) (l:List Arc) (out:List Str):Option Str:=all.find? fun n=>!out.contains n && readyL l n out
def ordF (all:List Str) (l:List Arc):Nat→List Str→Option (List Str)
  | 0,out=>some out
  | k+1,out=>(pickL all l out).bind fun n=>ordF all l k (out++[n])
def ordS (names:List Str) (l:List Arc):Option (List Str):=ordF (onceL names) (countL (onceL names) l) (onceL names).length []
def ansO {α : Type}:Option (List α)→List α × Int
  | some o=>(o,0)
  | none=>([],360)
def leftL (all out:List Str):List Str:=all.filter fun n=>!out.contains n
theorem pick_left (all:List Str) (l:List Arc) (out:List Str):pickL all l out=(leftL all out).find? fun n=>readyL l n out:=by
  unfold pickL leftL;rw [List.find?_filter];congr 1;funext n;rw [Bool.eq_iff_iff];simp
theorem pick_mem {all:List Str} {l:List Arc} {out:List Str} {n:Str} (h:pickL all l out=some n):n∈all∧n∉out∧readyL l n out=true:=by
  have h1:=List.find?_some h;have h2:=List.mem_of_find?_eq_some h;rw [Bool.and_eq_true] at h1;exact ⟨h2,by simpa using h1.1,h1.2⟩
theorem find_none_take {α : Type} {p:α → Bool} {l:List α} {i:Nat} (d:α) (hi:i<l.length) (h:(l.take i).find? p=none) (hp:p (l.getD i d)=false):(l.take (i+1)).find? p=none:=by
  rw [List.take_succ_eq_append_getElem hi,List.find?_append,h,Option.none_or];rw [List.getD_eq_getElem?_getD,List.getElem?_eq_getElem hi] at hp;have hp:p l[i]=false:=hp;simp [hp]
theorem find_some_take {α : Type} {p:α → Bool} {l:List α} {i:Nat} (d:α) (hi:i<l.length) (h:(l.take i).find? p=none) (hp:p (l.getD i d)=true):l.find? p=some (l.getD i d):=by
  have e:l.find? p=(l.take i++l.drop i).find? p:=by rw [List.take_append_drop]
  rw [List.getD_eq_getElem?_getD,List.getElem?_eq_getElem hi] at hp ⊢;have hp:p l[i]=true:=hp;rw [e,List.find?_append,h,Option.none_or,List.drop_eq_getElem_cons hi,List.find?_cons,hp];rfl
theorem erase_filter:∀ {l:List Str} {i:Nat},i<l.length→l.Nodup→l.eraseIdx i=l.filter fun n=>n != l.getD i []
  | [],i,h,_=>by simp at h
  | x :: l,0,_,hn=>by
    rw [List.nodup_cons] at hn;rw [List.eraseIdx_zero,List.tail_cons];show l=(x :: l).filter fun n=>n != x
    rw [List.filter_cons,if_neg (by simp)];refine (List.filter_eq_self.2 fun y hy=>?_).symm;rw [bne_iff_ne];exact fun e=>hn.1 (by rw [← e];exact hy)
  | x :: l,i+1,h,hn=>by
    rw [List.nodup_cons] at hn;have hi:i<l.length:=by simpa using h
    have hm:l.getD i []∈l:=by rw [List.getD_eq_getElem?_getD,List.getElem?_eq_getElem hi];exact List.getElem_mem _
    rw [List.eraseIdx_cons_succ,erase_filter hi hn.2];show _=(x :: l).filter fun n=>n != l.getD i []
    rw [List.filter_cons,if_pos (by rw [bne_iff_ne];exact fun e=>hn.1 (by rw [e];exact hm))]
theorem left_step {all out:List Str} {i:Nat} (hn:all.Nodup) (hi:i<(leftL all out).length):(leftL all out).eraseIdx i=leftL all (out++[(leftL all out).getD i []]):=by
  have hnl:(leftL all out).Nodup:=List.Nodup.sublist List.filter_sublist hn;rw [erase_filter hi hnl];obtain ⟨x,hx⟩:∃ x,x=(leftL all out).getD i []:=⟨_,rfl⟩;rw [← hx];unfold leftL;rw [List.filter_filter];congr 1;funext n;rw [Bool.eq_iff_iff];simp only [Bool.and_eq_true,bne_iff_ne,ne_eq,Bool.not_eq_true',List.contains_eq_mem,List.mem_append,List.mem_singleton,decide_eq_false_iff_not,not_or];exact and_comm
def DoneL (all done:List Str):Prop:=done.Nodup∧∀ x∈done,x∈all
theorem DoneL.nil (all:List Str):DoneL all []:=⟨List.nodup_nil,fun x h=>by cases h⟩
theorem DoneL.snoc {all done:List Str} {n:Str} (h:DoneL all done) (h1:n∈all) (h2:n∉done):DoneL all (done++[n]):=by
  refine ⟨List.nodup_append.2 ⟨h.1,by simp,fun a ha b hb e=>?_⟩,fun x hx=>?_⟩
  · rw [List.mem_singleton.1 hb] at e;rw [e] at ha;exact h2 ha
  · rcases List.mem_append.1 hx with hx | hx
    · exact h.2 x hx
    · rw [List.mem_singleton.1 hx];exact h1
theorem left_len {all done:List Str} (hn:all.Nodup) (h:DoneL all done):(leftL all done).length+done.length=all.length:=by
  have hp:(leftL all done++done).Perm all:=by
    refine (List.perm_ext_iff_of_nodup ?_ hn).2 fun x=>?_
    · refine List.nodup_append.2 ⟨List.Nodup.sublist List.filter_sublist hn,h.1,fun a ha b hb e=>?_⟩;rw [← e] at hb;unfold leftL at ha;have:=(List.mem_filter.1 ha).2;simp [hb] at this
    · rw [List.mem_append];unfold leftL;rw [List.mem_filter];constructor
      · rintro (h1 | h1)
        · exact h1.1
        · exact h.2 x h1
      · intro hx;by_cases e:x∈done
        · exact .inr e
        · exact .inl ⟨hx,by simpa using e⟩
  have:=hp.length_eq
  rwa [List.length_append] at this
end Go.Gx
namespace Go.Gx
open Go.Proofs Go.Sort
theorem once_short {l:List Str} (h:∀ x∈l,x.length≤9223372036854775807):∀ x∈onceL l,x.length≤9223372036854775807:=fun x hx=>h x (mem_once.1 hx)
theorem once_len (l:List Str):(onceL l).length≤l.length:=strict_len_le (strict_once l).nodup fun x hx=>mem_once.1 hx
end Go.Gx
namespace Go.Gx
open Go.Proofs Go.Sort
theorem kgrj_el9:elT Try.prog 9 1=true:=by kernel_rfl
theorem kgrj_en24:Go.Proofs.Enters Try.prog 24:=Go.Proofs.enters_of Try.func24 kr_ rfl
theorem kgrj_en34:Go.Proofs.Enters Try.prog 34:=Go.Proofs.enters_of Try.func34 kr_ rfl
theorem kgrj_en35:Go.Proofs.Enters Try.prog 35:=Go.Proofs.enters_of Try.func35 kr_ rfl
theorem kgrj_en41:Go.Proofs.Enters Try.prog 41:=Go.Proofs.enters_of Try.func41 kr_ rfl
theorem kgrj_oc9:oneCellT Try.prog 9=true:=by kernel_rfl
theorem kgrj_sz9:(Try.prog.info? 9).map (·.size)=some 1:=by kernel_rfl
theorem delete36 (base:Nat) (v:Value) (l:List Str) (i:Nat) (w:World) (h:LeftAt base w v l) (hi:i<l.length):
    Ret Try.prog 41 #[v,.int .i64 (i:Nat),.int .i64 ((i:Nat)+1)] w fun r w'=>(LeftAt base w' r (l.eraseIdx i)∧r.ownBlock=v.ownBlock)∧Gr (fun k=>some k=v.ownBlock) w w':=by
  rcases h with ⟨rfl,-⟩ | ⟨b,cap,tl,h1,rfl,h2,h3,h4,hb⟩
  · simp at hi
  · have hR:Row S w b 0 9 [] l.toArray tl:=⟨rfl,by simpa using hb⟩;have hk:=Try.slices_Delete_string b 0 cap i (i+1) l w (fun j hj=>by
      have hj:j<l.length:=by simpa using hj
      exact ⟨hR.at (by simpa using hj),hR.free _⟩) h3 h4 om_ om_
    have el:l.length - (i+1 - i)=(l.eraseIdx i).length:=by rw [List.length_eraseIdx_of_lt hi];omega
    have ec:(l.take i++l.drop (i+1))=l.eraseIdx i:=(List.eraseIdx_eq_take_drop_succ l i).symm;rw [el,ec,show i+1 - i=1 by omega] at hk;refine Calls.mono hk fun e w' ⟨he,q,hw⟩=>⟨_,he,⟨?_,rfl⟩,?_⟩
    · subst hw;have h10:=(row_put hR (d':=(l.eraseIdx i++List.replicate 1 []).toArray) (by simp [List.length_eraseIdx_of_lt hi];omega) q).2;have h11:Box (putRow encStr (Sort.ahead w q) b 0 (l.eraseIdx i++List.replicate 1 []).toArray) b 9 ([]++(l.eraseIdx i++List.replicate 1 []).toArray.toList.map S++tl):=h10;by_cases e0:l.eraseIdx i=[]
      · have h12:=h11.lt;rw [e0] at h12 ⊢;exact .inl ⟨rfl,_,cap,rfl,h4,fun a e=>by cases e;exact ⟨h1,h12⟩⟩
      · refine .inr ⟨b,cap,[S []]++tl,h1,rfl,List.length_pos_iff.2 e0,by rw [List.length_eraseIdx_of_lt hi];omega,h4,?_⟩;rw [← List.append_assoc];simpa using h11
    · subst hw;exact (gr_put q).mono fun k _ e=>by have e:k=b:=e;rw [e];rfl
theorem LeftAt.elem {base:Nat} {w:World} {p:Option Addr} {k cap:Nat} {l:List Str} (h:LeftAt base w (.slice p k cap) l) {i:Nat} (hi:i<l.length):∃ b,p=some ⟨b,0,none⟩∧w.cell? ⟨b,0+i,none⟩=some (S (l.getD i [])):=by
  rcases h with ⟨rfl,-⟩ | ⟨b,c,tl,h1,e,-,-,-,hb⟩
  · simp at hi
  · cases e;refine ⟨b,rfl,hb.cell0 ?_⟩;rw [List.getElem?_append_left (by simpa using hi),List.getElem?_map,List.getD_eq_getElem?_getD,List.getElem?_eq_getElem hi];rfl
theorem getI_one {m:List (Str × Int)} {out:List Str} (hm:∀ n,getI m n=if out.contains n then 1 else 0) (n:Str):∀ x,getI (putI m n 1) x=if (out++[n]).contains x then 1 else 0:=fun x=>by
  rw [getI_put,hm];by_cases e:x=n
  · rw [if_pos e,if_pos (by simp [e])]
  · rw [if_neg e];have:(out++[n]).contains x=out.contains x:=by rw [Bool.eq_iff_iff];simp [e]
    rw [this]
set_option maxHeartbeats 1000000 in
theorem orderP (A0 A1:Nat→Prop) (v u:Value) (names:List Str) (l:List Arc) (w:World) (h0:StrsAt A0 w v names) (h1:ArcsAt A1 w u l) (hn:names.length≤400000) (hll:l.length≤400000):
    Ret Try.prog 20 #[v,u] w fun r w'=>(∃ o,r=.tuple #[o,.int .i64 (ansO (ordS names l)).2]∧StrsAt (fun k=>k<w.heap.size) w' o (ansO (ordS names l)).1)∧Bel w w':=by
  have hxn:=h0.short;obtain ⟨q,cq,rfl,-⟩:=id h0;obtain ⟨p,cap,row,rfl,-⟩:=id h1;obtain ⟨all,hall⟩:∃ a,a=onceL names:=⟨_,rfl⟩;have hst:Strict all:=by rw [hall];exact strict_once _
  have hal:all.length≤400000:=by rw [hall];exact Nat.le_trans (once_len _) hn
  have hxa:∀ x∈all,x.length≤9223372036854775807:=by rw [hall];exact once_short hxn
  refine ret_of_W Try.func20 rfl (Nat.le_of_ble_eq_true rfl) (res2 rfl) ?_;have hB:=Gr.refl (fun _=>False) w;refine W.seq (W.region (L.val (x_as (v:=.slice _ _ _) rfl) rfl ?_));refine L.val (x_as (v:=.int _ _) rfl) rfl ?_;refine L.nil (thn_n (W.scope ?_));refine W.seq (W.region (L.val (x_mv (v:=.slice _ _ _) rfl) rfl ?_));refine L.ret (x_call kgrj_en34 rfl) rfl (sorted36 _ _ names _ h0 hn) ?_;rintro v15 w15 ⟨hL,hw⟩;have hB:=hB.carry hw;have h1:=h1.carry hw;rw [← hall] at hL;obtain ⟨pa,ca,rfl,-⟩:=hL.shape;have hs15:=hw.size;have hloL:=fun j hj=>hL.lt (j:=j) hj
  refine L.val (x_as (v:=.slice _ _ _) rfl) rfl ?_;refine L.nil (thn_n (W.seq (W.region (L.val (x_mv (v:=.slice _ _ _) rfl) rfl ?_))));refine L.val (x_mv (v:=.slice _ _ _) rfl) rfl ?_;refine L.ret (x_call kgrj_en35 rfl) rfl (among36 _ _ _ _ all l _ (hL.strs hxa om_ (fun k=>k<w.heap.size) (fun j hj e=>by have e:j<_:=e;omega)) h1 hll) ?_;rintro v18 w18 ⟨hc,hw⟩;have hB:=hB.carry hw;have h1:=h1.carry hw;have hL:=hL.carry hw;obtain ⟨cl,hcl⟩:∃ c,c=countL all l:=⟨_,rfl⟩;rw [← hcl] at hc;have hO0:ordS names l=ordF all cl all.length []:=by unfold ordS;rw [← hall,← hcl]
  have hxc:∀ a∈cl,a.1.length≤9223372036854775807∧a.2.length≤9223372036854775807:=by obtain ⟨_,_,_,_,-,-,-,hr⟩:=hc;exact arcs_len hr
  obtain ⟨pc,cc,rc,rfl,-⟩:=id hc;have hs18:=hw.size;have hl0:leftL all []=all:=by unfold leftL;rw [List.filter_eq_self];intro a _;rfl
  refine L.ret (x_call kgrj_en24 rfl) rfl (outs36 _ _ cl _ hc (by have:=count_len all l;rw [hcl];omega)) ?_;rintro _ w19 ⟨⟨rfl,hN⟩,hw⟩;have hB:=hB.carry hw;have h1:=h1.carry hw;have hL:=hL.carry hw;have hs19:=hw.size;have hs19b:=hB.size;have hN:=hN.mono (A':=fun k=>k≤w18.heap.size∨w19.heap.size≤k) (fun k hk e=>e.resolve_right om_);have hNl:=hN.lt;refine L.val (x_as (v:=.map _) rfl) rfl ?_;refine L.nil (thn_n (W.seq (W.region (L.mkmapK (κ := Str) (K:=S) (V:=fun _=>True) Try.underlying49 rfl (fun w20 mp hw hz20=>?_)))));have hB:=hB.carry hw;have h1:=h1.carry hw;have hL:=hL.carry hw;have hN:=hN.carry hw;have mp:IM w20 w19.heap.size []:=mp;refine L.val (x_as (v:=.map _) rfl) rfl ?_;refine L.nil (thn_n (W.seq (W.region (L.val (x_as (v:=.slice _ _ _) rfl) rfl ?_))));refine L.nil (thn_n (W.seq (W.label ?_)));refine thn_n (W.seq (W.block (W.loop (fun m' E w'=>∃ (out:List Str) (vL vO:Value) (m:List (Str × Int)),m'=(leftL all out).length∧E 6=vL∧E 7=.map (some w18.heap.size)∧E 8=.map (some w19.heap.size)∧E 9=vO∧(Bel w w')∧(LeftAt w.heap.size w' vL (leftL all out))∧(∀ j,some j=vL.ownBlock→w.heap.size≤j∧j<w18.heap.size)∧(NextMap (fun k=>k≤w18.heap.size∨w19.heap.size≤k) w' w18.heap.size (nextS cl))∧(IM w' w19.heap.size m)∧(∀ n,getI m n=if out.contains n then 1 else 0)∧(Own w' (w19.heap.size+1) 9 1 vO out.length (out.map S))∧(DoneL all out)∧(ordS names l=ordF all cl (all.length - out.length) out)) ((leftL all []).length) ?_ ?_)))
  ·exact ⟨[],_,.slice none 0 0,[],by omega,by first | rfl | exact vi om_ | exact vs (by first | assumption | (rw [hst];done) | (rw [hst];simp only [List.append_assoc])),by first | rfl | exact vi om_ | exact vs (by first | assumption | (rw [hst];done) | (rw [hst];simp only [List.append_assoc])),by first | rfl | exact vi om_ | exact vs (by first | assumption | (rw [hst];done) | (rw [hst];simp only [List.append_assoc])),by first | rfl | exact vi om_ | exact vs (by first | assumption | (rw [hst];done) | (rw [hst];simp only [List.append_assoc])),ao_,(by rw [hl0];exact hL),(by exact fun j hj=>by have:=hloL j hj;exact ⟨by omega,by omega⟩),ao_,ao_,(by intro n;rfl),(by exact own_nil),(by exact DoneL.nil _),(by exact hO0)⟩
  ·rintro _ E wL21 ⟨out,vL,vO,m,em,e6,e7,e8,e9,hB,hL,hLo,hN,mp,hm,hO,hd,hE⟩;rw [upd_self e6,upd_self e7,upd_self e8,upd_self e9];refine W.seq (W.seq (W.region ?_));obtain ⟨aL,cL,eL,-⟩:=hL.shape;subst eL;obtain ⟨aO,cO,eO,-⟩:=own_shape hO;subst eO;have hsL:=hB.size;have hll2:=left_len hst.nodup hd;have hmb:=mp.lt;have hlo:=fun j hj=>Own.lt hO (j:=j) hj
   refine L.val (x_mv (v:=.slice _ _ _) rfl) rfl ?_;refine L.val (x_len_slice Try.underlying23 rfl) rfl ?_;refine L.val (x_gtr rfl rfl) rfl ?_;refine L.nil (thn_n (W.cond (b:=_) rfl (fun g23=>?_) (fun g23=>?_)))
   ·have h23:=of_decide_eq_true g23;have hk1:all.length - out.length=all.length - (out.length+1)+1:=by omega
    rw [hk1,ordF] at hE;refine W.skip (thn_n (W.block (W.scope ?_)));refine W.seq (W.label ?_);refine thn_n (W.seq (W.seq (W.region (L.val (x_mv (v:=.slice _ _ _) rfl) rfl ?_))));refine L.val (x_len_slice Try.underlying23 rfl) rfl ?_;refine L.val (x_mv (v:=.int _ _) rfl) rfl ?_;refine L.nil (thn_n (W.block (W.loop (fun m' E w'=>∃ (i:Nat),m'=(leftL all out).length - i∧E 6=.slice aL (leftL all out).length cL∧E 7=.map (some w18.heap.size)∧E 8=.map (some w19.heap.size)∧E 9=.slice aO out.length cO∧E 24=.slice aL (leftL all out).length cL∧E 25=.int .i64 ((leftL all out).length:Nat)∧E 26=.int .i64 (i:Nat)∧(i≤(leftL all out).length)∧(Bel w w')∧(LeftAt w.heap.size w' (.slice aL (leftL all out).length cL) (leftL all out))∧(NextMap (fun k=>k≤w18.heap.size∨w19.heap.size≤k) w' w18.heap.size (nextS cl))∧(IM w' w19.heap.size m)∧(Own w' (w19.heap.size+1) 9 1 (.slice aO out.length cO) out.length (out.map S))∧(((leftL all out).take i).find? (fun n=>readyL cl n out)=none)) ((leftL all out).length) ?_ ?_)))
    ·exact ⟨0,by omega,by first | rfl | exact vi om_ | exact vs (by first | assumption | (rw [hst];done) | (rw [hst];simp only [List.append_assoc])),by first | rfl | exact vi om_ | exact vs (by first | assumption | (rw [hst];done) | (rw [hst];simp only [List.append_assoc])),by first | rfl | exact vi om_ | exact vs (by first | assumption | (rw [hst];done) | (rw [hst];simp only [List.append_assoc])),by first | rfl | exact vi om_ | exact vs (by first | assumption | (rw [hst];done) | (rw [hst];simp only [List.append_assoc])),by first | rfl | exact vi om_ | exact vs (by first | assumption | (rw [hst];done) | (rw [hst];simp only [List.append_assoc])),by first | rfl | exact vi om_ | exact vs (by first | assumption | (rw [hst];done) | (rw [hst];simp only [List.append_assoc])),by first | rfl | exact vi om_ | exact vs (by first | assumption | (rw [hst];done) | (rw [hst];simp only [List.append_assoc])),ao_,ao_,ao_,ao_,ao_,ao_,(by rfl)⟩
    ·rintro _ E wL27 ⟨i,em,e6,e7,e8,e9,e24,e25,e26,hi,hB,hL,hN,mp,hO,hnone⟩;rw [upd_self e6,upd_self e7,upd_self e8,upd_self e9,upd_self e24,upd_self e25,upd_self e26];refine W.seq (W.region ?_);have hsL2:=hB.size;have hmb2:=mp.lt;refine L.val (x_lss rfl rfl) rfl ?_;refine L.nil (thn_n (W.seq (W.cond (b:=_) rfl (fun g27=>?_) (fun g27=>?_))))
     ·have h27:=of_decide_eq_true g27;have hlt2:i<(leftL all out).length:=by omega
      obtain ⟨bL,hpL,hcl2⟩:=hL.elem hlt2;subst hpL;obtain ⟨n,hn0⟩:∃ n,n=(leftL all out).getD i []:=⟨_,rfl⟩;rw [← hn0] at hcl2;obtain ⟨lN,hN1,hN2⟩:=id hN;have hvN:=hN2 n;obtain ⟨pN,cN,eN,-⟩:=id hvN;rw [eN] at hvN;refine W.skip (thn_n (W.seq (W.block (W.seq (W.region (L.val (x_mv (v:=.int _ _) rfl) rfl ?_))))));refine L.val (x_ia1 (j:=i) Try.underlying23 kgrj_sz9 rfl rfl rfl hlt2) rfl ?_;refine L.val (x_ld (v:=S _) kgrj_oc9 rfl hcl2) rfl ?_;refine L.val (x_as (v:=.int _ _) rfl) rfl ?_;refine L.val (x_as (v:=S _) rfl) rfl ?_;refine L.nil (thn_n (W.seq (W.seq (W.region (L.val (x_mv (v:=.map _) rfl) rfl ?_)))));refine L.val (x_mv (v:=S _) rfl) rfl ?_;refine L.val (x_look0 (z:=.slice none 0 0) Try.underlying47 (klawS Try.underlying9) kr_ rfl rfl trivial hN1 eN) rfl ?_;refine L.val (x_len_slice Try.underlying23 rfl) rfl ?_;refine L.val (x_mv (v:=.int _ _) rfl) rfl ?_;refine L.nil (thn_n (W.block (W.loop (fun m' E w'=>∃ (j:Nat),m'=(nextS cl n).length - j∧E 6=.slice (some ⟨bL,0,none⟩) (leftL all out).length cL∧E 7=.map (some w18.heap.size)∧E 8=.map (some w19.heap.size)∧E 9=.slice aO out.length cO∧E 10=.int .i64 (i:Nat)∧E 11=S n∧E 24=.slice (some ⟨bL,0,none⟩) (leftL all out).length cL∧E 25=.int .i64 ((leftL all out).length:Nat)∧E 26=.int .i64 (i:Nat)∧E 33=.slice pN (nextS cl n).length cN∧E 34=.int .i64 ((nextS cl n).length:Nat)∧E 35=.int .i64 (j:Nat)∧(j≤(nextS cl n).length)∧(Bel w w')∧(LeftAt w.heap.size w' (.slice (some ⟨bL,0,none⟩) (leftL all out).length cL) (leftL all out))∧(NextMap (fun k=>k≤w18.heap.size∨w19.heap.size≤k) w' w18.heap.size (nextS cl))∧(IM w' w19.heap.size m)∧(Own w' (w19.heap.size+1) 9 1 (.slice aO out.length cO) out.length (out.map S))∧(StrsAt (fun k=>k≤w18.heap.size∨w19.heap.size≤k) w' (.slice pN (nextS cl n).length cN) (nextS cl n))∧(∀ x∈(nextS cl n).take j,x∈out)) ((nextS cl n).length) ?_ ?_)))
      ·exact ⟨0,by omega,by first | rfl | exact vi om_ | exact vs (by first | assumption | (rw [hst];done) | (rw [hst];simp only [List.append_assoc])),by first | rfl | exact vi om_ | exact vs (by first | assumption | (rw [hst];done) | (rw [hst];simp only [List.append_assoc])),by first | rfl | exact vi om_ | exact vs (by first | assumption | (rw [hst];done) | (rw [hst];simp only [List.append_assoc])),by first | rfl | exact vi om_ | exact vs (by first | assumption | (rw [hst];done) | (rw [hst];simp only [List.append_assoc])),by first | rfl | exact vi om_ | exact vs (by first | assumption | (rw [hst];done) | (rw [hst];simp only [List.append_assoc])),by first | rfl | exact vi om_ | exact vs (by first | assumption | (rw [hst];done) | (rw [hst];simp only [List.append_assoc])),by first | rfl | exact vi om_ | exact vs (by first | assumption | (rw [hst];done) | (rw [hst];simp only [List.append_assoc])),by first | rfl | exact vi om_ | exact vs (by first | assumption | (rw [hst];done) | (rw [hst];simp only [List.append_assoc])),by first | rfl | exact vi om_ | exact vs (by first | assumption | (rw [hst];done) | (rw [hst];simp only [List.append_assoc])),by first | rfl | exact vi om_ | exact vs (by first | assumption | (rw [hst];done) | (rw [hst];simp only [List.append_assoc])),by first | rfl | exact vi om_ | exact vs (by first | assumption | (rw [hst];done) | (rw [hst];simp only [List.append_assoc])),by first | rfl | exact vi om_ | exact vs (by first | assumption | (rw [hst];done) | (rw [hst];simp only [List.append_assoc])),ao_,ao_,ao_,ao_,ao_,ao_,ao_,(by intro x hx;simp at hx)⟩
      ·rintro _ E wL36 ⟨j,em,e6,e7,e8,e9,e10,e11,e24,e25,e26,e33,e34,e35,hj,hB,hL,hN,mp,hO,hvN,hdn⟩;rw [upd_self e6,upd_self e7,upd_self e8,upd_self e9,upd_self e10,upd_self e11,upd_self e24,upd_self e25,upd_self e26,upd_self e33,upd_self e34,upd_self e35];refine W.seq (W.region ?_);have hsL3:=hB.size;have hnl3:=hN.lt;have hmb3:=mp.lt;refine L.val (x_lss rfl rfl) rfl ?_;refine L.nil (thn_n (W.seq (W.cond (b:=_) rfl (fun g36=>?_) (fun g36=>?_))))
       ·have h36:=of_decide_eq_true g36;have hlt3:j<(nextS cl n).length:=by omega
        have hvl:=hvN;obtain ⟨_,_,e3,hv1,hv2,hv3,-⟩:=id hvN;obtain ⟨bN,oN,rfl,hcN⟩:=hvN.elem hlt3;have hts:=take_snoc (d:=([]:Str)) hlt3;have hmj:(nextS cl n).getD j []∈nextS cl n:=by rw [List.getD_eq_getElem?_getD,List.getElem?_eq_getElem hlt3];exact List.getElem_mem _
        refine W.skip (thn_n (W.seq (W.block (W.seq (W.region (L.val (x_ia1 (j:=j) Try.underlying23 kgrj_sz9 rfl rfl om_ om_) rfl ?_))))));refine L.val (x_ld (v:=S _) kgrj_oc9 rfl hcN) rfl ?_;refine L.val (x_as (v:=S _) rfl) rfl ?_;refine L.nil (thn_n (W.seq (W.region (L.val (x_mv (v:=.map _) rfl) rfl ?_))));refine L.val (x_mv (v:=S _) rfl) rfl ?_;refine L.val (x_look0 (z:=.int .i64 0) Try.underlying49 (klawS Try.underlying9) kr_ rfl rfl trivial mp (getI_look m _)) rfl ?_;refine L.val (x_eql rfl rfl) rfl ?_;refine L.nil (thn_n (W.cond (b:=_) rfl (fun g42=>?_) (fun g42=>?_)))
        ·have h42:=of_decide_eq_true g42;have hno:¬ (nextS cl n).getD j []∈out:=fun e=>by
           have h1:=hm ((nextS cl n).getD j []);rw [if_pos (List.contains_iff_mem.2 e)] at h1;rw [h1] at h42;exact absurd h42 (by decide)
         have hp:readyL cl ((leftL all out).getD i []) out=false:=by
           rw [← hn0,ready_next,List.all_eq_false];exact ⟨_,hmj,by simpa using hno⟩
         have hnone2:=find_none_take [] hlt2 hnone hp;refine W.exit (blk_miss rfl (thn_x (thn_x (blk_miss rfl (thn_x (blk_hit ?_))))));refine thn_n (W.region (L.val (x_add rfl rfl (wr64 om_)) rfl ?_));refine L.val (x_mv (v:=.int _ _) rfl) rfl ?_;refine L.nil (thn_n ⟨rfl,?_⟩);refine ⟨_,?_,i+1,rfl,by first | rfl | exact vi om_ | exact vs (by first | assumption | (rw [hst];done) | (rw [hst];simp only [List.append_assoc])),by first | rfl | exact vi om_ | exact vs (by first | assumption | (rw [hst];done) | (rw [hst];simp only [List.append_assoc])),by first | rfl | exact vi om_ | exact vs (by first | assumption | (rw [hst];done) | (rw [hst];simp only [List.append_assoc])),by first | rfl | exact vi om_ | exact vs (by first | assumption | (rw [hst];done) | (rw [hst];simp only [List.append_assoc])),by first | rfl | exact vi om_ | exact vs (by first | assumption | (rw [hst];done) | (rw [hst];simp only [List.append_assoc])),by first | rfl | exact vi om_ | exact vs (by first | assumption | (rw [hst];done) | (rw [hst];simp only [List.append_assoc])),by first | rfl | exact vi om_ | exact vs (by first | assumption | (rw [hst];done) | (rw [hst];simp only [List.append_assoc])),ao_,ao_,ao_,ao_,ao_,ao_,(by exact hnone2)⟩;omega
        ·have h42:=of_decide_eq_false g42;have hyes:(nextS cl n).getD j []∈out:=by
           refine Classical.byContradiction fun e=>?_
           have h1:=hm ((nextS cl n).getD j []);rw [if_neg (fun h=>e (List.contains_iff_mem.1 h))] at h1;exact h42 h1
         have hdn2:∀ x∈(nextS cl n).take (j+1),x∈out:=fun x hx=>by
           rw [hts] at hx;rcases List.mem_append.1 hx with hx | hx
           · exact hdn x hx
           · rw [List.mem_singleton.1 hx];exact hyes
         refine W.skip (blk_n (thn_n (W.region (L.val (x_add rfl rfl (wr64 om_)) rfl ?_))));refine L.val (x_mv (v:=.int _ _) rfl) rfl ?_;refine L.nil (thn_n ⟨rfl,?_⟩);refine ⟨_,?_,j+1,rfl,by first | rfl | exact vi om_ | exact vs (by first | assumption | (rw [hst];done) | (rw [hst];simp only [List.append_assoc])),by first | rfl | exact vi om_ | exact vs (by first | assumption | (rw [hst];done) | (rw [hst];simp only [List.append_assoc])),by first | rfl | exact vi om_ | exact vs (by first | assumption | (rw [hst];done) | (rw [hst];simp only [List.append_assoc])),by first | rfl | exact vi om_ | exact vs (by first | assumption | (rw [hst];done) | (rw [hst];simp only [List.append_assoc])),by first | rfl | exact vi om_ | exact vs (by first | assumption | (rw [hst];done) | (rw [hst];simp only [List.append_assoc])),by first | rfl | exact vi om_ | exact vs (by first | assumption | (rw [hst];done) | (rw [hst];simp only [List.append_assoc])),by first | rfl | exact vi om_ | exact vs (by first | assumption | (rw [hst];done) | (rw [hst];simp only [List.append_assoc])),by first | rfl | exact vi om_ | exact vs (by first | assumption | (rw [hst];done) | (rw [hst];simp only [List.append_assoc])),by first | rfl | exact vi om_ | exact vs (by first | assumption | (rw [hst];done) | (rw [hst];simp only [List.append_assoc])),by first | rfl | exact vi om_ | exact vs (by first | assumption | (rw [hst];done) | (rw [hst];simp only [List.append_assoc])),by first | rfl | exact vi om_ | exact vs (by first | assumption | (rw [hst];done) | (rw [hst];simp only [List.append_assoc])),by first | rfl | exact vi om_ | exact vs (by first | assumption | (rw [hst];done) | (rw [hst];simp only [List.append_assoc])),ao_,ao_,ao_,ao_,ao_,ao_,ao_,(by exact hdn2)⟩;omega
       ·have h36:=dlt_f g36;have hjj:j=(nextS cl n).length:=by omega
        rw [hjj,List.take_length] at hdn;have hp:readyL cl ((leftL all out).getD i []) out=true:=by
          rw [← hn0,ready_next,List.all_eq_true];exact fun x hx=>List.contains_iff_mem.2 (hdn x hx)
        have hpk:pickL all cl out=some n:=by
          rw [pick_left,find_some_take [] hlt2 hnone hp,hn0]
        have hpm:=pick_mem hpk;have hstep:=left_step hst.nodup hlt2;rw [← hn0] at hstep;refine W.exit (thn_x (thn_x (blk_hit ?_)));refine thn_n (W.seq (W.region (L.val (x_mv (v:=.map _) rfl) rfl ?_)));refine L.val (x_mv (v:=S _) rfl) rfl ?_;refine L.val (x_mv (v:=.slice _ _ _) rfl) rfl ?_;refine L.val (x_mv (v:=S _) rfl) rfl ?_;refine L.bs (sz:=1) (cells:=[S n]) Try.underlying23 kgrj_el9 rfl rfl rfl rfl (fun w48 bx48 hw hz48=>?_);have hB:=hB.carry hw;have hL:=hL.carry hw;have hN:=hN.carry hw;have mp:=mp.carry hw;have hO:=hO.carry hw;have hs49:=hB.size;have hz48b:=hz48;refine L.appendN (m:=1) Try.underlying23 kgrj_el9 rfl rfl rfl hO rfl (holdsN_box bx48) (by simp [Value.oneCell',S]) om_ om_ (fun v49 w49 hO49 hg hob49=>?_);have hB:=hB.step hg (fun j hj e=>by have:=hlo j e;omega);have hL:=hL.carryR hg (fun j hj e=>by have:=hLo j hj;have:=hlo j e;omega);have hN:=hN.carryR hg (fun e=>by have:=hlo _ e;omega) (fun k e=>.inr (by have:=hlo k e;omega));have mp:=MapAtK.carryR mp hg (fun e=>by have:=hlo _ e;omega);obtain ⟨a49,c49,e49,-⟩:=own_shape hO49;subst e49;have hO2:Own w49 (w19.heap.size+1) 9 1 (.slice a49 (out.length+1) c49) (out++[n]).length ((out++[n]).map S):=by
          rw [List.length_append,List.map_append];exact hO49
        have hlo2:=fun j hj=>Own.lt hO2 (j:=j) hj
        refine L.val (x_as (v:=.slice _ _ _) rfl) rfl ?_;refine L.mapsetK (k:=n) (v:=.int .i64 1) Try.underlying49 (klawS Try.underlying9) rfl rfl trivial rfl mp (fun wl48 mp hw hzl48=>?_);rw [encI_put] at mp;have hB:=hB.set hw om_;have hL:=hL.carryR hw (fun j hj e=>by have e:j=_:=e;have:=hLo j hj;omega);have hN:=hN.carryR hw (fun e=>by have e:_=_:=e;omega) (fun k e=>.inr (by have e:k=_:=e;omega));have hO2:=Own.carryR hO2 hw (fun j hj e=>by have e:j=_:=e;have:=hlo2 j hj;omega);have hm2:=getI_one hm n;refine L.nil (thn_n (W.seq (W.region (L.val (x_mv (v:=.slice _ _ _) rfl) rfl ?_))));refine L.val (x_mv (v:=.int _ _) rfl) rfl ?_;refine L.val (x_mv (v:=.int _ _) rfl) rfl ?_;refine L.val (x_add rfl rfl (wr64 om_)) rfl ?_;refine L.ret (x_call kgrj_en41 rfl) rfl (delete36 _ _ (leftL all out) i _ hL hlt2) ?_;rintro v54 w54 ⟨⟨hL2,hob⟩,hg54⟩;rw [hstep] at hL2;have hLo2:∀ j,some j=v54.ownBlock→w.heap.size≤j∧j<w18.heap.size:=fun j hj=>hLo j (hj.trans hob)
        have hB:=hB.step hg54 (fun j hj e=>by have:=hLo j e;omega);have hN:=hN.carryR hg54 (fun e=>by have:=hLo _ e;omega) (fun k e=>.inl (by have:=hLo k e;omega));have mp:=MapAtK.carryR mp hg54 (fun e=>by have:=hLo _ e;omega);have hO2:=Own.carryR hO2 hg54 (fun j hj e=>by have:=hLo j e;have:=hlo2 j hj;omega);obtain ⟨p54,c54,rfl,-⟩:=hL2.shape;have hd2:=hd.snoc hpm.1 hpm.2.1;have hE2:ordS names l=ordF all cl (all.length - (out++[n]).length) (out++[n]):=by
          rw [hE,hpk,List.length_append];rfl
        have hsh:(leftL all (out++[n])).length<(leftL all out).length:=by
          rw [← hstep,List.length_eraseIdx_of_lt hlt2];omega
        refine L.val (x_as (v:=.slice _ _ _) rfl) rfl ?_;refine L.nil (thn_n (W.exit (blk_miss rfl (thn_x (thn_x (blk_miss rfl (thn_x (nog_x (blk_hit ?_)))))))));refine thn_n ⟨rfl,?_⟩;refine ⟨_,?_,out++[n],_,_,_,rfl,by first | rfl | exact vi om_ | exact vs (by first | assumption | (rw [hst];done) | (rw [hst];simp only [List.append_assoc])),by first | rfl | exact vi om_ | exact vs (by first | assumption | (rw [hst];done) | (rw [hst];simp only [List.append_assoc])),by first | rfl | exact vi om_ | exact vs (by first | assumption | (rw [hst];done) | (rw [hst];simp only [List.append_assoc])),by first | rfl | exact vi om_ | exact vs (by first | assumption | (rw [hst];done) | (rw [hst];simp only [List.append_assoc])),ao_,(by exact hL2),(by exact hLo2),ao_,ao_,(by exact hm2),(by exact hO2),(by exact hd2),(by exact hE2)⟩;omega
     ·have h27:=dlt_f g27;have hii:i=(leftL all out).length:=by omega
      rw [hii,List.take_length] at hnone;have hE3:ordS names l=none:=by rw [hE,pick_left,hnone];rfl
      refine W.exit (thn_x (thn_x (blk_hit ?_)));refine thn_n (W.seq (W.region (L.val (x_as (v:=.slice _ _ _) rfl) rfl ?_)));refine L.val (x_as (v:=.int _ _) rfl) rfl ?_;refine L.nil (thn_n (W.ret (nog_r (blk_r (thn_r (blk_r (thn_r (nog_r (fin_mk (.inr rfl) ?_)))))))));rw [hE3];exact ⟨⟨_,rfl,StrsAt.nil _ _ _ _ om_⟩,hB⟩
   ·have h23:=dlt_f g23;refine W.exit (thn_x (thn_x (blk_hit ?_)));refine thn_n (W.seq (W.region (L.val (x_mv (v:=.slice _ _ _) rfl) rfl ?_)));refine L.val (x_as (v:=.slice _ _ _) rfl) rfl ?_;refine L.val (x_as (v:=.int _ _) rfl) rfl ?_;refine L.nil (thn_n (W.ret (nog_r (fin_mk (.inr rfl) ?_))));have hE3:ordS names l=some out:=by rw [hE,show all.length - out.length=0 by omega];rfl
    rw [hE3];exact ⟨⟨_,rfl,(show StrsAt (fun k=>k<w.heap.size) _ _ out from strs_done hO om_ (fun x hx=>hxa x (hd.2 x hx)) (fun j hj e=>by have e:j<_:=e;omega))⟩,hB⟩
end Go.Gx
namespace Go.Gx
open Go.Proofs Go.Sort
theorem StrsAt.move {A A':Nat→Prop} {w w':World} {v:Value} {l:List Str} (hc:∀ (a:Addr) v,¬ A a.block→w.cell? a=some v→w'.cell? a=some v∧¬ A' a.block) (h:StrsAt A w v l):StrsAt A' w' v l:=by
  obtain ⟨p,cap,rfl,h1,h2,h3,h4,h5⟩:=h;refine ⟨p,cap,rfl,h1,h2,h3,h4,fun hne=>?_⟩;obtain ⟨b,o,e,hA,h6⟩:=h5 hne;refine ⟨b,o,e,?_,fun i hi=>(hc _ _ hA (h6 i hi)).1⟩;exact (hc ⟨b,o+0,none⟩ _ hA (h6 0 (List.length_pos_iff.2 hne))).2
def GsC (A:Nat→Prop) (w:World) (cs:List Value) (l:List Str):Prop:=∃ v,cs=[v]∧StrsAt A w v l
instance car_gs:Car GsC 1 where
  pos:=by omega
  len:=fun h=>by obtain ⟨v,rfl,-⟩:=h;rfl
  one:=fun h=>by
    obtain ⟨v,rfl,p,cap,rfl,-⟩:=h
    intro u hu
    rw [List.mem_singleton.1 hu];rfl
  move:=fun hc h=>by obtain ⟨v,e,h⟩:=h;exact ⟨v,e,h.move hc⟩
abbrev GssAt (A:Nat→Prop) (w:World) (v:Value) (l:List (List Str)):Prop:=RecsAt GsC 1 A w v l
theorem strs_doneB {A:Nat→Prop} {w:World} {base:Nat} {e:TypeId} {v:Value} {l:List Str} (h:Own w base e 1 v l.length (l.map S)) (hl:l.length≤70368744177664) (hx:∀ x∈l,x.length≤9223372036854775807) (hb:∀ j,some j=v.ownBlock→¬ A j):StrsAt A w v l:=by
  have h1:=strs_done (A:=fun j=>A j∧j<base) h hl hx (fun j hj e=>by omega);obtain ⟨p,cap,rfl,a1,a2,a3,a4,a5⟩:=h1;refine ⟨p,cap,rfl,a1,a2,a3,a4,fun hne=>?_⟩;obtain ⟨b,o,rfl,hA,h6⟩:=a5 hne;exact ⟨b,o,rfl,hb b rfl,h6⟩
def AvB (n0 b:Nat) (w:World) (v1 v2:Value) (k:Nat):Prop:=k<n0∨k+1=b∨some k=v1.ownBlock∨some k=v2.ownBlock∨w.heap.size≤k
theorem avB_step {n0 b:Nat} {w w2:World} {v1 v2 u1 u2:Value} (hs:w.heap.size≤w2.heap.size) (h1:u1.ownBlock=v1.ownBlock∨∀ k,some k=u1.ownBlock→w.heap.size≤k) (h2:u2.ownBlock=v2.ownBlock∨∀ k,some k=u2.ownBlock→w.heap.size≤k) {j:Nat} (h:AvB n0 b w2 u1 u2 j):AvB n0 b w v1 v2 j:=by
  rcases h with h | h | h | h | h
  · exact .inl h
  · exact .inr (.inl h)
  · rcases h1 with e | e
    · exact .inr (.inr (.inl (h.trans e)))
    · exact .inr (.inr (.inr (.inr (e j h))))
  · rcases h2 with e | e
    · exact .inr (.inr (.inr (.inl (h.trans e))))
    · exact .inr (.inr (.inr (.inr (e j h))))
  · exact .inr (.inr (.inr (.inr om_)))
end Go.Gx
