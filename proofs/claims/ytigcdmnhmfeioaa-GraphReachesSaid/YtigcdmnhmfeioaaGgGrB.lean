/- Names: in order, each once; found; put in their place. Conditions: none. -/
import Derived.Test.YtigcdmnhmfeioaaGgRec
import Derived.Test.YtigcdmnhmfeioaaGgSrtK
import Derived.Test.YtigcdmnhmfeioaaGgMapK
import Derived.Test.YtigcdmnhmfeioaaGgDrawD
namespace Go.Gx
open Go.Proofs Go.Sort
theorem kgrb_el9:elT Try.prog 9 1=true:=by kernel_rfl
theorem kgrb_en26:Go.Proofs.Enters Try.prog 26:=Go.Proofs.enters_of Try.func26 kr_ rfl
theorem kgrb_en47:Go.Proofs.Enters Try.prog 47:=Go.Proofs.enters_of Try.func47 kr_ rfl
theorem kgrb_en48:Go.Proofs.Enters Try.prog 48:=Go.Proofs.enters_of Try.func48 kr_ rfl
theorem kgrb_en57:Go.Proofs.Enters Try.prog 57:=Go.Proofs.enters_of Try.func57 kr_ rfl
theorem kgrb_mixed:Try.prog.follows .mixedOrders=true:=by kernel_rfl
theorem kgrb_oc9:oneCellT Try.prog 9=true:=by kernel_rfl
theorem kgrb_sz9:(Try.prog.info? 9).map (·.size)=some 1:=by kernel_rfl
theorem lt_bytesG (a b:Str):Op.bytesLess a b=ltStr a b:=by simp [Go.Proofs.bytesLess_eq,ltStr]
def LeftAt (base:Nat) (w:World) (v:Value) (l:List Str):Prop:=
  (l=[]∧∃ p cap,v=.slice p 0 cap∧cap≤9223372036854775807∧∀ a,p=some a→base≤a.block∧a.block<w.heap.size)∨
  ∃ b cap tl,base≤b∧v=.slice (some ⟨b,0,none⟩) l.length cap∧1≤l.length∧l.length≤cap∧cap≤9223372036854775807∧Box w b 9 (l.map S++tl)
theorem ne_ownG {b X o m c:Nat} (h:b≠X):¬ some b=(Value.slice (some ⟨X,o,none⟩) m c).ownBlock:=fun e=>h (Option.some.inj e)
theorem LeftAt.lt {base:Nat} {w:World} {v:Value} {l:List Str} (h:LeftAt base w v l) {j:Nat} (hj:some j=v.ownBlock):base≤j∧j<w.heap.size:=by
  rcases h with ⟨rfl,p,cap,rfl,h1,h2⟩ | ⟨b,cap,tl,h1,rfl,-,-,-,hb⟩
  · cases p with
    | none=>cases hj
    | some a=>cases hj;exact h2 a rfl
  · cases hj;exact ⟨h1,hb.lt⟩
theorem LeftAt.carryR {base:Nat} {R:Nat→Prop} {w w':World} {v:Value} {l:List Str} (h:LeftAt base w v l) (g:Gr R w w') (hR:∀ j,some j=v.ownBlock→¬ R j):LeftAt base w' v l:=by
  rcases h with ⟨rfl,p,cap,rfl,h1,h2⟩ | ⟨b,cap,tl,h1,rfl,h2,h3,h4,hb⟩
  · exact .inl ⟨rfl,p,cap,rfl,h1,fun a ha=>⟨(h2 a ha).1,Nat.lt_of_lt_of_le (h2 a ha).2 g.size⟩⟩
  · exact .inr ⟨b,cap,tl,h1,rfl,h2,h3,h4,hb.carryR g (hR b rfl)⟩
theorem LeftAt.carry {base:Nat} {w w':World} {v:Value} {l:List Str} (h:LeftAt base w v l) (g:Bel w w'):LeftAt base w' v l:=h.carryR g (fun _ _ f=>f)
theorem LeftAt.weak {base base':Nat} {w:World} {v:Value} {l:List Str} (h:LeftAt base w v l) (hb:base'≤base):LeftAt base' w v l:=by
  rcases h with ⟨rfl,p,cap,rfl,h1,h2⟩ | ⟨b,cap,tl,h1,h⟩
  · exact .inl ⟨rfl,p,cap,rfl,h1,fun a ha=>⟨Nat.le_trans hb (h2 a ha).1,(h2 a ha).2⟩⟩
  · exact .inr ⟨b,cap,tl,Nat.le_trans hb h1,h⟩
theorem LeftAt.shape {base:Nat} {w:World} {v:Value} {l:List Str} (h:LeftAt base w v l):∃ p cap,v=.slice p l.length cap∧l.length≤cap∧cap≤9223372036854775807:=by
  rcases h with ⟨rfl,p,cap,rfl,h1,h2⟩ | ⟨b,cap,tl,h1,rfl,h2,h3,h4,hb⟩
  · exact ⟨p,cap,rfl,Nat.zero_le _,h1⟩
  · exact ⟨_,cap,rfl,h3,h4⟩
theorem LeftAt.strs {base:Nat} {w:World} {v:Value} {l:List Str} (h:LeftAt base w v l) (hx:∀ x∈l,x.length≤9223372036854775807) (hl:l.length≤70368744177664) (A:Nat→Prop) (hA:∀ j,base≤j→¬ A j):StrsAt A w v l:=by
  rcases h with ⟨rfl,p,cap,rfl,h1,h2⟩ | ⟨b,cap,tl,h1,rfl,h2,h3,h4,hb⟩
  · exact StrsAt.nil _ _ _ _ h1
  · refine ⟨some ⟨b,0,none⟩,cap,rfl,h3,h4,hl,hx,fun _=>⟨b,0,rfl,hA b h1,fun i hi=>hb.cell0 ?_⟩⟩;rw [List.getElem?_append_left (by simpa using hi),List.getElem?_map,List.getD_eq_getElem?_getD,List.getElem?_eq_getElem hi];rfl
theorem compact_sorted {d:Array Str} {n:Nat} (hs:SortedIn ltStr 0 n d):∀ m,m≤n→Strict (Lib.compactUpTo d m)∧∀ x,x∈Lib.compactUpTo d m↔∃ j,j<m∧d[j]! = x
  | 0,_=>⟨by simp [Lib.compactUpTo,Strict],by simp [Lib.compactUpTo]⟩
  | m+1,hm=>by
    obtain ⟨h1,h2⟩:=compact_sorted hs m om_;rw [Lib.compactUpTo_succ];cases hk:Lib.keeps d m with
    | true=>
      have hk':m=0∨d[m]! ≠ d[m - 1]! := by unfold Lib.keeps at hk;simpa using hk
      rw [if_pos rfl];refine ⟨?_,fun x=>?_⟩
      · rw [Strict,List.pairwise_append];refine ⟨h1,List.pairwise_singleton _ _,fun a ha b hb=>?_⟩;rw [List.mem_singleton.1 hb];obtain ⟨j,hj,rfl⟩:=(h2 a).1 ha;have hne:=hk'.resolve_left om_;have h3:ltStr d[m]! d[m - 1]! = false:=hs (m - 1) m (Nat.zero_le _) om_ om_;have h4:=lt_tot h3 hne;rcases Nat.lt_or_ge j (m - 1) with hj1 | hj1
        · have h5:ltStr d[m - 1]! d[j]! = false:=hs j (m - 1) (Nat.zero_le _) hj1 om_;by_cases e:d[m - 1]! = d[j]!
          · rw [← e];exact h4
          · exact lt_tr (lt_tot h5 e) h4
        · rw [show j=m - 1 by omega];exact h4
      · rw [List.mem_append,h2,List.mem_singleton];constructor
        · rintro (⟨j,hj,e⟩ | e)
          · exact ⟨j,by omega,e⟩
          · exact ⟨m,by omega,e.symm⟩
        · rintro ⟨j,hj,e⟩;rcases Nat.lt_or_ge j m with h | h
          · exact .inl ⟨j,h,e⟩
          · rw [show j=m by omega] at e;exact .inr e.symm
    | false=>
      have hk':¬ (m=0∨d[m]! ≠ d[m - 1]!):=by unfold Lib.keeps at hk;simpa using hk
      rw [if_neg (by simp),List.append_nil];refine ⟨h1,fun x=>?_⟩;rw [h2];constructor
      · rintro ⟨j,hj,e⟩;exact ⟨j,by omega,e⟩
      · rintro ⟨j,hj,e⟩;rcases Nat.lt_or_ge j m with h | h
        · exact ⟨j,h,e⟩
        · have hm0:¬ m=0:=fun e=>hk' (.inl e)
          have he:d[m]! = d[m - 1]! := Classical.byContradiction fun e=>hk' (.inr e)
          rw [show j=m by omega,he] at e;exact ⟨m - 1,by omega,e⟩
theorem compact_once {d:Array Str} {ss:List Str} (hs:SortedIn ltStr 0 ss.length d) (hd:d.size=ss.length) (hp:d.toList.Perm ss):Lib.compact d.toList=onceL ss:=by
  have e:Lib.compact d.toList=Lib.compactUpTo d ss.length:=by
    unfold Lib.compact;rw [Array.toArray_toList,Array.length_toList,hd]
  rw [e];obtain ⟨h1,h2⟩:=compact_sorted hs ss.length (Nat.le_refl _);refine once_eq h1 fun x=>?_
  rw [h2,← hp.mem_iff];constructor
  · rintro ⟨j,hj,rfl⟩;rw [getElem!_pos d j om_];exact Array.getElem_mem_toList _
  · intro hx;obtain ⟨j,hj,rfl⟩:=List.getElem_of_mem hx;have hj':j<d.size:=by simpa using hj
    exact ⟨j,by omega,by rw [getElem!_pos d j hj'];simp⟩
theorem compact_new36 (base:Nat) (w:World) (v:Value) (ss:List Str) (hl:ss.length≤400000) (h:SortedNew base w v ss):Ret Try.prog 47 #[v] w fun r w'=>LeftAt base w' r (onceL ss)∧Gr (fun k=>base≤k) w w':=by
  rcases h with ⟨rfl,rfl⟩ | ⟨b,cap,tl,d,h1,h2,h3,rfl,h5,h6,h7,h8,h9⟩
  · exact Calls.mono (Try.slices_Compact_string_empty none 0 w) fun _ _ ⟨he,hw⟩=>⟨_,he,.inl ⟨rfl,none,0,rfl,by omega,fun a e=>(by cases e)⟩,hw ▸ Gr.refl _ _⟩
  · have hperm:d.toList.Perm ss:=by
      have h3:=h7.2.2;have e1:(d.extract 0 ss.length).toList=d.toList:=by simp [← h6]
      have e2:(ss.toArray.extract 0 ss.length).toList=ss:=by simp
      rw [e1,e2] at h3;exact h3
    have hdl:d.toList.length=ss.length:=by simpa using h6
    have hk:=Try.slices_Compact_string b 0 cap d.toList w (fun j hj=>by
      have hj:j<d.size:=by simpa using hj
      have e:d.toList.toArray[j]! = d[j]! := by simp
      rw [e];exact ⟨h5.at hj,h5.free _⟩) om_ om_
    rw [hdl,compact_once h8 h6 hperm] at hk;refine Calls.mono hk fun e w' ⟨he,q,hw⟩=>⟨_,he,?_,?_⟩
    · have hlo:(onceL ss).length≤ss.length:=strict_len_le (strict_once _).nodup fun x hx=>mem_once.1 hx
      have hpos:1≤(onceL ss).length:=by
        cases ss with
        | nil=>simp at h2
        | cons x l=>exact List.length_pos_of_mem (mem_once.2 (List.mem_cons_self:x∈x :: l))
      refine .inr ⟨b,cap,(List.replicate (ss.length - (onceL ss).length) ([]:Str)).map S++tl,h1,rfl,hpos,by omega,h9,?_⟩;subst hw;have h10:=(row_put h5 (d':=(onceL ss++List.replicate (ss.length - (onceL ss).length) []).toArray) (by simp;omega) q).2;rw [← List.append_assoc,← List.map_append];have h11:Box (putRow encStr (Sort.ahead w q) b 0 (onceL ss++List.replicate (ss.length - (onceL ss).length) []).toArray) b 9 ([]++(onceL ss++List.replicate (ss.length - (onceL ss).length) []).toArray.toList.map S++tl):=h10;simpa using h11
    · subst hw;exact (gr_put q).mono fun k _ e=>by have e:k=b:=e;omega
theorem sorted36 (A0:Nat→Prop) (v:Value) (ss:List Str) (w:World) (h0:StrsAt A0 w v ss) (hl:ss.length≤400000):
    Ret Try.prog 34 #[v] w fun r w'=>LeftAt w.heap.size w' r (onceL ss)∧Bel w w':=by
  obtain ⟨A,h,hU⟩:∃ A:Nat→Prop,StrsAt A w v ss∧(∀ k,w.heap.size≤k→A k):=⟨_,h0.up,fun _=>.inr⟩;obtain ⟨p,cap,rfl,-⟩:=id h;refine ret_of_W Try.func34 rfl (Nat.le_of_ble_eq_true rfl) (res1 rfl) ?_;have hB:=Gr.refl (fun _=>False) w;refine W.seq (W.region (L.val (x_as (v:=.slice _ _ _) rfl) rfl ?_));refine L.nil (thn_n (W.seq (W.region (L.val (x_mv (v:=.slice _ _ _) rfl) rfl ?_))));refine L.ret (x_call kgrb_en48 rfl) rfl (values_ok _ _ _ _) ?_;rintro _ w4 ⟨rfl,bx4,hw⟩;have hB:=hB.carry hw;have h:=h.carry hw;have hs4:=hB.size;refine L.ret (x_call kgrb_en26 rfl) rfl (sorted_ok _ _ ss _ kgrb_en57 om_ (fun _ h=>List.Perm.of_eq h) (vals_seq A _ _ _ ss _ (fun k hk=>hU k (by have:=hB.size;omega)) bx4.lt (bx4.cell (i:=0) rfl) h (fun k hk=>hU k (by have:=hB.size;omega)))) ?_;rintro v5 w5 ⟨hN,hw⟩;have hB:=hB.carry hw;have h:=h.carry hw;refine L.ret (x_call kgrb_en47 rfl) rfl (compact_new36 _ _ _ ss hl hN) ?_;rintro v6 w6 ⟨hL,hg⟩;have hB:=hB.step hg (fun i hi e=>by omega);obtain ⟨p6,c6,rfl,-⟩:=hL.shape;refine L.val (x_as (v:=.slice _ _ _) rfl) rfl ?_;refine L.nil (thn_n (W.ret (fin_mk (.inr rfl) ?_)));exact ⟨hL.weak hs4,hB⟩
theorem contains_take {l:List Str} {x:Str} {k:Nat} (h:k<l.length):(l.take (k+1)).contains x=((l.take k).contains x || l.getD k [] == x):=by
  rw [take_snoc (d:=[]) h,Bool.eq_iff_iff,Bool.or_eq_true,List.contains_iff_mem,List.contains_iff_mem,List.mem_append,List.mem_singleton,beq_iff_eq];exact or_congr Iff.rfl eq_comm
theorem has36 (A:Nat→Prop) (v:Value) (l:List Str) (x:Str) (w:World) (h:StrsAt A w v l):
    Ret Try.prog 29 #[v,S x] w fun r w'=>r=.bool (l.contains x)∧Bel w w':=by
  obtain ⟨p,cap,rfl,-,-,hl3,-⟩:=id h;refine ret_of_W Try.func29 rfl (Nat.le_of_ble_eq_true rfl) (res1 rfl) ?_;have hB:=Gr.refl (fun _=>False) w;refine W.seq (W.region (L.val (x_as (v:=.bool _) rfl) rfl ?_));refine L.nil (thn_n (W.seq (W.seq (W.region (L.val (x_as (v:=.int _ _) rfl) rfl ?_)))));refine L.nil (thn_n (W.block (W.loop (fun m' E w'=>∃ (k:Nat),m'=l.length - k∧E 0=.slice p l.length cap∧E 1=S x∧E 5=.int .i64 (k:Nat)∧(k≤l.length)∧(Bel w w')∧(StrsAt A w' (.slice p l.length cap) l)∧((l.take k).contains x=false)) (l.length) ?_ ?_)))
  ·exact ⟨0,by omega,vi_,vi_,vi_,ao_,ao_,ao_,(by rfl)⟩
  ·rintro _ E wL6 ⟨k,em,e0,e1,e5,hk,hB,h,hc⟩;rw [upd_self e0,upd_self e1,upd_self e5];refine W.seq (W.seq (W.region (L.val (x_mv (v:=.int _ _) rfl) rfl ?_)));refine L.val (x_mv (v:=.slice _ _ _) rfl) rfl ?_;refine L.val (x_len_slice Try.underlying23 rfl) rfl ?_;refine L.val (x_lss rfl rfl) rfl ?_;refine L.nil (thn_n (W.cond (b:=_) rfl (fun g9=>?_) (fun g9=>?_)))
   ·have h9:=of_decide_eq_true g9;have hlt:k<l.length:=by omega
    obtain ⟨b,o,rfl,hcl⟩:=h.elem hlt;refine W.skip (thn_n (W.seq (W.block (W.seq (W.region (L.val (x_mv (v:=.slice _ _ _) rfl) rfl ?_))))));refine L.val (x_mv (v:=.int _ _) rfl) rfl ?_;refine L.val (x_ia1 (j:=k) Try.underlying23 kgrb_sz9 rfl rfl om_ om_) rfl ?_;refine L.val (x_ld (v:=S _) kgrb_oc9 rfl hcl) rfl ?_;refine L.val (x_mv (v:=S _) rfl) rfl ?_;refine L.val (x_eqs rfl rfl) rfl ?_;refine L.nil (thn_n (W.cond (b:=_) rfl (fun g17=>?_) (fun g17=>?_)))
    ·have h17:=seq_t g17;refine W.seq (W.region (L.val (x_as (v:=.bool _) rfl) rfl ?_));refine L.nil (thn_n (W.ret (blk_r (thn_r (thn_r (blk_r (thn_r (fin_mk (.inr rfl) ?_))))))));refine ⟨vb (Eq.symm ?_),hB⟩;rw [List.contains_iff_mem,← h17,List.getD_eq_getElem?_getD,List.getElem?_eq_getElem hlt];exact List.getElem_mem _
    ·have h17:=seq_f g17;refine W.skip (blk_n (thn_n (W.region (L.val (x_mv (v:=.int _ _) rfl) rfl ?_))));refine L.val (x_add rfl rfl (wr64 om_)) rfl ?_;refine L.val (x_as (v:=.int _ _) rfl) rfl ?_;refine L.nil (thn_n ⟨rfl,?_⟩);refine ⟨_,?_,k+1,rfl,vi_,vi_,vi_,ao_,ao_,ao_,(by rw [contains_take hlt,hc];simpa using h17)⟩;omega
   ·have h9:=dlt_f g9;refine W.exit (thn_x (thn_x (blk_hit ?_)));refine thn_n (W.seq (W.region (L.val (x_as (v:=.bool _) rfl) rfl ?_)));refine L.nil (thn_n (W.ret (fin_mk (.inr rfl) ?_)));rw [show k=l.length by omega,List.take_length] at hc;exact ⟨vb hc.symm,hB⟩
theorem idx_hit {l:List Str} {x:Str} {k:Nat} (hk:k<l.length) (h:l.getD k []=x) (hc:(l.take k).contains x=false):l.idxOf x=k:=by
  have h1:x∉l.take k:=by rw [← List.contains_iff_mem,hc];simp
  have h2:l=l.take k++x :: l.drop (k+1):=by
    conv=>lhs;rw [← List.take_append_drop k l]
    rw [List.drop_eq_getElem_cons hk,← h,List.getD_eq_getElem?_getD,List.getElem?_eq_getElem hk];rfl
  rw [h2,List.idxOf_append,if_neg h1];simp;omega
theorem strs_take {A:Nat→Prop} {w:World} {p:Option Addr} {cap k:Nat} {l:List Str} (h:StrsAt A w (.slice p l.length cap) l) (hk:k≤l.length):HoldsN w (.slice p k cap) k ((l.take k).map S):=by
  cases p with
  | none=>
    have hl:l=[]:=Classical.byContradiction fun e=>by
      obtain ⟨p',cap',hv,-,-,-,-,h4⟩:=h;cases hv;obtain ⟨b,o,e2,-⟩:=h4 e;cases e2
    subst hl;have:k=0:=by simpa using hk
    subst this;exact .inr ⟨cap,rfl,rfl,rfl⟩
  | some a=>
    refine .inl ⟨a,cap,rfl,fun j x hj=>?_⟩;have hjk:j<k:=by
      have:=(List.getElem?_eq_some_iff.1 hj).1;rw [List.length_map,List.length_take] at this;omega
    obtain ⟨b,o,e,hc⟩:=h.elem (show j<l.length by omega);cases e;rw [List.getElem?_map,List.getElem?_take,if_pos hjk,List.getElem?_eq_getElem (show j<l.length by omega)] at hj;rw [List.getD_eq_getElem?_getD,List.getElem?_eq_getElem (show j<l.length by omega)] at hc;cases hj;cases j with
    | zero=>simpa [Addr.add] using hc
    | succ j=>simpa [Addr.add] using hc
theorem strs_drop {A:Nat→Prop} {w:World} {p:Option Addr} {cap k:Nat} {l:List Str} (h:StrsAt A w (.slice p l.length cap) l) (hk:k≤l.length):HoldsN w (.slice (if cap=k then p else p.map (·.add (k * 1))) (l.length - k) (cap - k)) (l.length - k) ((l.drop k).map S):=by
  by_cases e0:k=l.length
  · subst e0;rw [Nat.sub_self,List.drop_length];cases hp:(if cap=l.length then p else p.map (·.add (l.length * 1))) with
    | none=>exact .inr ⟨_,rfl,rfl,rfl⟩
    | some a=>exact .inl ⟨a,_,rfl,fun j x hj=>by simp at hj⟩
  · have hlt:k<l.length:=by omega
    have hcap:¬ cap=k:=by
      obtain ⟨p',cap',hv,h1,-⟩:=h;cases hv;omega
    obtain ⟨b,o,rfl,-⟩:=h.elem hlt;rw [if_neg hcap];refine .inl ⟨_,_,rfl,fun j x hj=>?_⟩;have hjk:j<l.length - k:=by
      have:=(List.getElem?_eq_some_iff.1 hj).1;rw [List.length_map,List.length_drop] at this;omega
    have hc:=h.elemAt (show k+j<l.length by omega);rw [List.getElem?_map,List.getElem?_drop,List.getElem?_eq_getElem (show k+j<l.length by omega)] at hj;rw [List.getD_eq_getElem?_getD,List.getElem?_eq_getElem (show k+j<l.length by omega)] at hc;cases hj;show w.cell? ((Addr.add ⟨b,o,none⟩ (k * 1)).add j)=_;rw [add_add,Nat.mul_one];exact hc
theorem StrsAt.old {A:Nat→Prop} {w w':World} {v:Value} {l:List Str} (h:StrsAt A w v l) (g:Bel w w'):StrsAt (fun k=>A k∨w.heap.size≤k) w' v l:=h.up.carry g
theorem add36 (A:Nat→Prop) (v:Value) (l:List Str) (x:Str) (w:World) (h:StrsAt A w v l) (hx:x.length≤9223372036854775807) (hl:l.length≤400000):
    Ret Try.prog 30 #[v,S x] w fun r w'=>StrsAt (fun k=>A k∧k<w.heap.size) w' r (addL l x)∧Bel w w':=by
  obtain ⟨p,cap,rfl,h1,h2,h3,h4,-⟩:=id h;refine ret_of_W Try.func30 rfl (Nat.le_of_ble_eq_true rfl) (res1 rfl) ?_;have hB:=Gr.refl (fun _=>False) w;refine W.seq (W.region (L.val (x_as (v:=.slice _ _ _) rfl) rfl ?_));refine L.nil (thn_n (W.seq (W.region (L.val (x_as (v:=.int _ _) rfl) rfl ?_))));refine L.nil (thn_n (W.seq (W.block (W.loop (fun m' E w'=>∃ (k:Nat),m'=l.length - k∧E 0=.slice p l.length cap∧E 1=S x∧E 5=.int .i64 (k:Nat)∧(k≤l.length)∧(Bel w w')∧(StrsAt A w' (.slice p l.length cap) l)∧(∀ j,j<k→ltStr (l.getD j []) x=true)) (l.length) ?_ ?_))))
  ·exact ⟨0,by omega,vi_,vi_,vi_,ao_,ao_,ao_,(by intro j hj;omega)⟩
  ·rintro _ E wL6 ⟨k,em,e0,e1,e5,hk,hB,h,hlt⟩;rw [upd_self e0,upd_self e1,upd_self e5];refine W.seq (W.seq (W.region (L.val (x_mv (v:=.int _ _) rfl) rfl ?_)));refine L.val (x_mv (v:=.slice _ _ _) rfl) rfl ?_;refine L.val (x_len_slice Try.underlying23 rfl) rfl ?_;refine L.val (x_lss rfl rfl) rfl ?_;refine L.val (x_mv (v:=.bool _) rfl) rfl ?_;refine' L.group0 6 11 16 16 10 true rfl ?_ ?_ ?_;rotate_left 1
   ·intro g10;have h10:=of_decide_eq_true g10;have hkl:k<l.length:=by omega
    obtain ⟨b,o,hp,hcl⟩:=h.elem hkl;refine L.gyes' (dj:=10) (b:=_) rfl rfl g10 ?_;refine L.val (x_mv (v:=.slice _ _ _) rfl) rfl ?_;refine L.gyes' (dj:=10) (b:=_) rfl rfl g10 ?_;refine L.val (x_mv (v:=.int _ _) rfl) rfl ?_;refine L.gyes' (dj:=10) (b:=_) rfl rfl g10 ?_;refine L.val (x_ia1 (j:=k) Try.underlying23 kgrb_sz9 (congrArg (fun q=>Value.slice q l.length cap) hp) rfl rfl hkl) rfl ?_;refine L.gyes' (dj:=10) (b:=_) rfl rfl g10 ?_;refine L.val (x_ld (v:=S _) kgrb_oc9 rfl hcl) rfl ?_;refine L.gyes' (dj:=10) (b:=_) rfl rfl g10 ?_;refine L.val (x_mv (v:=S _) rfl) rfl ?_;refine L.gyes' (dj:=10) (b:=_) rfl rfl g10 ?_;refine L.val (x_lts rfl rfl) rfl ?_;refine L.nil (thn_n ⟨rfl,rfl,?_,rfl⟩);repeat (first | exact jeq.refl _ _ _ | refine jeq.upd rfl ?_ | refine jeq.jk rfl rfl ?_)
   ·intro g10;(iterate 6 refine L.gno (dj:=10) (b:=_) rfl rfl g10 rfl ?_);refine L.nil (thn_n ⟨rfl,rfl,?_⟩);repeat (first | exact jeq.refl _ _ _ | refine jeq.upd rfl ?_ | refine jeq.jk rfl rfl ?_)
   intro J10 j10;refine L.val (x_and rfl j10) rfl ?_;refine L.nil (thn_n (W.cond (b:=_) rfl (fun g17=>?_) (fun g17=>?_)))
   ·have h17:=g17;have h17:k<l.length∧ltStr (l.getD k []) x=true:=by
      rw [Bool.and_eq_true,lt_bytesG] at g17;exact ⟨by have:=of_decide_eq_true g17.1;omega,g17.2⟩
    refine W.skip (thn_n (W.block (W.region (L.val (x_mv (v:=.int _ _) rfl) rfl ?_))));refine L.val (x_add rfl rfl (wr64 om_)) rfl ?_;refine L.val (x_as (v:=.int _ _) rfl) rfl ?_;refine L.nil (blk_n (thn_n ⟨rfl,?_⟩));refine ⟨_,?_,k+1,rfl,vi_,vi_,vi_,(by have:=h17.1;omega),ao_,ao_,(by intro j hj;by_cases e:j=k;subst e;exact h17.2;exact hlt j om_)⟩;omega
   ·have h17:=g17;have h17:k<l.length→ltStr (l.getD k []) x=false:=fun hkl=>by
      rw [decide_eq_true (show (k:Int)<(l.length:Int) by omega),Bool.true_and,lt_bytesG] at g17;exact g17
    have hA:=addL_at hk hlt h17;refine W.exit (thn_x (thn_x (blk_hit ?_)));refine thn_n (W.seq (W.seq (W.region (L.val (x_mv (v:=.int _ _) rfl) rfl ?_))));refine L.val (x_mv (v:=.slice _ _ _) rfl) rfl ?_;refine L.val (x_len_slice Try.underlying23 rfl) rfl ?_;refine L.val (x_lss rfl rfl) rfl ?_;refine L.val (x_mv (v:=.bool _) rfl) rfl ?_;refine' L.group0 6 25 30 30 24 true rfl ?_ ?_ ?_;rotate_left 1
    ·intro g24;have h24:=of_decide_eq_true g24;have hkl:k<l.length:=by omega
     obtain ⟨b,o,hp,hcl⟩:=h.elem hkl;refine L.gyes' (dj:=24) (b:=_) rfl rfl g24 ?_;refine L.val (x_mv (v:=.slice _ _ _) rfl) rfl ?_;refine L.gyes' (dj:=24) (b:=_) rfl rfl g24 ?_;refine L.val (x_mv (v:=.int _ _) rfl) rfl ?_;refine L.gyes' (dj:=24) (b:=_) rfl rfl g24 ?_;refine L.val (x_ia1 (j:=k) Try.underlying23 kgrb_sz9 (congrArg (fun q=>Value.slice q l.length cap) hp) rfl rfl hkl) rfl ?_;refine L.gyes' (dj:=24) (b:=_) rfl rfl g24 ?_;refine L.val (x_ld (v:=S _) kgrb_oc9 rfl hcl) rfl ?_;refine L.gyes' (dj:=24) (b:=_) rfl rfl g24 ?_;refine L.val (x_mv (v:=S _) rfl) rfl ?_;refine L.gyes' (dj:=24) (b:=_) rfl rfl g24 ?_;refine L.val (x_eqs rfl rfl) rfl ?_;refine L.nil (thn_n ⟨rfl,rfl,?_,rfl⟩);repeat (first | exact jeq.refl _ _ _ | refine jeq.upd rfl ?_ | refine jeq.jk rfl rfl ?_)
    ·intro g24;(iterate 6 refine L.gno (dj:=24) (b:=_) rfl rfl g24 rfl ?_);refine L.nil (thn_n ⟨rfl,rfl,?_⟩);repeat (first | exact jeq.refl _ _ _ | refine jeq.upd rfl ?_ | refine jeq.jk rfl rfl ?_)
    intro J24 j24;refine L.val (x_and rfl j24) rfl ?_;refine L.nil (thn_n (W.cond (b:=_) rfl (fun g31=>?_) (fun g31=>?_)))
    ·have h31:=g31;have h31:k<l.length∧l.getD k []=x:=by
       rw [Bool.and_eq_true] at g31;exact ⟨by have:=of_decide_eq_true g31.1;omega,by simpa using g31.2⟩
     rw [if_pos h31] at hA;refine W.seq (W.region (L.val (x_mv (v:=.slice _ _ _) rfl) rfl ?_));refine L.val (x_as (v:=.slice _ _ _) rfl) rfl ?_;refine L.nil (thn_n (W.ret (thn_r (fin_mk (.inr rfl) ?_))));rw [hA];exact ⟨h.mono fun _ _ e=>e.1,hB⟩
    ·have h31:=g31;have h31:¬ (k<l.length∧l.getD k []=x):=fun e=>by
       rw [decide_eq_true (show (k:Int)<(l.length:Int) by omega),Bool.true_and] at g31;rw [e.2] at g31;simp at g31
     rw [if_neg h31] at hA;have hsB:=hB.size;refine W.skip (thn_n (W.seq (W.drawF 13 kgrb_mixed (fun wF33 hB0=>?_))));refine LAC.takeN (i:=1) rfl kr_ kr_ kr_ kr_ (fun w hw=>x_mv (v:=.slice _ _ _) rfl) rfl ?_;refine LAC.takeN (i:=2) rfl kr_ kr_ kr_ kr_ (fun w hw=>x_mv (v:=.int _ _) rfl) rfl ?_;refine LAC.takeN (i:=3) rfl kr_ kr_ kr_ kr_ (fun w hw=>x_shi (j:=k) Try.underlying23 kgrb_sz9 rfl rfl rfl om_) rfl ?_;refine LAC.takeN (i:=5) rfl kr_ kr_ kr_ kr_ (fun w hw=>x_mv (v:=S _) rfl) rfl ?_;refine LAC.takeN (i:=8) rfl kr_ kr_ kr_ kr_ (fun w hw=>x_mv (v:=.slice _ _ _) rfl) rfl ?_;refine LAC.takeN (i:=9) rfl kr_ kr_ kr_ kr_ (fun w hw=>x_mv (v:=.int _ _) rfl) rfl ?_;refine LAC.takeN (i:=10) rfl kr_ kr_ kr_ kr_ (fun w hw=>x_slog (j:=k) Try.underlying23 kgrb_sz9 rfl rfl rfl hk) rfl ?_;refine LAC.step (rs:=[0,6]) (fun _=>hB0) kr_ (by simp) ⟨⟨_,rfl,?_⟩,⟨_,rfl,?_⟩,trivial⟩
     ·refine L.bs0 Try.underlying23 kgrb_el9 rfl (fun w33 hO33 hw hz33=>?_);have hO33:=hO33.weak hB0.size;have hB0:=hB0.carry hw;try have bx39:=bx39.carry hw
      refine L.nil (thn_n (LAC.step (rs:=[4,6]) (fun _=>hB0) kr_ (by simp) ⟨⟨_,rfl,?_⟩,⟨_,rfl,?_⟩,trivial⟩))
      ·refine L.appendN (m:=k) Try.underlying23 kgrb_el9 rfl rfl rfl hO33 (by simp;omega) (strs_take (h.carry hB0) hk) (by intro u hu;obtain ⟨x,-,rfl⟩:=List.mem_map.1 hu;rfl) om_ hB0.size (fun v37 w37 hO37 hg hob37=>?_);have hB0:=hB0.step hg (fun j hj e=>by have:=(Own.lt hO33 e).1;omega);try have bx39:=bx39.carryR hg (fun e=>ne_ownG om_ e)
       refine L.nil (thn_n (LAC.step (rs:=[6]) (fun _=>hB0) kr_ (by simp) ⟨⟨_,rfl,?_⟩,trivial⟩));refine L.bs (sz:=1) (cells:=[S x]) Try.underlying23 kgrb_el9 rfl rfl rfl rfl (fun w39 bx39 hw hz39=>?_);have hB0:=hB0.carry hw;try have hO33:=hO33.carry hw
       try have hO37:=hO37.carry hw
       refine L.nil (thn_n (LAC.step (rs:=[7]) (fun _=>hB0) kr_ (by simp) ⟨⟨_,rfl,?_⟩,trivial⟩));refine L.append (m:=1) Try.underlying23 kgrb_el9 rfl rfl rfl hO37 rfl bx39.news (by simp [Value.oneCell',S]) om_ hB0.size (fun v40 w40 hO40 hg hiff40 hob40=>?_);have hB0:=hB0.step hg (fun j hj e=>by have:=(Own.lt hO37 e).1;omega);refine L.nil (thn_n (LAC.step (rs:=[11]) (fun _=>hB0) kr_ (by simp) ⟨⟨_,rfl,?_⟩,trivial⟩));refine L.appendN (m:=(l.length - k)) Try.underlying23 kgrb_el9 rfl rfl rfl hO40 (by simp) (strs_drop (h.carry hB0) hk) (by intro u hu;obtain ⟨x,-,rfl⟩:=List.mem_map.1 hu;rfl) om_ hB0.size (fun v44 w44 hO44 hg hob44=>?_);have hB0:=hB0.step hg (fun j hj e=>by have:=(Own.lt hO40 e).1;omega);have hlen:0+k+1+(l.length - k)=(addL l x).length:=by rw [hA];simp;omega
       have hmap:[]++List.map S (List.take k l)++[S x]++List.map S (List.drop k l)=(addL l x).map S:=by rw [hA];simp
       rw [hlen,hmap] at hO44;obtain ⟨a44,c44,rfl,-⟩:=own_shape hO44;have hlx:∀ z∈addL l x,z.length≤9223372036854775807:=fun z hz=>by
         rcases mem_addL.1 hz with e | hz
         · rw [e];exact hx
         · exact h4 z hz
       have hR:=strs_done (A:=fun k=>A k∧k<w.heap.size) hO44 (by rw [← hlen];omega) hlx (fun j hj e=>by have:=e.2;omega);refine L.nil (thn_n (LAC.takeN (i:=12) rfl kr_ kr_ kr_ kr_ (fun w hw=>x_as (v:=.slice _ _ _) rfl) rfl ?_));refine LAC.doneF kr_ hB0 ?_;have hB:=hB.carry hB0;have h:=h.carry hB0;refine thn_n (W.ret (fin_mk (.inr rfl) ?_));exact ⟨hR,hB⟩
      ·refine L.bs (sz:=1) (cells:=[S x]) Try.underlying23 kgrb_el9 rfl rfl rfl rfl (fun w39 bx39 hw hz39=>?_);have hB0:=hB0.carry hw;try have hO33:=hO33.carry hw
       try have hO37:=hO37.carry hw
       refine L.nil (thn_n (LAC.step (rs:=[4]) (fun _=>hB0) kr_ (by simp) ⟨⟨_,rfl,?_⟩,trivial⟩));refine L.appendN (m:=k) Try.underlying23 kgrb_el9 rfl rfl rfl hO33 (by simp;omega) (strs_take (h.carry hB0) hk) (by intro u hu;obtain ⟨x,-,rfl⟩:=List.mem_map.1 hu;rfl) om_ hB0.size (fun v37 w37 hO37 hg hob37=>?_);have hB0:=hB0.step hg (fun j hj e=>by have:=(Own.lt hO33 e).1;omega);try have bx39:=bx39.carryR hg (fun e=>ne_ownG om_ e)
       refine L.nil (thn_n (LAC.step (rs:=[7]) (fun _=>hB0) kr_ (by simp) ⟨⟨_,rfl,?_⟩,trivial⟩));refine L.append (m:=1) Try.underlying23 kgrb_el9 rfl rfl rfl hO37 rfl bx39.news (by simp [Value.oneCell',S]) om_ hB0.size (fun v40 w40 hO40 hg hiff40 hob40=>?_);have hB0:=hB0.step hg (fun j hj e=>by have:=(Own.lt hO37 e).1;omega);refine L.nil (thn_n (LAC.step (rs:=[11]) (fun _=>hB0) kr_ (by simp) ⟨⟨_,rfl,?_⟩,trivial⟩));refine L.appendN (m:=(l.length - k)) Try.underlying23 kgrb_el9 rfl rfl rfl hO40 (by simp) (strs_drop (h.carry hB0) hk) (by intro u hu;obtain ⟨x,-,rfl⟩:=List.mem_map.1 hu;rfl) om_ hB0.size (fun v44 w44 hO44 hg hob44=>?_);have hB0:=hB0.step hg (fun j hj e=>by have:=(Own.lt hO40 e).1;omega);have hlen:0+k+1+(l.length - k)=(addL l x).length:=by rw [hA];simp;omega
       have hmap:[]++List.map S (List.take k l)++[S x]++List.map S (List.drop k l)=(addL l x).map S:=by rw [hA];simp
       rw [hlen,hmap] at hO44;obtain ⟨a44,c44,rfl,-⟩:=own_shape hO44;have hlx:∀ z∈addL l x,z.length≤9223372036854775807:=fun z hz=>by
         rcases mem_addL.1 hz with e | hz
         · rw [e];exact hx
         · exact h4 z hz
       have hR:=strs_done (A:=fun k=>A k∧k<w.heap.size) hO44 (by rw [← hlen];omega) hlx (fun j hj e=>by have:=e.2;omega);refine L.nil (thn_n (LAC.takeN (i:=12) rfl kr_ kr_ kr_ kr_ (fun w hw=>x_as (v:=.slice _ _ _) rfl) rfl ?_));refine LAC.doneF kr_ hB0 ?_;have hB:=hB.carry hB0;have h:=h.carry hB0;refine thn_n (W.ret (fin_mk (.inr rfl) ?_));exact ⟨hR,hB⟩
     ·refine L.bs (sz:=1) (cells:=[S x]) Try.underlying23 kgrb_el9 rfl rfl rfl rfl (fun w39 bx39 hw hz39=>?_);have hB0:=hB0.carry hw;try have hO33:=hO33.carry hw
      try have hO37:=hO37.carry hw
      refine L.nil (thn_n (LAC.step (rs:=[0]) (fun _=>hB0) kr_ (by simp) ⟨⟨_,rfl,?_⟩,trivial⟩));refine L.bs0 Try.underlying23 kgrb_el9 rfl (fun w33 hO33 hw hz33=>?_);have hO33:=hO33.weak hB0.size;have hB0:=hB0.carry hw;try have bx39:=bx39.carry hw
      refine L.nil (thn_n (LAC.step (rs:=[4]) (fun _=>hB0) kr_ (by simp) ⟨⟨_,rfl,?_⟩,trivial⟩));refine L.appendN (m:=k) Try.underlying23 kgrb_el9 rfl rfl rfl hO33 (by simp;omega) (strs_take (h.carry hB0) hk) (by intro u hu;obtain ⟨x,-,rfl⟩:=List.mem_map.1 hu;rfl) om_ hB0.size (fun v37 w37 hO37 hg hob37=>?_);have hB0:=hB0.step hg (fun j hj e=>by have:=(Own.lt hO33 e).1;omega);try have bx39:=bx39.carryR hg (fun e=>ne_ownG om_ e)
      refine L.nil (thn_n (LAC.step (rs:=[7]) (fun _=>hB0) kr_ (by simp) ⟨⟨_,rfl,?_⟩,trivial⟩));refine L.append (m:=1) Try.underlying23 kgrb_el9 rfl rfl rfl hO37 rfl bx39.news (by simp [Value.oneCell',S]) om_ hB0.size (fun v40 w40 hO40 hg hiff40 hob40=>?_);have hB0:=hB0.step hg (fun j hj e=>by have:=(Own.lt hO37 e).1;omega);refine L.nil (thn_n (LAC.step (rs:=[11]) (fun _=>hB0) kr_ (by simp) ⟨⟨_,rfl,?_⟩,trivial⟩));refine L.appendN (m:=(l.length - k)) Try.underlying23 kgrb_el9 rfl rfl rfl hO40 (by simp) (strs_drop (h.carry hB0) hk) (by intro u hu;obtain ⟨x,-,rfl⟩:=List.mem_map.1 hu;rfl) om_ hB0.size (fun v44 w44 hO44 hg hob44=>?_);have hB0:=hB0.step hg (fun j hj e=>by have:=(Own.lt hO40 e).1;omega);have hlen:0+k+1+(l.length - k)=(addL l x).length:=by rw [hA];simp;omega
      have hmap:[]++List.map S (List.take k l)++[S x]++List.map S (List.drop k l)=(addL l x).map S:=by rw [hA];simp
      rw [hlen,hmap] at hO44;obtain ⟨a44,c44,rfl,-⟩:=own_shape hO44;have hlx:∀ z∈addL l x,z.length≤9223372036854775807:=fun z hz=>by
        rcases mem_addL.1 hz with e | hz
        · rw [e];exact hx
        · exact h4 z hz
      have hR:=strs_done (A:=fun k=>A k∧k<w.heap.size) hO44 (by rw [← hlen];omega) hlx (fun j hj e=>by have:=e.2;omega);refine L.nil (thn_n (LAC.takeN (i:=12) rfl kr_ kr_ kr_ kr_ (fun w hw=>x_as (v:=.slice _ _ _) rfl) rfl ?_));refine LAC.doneF kr_ hB0 ?_;have hB:=hB.carry hB0;have h:=h.carry hB0;refine thn_n (W.ret (fin_mk (.inr rfl) ?_));exact ⟨hR,hB⟩
end Go.Gx
