/- Types as text, both sides. Conditions: none. -/
import Derived.Test.YtcncoaabbedhfaaGreatCcText
import Derived.Test.YtcncoaabbedhfaaGreatCcIfV
import Derived.Test.YtcncoaabbedhfaaGreatCcSort3
import Derived.Test.YtcncoaabbedhfaaGreatCcItR
import Derived.Test.YtcncoaabbedhfaaGreatCcOctK
set_option linter.unusedSimpArgs false
namespace Go.Gx
open Go.Proofs Go.Sort
theorem kshow_ag41:aggT Tryz.prog 41 5=true:=by kernel_rfl
theorem kshow_el9:elT Tryz.prog 9 1=true:=by kernel_rfl
theorem kshow_en45:Go.Proofs.Enters Tryz.prog 45:=Go.Proofs.enters_of Tryz.func45 kr_ rfl
theorem kshow_en67:Go.Proofs.Enters Tryz.prog 67:=Go.Proofs.enters_of Tryz.func67 kr_ rfl
theorem kshow_en93:Go.Proofs.Enters Tryz.prog 93:=Go.Proofs.enters_of Tryz.func93 kr_ rfl
theorem kshow_fo41_0:fieldOff Tryz.prog 41 0=some 0:=by kernel_rfl
theorem kshow_fo41_1:fieldOff Tryz.prog 41 1=some 1:=by kernel_rfl
theorem kshow_fo41_2:fieldOff Tryz.prog 41 2=some 2:=by kernel_rfl
theorem kshow_fo41_3:fieldOff Tryz.prog 41 3=some 3:=by kernel_rfl
theorem kshow_fo41_4:fieldOff Tryz.prog 41 4=some 4:=by kernel_rfl
theorem kshow_mixed:Tryz.prog.follows .mixedOrders=true:=by kernel_rfl
theorem kshow_oc3:oneCellT Tryz.prog 3=true:=by kernel_rfl
theorem kshow_oc38:oneCellT Tryz.prog 38=true:=by kernel_rfl
theorem kshow_oc39:oneCellT Tryz.prog 39=true:=by kernel_rfl
theorem kshow_oc9:oneCellT Tryz.prog 9=true:=by kernel_rfl
theorem kshow_sz41:(Tryz.prog.info? 41).map (·.size)=some 5:=by kernel_rfl
theorem kshow_sz9:(Tryz.prog.info? 9).map (·.size)=some 1:=by kernel_rfl
theorem kshow_zr41:(Tryz.prog.info? 41).bind (·.zero)=some (Value.agg [Value.int .i64 0,S [],S [],Value.slice none 0 0,Value.slice none 0 0].toArray):=by kernel_rfl
theorem labels_lens {s:Sh} (h:s.allB fitsS=true):lens (labels s)+3 * (labels s).length+6≤80 * s.size:=by
  cases s with
  | mk k o n ns ps=>
    rw [Sh.allB,Bool.and_eq_true] at h;obtain ⟨f1,f2,f3⟩:=fits_len h.1;have h1:=textL_len ps h.2;have h2:=@lens_lab ns f3 (ps.map Sh.text);have h3:(lab ns (ps.map Sh.text)).length≤ps.length:=by unfold lab;split <;> simp;omega
    rw [textL_eq] at h1;have h4:(ps.map Sh.text).length=ps.length:=by simp
    show lens (lab ns (ps.map Sh.text))+3 * (lab ns (ps.map Sh.text)).length+6≤_;rw [Sh.size];omega
theorem allB_fits {s:Sh} (h:s.allB fitsS=true):fitsS s=true:=by rw [Sh.allB_eq] at h;simp at h;exact h.1
theorem allB_parts {s:Sh} (h:s.allB fitsS=true):allL fitsS s.parts=true:=by rw [Sh.allB_eq] at h;simp at h;exact h.2
theorem getD_len {l:List Str} {n:Nat} (h:∀ x∈l,x.length≤n) {i:Nat}:(l.getD i []).length≤n:=by
  rw [List.getD_eq_getElem?_getD];cases hh:l[i]? with
  | none=>simp
  | some x=>simp;exact h x (List.mem_of_getElem? hh)
theorem join_own {w:World} {base n c m:Nat} {a:Option Addr} {sep:Str} {l:List Str} (h:Own w base 9 1 (.slice a n c) n (l.map S)) (hm:m≤n) (hn:n=l.length) (hl:(join sep (l.take m)).length≤140737488355328) (hc:n≤140737488355328):
    Ret Tryz.prog 93 #[.slice a m c,S sep] w fun v w'=>v=S (join sep (l.take m))∧Bel w w':=by
  rcases h.open with ⟨h1,h2,-⟩ | ⟨b,cap,tl,h1,-,hk,hcm,hb⟩
  · simp only [Value.slice.injEq] at h1;have hm0:m=0:=by omega
    subst hm0;refine Calls.mono (Tryz.strings_Join_none a c ⟨sep.toArray⟩ w) fun e w' ⟨he,hw⟩=>⟨_,he,?_,hw ▸ Gr.refl _ _⟩
    simp [join,S]
  · simp only [Value.slice.injEq] at h1;obtain ⟨rfl,-,rfl⟩:=h1;have hbl:=hb.lt;have e1:((l.take m).map fun x:Str=>(⟨x.toArray⟩:ByteArray)).length=m:=by simp;omega
    have e2:(((l.take m).map fun x:Str=>(⟨x.toArray⟩:ByteArray)).map fun x=>x.data.toList)=l.take m:=by simp [Function.comp_def]
    have hj:=Tryz.strings_Join b 0 c ((l.take m).map fun x=>⟨x.toArray⟩) ⟨sep.toArray⟩ w (fun j x hx=>by
      obtain ⟨y,hy,rfl⟩:=List.getElem?_map .. ▸ hx |> Option.map_eq_some_iff.1
      rw [List.getElem?_take] at hy;split at hy
      · refine hb.cell0 ?_;rw [List.getElem?_append_left (by have:=(List.getElem?_eq_some_iff.1 hy).1;simpa using this),List.getElem?_map,hy];rfl
      · cases hy) hbl (by rw [e1];omega) (by rw [e1];omega) (by rw [e2,join_lib];exact hl)
    rw [e1,e2,join_lib] at hj;exact Calls.mono hj fun e w' ⟨he,hw⟩=>⟨_,he,rfl,bel_of hw⟩
section
variable {s:Sh}
theorem text1 (h:s.kind=1):s.text=[73,110,116]:=by rw [Sh.text_eq,textOf,if_pos h]
theorem text2 (h:s.kind=2):s.text=[66,111,111,108]:=by rw [Sh.text_eq,textOf,if_neg om_,if_pos h]
theorem text3 (h:s.kind=3):s.text=[84,101,120,116]:=by rw [Sh.text_eq,textOf,if_neg om_,if_neg om_,if_pos h]
theorem text4 (h:s.kind=4):s.text=[65,110,121]:=by rw [Sh.text_eq,textOf,if_neg om_,if_neg om_,if_neg om_,if_pos h]
theorem text5 (h:s.kind=5):s.text=[91]++(labels s).getD 0 []++[93]:=by rw [Sh.text_eq,textOf,if_neg om_,if_neg om_,if_neg om_,if_neg om_,if_pos h]
theorem text6 (h:s.kind=6):s.text=[123]++join [44,32] (labels s)++[125]:=by rw [Sh.text_eq,textOf,if_neg om_,if_neg om_,if_neg om_,if_neg om_,if_neg om_,if_pos h]
theorem text7 (h:s.kind=7):s.text=[60]++join [32,124,32] (labels s)++[62]:=by rw [Sh.text_eq,textOf,if_neg om_,if_neg om_,if_neg om_,if_neg om_,if_neg om_,if_neg om_,if_pos h]
theorem text8 (h:s.kind=8):s.text=[40]++join [44,32] ((labels s).take ((labels s).length - 1))++[41,32,45,62,32]++(labels s).getD ((labels s).length - 1) []:=by rw [Sh.text_eq,textOf,if_neg om_,if_neg om_,if_neg om_,if_neg om_,if_neg om_,if_neg om_,if_neg om_,if_pos h]
theorem text0 (h:¬ s.kind=1∧¬ s.kind=2∧¬ s.kind=3∧¬ s.kind=4∧¬ s.kind=5∧¬ s.kind=6∧¬ s.kind=7∧¬ s.kind=8):s.text=if s.of=[] then s.name else s.of++[47]++s.name:=by
  obtain ⟨h1,h2,h3,h4,h5,h6,h7,h8⟩:=h;rw [Sh.text_eq,textOf,if_neg h1,if_neg h2,if_neg h3,if_neg h4,if_neg h5,if_neg h6,if_neg h7,if_neg h8]
theorem list_one (h:fitsS s=true) (hk:s.kind=5):s.names=[]∧s.parts.length=1:=by
  rw [fits_list hk] at h;simp only [Bool.and_eq_true,decide_eq_true_eq] at h;exact ⟨List.eq_nil_of_length_eq_zero om_,by omega⟩
theorem fun_some (h:fitsS s=true) (hk:s.kind=8):s.names=[]∧0<s.parts.length:=by
  rw [fits_tup hk] at h;simp only [Bool.and_eq_true,decide_eq_true_eq] at h;exact ⟨List.eq_nil_of_length_eq_zero om_,by omega⟩
end
set_option maxHeartbeats 2000000 in
theorem shown_ok:∀ (N:Nat) (s:Sh),SizeOf.sizeOf s<N→s.size≤400→s.allB fitsS=true→∀ (A0:Nat→Prop) (cs:List Value) (w:World),ShC A0 w cs s→
    Ret Tryz.prog 67 #[.agg cs.toArray] w fun v w'=>v=S s.text∧Bel w w':=by
  intro N;induction N with
  | zero=>intro s h;omega
  | succ N ih=>
    intro s hN hM hf A0 cs w hs0;obtain ⟨A,hs,hU⟩:∃ A:Nat→Prop,ShC A w cs s∧(∀ k,w.heap.size≤k→A k):=⟨_,hs0.up,fun _=>.inr⟩;clear hs0;have hT:=fun (i:Nat) (hi:i<s.parts.length) (cs:List Value) (w:World) (h:ShC A w cs (s.parts.getD i default))=>ih _ (by have:=Sh.part_lt hi;omega) (by have:=Sh.part_size hi;omega) (allL_getD (allB_parts hf) hi) A cs w h
    obtain ⟨vn,vp,rfl,hn,hp,hof,hnm⟩:=hs.inv;obtain ⟨p,cap,row,rfl,p1,p2,p3,hr⟩:=hp;obtain ⟨pn,capn,rfl,n1,n2,n3,hL,-⟩:=id hn;clear hs;have hple:=parts_le s;have hfs:s.names=[]∨s.names.length=s.parts.length:=(fits_names (allB_fits hf)).imp id (·.1);have hll:=labels_len hfs;have hlens:=labels_lens hf;have hjl:∀ (sep:Str) i,sep.length≤3→(join sep ((labels s).take i)).length≤32000:=fun sep i hsep=>by
      have h1:=@join_len sep ((labels s).take i);have h2:=@lens_take (labels s) i;have h3:((labels s).take i).length≤(labels s).length:=by rw [List.length_take];omega
      have h4:sep.length * ((labels s).take i).length≤3 * (labels s).length:=Nat.mul_le_mul hsep h3;omega
    have hfl:=fits_len (allB_fits hf);have hj1:=hjl [44,32] s.parts.length (by decide);have hj2:=hjl [32,124,32] s.parts.length (by decide);have hj3:=hjl [44,32] (s.parts.length - 1) (by decide);have htk:(labels s).take s.parts.length=labels s:=List.take_of_length_le om_;have htx:∀ i,i<s.parts.length→(s.parts.getD i default).text.length≤32000:=fun i hi=>by
      have h1:=Sh.text_len _ (allL_getD (allB_parts hf) hi);have h2:=Sh.part_size hi;omega
    have hnl:∀ i,(s.names.getD i []).length≤24:=fun i=>getD_len hfl.2.2
    have hla:∀ i,((labels s).getD i []).length≤32000:=fun i=>by have:=@lens_at (labels s) i;omega
    obtain ⟨base,hbase⟩:∃ base,base=w.heap.size+1:=⟨_,rfl⟩;refine ret_of_W Tryz.func67 rfl (Nat.le_of_ble_eq_true rfl) (res1 rfl) ?_;have hB:=Gr.refl (fun _=>False) w;refine W.seq (W.region (L.box (cs:=_) rfl rfl (fun w1 bx1 hw hz1=>?_)));have hB:=hB.carry hw;have hr:=hr.carry hw;have hn:=hn.carry hw;refine L.val (x_as (v:=S _) rfl) rfl ?_;refine L.nil (thn_n (W.seq (W.region (L.val (x_as (v:=.slice _ _ _) rfl) rfl ?_))));refine L.nil (thn_n (W.seq (W.seq (W.region (L.val (x_fa kshow_fo41_4 rfl) rfl ?_)))));refine L.val (x_ld (v:=.slice _ _ _) kshow_oc39 rfl (bx1.cell0 rfl)) rfl ?_;refine L.val (x_len_slice Tryz.underlying39 rfl) rfl ?_;refine L.val (x_mv (v:=.int _ _) rfl) rfl ?_;refine L.nil (thn_n (W.block (W.loop (fun m' E w'=>∃ (i:Nat) (vT:Value),m'=s.parts.length - i∧E 1=.pointer (some ⟨w.heap.size,0,none⟩)∧E 3=vT∧E 9=.slice p s.parts.length cap∧E 10=.int .i64 (s.parts.length:Nat)∧E 11=.int .i64 (i:Nat)∧(Bel w w')∧(ShRow A w' p row s.parts)∧(StrsAt A w' (.slice pn s.names.length capn) s.names)∧(Box w' w.heap.size 41 [.int .i64 s.kind,S s.of,S s.name,.slice pn s.names.length capn,.slice p s.parts.length cap])∧(Ge base w')∧(i≤s.parts.length)∧(Own w' base 9 1 vT i (((labels s).take i).map S))) (s.parts.length) ?_ ?_)))
    ·exact ⟨0,.slice none 0 0,by omega,vi_,vi_,vi_,vi_,vi_,ao_,ao_,ao_,ao_,(by show base≤_;omega),ao_,(by exact own_nil)⟩
    ·rintro _ E wL12 ⟨i,vT,em,e1,e3,e9,e10,e11,hB,hr,hn,bx1,hG,hi,hO⟩;rw [upd_self e1,upd_self e3,upd_self e9,upd_self e10,upd_self e11];refine W.seq (W.region (L.val (x_lss rfl rfl) rfl ?_));refine L.nil (thn_n (W.seq (W.cond (b:=_) rfl (fun g12=>?_) (fun g12=>?_))))
     ·have h12:=of_decide_eq_true g12;refine W.skip (thn_n (W.seq (W.block (W.seq (W.region (L.val (x_mv (v:=.int _ _) rfl) rfl ?_))))));have hip:i<s.parts.length:=by omega
      obtain ⟨bp,op,rfl,-⟩:=hr.elem hip;obtain ⟨aT,cT,rfl,hcT⟩:=own_shape hO;have htl:=htx i hip;have hnl':=hnl i;refine L.val (x_ia (j:=i) Tryz.underlying39 kshow_sz41 rfl rfl om_ om_) rfl ?_;refine L.val (x_ldn (vs:=row i) kshow_ag41 rfl (hr.five i hip) (hr.elemAt hip)) rfl ?_;have hg5:base≤wL12.heap.size:=hG;have hO5:=fun j h=>(Own.lt hO (j:=j) h).2
      refine L.alloc (cs:=[Value.int .i64 0,S [],S [],Value.slice none 0 0,Value.slice none 0 0]) kshow_zr41 rfl rfl (fun w5 bx5 hw hz5=>?_);have hB:=hB.carry hw;have hr:=hr.carry hw;have hn:=hn.carry hw;have bx1:=bx1.carry hw;have hG:=hG.carry hw;have hO:=hO.carry hw;refine L.val (x_as (v:=.int _ _) rfl) rfl ?_;refine L.setRow kshow_ag41 rfl rfl bx5 rfl (hr.five i hip) (ShC.one (hr.each i hip)) (fun wl14 bx5 hw hzl14=>?_);have hsz:=hB.size;have hB:=hB.set hw om_;have hr:=hr.carryR hw (fun k e=>hU k (by have:k=_:=e;omega));have hn:=hn.carryR hw (fun k e=>hU k (by have:k=_:=e;omega));have bx1:=bx1.carryR hw om_;have hG:=hG.carryR hw;have hO:=Own.carryR hO hw (fun j hj e=>by have e:j=_:=e;have:=hO5 j hj;omega);refine L.nil (thn_n (W.seq (W.region (L.val (x_ldn (vs:=row i) kshow_ag41 rfl (hr.five i hip) (bx5.row (hr.five i hip))) rfl ?_))));refine L.ret (x_call kshow_en67 rfl) rfl (hT i hip _ _ (hr.each i hip)) ?_;rintro _ w17 ⟨rfl,hw⟩;have hB:=hB.carry hw;have hr:=hr.carry hw;have hn:=hn.carry hw;have bx1:=bx1.carry hw;have hG:=hG.carry hw;have hO:=hO.carry hw;have bx5:=bx5.carry hw;refine L.val (x_as (v:=S _) rfl) rfl ?_;refine L.nil (thn_n (W.seq (W.seq (W.region (L.val (x_fa kshow_fo41_3 rfl) rfl ?_)))));refine L.val (x_ld (v:=.slice _ _ _) kshow_oc38 rfl (bx1.cell0 rfl)) rfl ?_;refine L.val (x_len_slice Tryz.underlying38 rfl) rfl ?_;refine L.val (x_gtr rfl rfl) rfl ?_;refine L.nil (thn_n (W.cond (b:=_) rfl (fun g21=>?_) (fun g21=>?_)))
      ·have h21:=of_decide_eq_true g21;have hne:s.names≠[]:=fun e=>by rw [e] at h21;simp at h21
       have hln:s.names.length=s.parts.length:=hfs.resolve_left hne;have hin:i<s.names.length:=by omega
       obtain ⟨bn,on,rfl,-⟩:=hn.elem (i:=i) hin;have hlab:=labels_at hne hln hip;refine W.region (L.val (x_fa kshow_fo41_3 rfl) rfl ?_);refine L.val (x_ld (v:=.slice _ _ _) kshow_oc38 rfl (bx1.cell0 rfl)) rfl ?_;refine L.val (x_mv (v:=.int _ _) rfl) rfl ?_;refine L.val (x_ia1 (j:=i) Tryz.underlying38 kshow_sz9 rfl rfl om_ om_) rfl ?_;refine L.val (x_ld (v:=S _) kshow_oc9 rfl (hn.elemAt hin)) rfl ?_;refine L.val (x_cat rfl rfl (by first | omega | (simp only [List.length_append,List.length_cons,List.length_nil];omega))) rfl ?_;refine L.val (x_mv (v:=S _) rfl) rfl ?_;refine L.val (x_cat rfl rfl (by first | omega | (simp only [List.length_append,List.length_cons,List.length_nil];omega))) rfl ?_;refine L.val (x_as (v:=S _) rfl) rfl ?_;refine L.nil (thn_n (W.region (L.val (x_mv (v:=.slice _ _ _) rfl) rfl ?_)));refine L.val (x_mv (v:=S _) rfl) rfl ?_;refine L.bs (sz:=1) (cells:=[S ((labels s).getD i [])]) Tryz.underlying38 kshow_el9 rfl rfl (by rw [hlab];rfl) rfl (fun w32 bx32 hw hz32=>?_);have hB:=hB.carry hw;have hr:=hr.carry hw;have hn:=hn.carry hw;have bx1:=bx1.carry hw;have hG:=hG.carry hw;have hO:=hO.carry hw;have bx5:=bx5.carry hw;refine L.append (m:=1) Tryz.underlying38 kshow_el9 rfl rfl rfl hO rfl bx32.news (by simp [Value.oneCell',S]) om_ hG (fun v33 w33 hO33 hg hiff33 hob33=>?_);obtain ⟨g33,c33,rfl⟩:=own_form hO33;have hO33:Own w33 base 9 1 (.slice (some ⟨g33,0,none⟩) (i+1) c33) (i+1) (((labels s).take (i+1)).map S):=by
         rw [List.take_succ_eq_append_getElem om_,List.map_append];simpa [List.getD_eq_getElem?_getD,show i<(labels s).length by omega] using hO33
       have hlo:∀ j,some j=(Value.slice aT i cT).ownBlock→base≤j:=fun j hj=>(hO.lt hj).1
       have hB:=hB.step hg (fun i hi e=>by have:=hlo i e;omega);have hr:=hr.carryR hg (fun j e=>hU j (by have:=hlo j e;omega));have hn:=hn.carryR hg (fun j e=>hU j (by have:=hlo j e;omega));have bx1:=bx1.carryR hg (fun e=>by have:=hlo _ e;omega);have hG:=hG.carryR hg;refine L.val (x_as (v:=.slice _ _ _) rfl) rfl ?_;refine L.nil (blk_n (thn_n (W.region (L.val (x_add rfl rfl (wr64 om_)) rfl ?_))));refine L.val (x_mv (v:=.int _ _) rfl) rfl ?_;refine L.nil (thn_n ⟨rfl,?_⟩);refine ⟨_,?_,i+1,_,rfl,vi_,vi_,vi_,vi_,vi_,ao_,ao_,ao_,ao_,ao_,ao_,(by exact hO33)⟩;omega
      ·have h21:=dlt_f g21;have hne:s.names=[]:=List.eq_nil_of_length_eq_zero om_;have hlab:=labels_nil hne hip;refine W.skip (thn_n (W.region (L.val (x_mv (v:=.slice _ _ _) rfl) rfl ?_)));refine L.val (x_mv (v:=S _) rfl) rfl ?_;refine L.bs (sz:=1) (cells:=[S ((labels s).getD i [])]) Tryz.underlying38 kshow_el9 rfl rfl (by rw [hlab];rfl) rfl (fun w32 bx32 hw hz32=>?_);have hB:=hB.carry hw;have hr:=hr.carry hw;have hn:=hn.carry hw;have bx1:=bx1.carry hw;have hG:=hG.carry hw;have hO:=hO.carry hw;have bx5:=bx5.carry hw;refine L.append (m:=1) Tryz.underlying38 kshow_el9 rfl rfl rfl hO rfl bx32.news (by simp [Value.oneCell',S]) om_ hG (fun v33 w33 hO33 hg hiff33 hob33=>?_);obtain ⟨g33,c33,rfl⟩:=own_form hO33;have hO33:Own w33 base 9 1 (.slice (some ⟨g33,0,none⟩) (i+1) c33) (i+1) (((labels s).take (i+1)).map S):=by
         rw [List.take_succ_eq_append_getElem om_,List.map_append];simpa [List.getD_eq_getElem?_getD,show i<(labels s).length by omega] using hO33
       have hlo:∀ j,some j=(Value.slice aT i cT).ownBlock→base≤j:=fun j hj=>(hO.lt hj).1
       have hB:=hB.step hg (fun i hi e=>by have:=hlo i e;omega);have hr:=hr.carryR hg (fun j e=>hU j (by have:=hlo j e;omega));have hn:=hn.carryR hg (fun j e=>hU j (by have:=hlo j e;omega));have bx1:=bx1.carryR hg (fun e=>by have:=hlo _ e;omega);have hG:=hG.carryR hg;refine L.val (x_as (v:=.slice _ _ _) rfl) rfl ?_;refine L.nil (blk_n (thn_n (W.region (L.val (x_add rfl rfl (wr64 om_)) rfl ?_))));refine L.val (x_mv (v:=.int _ _) rfl) rfl ?_;refine L.nil (thn_n ⟨rfl,?_⟩);refine ⟨_,?_,i+1,_,rfl,vi_,vi_,vi_,vi_,vi_,ao_,ao_,ao_,ao_,ao_,ao_,(by exact hO33)⟩;omega
     ·have h12:=dlt_f g12;have hin:i=s.parts.length:=by omega
      subst hin;rw [htk] at hO;have hj1':=htk ▸ hj1;have hj2':=htk ▸ hj2;obtain ⟨aT,cT,rfl,hcT⟩:=own_shape hO;have hla0:=hla 0;have hlaL:=hla (s.parts.length - 1);refine W.exit (thn_x (thn_x (blk_hit ?_)));refine thn_n (W.seq (W.seq (W.region (L.val (x_fa kshow_fo41_0 rfl) rfl ?_))));refine L.val (x_ld (v:=.int _ _) kshow_oc3 rfl (bx1.cell0 rfl)) rfl ?_;refine L.nil (thn_n (W.block (W.seq (W.region (L.val (x_eql rfl rfl) rfl ?_)))));refine L.val (x_as (v:=.bool _) rfl) rfl ?_;refine L.nil (thn_n (W.cond (b:=_) rfl (fun g38=>?_) (fun g38=>?_)))
      ·have h38:=of_decide_eq_true g38;refine W.seq (W.region (L.val (x_as (v:=S _) rfl) rfl ?_));refine L.nil (thn_n (W.ret (blk_r (thn_r (fin_mk (.inr rfl) ?_)))));exact ⟨vs (text1 h38).symm,hB⟩
      ·have h38:=of_decide_eq_false g38;refine W.seq (W.region (L.val (x_eql rfl rfl) rfl ?_));refine L.val (x_as (v:=.bool _) rfl) rfl ?_;refine L.nil (thn_n (W.cond (b:=_) rfl (fun g40=>?_) (fun g40=>?_)))
       ·have h40:=of_decide_eq_true g40;refine W.seq (W.region (L.val (x_as (v:=S _) rfl) rfl ?_));refine L.nil (thn_n (W.ret (blk_r (thn_r (fin_mk (.inr rfl) ?_)))));exact ⟨vs (text2 h40).symm,hB⟩
       ·have h40:=of_decide_eq_false g40;refine W.seq (W.region (L.val (x_eql rfl rfl) rfl ?_));refine L.val (x_as (v:=.bool _) rfl) rfl ?_;refine L.nil (thn_n (W.cond (b:=_) rfl (fun g42=>?_) (fun g42=>?_)))
        ·have h42:=of_decide_eq_true g42;refine W.seq (W.region (L.val (x_as (v:=S _) rfl) rfl ?_));refine L.nil (thn_n (W.ret (blk_r (thn_r (fin_mk (.inr rfl) ?_)))));exact ⟨vs (text3 h42).symm,hB⟩
        ·have h42:=of_decide_eq_false g42;refine W.seq (W.region (L.val (x_eql rfl rfl) rfl ?_));refine L.val (x_as (v:=.bool _) rfl) rfl ?_;refine L.nil (thn_n (W.cond (b:=_) rfl (fun g44=>?_) (fun g44=>?_)))
         ·have h44:=of_decide_eq_true g44;refine W.seq (W.region (L.val (x_as (v:=S _) rfl) rfl ?_));refine L.nil (thn_n (W.ret (blk_r (thn_r (fin_mk (.inr rfl) ?_)))));exact ⟨vs (text4 h44).symm,hB⟩
         ·have h44:=of_decide_eq_false g44;refine W.seq (W.region (L.val (x_eql rfl rfl) rfl ?_));refine L.val (x_as (v:=.bool _) rfl) rfl ?_;refine L.nil (thn_n (W.cond (b:=_) rfl (fun g46=>?_) (fun g46=>?_)))
          ·have h46:=of_decide_eq_true g46;obtain ⟨l1,l2⟩:=list_one (allB_fits hf) h46;have hip:0<(labels s).length:=by omega
           obtain ⟨bT,rfl⟩:=own_pos hO om_;refine W.seq (W.region (L.val (x_mv (v:=.slice _ _ _) rfl) rfl ?_));refine L.val (x_ia1 (j:=0) Tryz.underlying38 kshow_sz9 rfl rfl om_ om_) rfl ?_;refine L.val (x_ld (v:=S _) kshow_oc9 rfl (own_cell1 hO hip)) rfl ?_;refine L.val (x_cat rfl rfl (by first | omega | (simp only [List.length_append,List.length_cons,List.length_nil];omega))) rfl ?_;refine L.val (x_cat rfl rfl (by first | omega | (simp only [List.length_append,List.length_cons,List.length_nil];omega))) rfl ?_;refine L.val (x_as (v:=S _) rfl) rfl ?_;refine L.nil (thn_n (W.ret (blk_r (thn_r (fin_mk (.inr rfl) ?_)))));exact ⟨vs (by rw [text5 h46]),hB⟩
          ·have h46:=of_decide_eq_false g46;refine W.seq (W.region (L.val (x_eql rfl rfl) rfl ?_));refine L.val (x_as (v:=.bool _) rfl) rfl ?_;refine L.nil (thn_n (W.cond (b:=_) rfl (fun g53=>?_) (fun g53=>?_)))
           ·have h53:=of_decide_eq_true g53;refine W.seq (W.region (L.val (x_mv (v:=.slice _ _ _) rfl) rfl ?_));refine L.ret (x_call kshow_en93 rfl) rfl (join_own hO (Nat.le_refl _) hll.symm om_ om_) ?_;rintro _ w55 ⟨rfl,hw⟩;have hB:=hB.carry hw;have bx1:=bx1.carry hw;have hO:=hO.carry hw;rw [htk];refine L.val (x_cat rfl rfl (by first | omega | (simp only [List.length_append,List.length_cons,List.length_nil];omega))) rfl ?_;refine L.val (x_cat rfl rfl (by first | omega | (simp only [List.length_append,List.length_cons,List.length_nil];omega))) rfl ?_;refine L.val (x_as (v:=S _) rfl) rfl ?_;refine L.nil (thn_n (W.ret (blk_r (thn_r (fin_mk (.inr rfl) ?_)))));exact ⟨vs (by rw [text6 h53]),hB⟩
           ·have h53:=of_decide_eq_false g53;refine W.seq (W.region (L.val (x_eql rfl rfl) rfl ?_));refine L.val (x_as (v:=.bool _) rfl) rfl ?_;refine L.nil (thn_n (W.cond (b:=_) rfl (fun g59=>?_) (fun g59=>?_)))
            ·have h59:=of_decide_eq_true g59;refine W.seq (W.region (L.val (x_mv (v:=.slice _ _ _) rfl) rfl ?_));refine L.ret (x_call kshow_en93 rfl) rfl (join_own hO (Nat.le_refl _) hll.symm om_ om_) ?_;rintro _ w61 ⟨rfl,hw⟩;have hB:=hB.carry hw;have bx1:=bx1.carry hw;have hO:=hO.carry hw;rw [htk];refine L.val (x_cat rfl rfl (by first | omega | (simp only [List.length_append,List.length_cons,List.length_nil];omega))) rfl ?_;refine L.val (x_cat rfl rfl (by first | omega | (simp only [List.length_append,List.length_cons,List.length_nil];omega))) rfl ?_;refine L.val (x_as (v:=S _) rfl) rfl ?_;refine L.nil (thn_n (W.ret (blk_r (thn_r (fin_mk (.inr rfl) ?_)))));exact ⟨vs (by rw [text7 h59]),hB⟩
            ·have h59:=of_decide_eq_false g59;refine W.seq (W.region (L.val (x_eql rfl rfl) rfl ?_));refine L.val (x_as (v:=.bool _) rfl) rfl ?_;refine L.nil (thn_n (W.cond (b:=_) rfl (fun g65=>?_) (fun g65=>?_)))
             ·have h65:=of_decide_eq_true g65;obtain ⟨l1,l2⟩:=fun_some (allB_fits hf) h65;have hip:s.parts.length - 1<(labels s).length:=by omega
              obtain ⟨bT,rfl⟩:=own_pos hO om_;refine W.seq (W.region (L.val (x_mv (v:=.slice _ _ _) rfl) rfl ?_));refine L.val (x_len_slice Tryz.underlying38 rfl) rfl ?_;refine L.val (x_sub rfl rfl (wr64 om_)) rfl ?_;rw [show (s.parts.length:Int) - 1=((s.parts.length - 1:Nat):Int) by omega];refine L.val (x_as (v:=.int _ _) rfl) rfl ?_;refine L.nil (thn_n (W.seq (W.drawB kshow_mixed kr_ ?_)));refine LQ.val (fun w hw=>x_mv (v:=.slice _ _ _) rfl) rfl ?_;refine LQ.val (fun w hw=>x_mv (v:=.int _ _) rfl) rfl ?_;refine LQ.val (fun w hw=>x_shi (j:=s.parts.length - 1) Tryz.underlying38 kshow_sz9 rfl rfl rfl om_) rfl ?_;refine LQ.ret (fun w=>x_call kshow_en93 rfl) (fun w hw=>Ret.mono (join_own (hO.carry hw) (Nat.sub_le _ _) hll.symm om_ om_) (fun _ _ h=>⟨h.1,Gr.trans hw h.2⟩)) rfl ?_;refine LQ.val (fun w hw=>x_cat rfl rfl (by first | omega | (simp only [List.length_append,List.length_cons,List.length_nil];omega))) rfl ?_;refine LQ.val (fun w hw=>x_cat rfl rfl (by first | omega | (simp only [List.length_append,List.length_cons,List.length_nil];omega))) rfl ?_;refine LQ.val (fun w hw=>x_mv (v:=.slice _ _ _) rfl) rfl ?_;refine LQ.val (fun w hw=>x_mv (v:=.int _ _) rfl) rfl ?_;refine LQ.val (fun w hw=>x_ia1 (j:=s.parts.length - 1) Tryz.underlying38 kshow_sz9 rfl rfl om_ om_) rfl ?_;refine LQ.val (fun w hw=>x_ld (v:=S _) kshow_oc9 rfl (hw.keep (own_cell1 hO hip))) rfl ?_;refine LQ.val (fun w hw=>x_cat rfl rfl (by first | omega | (simp only [List.length_append,List.length_cons,List.length_nil];omega))) rfl ?_;refine LQ.val (fun w hw=>x_as (v:=S _) rfl) rfl ?_;refine LQ.nil ?_;intro w69 hw;have hB:=hB.carry hw;have bx1:=bx1.carry hw;have hO:=hO.carry hw;refine thn_n (W.ret (blk_r (thn_r (fin_mk (.inr rfl) ?_))));exact ⟨vs (by rw [text8 h65,hll]),hB⟩
             ·have h65:=of_decide_eq_false g65;refine W.skip (blk_n (thn_n (W.seq (W.seq (W.region (L.val (x_fa kshow_fo41_1 rfl) rfl ?_))))));refine L.val (x_ld (v:=S _) kshow_oc9 rfl (bx1.cell0 rfl)) rfl ?_;refine L.val (x_nes rfl rfl) rfl ?_;refine L.nil (thn_n (W.cond (b:=_) rfl (fun g82=>?_) (fun g82=>?_)))
              ·have h82:=sne_t g82;refine W.seq (W.region (L.val (x_fa kshow_fo41_1 rfl) rfl ?_));refine L.val (x_ld (v:=S _) kshow_oc9 rfl (bx1.cell0 rfl)) rfl ?_;refine L.val (x_cat rfl rfl (by first | omega | (simp only [List.length_append,List.length_cons,List.length_nil];omega))) rfl ?_;refine L.val (x_fa kshow_fo41_2 rfl) rfl ?_;refine L.val (x_ld (v:=S _) kshow_oc9 rfl (bx1.cell0 rfl)) rfl ?_;refine L.val (x_cat rfl rfl (by first | omega | (simp only [List.length_append,List.length_cons,List.length_nil];omega))) rfl ?_;refine L.val (x_as (v:=S _) rfl) rfl ?_;refine L.nil (thn_n (W.ret (thn_r (fin_mk (.inr rfl) ?_))));exact ⟨vs (by rw [text0 ⟨h38,h40,h42,h44,h46,h53,h59,h65⟩,if_neg h82]),hB⟩
              ·have h82:=sne_f g82;refine W.skip (thn_n (W.seq (W.region (L.val (x_fa kshow_fo41_2 rfl) rfl ?_))));refine L.val (x_ld (v:=S _) kshow_oc9 rfl (bx1.cell0 rfl)) rfl ?_;refine L.val (x_as (v:=S _) rfl) rfl ?_;refine L.nil (thn_n (W.ret (fin_mk (.inr rfl) ?_)));exact ⟨vs (by rw [text0 ⟨h38,h40,h42,h44,h46,h53,h59,h65⟩,if_pos h82]),hB⟩
def showS (s:Sh):Value:=.tuple (if checkS s=0 then #[S s.text,.int .i64 0] else #[S [],.int .i64 (checkS s)])
theorem show_ok (A:Nat→Prop) (s:Sh) (cs:List Value) (w:World) (hs:ShC A w cs s):
    Ret Tryz.prog 41 #[.agg cs.toArray] w fun v w'=>v=showS s∧Bel w w':=by
  have hlen:=hs.len;refine ret_of_W Tryz.func41 rfl (Nat.le_of_ble_eq_true rfl) (res2 rfl) ?_;have hB:=Gr.refl (fun _=>False) w;refine W.seq (W.region (L.box (cs:=cs) rfl rfl (fun w1 bx1 hw hz1=>?_)));have hB:=hB.carry hw;have hs:=hs.carry hw;refine L.val (x_as (v:=S _) rfl) rfl ?_;refine L.val (x_as (v:=.int _ _) rfl) rfl ?_;refine L.nil (thn_n (W.seq (W.seq (W.region (L.val (x_ldn (vs:=cs) kshow_ag41 rfl hlen (bx1.row hlen)) rfl ?_)))));refine L.ret (x_call kshow_en45 rfl) rfl (checkL A s _ _ hs) ?_;rintro _ w6 ⟨rfl,hw⟩;have hB:=hB.carry hw;have hs:=hs.carry hw;have bx1:=bx1.carry hw;refine L.val (x_as (v:=.int _ _) rfl) rfl ?_;refine L.nil (thn_n (W.seq (W.region (L.val (x_mv (v:=.int _ _) rfl) rfl ?_))));refine L.val (x_neq rfl rfl) rfl ?_;refine L.nil (thn_n (W.cond (b:=_) rfl (fun g8=>?_) (fun g8=>?_)))
  ·have h8:=dne_t g8;refine W.seq (W.region (L.val (x_mv (v:=.int _ _) rfl) rfl ?_));refine L.val (x_as (v:=S _) rfl) rfl ?_;refine L.val (x_as (v:=.int _ _) rfl) rfl ?_;refine L.nil (thn_n (W.ret (thn_r (fin_mk (.inr rfl) ?_))));exact ⟨by unfold showS;rw [if_neg h8];rfl,hB⟩
  ·have h8:=dne_f g8;refine W.skip (thn_n (W.seq (W.region (L.val (x_ldn (vs:=cs) kshow_ag41 rfl hlen (bx1.row hlen)) rfl ?_))));refine L.ret (x_call kshow_en67 rfl) rfl (shown_ok _ s (Nat.lt_succ_self _) (check_zero h8).1 (check_zero h8).2.2 A _ _ hs) ?_;rintro _ w11 ⟨rfl,hw⟩;have hB:=hB.carry hw;have hs:=hs.carry hw;have bx1:=bx1.carry hw;refine L.val (x_as (v:=S _) rfl) rfl ?_;refine L.val (x_as (v:=.int _ _) rfl) rfl ?_;refine L.nil (thn_n (W.ret (fin_mk (.inr rfl) ?_)));exact ⟨by unfold showS;rw [if_pos h8];rfl,hB⟩
end Go.Gx
namespace Go.Gx
open Go.Proofs
theorem kifj_ag41:aggT Tryz.prog 41 5=true:=by kernel_rfl
theorem kifj_ag43:aggT Tryz.prog 43 7=true:=by kernel_rfl
theorem kifj_en13:Go.Proofs.Enters Tryz.prog 13:=Go.Proofs.enters_of Tryz.func13 kr_ rfl
theorem kifj_en24:Go.Proofs.Enters Tryz.prog 24:=Go.Proofs.enters_of Tryz.func24 kr_ rfl
theorem kifj_en28:Go.Proofs.Enters Tryz.prog 28:=Go.Proofs.enters_of Tryz.func28 kr_ rfl
theorem kifj_en41:Go.Proofs.Enters Tryz.prog 41:=Go.Proofs.enters_of Tryz.func41 kr_ rfl
theorem kifj_fo43_0:fieldOff Tryz.prog 43 0=some 0:=by kernel_rfl
theorem kifj_fo43_1:fieldOff Tryz.prog 43 1=some 1:=by kernel_rfl
theorem kifj_fo43_2:fieldOff Tryz.prog 43 2=some 2:=by kernel_rfl
theorem kifj_oc3:oneCellT Tryz.prog 3=true:=by kernel_rfl
theorem kifj_oc9:oneCellT Tryz.prog 9=true:=by kernel_rfl
theorem kifj_sz43:(Tryz.prog.info? 43).map (·.size)=some 7:=by kernel_rfl
theorem kifj_zr43:(Tryz.prog.info? 43).bind (·.zero)=some (Value.agg [Value.int .i64 0,S [],Value.int .i64 0,S [],S [],Value.slice none 0 0,Value.slice none 0 0].toArray):=by kernel_rfl
theorem kifj_zr53:(Tryz.prog.info? 53).bind (·.zero)=some (Value.agg [Value.pointer none,Value.slice none 0 0].toArray):=by kernel_rfl
def lineI (x:It):Str:=
  if x.kind=1 then [116,121,112,101,32]++x.name++[32,61,32]++x.sh.text++[10]
  else if x.kind=2 then [111,112,97,113,117,101,32]++x.name++[10]
  else [108,101,116,32]++x.name++[58,32]++x.sh.text++[10]
noncomputable def showI (l:List It):Str × Int:=if checkI l=true then ((l.map lineI).flatten,0) else ([],160)
theorem item_kind {x:It} (h:itemOk x=true):(x.kind=1∨x.kind=2∨x.kind=3)∧x.name.length≤24:=by
  unfold itemOk at h;split at h
  · rename_i hk
    simp only [Bool.and_eq_true] at h;exact ⟨.inr (.inl hk),upperS_len h.1.1⟩
  · split at h
    · rename_i h1
      simp only [Bool.or_eq_true,Bool.and_eq_true,decide_eq_true_eq] at h1;rcases h1 with h1 | h1
      · exact ⟨.inl h1.1,upperS_len h1.2.1⟩
      · exact ⟨.inr (.inr h1.1),nameS_len h1.2⟩
    · cases h
theorem line_len {x:It} (h:itemOk x=true):(lineI x).length≤33000:=by
  obtain ⟨h1,h2⟩:=item_kind h;unfold lineI;split
  · rename_i hk
    obtain ⟨f1,f2,-⟩:=item_fits h om_;have:=Sh.text_len _ f2;simp only [List.length_append,List.length_cons,List.length_nil];omega
  · split
    · simp only [List.length_append,List.length_cons,List.length_nil];omega
    · rename_i hk
      obtain ⟨f1,f2,-⟩:=item_fits h hk;have:=Sh.text_len _ f2;simp only [List.length_append,List.length_cons,List.length_nil];omega
theorem lines_take {l:List It} {i:Nat} (h:i<l.length):((l.take (i+1)).map lineI).flatten=((l.take i).map lineI).flatten++lineI (l.getD i default):=by
  rw [take_snoc (d:=default) h,List.map_append,List.flatten_append];simp
theorem lines_len {l:List It} (h:∀ x∈l,itemOk x=true):((l.map lineI).flatten).length≤33000 * l.length:=by
  induction l with
  | nil=>simp
  | cons x l ih=>
    have h1:=line_len (h x (by simp));have h2:=ih (fun y hy=>h y (List.mem_cons_of_mem _ hy));simp only [List.map_cons,List.flatten_cons,List.length_append,List.length_cons];omega
theorem lines_take_le {l:List It} (h:∀ x∈l,itemOk x=true) (hl:l.length≤60) (i:Nat):(((l.take i).map lineI).flatten).length≤2000000:=by
  have h1:=lines_len (l:=l.take i) (fun x hx=>h x (List.mem_of_mem_take hx));rw [List.length_take] at h1;have:min i l.length≤60:=by omega
  omega
theorem show_two (s:Sh):∃ t e,showS s=.tuple #[S t,.int .i64 e]∧(checkS s=0→t=s.text)∧(t=s.text∧checkS s=0∨t=[]):=by
  unfold showS;split
  · rename_i h;exact ⟨_,_,rfl,fun _=>rfl,.inl ⟨rfl,h⟩⟩
  · rename_i h;exact ⟨_,_,rfl,fun e=>absurd e h,.inr rfl⟩
theorem showP (A0:Nat→Prop) (v:Value) (l:List It) (w:World) (h0:ItsAt A0 w v l):
    Ret Tryz.prog 18 #[v] w fun r w'=>r=.tuple #[S (showI l).1,.int .i64 (showI l).2]∧Bel w w':=by
  obtain ⟨A,h,hU⟩:∃ A:Nat→Prop,ItsAt A w v l∧(∀ k,w.heap.size≤k→A k):=⟨_,RecsAt.up h0,fun _=>.inr⟩;obtain ⟨p,cap,row,rfl,p1,p2,p3,hr⟩:=id h;refine ret_of_W Tryz.func18 rfl (Nat.le_of_ble_eq_true rfl) (res2 rfl) ?_;have hB:=Gr.refl (fun _=>False) w;refine W.seq (W.region (L.val (x_as (v:=S _) rfl) rfl ?_));refine L.val (x_as (v:=.int _ _) rfl) rfl ?_;refine L.nil (thn_n (W.seq (W.seq (W.region (L.val (x_mv (v:=.slice _ _ _) rfl) rfl ?_)))));refine L.ret (x_call kifj_en13 rfl) rfl (checkP_ok A _ l _ h) ?_;rintro _ w11 ⟨rfl,hw⟩;have hB:=hB.carry hw;have hr:=hr.carry hw;refine L.val (x_as (v:=.int _ _) rfl) rfl ?_;refine L.nil (thn_n (W.seq (W.region (L.val (x_mv (v:=.int _ _) rfl) rfl ?_))));refine L.val (x_neq rfl rfl) rfl ?_;refine L.nil (thn_n (W.cond (b:=_) rfl (fun g13=>?_) (fun g13=>?_)))
  ·have h13:=dne_t g13;have hck:¬ checkI l=true:=fun e=>h13 (if_pos e)
   refine W.seq (W.region (L.val (x_mv (v:=.int _ _) rfl) rfl ?_));refine L.val (x_as (v:=S _) rfl) rfl ?_;refine L.val (x_as (v:=.int _ _) rfl) rfl ?_;refine L.nil (thn_n (W.ret (thn_r (fin_mk (.inr rfl) ?_))));unfold showI;rw [if_neg hck];exact ⟨by rw [if_neg hck];rfl,hB⟩
  ·have h13:=dne_f g13;have hck:checkI l=true:=Classical.byContradiction fun e=>by rw [if_neg e] at h13;exact absurd h13 (by decide)
   obtain ⟨h60,hit⟩:=check_items hck;have hs9:=hB.size;refine W.skip (thn_n (W.seq (W.region (L.alloc (cs:=[Value.pointer none,Value.slice none 0 0]) kifj_zr53 rfl rfl (fun w5 bx5 hw hz5=>?_)))));have hB:=hB.carry hw;have hr:=hr.carry hw;obtain ⟨b,hb⟩:∃ b,b=w11.heap.size:=⟨_,rfl⟩;rw [← hb] at bx5 ⊢;have hD:=builderV_new bx5;have hwb:w.heap.size≤b:=by omega
   refine L.nil (thn_n (W.seq (W.seq (W.region (L.val (x_mv (v:=.slice _ _ _) rfl) rfl ?_)))));refine L.val (x_len_slice Tryz.underlying22 rfl) rfl ?_;refine L.val (x_mv (v:=.int _ _) rfl) rfl ?_;refine L.nil (thn_n (W.block (W.loop (fun m' E w'=>∃ (i:Nat) (v2:Value),m'=l.length - i∧E 5=.pointer (some ⟨b,0,none⟩)∧E 15=.slice p l.length cap∧E 16=.int .i64 (l.length:Nat)∧E 17=.int .i64 (i:Nat)∧(i≤l.length)∧(Bel w w')∧(BuilderV w' b v2 ((l.take i).map lineI).flatten)∧(RecRow ItC 7 A w' p row l)) (l.length) ?_ ?_)))
   ·exact ⟨0,_,by omega,by first | rfl | exact vi om_ | exact vs (by first | assumption | (rw [hst];done) | (rw [hst];simp only [List.append_assoc])),by first | rfl | exact vi om_ | exact vs (by first | assumption | (rw [hst];done) | (rw [hst];simp only [List.append_assoc])),by first | rfl | exact vi om_ | exact vs (by first | assumption | (rw [hst];done) | (rw [hst];simp only [List.append_assoc])),by first | rfl | exact vi om_ | exact vs (by first | assumption | (rw [hst];done) | (rw [hst];simp only [List.append_assoc])),ao_,ao_,(by exact hD),ao_⟩
   ·rintro _ E wL18 ⟨i,v2,em,e5,e15,e16,e17,hi,hB,hD,hr⟩;rw [upd_self e5,upd_self e15,upd_self e16,upd_self e17];refine W.seq (W.region (L.val (x_lss rfl rfl) rfl ?_));refine L.nil (thn_n (W.seq (W.cond (b:=_) rfl (fun g18=>?_) (fun g18=>?_))))
    ·have h18:=of_decide_eq_true g18;have hlt:i<l.length:=by omega
     obtain ⟨pb,po,rfl,-⟩:=hr.elem hlt;have hst:=lines_take hlt;have hle:=lines_take_le hit h60 i;have hx:=hit _ (mem_getD hlt);obtain ⟨hkd,hnm⟩:=item_kind hx;have hll:=line_len hx;have hown2:=fun k (hk:some k=v2.ownBlock)=>hD.own hk
     have hbl2:=hD.lt;have hsB:=hB.size;obtain ⟨rs,e1,hs,hn⟩:=hr.each i hlt;have hrs:=hs.len;have hno7:¬ BR b v2 wL18.heap.size:=fun e=>by
       rcases e with e | e
       · omega
       · have:=hown2 _ e;omega
     have hR:∀ k,BR b v2 k→b≤k:=fun k e=>by
       rcases e with e | e
       · omega
       · have:=hown2 k e;omega
     refine W.skip (thn_n (W.seq (W.block (W.seq (W.region (L.val (x_ia (j:=i) Tryz.underlying22 kifj_sz43 rfl rfl om_ om_) rfl ?_))))));refine L.val (x_ldn (vs:=row i) kifj_ag43 rfl (hr.len i hlt) (hr.elemAt hlt)) rfl ?_;refine L.alloc (cs:=[Value.int .i64 0,S [],Value.int .i64 0,S [],S [],Value.slice none 0 0,Value.slice none 0 0]) kifj_zr43 rfl rfl (fun w7 bx7 hw hz7=>?_);have hB:=hB.carry hw;have hD:=hD.carry hw;have hr:=hr.carry hw;have hs:=hs.carry hw;refine L.setRow kifj_ag43 rfl rfl bx7 rfl (hr.len i hlt) (Car.one (hr.each i hlt)) (fun wl19 bx7 hw hzl19=>?_);have hsz:=hB.size;have hB:=hB.set hw om_;have hD:=hD.carryR hw (fun k e e2=>by have e2:k=_:=e2;rw [e2] at e;exact hno7 e);have hr:=hr.carryR hw (fun k e=>hU k (by have e:k=_:=e;omega));have hs:=hs.carryR hw (fun k e=>hU k (by have e:k=_:=e;omega));rw [e1] at bx7;refine L.nil (thn_n (W.seq (W.region (L.val (x_fa kifj_fo43_2 rfl) rfl ?_))));refine L.val (x_ldn (vs:=rs) kifj_ag41 rfl hrs (bx7.rowD 2 hrs)) rfl ?_;refine L.ret (x_call kifj_en41 rfl) rfl (show_ok A (l.getD i default).sh rs _ hs) ?_;rintro _ w24 ⟨e24,hw⟩;have hB:=hB.carry hw;have hD:=hD.carry hw;have hr:=hr.carry hw;have hs:=hs.carry hw;have bx7:=bx7.carry hw;obtain ⟨t,e,hte,htx,htl⟩:=show_two (l.getD i default).sh;rw [hte] at e24;subst e24;have htb:t.length≤32000:=by
       rcases htl with ⟨h1,h2⟩ | h1
       · have hz:=check_zero h2;have:=Sh.text_len _ hz.2.2;rw [h1];omega
       · rw [h1];simp
     refine L.val (x_mv (v:=_) rfl) rfl ?_;refine L.val (x_ext (v:=S _) rfl rfl) rfl ?_;refine L.val (x_ext (v:=.int _ _) rfl rfl) rfl ?_;refine L.val (x_as (v:=S _) rfl) rfl ?_;refine L.val (x_as (v:=.int _ _) rfl) rfl ?_;refine L.nil (thn_n (W.seq (W.region (L.val (x_fa kifj_fo43_0 rfl) rfl ?_))));refine L.val (x_ld (v:=.int _ _) kifj_oc3 rfl (bx7.cell0 rfl)) rfl ?_;refine L.nil (thn_n (W.block (W.seq (W.region (L.val (x_eql rfl rfl) rfl ?_)))));refine L.val (x_as (v:=.bool _) rfl) rfl ?_;refine L.nil (thn_n (W.cond (b:=_) rfl (fun g38=>?_) (fun g38=>?_)))
     ·have h38:=of_decide_eq_true g38;obtain ⟨-,-,f3,-⟩:=item_fits hx om_;have htt:=htx f3;subst htt;have hline:lineI (l.getD i default)=[116,121,112,101,32]++(l.getD i default).name++[32,61,32]++(l.getD i default).sh.text++[10]:=by unfold lineI;rw [if_pos h38]
      refine W.region (L.val (x_fa kifj_fo43_1 rfl) rfl ?_);refine L.val (x_ld (v:=S _) kifj_oc9 rfl (bx7.cell0 rfl)) rfl ?_;refine L.val (x_cat rfl rfl (by first | omega | (simp only [List.length_append,List.length_cons,List.length_nil];omega))) rfl ?_;refine L.val (x_cat rfl rfl (by first | omega | (simp only [List.length_append,List.length_cons,List.length_nil];omega))) rfl ?_;refine L.val (x_mv (v:=S _) rfl) rfl ?_;refine L.val (x_cat rfl rfl (by first | omega | (simp only [List.length_append,List.length_cons,List.length_nil];omega))) rfl ?_;refine L.val (x_cat rfl rfl (by first | omega | (simp only [List.length_append,List.length_cons,List.length_nil];omega))) rfl ?_;refine L.ret (x_call kifj_en24 rfl) rfl (wstr_v b v2 _ _ _ hD (by rw [← hline];omega)) ?_;rintro _ w46 ⟨v3,hD3,hG3,ho3⟩;have hB:=hB.step hG3 (fun k hk e=>by have:=hR k e;omega);have hr:=hr.carryR hG3 (fun k e=>hU k (by have:=hR k e;omega));have hD9:=hD3;rw [← hline,← hst] at hD9;refine L.nil (blk_n (blk_n (thn_n (W.region (L.val (x_add rfl rfl (wr64 om_)) rfl ?_)))));refine L.val (x_mv (v:=.int _ _) rfl) rfl ?_;refine L.nil (thn_n ⟨rfl,?_⟩);refine ⟨_,?_,i+1,_,rfl,by first | rfl | exact vi om_ | exact vs (by first | assumption | (rw [hst];done) | (rw [hst];simp only [List.append_assoc])),by first | rfl | exact vi om_ | exact vs (by first | assumption | (rw [hst];done) | (rw [hst];simp only [List.append_assoc])),by first | rfl | exact vi om_ | exact vs (by first | assumption | (rw [hst];done) | (rw [hst];simp only [List.append_assoc])),by first | rfl | exact vi om_ | exact vs (by first | assumption | (rw [hst];done) | (rw [hst];simp only [List.append_assoc])),ao_,ao_,(by exact hD9),ao_⟩;omega
     ·have h38:=of_decide_eq_false g38;refine W.seq (W.region (L.val (x_eql rfl rfl) rfl ?_));refine L.val (x_as (v:=.bool _) rfl) rfl ?_;refine L.nil (thn_n (W.cond (b:=_) rfl (fun g48=>?_) (fun g48=>?_)))
      ·have h48:=of_decide_eq_true g48;have hline:lineI (l.getD i default)=[111,112,97,113,117,101,32]++(l.getD i default).name++[10]:=by unfold lineI;rw [if_neg h38,if_pos h48]
       refine W.region (L.val (x_fa kifj_fo43_1 rfl) rfl ?_);refine L.val (x_ld (v:=S _) kifj_oc9 rfl (bx7.cell0 rfl)) rfl ?_;refine L.val (x_cat rfl rfl (by first | omega | (simp only [List.length_append,List.length_cons,List.length_nil];omega))) rfl ?_;refine L.val (x_cat rfl rfl (by first | omega | (simp only [List.length_append,List.length_cons,List.length_nil];omega))) rfl ?_;refine L.ret (x_call kifj_en24 rfl) rfl (wstr_v b v2 _ _ _ hD (by rw [← hline];omega)) ?_;rintro _ w53 ⟨v3,hD3,hG3,ho3⟩;have hB:=hB.step hG3 (fun k hk e=>by have:=hR k e;omega);have hr:=hr.carryR hG3 (fun k e=>hU k (by have:=hR k e;omega));have hD9:=hD3;rw [← hline,← hst] at hD9;refine L.nil (blk_n (blk_n (thn_n (W.region (L.val (x_add rfl rfl (wr64 om_)) rfl ?_)))));refine L.val (x_mv (v:=.int _ _) rfl) rfl ?_;refine L.nil (thn_n ⟨rfl,?_⟩);refine ⟨_,?_,i+1,_,rfl,by first | rfl | exact vi om_ | exact vs (by first | assumption | (rw [hst];done) | (rw [hst];simp only [List.append_assoc])),by first | rfl | exact vi om_ | exact vs (by first | assumption | (rw [hst];done) | (rw [hst];simp only [List.append_assoc])),by first | rfl | exact vi om_ | exact vs (by first | assumption | (rw [hst];done) | (rw [hst];simp only [List.append_assoc])),by first | rfl | exact vi om_ | exact vs (by first | assumption | (rw [hst];done) | (rw [hst];simp only [List.append_assoc])),ao_,ao_,(by exact hD9),ao_⟩;omega
      ·have h48:=of_decide_eq_false g48;obtain ⟨-,-,f3,-⟩:=item_fits hx h48;have htt:=htx f3;subst htt;have hline:lineI (l.getD i default)=[108,101,116,32]++(l.getD i default).name++[58,32]++(l.getD i default).sh.text++[10]:=by unfold lineI;rw [if_neg h38,if_neg h48]
       refine W.region (L.val (x_fa kifj_fo43_1 rfl) rfl ?_);refine L.val (x_ld (v:=S _) kifj_oc9 rfl (bx7.cell0 rfl)) rfl ?_;refine L.val (x_cat rfl rfl (by first | omega | (simp only [List.length_append,List.length_cons,List.length_nil];omega))) rfl ?_;refine L.val (x_cat rfl rfl (by first | omega | (simp only [List.length_append,List.length_cons,List.length_nil];omega))) rfl ?_;refine L.val (x_mv (v:=S _) rfl) rfl ?_;refine L.val (x_cat rfl rfl (by first | omega | (simp only [List.length_append,List.length_cons,List.length_nil];omega))) rfl ?_;refine L.val (x_cat rfl rfl (by first | omega | (simp only [List.length_append,List.length_cons,List.length_nil];omega))) rfl ?_;refine L.ret (x_call kifj_en24 rfl) rfl (wstr_v b v2 _ _ _ hD (by rw [← hline];omega)) ?_;rintro _ w36 ⟨v3,hD3,hG3,ho3⟩;have hB:=hB.step hG3 (fun k hk e=>by have:=hR k e;omega);have hr:=hr.carryR hG3 (fun k e=>hU k (by have:=hR k e;omega));have hD9:=hD3;rw [← hline,← hst] at hD9;refine L.nil (blk_n (blk_n (thn_n (W.region (L.val (x_add rfl rfl (wr64 om_)) rfl ?_)))));refine L.val (x_mv (v:=.int _ _) rfl) rfl ?_;refine L.nil (thn_n ⟨rfl,?_⟩);refine ⟨_,?_,i+1,_,rfl,by first | rfl | exact vi om_ | exact vs (by first | assumption | (rw [hst];done) | (rw [hst];simp only [List.append_assoc])),by first | rfl | exact vi om_ | exact vs (by first | assumption | (rw [hst];done) | (rw [hst];simp only [List.append_assoc])),by first | rfl | exact vi om_ | exact vs (by first | assumption | (rw [hst];done) | (rw [hst];simp only [List.append_assoc])),by first | rfl | exact vi om_ | exact vs (by first | assumption | (rw [hst];done) | (rw [hst];simp only [List.append_assoc])),ao_,ao_,(by exact hD9),ao_⟩;omega
    ·have h18:=dlt_f g18;have hie:i=l.length:=by omega
     subst hie;rw [List.take_length] at hD;refine W.exit (thn_x (thn_x (blk_hit ?_)));refine thn_n (W.seq (W.region (L.ret (x_call kifj_en28 rfl) rfl (bstr_ok _ _ _ hD.is) ?_)));rintro _ w55 ⟨rfl,hG55⟩;refine L.val (x_as (v:=S _) rfl) rfl ?_;refine L.val (x_as (v:=.int _ _) rfl) rfl ?_;refine L.nil (thn_n (W.ret (fin_mk (.inr rfl) ?_)));unfold showI;rw [if_pos hck];exact ⟨rfl,hB.step hG55 (fun i hi e=>by omega)⟩
end Go.Gx
