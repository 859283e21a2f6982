/- Types as text, both sides. Conditions: none. -/
import Derived.Shelf.Strings.Builder1
import Derived.Test.YtfbcfdhhgdmgkaaGreatDoorProg
import Derived.Lib.Builder
import Derived.Lib.AppendStr
import Derived.Laws.Externs
import Derived.Test.YtfbcfdhhgdmgkaaGreatDoorDbText
import Derived.Test.YtfbcfdhhgdmgkaaGreatDoorDbTake
import Derived.Test.YtfbcfdhhgdmgkaaGreatDoorDbDrawD
set_option linter.unusedSimpArgs false
namespace Go.Gx
open Go.Proofs Go.Sort
theorem kshow_ag45:aggT Tryz.prog 45 5=true:=by kernel_rfl
theorem kshow_el9:elT Tryz.prog 9 1=true:=by kernel_rfl
theorem kshow_en115:Go.Proofs.Enters Tryz.prog 115:=Go.Proofs.enters_of Tryz.func115 kr_ rfl
theorem kshow_en44:Go.Proofs.Enters Tryz.prog 44:=Go.Proofs.enters_of Tryz.func44 kr_ rfl
theorem kshow_en70:Go.Proofs.Enters Tryz.prog 70:=Go.Proofs.enters_of Tryz.func70 kr_ rfl
theorem kshow_fo45_0:fieldOff Tryz.prog 45 0=some 0:=by kernel_rfl
theorem kshow_fo45_1:fieldOff Tryz.prog 45 1=some 1:=by kernel_rfl
theorem kshow_fo45_2:fieldOff Tryz.prog 45 2=some 2:=by kernel_rfl
theorem kshow_fo45_3:fieldOff Tryz.prog 45 3=some 3:=by kernel_rfl
theorem kshow_fo45_4:fieldOff Tryz.prog 45 4=some 4:=by kernel_rfl
theorem kshow_mixed:Tryz.prog.follows .mixedOrders=true:=by kernel_rfl
theorem kshow_oc22:oneCellT Tryz.prog 22=true:=by kernel_rfl
theorem kshow_oc23:oneCellT Tryz.prog 23=true:=by kernel_rfl
theorem kshow_oc3:oneCellT Tryz.prog 3=true:=by kernel_rfl
theorem kshow_oc9:oneCellT Tryz.prog 9=true:=by kernel_rfl
theorem kshow_sz45:(Tryz.prog.info? 45).map (·.size)=some 5:=by kernel_rfl
theorem kshow_sz9:(Tryz.prog.info? 9).map (·.size)=some 1:=by kernel_rfl
theorem kshow_zr45:(Tryz.prog.info? 45).bind (·.zero)=some (Value.agg [Value.int .i64 0,S [],S [],Value.slice none 0 0,Value.slice none 0 0].toArray):=by kernel_rfl
theorem labels_lens {s:Sh} (h:s.allB fitsS=true):lens (labels s)+3 * (labels s).length+6≤80 * s.size:=by
  cases s with
  | mk k o n ns ps=>
    rw [Sh.allB,Bool.and_eq_true] at h;obtain ⟨f1,f2,f3⟩:=fits_len h.1;have h1:=textL_len ps h.2;have h2:=@lens_lab ns f3 (ps.map Sh.text);have h3:(lab ns (ps.map Sh.text)).length≤ps.length:=by unfold lab;split <;> simp;omega
    rw [textL_eq] at h1;have h4:(ps.map Sh.text).length=ps.length:=by simp
    show lens (lab ns (ps.map Sh.text))+3 * (lab ns (ps.map Sh.text)).length+6≤_;rw [Sh.size];omega
theorem allB_fits {s:Sh} (h:s.allB fitsS=true):fitsS s=true:=by rw [Sh.allB_eq] at h;simp at h;exact h.1
theorem allB_parts {s:Sh} (h:s.allB fitsS=true):allL fitsS s.parts=true:=by rw [Sh.allB_eq] at h;simp at h;exact h.2
theorem getD_len {l:List Str} {n:Nat} (h:∀ x∈l,x.length≤n) {i:Nat}:(l.getD i []).length≤n:=by
  rw [List.getD_eq_getElem?_getD];cases hh:l[i]? with
  | none=>simp
  | some x=>simp;exact h x (List.mem_of_getElem? hh)
theorem join_own {w:World} {base n c m:Nat} {a:Option Addr} {sep:Str} {l:List Str} (h:Own w base 9 1 (.slice a n c) n (l.map S)) (hm:m≤n) (hn:n=l.length) (hl:(join sep (l.take m)).length≤140737488355328) (hc:n≤140737488355328):
    Ret Tryz.prog 44 #[.slice a m c,S sep] w fun v w'=>v=S (join sep (l.take m))∧Bel w w':=by
  rcases h.open with ⟨h1,h2,-⟩ | ⟨b,cap,tl,h1,-,hk,hcm,hb⟩
  · simp only [Value.slice.injEq] at h1;have hm0:m=0:=by omega
    subst hm0;refine Calls.mono (Tryz.strings_Join_none a c ⟨sep.toArray⟩ w) fun e w' ⟨he,hw⟩=>⟨_,he,?_,hw ▸ Gr.refl _ _⟩
    simp [join,S]
  · simp only [Value.slice.injEq] at h1;obtain ⟨rfl,-,rfl⟩:=h1;have hbl:=hb.lt;have e1:((l.take m).map fun x:Str=>(⟨x.toArray⟩:ByteArray)).length=m:=by simp;omega
    have e2:(((l.take m).map fun x:Str=>(⟨x.toArray⟩:ByteArray)).map fun x=>x.data.toList)=l.take m:=by simp [Function.comp_def]
    have hj:=Tryz.strings_Join b 0 c ((l.take m).map fun x=>⟨x.toArray⟩) ⟨sep.toArray⟩ w (fun j x hx=>by
      obtain ⟨y,hy,rfl⟩:=List.getElem?_map .. ▸ hx |> Option.map_eq_some_iff.1
      rw [List.getElem?_take] at hy;split at hy
      · refine hb.cell0 ?_;rw [List.getElem?_append_left (by have:=(List.getElem?_eq_some_iff.1 hy).1;simpa using this),List.getElem?_map,hy];rfl
      · cases hy) hbl (by rw [e1];omega) (by rw [e1];omega) (by rw [e2,join_lib];exact hl)
    rw [e1,e2,join_lib] at hj;exact Calls.mono hj fun e w' ⟨he,hw⟩=>⟨_,he,rfl,bel_of hw⟩
section
variable {s:Sh}
theorem text1 (h:s.kind=1):s.text=[73,110,116]:=by rw [Sh.text_eq,textOf,if_pos h]
theorem text2 (h:s.kind=2):s.text=[66,111,111,108]:=by rw [Sh.text_eq,textOf,if_neg om_,if_pos h]
theorem text3 (h:s.kind=3):s.text=[84,101,120,116]:=by rw [Sh.text_eq,textOf,if_neg om_,if_neg om_,if_pos h]
theorem text4 (h:s.kind=4):s.text=[65,110,121]:=by rw [Sh.text_eq,textOf,if_neg om_,if_neg om_,if_neg om_,if_pos h]
theorem text5 (h:s.kind=5):s.text=[91]++(labels s).getD 0 []++[93]:=by rw [Sh.text_eq,textOf,if_neg om_,if_neg om_,if_neg om_,if_neg om_,if_pos h]
theorem text6 (h:s.kind=6):s.text=[123]++join [44,32] (labels s)++[125]:=by rw [Sh.text_eq,textOf,if_neg om_,if_neg om_,if_neg om_,if_neg om_,if_neg om_,if_pos h]
theorem text7 (h:s.kind=7):s.text=[60]++join [32,124,32] (labels s)++[62]:=by rw [Sh.text_eq,textOf,if_neg om_,if_neg om_,if_neg om_,if_neg om_,if_neg om_,if_neg om_,if_pos h]
theorem text8 (h:s.kind=8):s.text=[40]++join [44,32] ((labels s).take ((labels s).length - 1))++[41,32,45,62,32]++(labels s).getD ((labels s).length - 1) []:=by rw [Sh.text_eq,textOf,if_neg om_,if_neg om_,if_neg om_,if_neg om_,if_neg om_,if_neg om_,if_neg om_,if_pos h]
theorem text0 (h:¬ s.kind=1∧¬ s.kind=2∧¬ s.kind=3∧¬ s.kind=4∧¬ s.kind=5∧¬ s.kind=6∧¬ s.kind=7∧¬ s.kind=8):s.text=if s.of=[] then s.name else s.of++[47]++s.name:=by
  obtain ⟨h1,h2,h3,h4,h5,h6,h7,h8⟩:=h;rw [Sh.text_eq,textOf,if_neg h1,if_neg h2,if_neg h3,if_neg h4,if_neg h5,if_neg h6,if_neg h7,if_neg h8]
theorem list_one (h:fitsS s=true) (hk:s.kind=5):s.names=[]∧s.parts.length=1:=by
  rw [fits_list hk] at h;simp only [Bool.and_eq_true,decide_eq_true_eq] at h;exact ⟨List.eq_nil_of_length_eq_zero om_,by omega⟩
theorem fun_some (h:fitsS s=true) (hk:s.kind=8):s.names=[]∧0<s.parts.length:=by
  rw [fits_tup hk] at h;simp only [Bool.and_eq_true,decide_eq_true_eq] at h;exact ⟨List.eq_nil_of_length_eq_zero om_,by omega⟩
end
set_option maxHeartbeats 2000000 in
theorem shown_ok:∀ (N:Nat) (s:Sh),SizeOf.sizeOf s<N→s.size≤400→s.allB fitsS=true→∀ (A0:Nat→Prop) (cs:List Value) (w:World),ShC A0 w cs s→
    Ret Tryz.prog 115 #[.agg cs.toArray] w fun v w'=>v=S s.text∧Bel w w':=by
  intro N;induction N with
  | zero=>intro s h;omega
  | succ N ih=>
    intro s hN hM hf A0 cs w hs0;obtain ⟨A,hs,hU⟩:∃ A:Nat→Prop,ShC A w cs s∧(∀ k,w.heap.size≤k→A k):=⟨_,hs0.up,fun _=>.inr⟩;clear hs0;have hT:=fun (i:Nat) (hi:i<s.parts.length) (cs:List Value) (w:World) (h:ShC A w cs (s.parts.getD i default))=>ih _ (by have:=Sh.part_lt hi;omega) (by have:=Sh.part_size hi;omega) (allL_getD (allB_parts hf) hi) A cs w h
    obtain ⟨vn,vp,rfl,hn,hp,hof,hnm⟩:=hs.inv;obtain ⟨p,cap,row,rfl,p1,p2,p3,hr⟩:=hp;obtain ⟨pn,capn,rfl,n1,n2,n3,hL,-⟩:=id hn;clear hs;have hple:=parts_le s;have hfs:s.names=[]∨s.names.length=s.parts.length:=(fits_names (allB_fits hf)).imp id (·.1);have hll:=labels_len hfs;have hlens:=labels_lens hf;have hjl:∀ (sep:Str) i,sep.length≤3→(join sep ((labels s).take i)).length≤32000:=fun sep i hsep=>by
      have h1:=@join_len sep ((labels s).take i);have h2:=@lens_take (labels s) i;have h3:((labels s).take i).length≤(labels s).length:=by rw [List.length_take];omega
      have h4:sep.length * ((labels s).take i).length≤3 * (labels s).length:=Nat.mul_le_mul hsep h3;omega
    have hfl:=fits_len (allB_fits hf);have hj1:=hjl [44,32] s.parts.length (by decide);have hj2:=hjl [32,124,32] s.parts.length (by decide);have hj3:=hjl [44,32] (s.parts.length - 1) (by decide);have htk:(labels s).take s.parts.length=labels s:=List.take_of_length_le om_;have htx:∀ i,i<s.parts.length→(s.parts.getD i default).text.length≤32000:=fun i hi=>by
      have h1:=Sh.text_len _ (allL_getD (allB_parts hf) hi);have h2:=Sh.part_size hi;omega
    have hnl:∀ i,(s.names.getD i []).length≤24:=fun i=>getD_len hfl.2.2
    have hla:∀ i,((labels s).getD i []).length≤32000:=fun i=>by have:=@lens_at (labels s) i;omega
    obtain ⟨base,hbase⟩:∃ base,base=w.heap.size+1:=⟨_,rfl⟩;refine ret_of_W Tryz.func115 rfl (Nat.le_of_ble_eq_true rfl) (res1 rfl) ?_;have hB:=Gr.refl (fun _=>False) w;refine W.seq (W.region (L.box (cs:=_) rfl rfl (fun w1 bx1 hw hz1=>?_)));have hB:=hB.carry hw;have hr:=hr.carry hw;have hn:=hn.carry hw;refine L.val (x_as (v:=S _) rfl) rfl ?_;refine L.nil (thn_n (W.seq (W.region (L.val (x_as (v:=.slice _ _ _) rfl) rfl ?_))));refine L.nil (thn_n (W.seq (W.seq (W.region (L.val (x_fa kshow_fo45_4 rfl) rfl ?_)))));refine L.val (x_ld (v:=.slice _ _ _) kshow_oc23 rfl (bx1.cell0 rfl)) rfl ?_;refine L.val (x_len_slice Tryz.underlying23 rfl) rfl ?_;refine L.val (x_mv (v:=.int _ _) rfl) rfl ?_;refine L.nil (thn_n (W.block (W.loop (fun m' E w'=>∃ (i:Nat) (vT:Value),m'=s.parts.length - i∧E 1=.pointer (some ⟨w.heap.size,0,none⟩)∧E 3=vT∧E 9=.slice p s.parts.length cap∧E 10=.int .i64 (s.parts.length:Nat)∧E 11=.int .i64 (i:Nat)∧(Bel w w')∧(ShRow A w' p row s.parts)∧(StrsAt A w' (.slice pn s.names.length capn) s.names)∧(Box w' w.heap.size 45 [.int .i64 s.kind,S s.of,S s.name,.slice pn s.names.length capn,.slice p s.parts.length cap])∧(Ge base w')∧(i≤s.parts.length)∧(Own w' base 9 1 vT i (((labels s).take i).map S))) (s.parts.length) ?_ ?_)))
    ·exact ⟨0,.slice none 0 0,by omega,vi_,vi_,vi_,vi_,vi_,ao_,ao_,ao_,ao_,(by show base≤_;omega),ao_,(by exact own_nil)⟩
    ·rintro _ E wL12 ⟨i,vT,em,e1,e3,e9,e10,e11,hB,hr,hn,bx1,hG,hi,hO⟩;rw [upd_self e1,upd_self e3,upd_self e9,upd_self e10,upd_self e11];refine W.seq (W.region (L.val (x_lss rfl rfl) rfl ?_));refine L.nil (thn_n (W.seq (W.cond (b:=_) rfl (fun g12=>?_) (fun g12=>?_))))
     ·have h12:=of_decide_eq_true g12;refine W.skip (thn_n (W.seq (W.block (W.seq (W.region (L.val (x_mv (v:=.int _ _) rfl) rfl ?_))))));have hip:i<s.parts.length:=by omega
      obtain ⟨bp,op,rfl,-⟩:=hr.elem hip;obtain ⟨aT,cT,rfl,hcT⟩:=own_shape hO;have htl:=htx i hip;have hnl':=hnl i;refine L.val (x_ia (j:=i) Tryz.underlying23 kshow_sz45 rfl rfl om_ om_) rfl ?_;refine L.val (x_ldn (vs:=row i) kshow_ag45 rfl (hr.five i hip) (hr.elemAt hip)) rfl ?_;have hg5:base≤wL12.heap.size:=hG;have hO5:=fun j h=>(Own.lt hO (j:=j) h).2
      refine L.alloc (cs:=[Value.int .i64 0,S [],S [],Value.slice none 0 0,Value.slice none 0 0]) kshow_zr45 rfl rfl (fun w5 bx5 hw hz5=>?_);have hB:=hB.carry hw;have hr:=hr.carry hw;have hn:=hn.carry hw;have bx1:=bx1.carry hw;have hG:=hG.carry hw;have hO:=hO.carry hw;refine L.val (x_as (v:=.int _ _) rfl) rfl ?_;refine L.setRow kshow_ag45 rfl rfl bx5 rfl (hr.five i hip) (ShC.one (hr.each i hip)) (fun wl14 bx5 hw hzl14=>?_);have hsz:=hB.size;have hB:=hB.set hw om_;have hr:=hr.carryR hw (fun k e=>hU k (by have:k=_:=e;omega));have hn:=hn.carryR hw (fun k e=>hU k (by have:k=_:=e;omega));have bx1:=bx1.carryR hw om_;have hG:=hG.carryR hw;have hO:=Own.carryR hO hw (fun j hj e=>by have e:j=_:=e;have:=hO5 j hj;omega);refine L.nil (thn_n (W.seq (W.region (L.val (x_ldn (vs:=row i) kshow_ag45 rfl (hr.five i hip) (bx5.row (hr.five i hip))) rfl ?_))));refine L.ret (x_call kshow_en115 rfl) rfl (hT i hip _ _ (hr.each i hip)) ?_;rintro _ w17 ⟨rfl,hw⟩;have hB:=hB.carry hw;have hr:=hr.carry hw;have hn:=hn.carry hw;have bx1:=bx1.carry hw;have hG:=hG.carry hw;have hO:=hO.carry hw;have bx5:=bx5.carry hw;refine L.val (x_as (v:=S _) rfl) rfl ?_;refine L.nil (thn_n (W.seq (W.seq (W.region (L.val (x_fa kshow_fo45_3 rfl) rfl ?_)))));refine L.val (x_ld (v:=.slice _ _ _) kshow_oc22 rfl (bx1.cell0 rfl)) rfl ?_;refine L.val (x_len_slice Tryz.underlying22 rfl) rfl ?_;refine L.val (x_gtr rfl rfl) rfl ?_;refine L.nil (thn_n (W.cond (b:=_) rfl (fun g21=>?_) (fun g21=>?_)))
      ·have h21:=of_decide_eq_true g21;have hne:s.names≠[]:=fun e=>by rw [e] at h21;simp at h21
       have hln:s.names.length=s.parts.length:=hfs.resolve_left hne;have hin:i<s.names.length:=by omega
       obtain ⟨bn,on,rfl,-⟩:=hn.elem (i:=i) hin;have hlab:=labels_at hne hln hip;refine W.region (L.val (x_fa kshow_fo45_3 rfl) rfl ?_);refine L.val (x_ld (v:=.slice _ _ _) kshow_oc22 rfl (bx1.cell0 rfl)) rfl ?_;refine L.val (x_mv (v:=.int _ _) rfl) rfl ?_;refine L.val (x_ia1 (j:=i) Tryz.underlying22 kshow_sz9 rfl rfl om_ om_) rfl ?_;refine L.val (x_ld (v:=S _) kshow_oc9 rfl (hn.elemAt hin)) rfl ?_;refine L.val (x_cat rfl rfl (by first | omega | (simp only [List.length_append,List.length_cons,List.length_nil];omega))) rfl ?_;refine L.val (x_mv (v:=S _) rfl) rfl ?_;refine L.val (x_cat rfl rfl (by first | omega | (simp only [List.length_append,List.length_cons,List.length_nil];omega))) rfl ?_;refine L.val (x_as (v:=S _) rfl) rfl ?_;refine L.nil (thn_n (W.region (L.val (x_mv (v:=.slice _ _ _) rfl) rfl ?_)));refine L.val (x_mv (v:=S _) rfl) rfl ?_;refine L.bs (sz:=1) (cells:=[S ((labels s).getD i [])]) Tryz.underlying22 kshow_el9 rfl rfl (by rw [hlab];rfl) rfl (fun w32 bx32 hw hz32=>?_);have hB:=hB.carry hw;have hr:=hr.carry hw;have hn:=hn.carry hw;have bx1:=bx1.carry hw;have hG:=hG.carry hw;have hO:=hO.carry hw;have bx5:=bx5.carry hw;refine L.append (m:=1) Tryz.underlying22 kshow_el9 rfl rfl rfl hO rfl bx32.news (by simp [Value.oneCell',S]) om_ hG (fun v33 w33 hO33 hg hiff33 hob33=>?_);obtain ⟨g33,c33,rfl⟩:=own_form hO33;have hO33:Own w33 base 9 1 (.slice (some ⟨g33,0,none⟩) (i+1) c33) (i+1) (((labels s).take (i+1)).map S):=by
         rw [List.take_succ_eq_append_getElem om_,List.map_append];simpa [List.getD_eq_getElem?_getD,show i<(labels s).length by omega] using hO33
       have hlo:∀ j,some j=(Value.slice aT i cT).ownBlock→base≤j:=fun j hj=>(hO.lt hj).1
       have hB:=hB.step hg (fun i hi e=>by have:=hlo i e;omega);have hr:=hr.carryR hg (fun j e=>hU j (by have:=hlo j e;omega));have hn:=hn.carryR hg (fun j e=>hU j (by have:=hlo j e;omega));have bx1:=bx1.carryR hg (fun e=>by have:=hlo _ e;omega);have hG:=hG.carryR hg;refine L.val (x_as (v:=.slice _ _ _) rfl) rfl ?_;refine L.nil (blk_n (thn_n (W.region (L.val (x_add rfl rfl (wr64 om_)) rfl ?_))));refine L.val (x_mv (v:=.int _ _) rfl) rfl ?_;refine L.nil (thn_n ⟨rfl,?_⟩);refine ⟨_,?_,i+1,_,rfl,vi_,vi_,vi_,vi_,vi_,ao_,ao_,ao_,ao_,ao_,ao_,(by exact hO33)⟩;omega
      ·have h21:=dlt_f g21;have hne:s.names=[]:=List.eq_nil_of_length_eq_zero om_;have hlab:=labels_nil hne hip;refine W.skip (thn_n (W.region (L.val (x_mv (v:=.slice _ _ _) rfl) rfl ?_)));refine L.val (x_mv (v:=S _) rfl) rfl ?_;refine L.bs (sz:=1) (cells:=[S ((labels s).getD i [])]) Tryz.underlying22 kshow_el9 rfl rfl (by rw [hlab];rfl) rfl (fun w32 bx32 hw hz32=>?_);have hB:=hB.carry hw;have hr:=hr.carry hw;have hn:=hn.carry hw;have bx1:=bx1.carry hw;have hG:=hG.carry hw;have hO:=hO.carry hw;have bx5:=bx5.carry hw;refine L.append (m:=1) Tryz.underlying22 kshow_el9 rfl rfl rfl hO rfl bx32.news (by simp [Value.oneCell',S]) om_ hG (fun v33 w33 hO33 hg hiff33 hob33=>?_);obtain ⟨g33,c33,rfl⟩:=own_form hO33;have hO33:Own w33 base 9 1 (.slice (some ⟨g33,0,none⟩) (i+1) c33) (i+1) (((labels s).take (i+1)).map S):=by
         rw [List.take_succ_eq_append_getElem om_,List.map_append];simpa [List.getD_eq_getElem?_getD,show i<(labels s).length by omega] using hO33
       have hlo:∀ j,some j=(Value.slice aT i cT).ownBlock→base≤j:=fun j hj=>(hO.lt hj).1
       have hB:=hB.step hg (fun i hi e=>by have:=hlo i e;omega);have hr:=hr.carryR hg (fun j e=>hU j (by have:=hlo j e;omega));have hn:=hn.carryR hg (fun j e=>hU j (by have:=hlo j e;omega));have bx1:=bx1.carryR hg (fun e=>by have:=hlo _ e;omega);have hG:=hG.carryR hg;refine L.val (x_as (v:=.slice _ _ _) rfl) rfl ?_;refine L.nil (blk_n (thn_n (W.region (L.val (x_add rfl rfl (wr64 om_)) rfl ?_))));refine L.val (x_mv (v:=.int _ _) rfl) rfl ?_;refine L.nil (thn_n ⟨rfl,?_⟩);refine ⟨_,?_,i+1,_,rfl,vi_,vi_,vi_,vi_,vi_,ao_,ao_,ao_,ao_,ao_,ao_,(by exact hO33)⟩;omega
     ·have h12:=dlt_f g12;have hin:i=s.parts.length:=by omega
      subst hin;rw [htk] at hO;have hj1':=htk ▸ hj1;have hj2':=htk ▸ hj2;obtain ⟨aT,cT,rfl,hcT⟩:=own_shape hO;have hla0:=hla 0;have hlaL:=hla (s.parts.length - 1);refine W.exit (thn_x (thn_x (blk_hit ?_)));refine thn_n (W.seq (W.seq (W.region (L.val (x_fa kshow_fo45_0 rfl) rfl ?_))));refine L.val (x_ld (v:=.int _ _) kshow_oc3 rfl (bx1.cell0 rfl)) rfl ?_;refine L.nil (thn_n (W.block (W.seq (W.region (L.val (x_eql rfl rfl) rfl ?_)))));refine L.val (x_as (v:=.bool _) rfl) rfl ?_;refine L.nil (thn_n (W.cond (b:=_) rfl (fun g38=>?_) (fun g38=>?_)))
      ·have h38:=of_decide_eq_true g38;refine W.seq (W.region (L.val (x_as (v:=S _) rfl) rfl ?_));refine L.nil (thn_n (W.ret (blk_r (thn_r (fin_mk (.inr rfl) ?_)))));exact ⟨vs (text1 h38).symm,hB⟩
      ·have h38:=of_decide_eq_false g38;refine W.seq (W.region (L.val (x_eql rfl rfl) rfl ?_));refine L.val (x_as (v:=.bool _) rfl) rfl ?_;refine L.nil (thn_n (W.cond (b:=_) rfl (fun g40=>?_) (fun g40=>?_)))
       ·have h40:=of_decide_eq_true g40;refine W.seq (W.region (L.val (x_as (v:=S _) rfl) rfl ?_));refine L.nil (thn_n (W.ret (blk_r (thn_r (fin_mk (.inr rfl) ?_)))));exact ⟨vs (text2 h40).symm,hB⟩
       ·have h40:=of_decide_eq_false g40;refine W.seq (W.region (L.val (x_eql rfl rfl) rfl ?_));refine L.val (x_as (v:=.bool _) rfl) rfl ?_;refine L.nil (thn_n (W.cond (b:=_) rfl (fun g42=>?_) (fun g42=>?_)))
        ·have h42:=of_decide_eq_true g42;refine W.seq (W.region (L.val (x_as (v:=S _) rfl) rfl ?_));refine L.nil (thn_n (W.ret (blk_r (thn_r (fin_mk (.inr rfl) ?_)))));exact ⟨vs (text3 h42).symm,hB⟩
        ·have h42:=of_decide_eq_false g42;refine W.seq (W.region (L.val (x_eql rfl rfl) rfl ?_));refine L.val (x_as (v:=.bool _) rfl) rfl ?_;refine L.nil (thn_n (W.cond (b:=_) rfl (fun g44=>?_) (fun g44=>?_)))
         ·have h44:=of_decide_eq_true g44;refine W.seq (W.region (L.val (x_as (v:=S _) rfl) rfl ?_));refine L.nil (thn_n (W.ret (blk_r (thn_r (fin_mk (.inr rfl) ?_)))));exact ⟨vs (text4 h44).symm,hB⟩
         ·have h44:=of_decide_eq_false g44;refine W.seq (W.region (L.val (x_eql rfl rfl) rfl ?_));refine L.val (x_as (v:=.bool _) rfl) rfl ?_;refine L.nil (thn_n (W.cond (b:=_) rfl (fun g46=>?_) (fun g46=>?_)))
          ·have h46:=of_decide_eq_true g46;obtain ⟨l1,l2⟩:=list_one (allB_fits hf) h46;have hip:0<(labels s).length:=by omega
           obtain ⟨bT,rfl⟩:=own_pos hO om_;refine W.seq (W.region (L.val (x_mv (v:=.slice _ _ _) rfl) rfl ?_));refine L.val (x_ia1 (j:=0) Tryz.underlying22 kshow_sz9 rfl rfl om_ om_) rfl ?_;refine L.val (x_ld (v:=S _) kshow_oc9 rfl (own_cell1 hO hip)) rfl ?_;refine L.val (x_cat rfl rfl (by first | omega | (simp only [List.length_append,List.length_cons,List.length_nil];omega))) rfl ?_;refine L.val (x_cat rfl rfl (by first | omega | (simp only [List.length_append,List.length_cons,List.length_nil];omega))) rfl ?_;refine L.val (x_as (v:=S _) rfl) rfl ?_;refine L.nil (thn_n (W.ret (blk_r (thn_r (fin_mk (.inr rfl) ?_)))));exact ⟨vs (by rw [text5 h46]),hB⟩
          ·have h46:=of_decide_eq_false g46;refine W.seq (W.region (L.val (x_eql rfl rfl) rfl ?_));refine L.val (x_as (v:=.bool _) rfl) rfl ?_;refine L.nil (thn_n (W.cond (b:=_) rfl (fun g53=>?_) (fun g53=>?_)))
           ·have h53:=of_decide_eq_true g53;refine W.seq (W.region (L.val (x_mv (v:=.slice _ _ _) rfl) rfl ?_));refine L.ret (x_call kshow_en44 rfl) rfl (join_own hO (Nat.le_refl _) hll.symm om_ om_) ?_;rintro _ w55 ⟨rfl,hw⟩;have hB:=hB.carry hw;have bx1:=bx1.carry hw;have hO:=hO.carry hw;rw [htk];refine L.val (x_cat rfl rfl (by first | omega | (simp only [List.length_append,List.length_cons,List.length_nil];omega))) rfl ?_;refine L.val (x_cat rfl rfl (by first | omega | (simp only [List.length_append,List.length_cons,List.length_nil];omega))) rfl ?_;refine L.val (x_as (v:=S _) rfl) rfl ?_;refine L.nil (thn_n (W.ret (blk_r (thn_r (fin_mk (.inr rfl) ?_)))));exact ⟨vs (by rw [text6 h53]),hB⟩
           ·have h53:=of_decide_eq_false g53;refine W.seq (W.region (L.val (x_eql rfl rfl) rfl ?_));refine L.val (x_as (v:=.bool _) rfl) rfl ?_;refine L.nil (thn_n (W.cond (b:=_) rfl (fun g59=>?_) (fun g59=>?_)))
            ·have h59:=of_decide_eq_true g59;refine W.seq (W.region (L.val (x_mv (v:=.slice _ _ _) rfl) rfl ?_));refine L.ret (x_call kshow_en44 rfl) rfl (join_own hO (Nat.le_refl _) hll.symm om_ om_) ?_;rintro _ w61 ⟨rfl,hw⟩;have hB:=hB.carry hw;have bx1:=bx1.carry hw;have hO:=hO.carry hw;rw [htk];refine L.val (x_cat rfl rfl (by first | omega | (simp only [List.length_append,List.length_cons,List.length_nil];omega))) rfl ?_;refine L.val (x_cat rfl rfl (by first | omega | (simp only [List.length_append,List.length_cons,List.length_nil];omega))) rfl ?_;refine L.val (x_as (v:=S _) rfl) rfl ?_;refine L.nil (thn_n (W.ret (blk_r (thn_r (fin_mk (.inr rfl) ?_)))));exact ⟨vs (by rw [text7 h59]),hB⟩
            ·have h59:=of_decide_eq_false g59;refine W.seq (W.region (L.val (x_eql rfl rfl) rfl ?_));refine L.val (x_as (v:=.bool _) rfl) rfl ?_;refine L.nil (thn_n (W.cond (b:=_) rfl (fun g65=>?_) (fun g65=>?_)))
             ·have h65:=of_decide_eq_true g65;obtain ⟨l1,l2⟩:=fun_some (allB_fits hf) h65;have hip:s.parts.length - 1<(labels s).length:=by omega
              obtain ⟨bT,rfl⟩:=own_pos hO om_;refine W.seq (W.region (L.val (x_mv (v:=.slice _ _ _) rfl) rfl ?_));refine L.val (x_len_slice Tryz.underlying22 rfl) rfl ?_;refine L.val (x_sub rfl rfl (wr64 om_)) rfl ?_;rw [show (s.parts.length:Int) - 1=((s.parts.length - 1:Nat):Int) by omega];refine L.val (x_as (v:=.int _ _) rfl) rfl ?_;refine L.nil (thn_n (W.seq (W.drawB kshow_mixed kr_ ?_)));refine LQ.val (fun w hw=>x_mv (v:=.slice _ _ _) rfl) rfl ?_;refine LQ.val (fun w hw=>x_mv (v:=.int _ _) rfl) rfl ?_;refine LQ.val (fun w hw=>x_shi (j:=s.parts.length - 1) Tryz.underlying22 kshow_sz9 rfl rfl rfl om_) rfl ?_;refine LQ.ret (fun w=>x_call kshow_en44 rfl) (fun w hw=>Ret.mono (join_own (hO.carry hw) (Nat.sub_le _ _) hll.symm om_ om_) (fun _ _ h=>⟨h.1,Gr.trans hw h.2⟩)) rfl ?_;refine LQ.val (fun w hw=>x_cat rfl rfl (by first | omega | (simp only [List.length_append,List.length_cons,List.length_nil];omega))) rfl ?_;refine LQ.val (fun w hw=>x_cat rfl rfl (by first | omega | (simp only [List.length_append,List.length_cons,List.length_nil];omega))) rfl ?_;refine LQ.val (fun w hw=>x_mv (v:=.slice _ _ _) rfl) rfl ?_;refine LQ.val (fun w hw=>x_mv (v:=.int _ _) rfl) rfl ?_;refine LQ.val (fun w hw=>x_ia1 (j:=s.parts.length - 1) Tryz.underlying22 kshow_sz9 rfl rfl om_ om_) rfl ?_;refine LQ.val (fun w hw=>x_ld (v:=S _) kshow_oc9 rfl (hw.keep (own_cell1 hO hip))) rfl ?_;refine LQ.val (fun w hw=>x_cat rfl rfl (by first | omega | (simp only [List.length_append,List.length_cons,List.length_nil];omega))) rfl ?_;refine LQ.val (fun w hw=>x_as (v:=S _) rfl) rfl ?_;refine LQ.nil ?_;intro w69 hw;have hB:=hB.carry hw;have bx1:=bx1.carry hw;have hO:=hO.carry hw;refine thn_n (W.ret (blk_r (thn_r (fin_mk (.inr rfl) ?_))));exact ⟨vs (by rw [text8 h65,hll]),hB⟩
             ·have h65:=of_decide_eq_false g65;refine W.skip (blk_n (thn_n (W.seq (W.seq (W.region (L.val (x_fa kshow_fo45_1 rfl) rfl ?_))))));refine L.val (x_ld (v:=S _) kshow_oc9 rfl (bx1.cell0 rfl)) rfl ?_;refine L.val (x_nes rfl rfl) rfl ?_;refine L.nil (thn_n (W.cond (b:=_) rfl (fun g82=>?_) (fun g82=>?_)))
              ·have h82:=sne_t g82;refine W.seq (W.region (L.val (x_fa kshow_fo45_1 rfl) rfl ?_));refine L.val (x_ld (v:=S _) kshow_oc9 rfl (bx1.cell0 rfl)) rfl ?_;refine L.val (x_cat rfl rfl (by first | omega | (simp only [List.length_append,List.length_cons,List.length_nil];omega))) rfl ?_;refine L.val (x_fa kshow_fo45_2 rfl) rfl ?_;refine L.val (x_ld (v:=S _) kshow_oc9 rfl (bx1.cell0 rfl)) rfl ?_;refine L.val (x_cat rfl rfl (by first | omega | (simp only [List.length_append,List.length_cons,List.length_nil];omega))) rfl ?_;refine L.val (x_as (v:=S _) rfl) rfl ?_;refine L.nil (thn_n (W.ret (thn_r (fin_mk (.inr rfl) ?_))));exact ⟨vs (by rw [text0 ⟨h38,h40,h42,h44,h46,h53,h59,h65⟩,if_neg h82]),hB⟩
              ·have h82:=sne_f g82;refine W.skip (thn_n (W.seq (W.region (L.val (x_fa kshow_fo45_2 rfl) rfl ?_))));refine L.val (x_ld (v:=S _) kshow_oc9 rfl (bx1.cell0 rfl)) rfl ?_;refine L.val (x_as (v:=S _) rfl) rfl ?_;refine L.nil (thn_n (W.ret (fin_mk (.inr rfl) ?_)));exact ⟨vs (by rw [text0 ⟨h38,h40,h42,h44,h46,h53,h59,h65⟩,if_pos h82]),hB⟩
def showS (s:Sh):Value:=.tuple (if checkS s=0 then #[S s.text,.int .i64 0] else #[S [],.int .i64 (checkS s)])
theorem show_ok (A:Nat→Prop) (s:Sh) (cs:List Value) (w:World) (hs:ShC A w cs s):
    Ret Tryz.prog 92 #[.agg cs.toArray] w fun v w'=>v=showS s∧Bel w w':=by
  have hlen:=hs.len;refine ret_of_W Tryz.func92 rfl (Nat.le_of_ble_eq_true rfl) (res2 rfl) ?_;have hB:=Gr.refl (fun _=>False) w;refine W.seq (W.region (L.box (cs:=cs) rfl rfl (fun w1 bx1 hw hz1=>?_)));have hB:=hB.carry hw;have hs:=hs.carry hw;refine L.val (x_as (v:=S _) rfl) rfl ?_;refine L.val (x_as (v:=.int _ _) rfl) rfl ?_;refine L.nil (thn_n (W.seq (W.seq (W.region (L.val (x_ldn (vs:=cs) kshow_ag45 rfl hlen (bx1.row hlen)) rfl ?_)))));refine L.ret (x_call kshow_en70 rfl) rfl (checkL A s _ _ hs) ?_;rintro _ w6 ⟨rfl,hw⟩;have hB:=hB.carry hw;have hs:=hs.carry hw;have bx1:=bx1.carry hw;refine L.val (x_as (v:=.int _ _) rfl) rfl ?_;refine L.nil (thn_n (W.seq (W.region (L.val (x_mv (v:=.int _ _) rfl) rfl ?_))));refine L.val (x_neq rfl rfl) rfl ?_;refine L.nil (thn_n (W.cond (b:=_) rfl (fun g8=>?_) (fun g8=>?_)))
  ·have h8:=dne_t g8;refine W.seq (W.region (L.val (x_mv (v:=.int _ _) rfl) rfl ?_));refine L.val (x_as (v:=S _) rfl) rfl ?_;refine L.val (x_as (v:=.int _ _) rfl) rfl ?_;refine L.nil (thn_n (W.ret (thn_r (fin_mk (.inr rfl) ?_))));exact ⟨by unfold showS;rw [if_neg h8];rfl,hB⟩
  ·have h8:=dne_f g8;refine W.skip (thn_n (W.seq (W.region (L.val (x_ldn (vs:=cs) kshow_ag45 rfl hlen (bx1.row hlen)) rfl ?_))));refine L.ret (x_call kshow_en115 rfl) rfl (shown_ok _ s (Nat.lt_succ_self _) (check_zero h8).1 (check_zero h8).2.2 A _ _ hs) ?_;rintro _ w11 ⟨rfl,hw⟩;have hB:=hB.carry hw;have hs:=hs.carry hw;have bx1:=bx1.carry hw;refine L.val (x_as (v:=S _) rfl) rfl ?_;refine L.val (x_as (v:=.int _ _) rfl) rfl ?_;refine L.nil (thn_n (W.ret (fin_mk (.inr rfl) ?_)));exact ⟨by unfold showS;rw [if_pos h8];rfl,hB⟩
end Go.Gx
namespace Go.Proofs
open Go.Shelf
def Tryz.lays169_ren:Go.Shelf.Ren:=⟨fun | 169=>65 | n=>n,fun | 70=>71 | 9=>9 | 0=>0 | 72=>74 | 37=>72 | 127=>98 | 3=>3 | 5=>5 | n=>n,fun | n=>n⟩
theorem Tryz.lays169:Go.Proofs.Lays.n169 Tryz.prog Tryz.lays169_ren:={
  mixed:=by kernel_rfl
  f169:=Tryz.func65.trans (congrArg some (by kernel_rfl))
  t0:=Tryz.underlying0
  a0:=Tryz.isAgg0
  z0:=Tryz.sizeOf0
  v0:=Tryz.zeroValue0
  t3:=Tryz.underlying3
  a3:=Tryz.isAgg3
  z3:=Tryz.sizeOf3
  v3:=Tryz.zeroValue3
  t9:=Tryz.underlying9
  a9:=Tryz.isAgg9
  z9:=Tryz.sizeOf9
  v9:=Tryz.zeroValue9
  t37:=Tryz.underlying72
  a37:=Tryz.isAgg72
  z37:=Tryz.sizeOf72
  v37:=Tryz.zeroValue72
  t70:=Tryz.underlying71
  a70:=Tryz.isAgg71
  z70:=Tryz.sizeOf71
  v70:=Tryz.zeroValue71
  t72:=Tryz.underlying74
  a72:=Tryz.isAgg74
  z72:=Tryz.sizeOf74
  v72:=Tryz.zeroValue74
  t127:=Tryz.underlying98
  a127:=Tryz.isAgg98
  z127:=Tryz.sizeOf98
  v127:=Tryz.zeroValue98 }
theorem Tryz.Builder_Extra_169:Builder.Extra Tryz.prog Tryz.lays169_ren:={
  sizeBuilder:=by kernel_rfl
  liesBuilder:=by kernel_rfl
  t5:=Tryz.underlying5
  a5:=Tryz.isAgg5
  z5:=Tryz.sizeOf5
  v5:=Tryz.zeroValue5
  infoByte:=by kernel_rfl
  cellsByte:=by kernel_rfl
  sizeByte:=by kernel_rfl
  neB5:=by decide }
open Go.RowKit in
theorem Tryz.Builder_String_any (B b:Nat) (l:List UInt8) (w:World) (h:Lib.IsBuilder 74 5 B b (Lib.byteCells l) w) (hBw:B≤w.heap.size):
    Calls Tryz.prog 65 #[.pointer (some ⟨b,0,none⟩)] w fun e w'=>e=.returned (.string ⟨l.toArray⟩)∧Below B w w':=Any.Builder_String_any Tryz.lays169 Tryz.Builder_Extra_169 B b l w h hBw
end Go.Proofs
namespace Go.Gx
open Go.Proofs
theorem kbld_el5:elT Tryz.prog 5 1=true:=by kernel_rfl
theorem kbld_en90:Go.Proofs.Enters Tryz.prog 90:=Go.Proofs.enters_of Tryz.func90 kr_ rfl
theorem kbld_fo74_0:fieldOff Tryz.prog 74 0=some 0:=by kernel_rfl
theorem kbld_fo74_1:fieldOff Tryz.prog 74 1=some 1:=by kernel_rfl
theorem kbld_oc71:oneCellT Tryz.prog 71=true:=by kernel_rfl
theorem kbld_oc72:oneCellT Tryz.prog 72=true:=by kernel_rfl
theorem kbld_sz71:(Tryz.prog.info? 71).map (·.size)=some 1:=by kernel_rfl
theorem kbld_sz72:(Tryz.prog.info? 72).map (·.size)=some 1:=by kernel_rfl
theorem gr_below {n₀ : Nat} {a b:World} (h:RowKit.Below n₀ a b):Gr (fun k=>n₀ ≤ k) a b:=⟨h.os,h.tape,h.output,h.size,fun k _ hn=>h.block k om_⟩
def BuilderIs (w:World) (b:Nat) (l:Str):Prop:=
  ∃ p v,(p=.pointer none∨p=.pointer (some ⟨b,0,none⟩))∧Box w b 74 [p,v]∧Own w b 5 1 v l.length (l.map B8)∧v.ownBlock≠some b
theorem BuilderIs.lt {w:World} {b:Nat} {l:Str} (h:BuilderIs w b l):b<w.heap.size:=by obtain ⟨p,v,-,h,-⟩:=h;exact h.lt
theorem BuilderIs.carryR {R:Nat→Prop} {w w':World} {b:Nat} {l:Str} (h:BuilderIs w b l) (g:Gr R w w') (hR:∀ k,b≤k→¬ R k):BuilderIs w' b l:=by
  obtain ⟨p,v,h1,h2,h3,h4⟩:=h;exact ⟨p,v,h1,h2.carryR g (hR b (Nat.le_refl _)),Own.carryR h3 g (fun j hj=>hR j (Own.lt h3 hj).1),h4⟩
theorem BuilderIs.carry {w w':World} {b:Nat} {l:Str} (h:BuilderIs w b l) (g:Bel w w'):BuilderIs w' b l:=h.carryR g (fun _ _ f=>f)
theorem bstr_ok (b:Nat) (l:Str) (w:World) (h:BuilderIs w b l):Ret Tryz.prog 65 #[.pointer (some ⟨b,0,none⟩)] w fun v w'=>v=S l∧Gr (fun k=>b≤k) w w':=by
  have hlt:=h.lt;obtain ⟨p,v,hp,hb,ho,hn⟩:=h;have hA:∀ q,p=q→Lib.BuilderAt 74 5 b b q (Lib.byteCells l) w:=fun q e=>⟨Nat.le_refl _,v,by rw [← e];exact hb,by rw [Lib.byteCells_length];exact ho,hn⟩
  have hI:Lib.IsBuilder 74 5 b b (Lib.byteCells l) w:=hp.imp (hA _) (hA _);exact Calls.mono (Tryz.Builder_String_any b b l w hI om_) fun e w' ⟨he,hw⟩=>⟨_,he,rfl,gr_below hw⟩
theorem sh_box {w:World} {b:Nat} {t:TypeId} {cs:List Value} (h:Box w b t cs):w.shape? b=some (t,cs.length):=by
  unfold Box at h;simp [World.shape?,h]
theorem x_toUns {x:Operand} {s d t e:TypeId} {ty:TypeId} {E:Env} {w:World} {a:Addr} {cells:Nat} (hs:(Tryz.prog).underlying s=some (.pointer t)) (hd:(Tryz.prog).underlying d=some .unsafePointer) (ht:((Tryz.prog).info? t).map (fun i=>decide (i.size≠0))=some true) (hx:ev E x=.pointer (some a)) (hsh:w.shape? a.block=some (e,cells)) (hoff:a.off<cells):X (Tryz.prog) (.convert s d x) ty E w (.pointer (some a)) w:=by
  cases hi:(Tryz.prog).info? t with
  | none=>simp [hi] at ht
  | some j=>
    have hj:j.size≠0:=by simpa [hi] using ht
    unfold X;simp [execOp,hx,Lib.run_to_unsafe (P:=Tryz.prog) w a hs hd hi hj hsh hoff]
theorem x_fromUns {x:Operand} {s d u e:TypeId} {ty:TypeId} {E:Env} {w:World} {a:Addr} {cells:Nat} (hs:(Tryz.prog).underlying s=some .unsafePointer) (hd:(Tryz.prog).underlying d=some (.pointer u)) (hu:((Tryz.prog).info? u).isSome=true) (hx:ev E x=.pointer (some a)) (hsh:w.shape? a.block=some (e,cells)) (hlies:liesAt (Tryz.prog) (Tryz.prog).depth e (cells / (Tryz.prog).cellsOf e) a.off u 1=true):X (Tryz.prog) (.convert s d x) ty E w (.pointer (some a)) w:=by
  obtain ⟨j,hj⟩:=Option.isSome_iff_exists.1 hu;unfold X;simp [execOp,hx,Lib.run_from_unsafe (P:=Tryz.prog) w a hs hd hj hsh hlies]
theorem x_nepS {x y:Operand} {t u z e:TypeId} {E:Env} {w:World} {a:Addr} (hu:(Tryz.prog).underlying u=some (.pointer e)) (he:((Tryz.prog).info? e).isSome=true) (hx:ev E x=.pointer (some a)) (hy:ev E y=.pointer (some a)):X (Tryz.prog) (.binOp .neq u x y z) t E w (.bool false) w:=by
  obtain ⟨j,hj⟩:=Option.isSome_iff_exists.1 he;have hg:∀ d:Nat,(Op.eqGuardIn (d+1) u (.pointer (some a)) (.pointer (some a))).run (Tryz.prog) w=.ok false w:=fun d=>by simp [Op.eqGuardIn,run_underlying hu]
  unfold X;simp [execOp,hx,hy,eqGuard,Lib.run_neq_ptr_same (P:=Tryz.prog) w a hu hj,hg]
theorem L.appS {P:Program} {n:Nat} {Q:Post} {D:List Deferred} {E:Env} {w:World} {ops:Array Oper} {r:List Oper} {d:Nat} {x y:Operand} {T U t e:TypeId} {p:String} {af:Array Edge} {base k:Nat} {v:Value} {xs:List Value} {l:Str}
    (hu:P.underlying T=some (.slice e)) (hU:P.underlying U=some .string) (he:elT P e 1=true) (hz:(P.info? e).bind (·.zero)=some (.int .u8 0)) (hby:(P.info? e).map (·.bytes)=some 1) (hx:ev E x=v) (hy:ev E y=S l) (hd:Nat.blt d n=true) (h:Own w base e 1 v k xs)
    (hk:k+l.length≤140737488355328) (hb:base≤w.heap.size)
    (kk:∀ v' w',Own w' base e 1 v' (k+l.length) (xs++l.map B8)→Gr (fun j=>some j=v.ownBlock) w w'→L P n ops Q r D (upd E d v') w'):
    L P n ops Q (⟨some d,.call ⟨.builtin .append,#[x,y],#[T,U]⟩,t,p,af,none⟩ :: r) D E w:=by
  obtain ⟨i,z,hi,hz',hs,-⟩:=elT_spec he;have hz2:i.zero=some (.int .u8 0):=by simpa [hi] using hz
  have hb2:i.bytes=1:=by simpa [hi] using hby
  obtain ⟨v',w',hr,h1,h2,-⟩:=Lib.run_append_own_string (P:=P) w base T U t e i hu hU hi hz2 hs hb2 v k xs h ⟨l.toArray⟩ (by show k+l.length≤_;simp only [maxLen];omega) hk hb;refine L.val (v:=v') (w':=w') ?_ hd (kk v' w' h1 ⟨h2.os,h2.tape,h2.output,h2.size,fun j hj hn=>h2.block j hj (fun e=>hn e)⟩);unfold X;simp only [S] at hy;simp [execOp,resolve,invoke,builtin,hx,hy,hr,Result.andThen]
def BldV (w:World) (b:Nat) (v:Value) (l:Str):Prop:=
  (∃ p,(p=.pointer none∨p=.pointer (some ⟨b,0,none⟩))∧Box w b 74 [p,v])∧Own w b 5 1 v l.length (l.map B8)∧v.ownBlock≠some b
theorem BldV.is {w:World} {b:Nat} {v:Value} {l:Str} (h:BldV w b v l):BuilderIs w b l:=by
  obtain ⟨⟨p,h1,h2⟩,h3,h4⟩:=h;exact ⟨p,v,h1,h2,h3,h4⟩
theorem BldV.lt {w:World} {b:Nat} {v:Value} {l:Str} (h:BldV w b v l):b<w.heap.size:=h.is.lt
theorem BldV.own {w:World} {b:Nat} {v:Value} {l:Str} (h:BldV w b v l) {k:Nat} (hk:some k=v.ownBlock):b≤k∧k<w.heap.size:=Own.lt h.2.1 hk
theorem BldV.carryR {R:Nat→Prop} {w w':World} {b:Nat} {v:Value} {l:Str} (h:BldV w b v l) (g:Gr R w w') (hR:∀ k,R k→k≠b∧some k≠v.ownBlock):BldV w' b v l:=by
  obtain ⟨⟨p,h1,h2⟩,h3,h4⟩:=h;exact ⟨⟨p,h1,h2.carryR g (fun r=>(hR b r).1 rfl)⟩,Own.carryR h3 g (fun j hj r=>(hR j r).2 hj),h4⟩
theorem BldV.carry {w w':World} {b:Nat} {v:Value} {l:Str} (h:BldV w b v l) (g:Bel w w'):BldV w' b v l:=h.carryR g (fun _ f=>f.elim)
theorem bld_new {w:World} {b:Nat} (h:Box w b 74 [.pointer none,.slice none 0 0]):BldV w b (.slice none 0 0) []:=⟨⟨_,.inl rfl,h⟩,own_nil,by simp [Value.ownBlock]⟩
theorem ccheck_ok (b:Nat) (v:Value) (l:Str) (w:World) (h:BldV w b v l):Ret Tryz.prog 90 #[.pointer (some ⟨b,0,none⟩)] w fun _ w'=>(Box w' b 74 [.pointer (some ⟨b,0,none⟩),v]∧Own w' b 5 1 v l.length (l.map B8)∧v.ownBlock≠some b)∧Gr (fun k=>k=b) w w':=by
  have hlt:=h.lt;obtain ⟨⟨p,hp,hb⟩,ho,hn⟩:=h;rcases hp with rfl | rfl
  · have hlt0:=hlt;refine ret_of_W Tryz.func90 rfl (Nat.le_of_ble_eq_true rfl) (res0 rfl) ?_;refine W.seq (W.region (L.val (x_mv (v:=.pointer _) rfl) rfl ?_));refine L.val (x_nil rfl) rfl ?_;refine L.val (x_fa kbld_fo74_0 rfl) rfl ?_;refine L.val (x_ld (v:=.pointer _) kbld_oc71 rfl (hb.cell0 rfl)) rfl ?_;refine L.val (x_eqp0 Tryz.underlying71 rfl rfl) rfl ?_;refine L.nil (thn_n (W.cond (b:=_) rfl (fun g6=>?_) (fun g6=>?_)))
    ·have h6:=g6;refine W.region (L.val (x_mv (v:=.pointer _) rfl) rfl ?_);refine L.val (x_mv (v:=.pointer _) rfl) rfl ?_;refine L.val (x_toUns Tryz.underlying71 Tryz.underlying121 kr_ rfl (sh_box hb) (by simp)) rfl ?_;refine L.val (x_extn (e:=Extern.AbiNoEscape.same) Tryz.func113 kr_ kr_ kr_ kr_ rfl (Lib.run_noEscape _ _)) rfl ?_;refine L.val (x_fromUns Tryz.underlying121 Tryz.underlying71 kr_ rfl (sh_box hb) kr_) rfl ?_;refine L.val (x_nil rfl) rfl ?_;refine L.val (x_fa kbld_fo74_0 rfl) rfl ?_;refine L.set (v:=.pointer _) kbld_sz71 rfl rfl rfl hb rfl (fun wl13 hb hw hzl13=>?_);have ho:=Own.carryR ho hw (fun j hj e=>by have e:j=b:=e;rw [e] at hj;exact hn hj.symm);refine L.nil (fin_mk (.inl rfl) ?_);exact ⟨⟨hb,ho,hn⟩,hw⟩
    ·have h6:=g6;cases g6
  · have hlt0:=hlt;refine ret_of_W Tryz.func90 rfl (Nat.le_of_ble_eq_true rfl) (res0 rfl) ?_;refine W.seq (W.region (L.val (x_mv (v:=.pointer _) rfl) rfl ?_));refine L.val (x_nil rfl) rfl ?_;refine L.val (x_fa kbld_fo74_0 rfl) rfl ?_;refine L.val (x_ld (v:=.pointer _) kbld_oc71 rfl (hb.cell0 rfl)) rfl ?_;refine L.val (x_eqp0 Tryz.underlying71 rfl rfl) rfl ?_;refine L.nil (thn_n (W.cond (b:=_) rfl (fun g6=>?_) (fun g6=>?_)))
    ·have h6:=g6;cases g6
    ·have h6:=g6;refine W.seq (W.region (L.val (x_mv (v:=.pointer _) rfl) rfl ?_));refine L.val (x_nil rfl) rfl ?_;refine L.val (x_fa kbld_fo74_0 rfl) rfl ?_;refine L.val (x_ld (v:=.pointer _) kbld_oc71 rfl (hb.cell0 rfl)) rfl ?_;refine L.val (x_mv (v:=.pointer _) rfl) rfl ?_;refine L.val (x_nepS Tryz.underlying71 kr_ rfl rfl) rfl ?_;refine L.nil (thn_n (W.cond (b:=_) rfl (fun g19=>?_) (fun g19=>?_)))
     ·have h19:=g19;cases g19
     ·have h19:=g19;refine W.skip (fin_mk (.inl rfl) ?_);exact ⟨⟨hb,ho,hn⟩,Gr.refl _ _⟩
theorem boxM_own {w:World} {b base sz n:Nat} {e T:TypeId} {v:Value} {xs cs:List Value} (hb:BoxM w b T cs) (h:Own w base e sz v n xs) {k:Nat} (hk:some k=v.ownBlock):k≠b:=fun e1=>by
  rcases Own.open h with ⟨rfl,-,-⟩ | ⟨b2,cap,tl,rfl,-,-,-,hx⟩
  · cases hk
  · have e2:k=b2:=by simpa [Value.ownBlock] using hk
    rw [← e2,e1] at hx;obtain ⟨m,h1,-⟩:=hb;unfold Box at hx;rw [hx] at h1;simp at h1
def Wrote (w w':World) (b:Nat) (v:Value) (l:Str):Prop:=∃ v',BldV w' b v' l∧Gr (fun k=>k=b∨some k=v.ownBlock) w w'
theorem wstr_ok (b:Nat) (v:Value) (l s:Str) (w:World) (h:BldV w b v l) (hl:l.length+s.length≤100000000):Ret Tryz.prog 64 #[.pointer (some ⟨b,0,none⟩),S s] w fun _ w'=>Wrote w w' b v (l++s):=by
  refine ret_of_W Tryz.func64 rfl (Nat.le_of_ble_eq_true rfl) (res2 rfl) ?_;refine W.seq (W.region (L.val (x_as (v:=.int _ _) rfl) rfl ?_));refine L.val (x_as (v:=_) rfl) rfl ?_;refine L.nil (thn_n (W.seq (W.region (L.val (x_mv (v:=.pointer _) rfl) rfl ?_))));refine L.ret (x_call kbld_en90 rfl) rfl (ccheck_ok b v l _ h) ?_;rintro _ w7 ⟨⟨hb,ho,hn⟩,hG⟩;refine L.nil (thn_n (W.seq (W.region ?_)));have hlt:=hb.lt;have hs7:=hG.size;obtain ⟨a7,c7,e7,-⟩:=own_shape ho;subst e7;refine L.val (x_mv (v:=.pointer _) rfl) rfl ?_;refine L.val (x_mv (v:=.pointer _) rfl) rfl ?_;refine L.val (x_nil rfl) rfl ?_;refine L.val (x_fa kbld_fo74_1 rfl) rfl ?_;refine L.val (x_ld (v:=.slice _ _ _) kbld_oc72 rfl (hb.cell0 rfl)) rfl ?_;refine L.val (x_mv (v:=S _) rfl) rfl ?_;refine L.appS Tryz.underlying72 Tryz.underlying9 kbld_el5 kr_ kr_ rfl rfl rfl ho om_ om_ (fun v14 w14 hO14 hg=>?_);have hb:=hb.carryR hg (fun e=>hn e.symm);have hn2:=own_box_ne hO14 hb (by decide);obtain ⟨a14,c14,e14,-⟩:=own_shape hO14;subst e14;refine L.val (x_nil rfl) rfl ?_;refine L.val (x_fa kbld_fo74_1 rfl) rfl ?_;refine L.set (v:=.slice _ _ _) kbld_sz72 rfl rfl rfl hb rfl (fun wl14 hb hw hzl14=>?_);have hO:=Own.carryR hO14 hw (fun j hj e=>by have e:j=b:=e;rw [e] at hj;exact hn2 hj);refine L.nil (thn_n (W.seq (W.region (L.val (x_mv (v:=S _) rfl) rfl ?_))));refine L.val (x_len_str Tryz.underlying9 rfl) rfl ?_;refine L.val (x_as (v:=.int _ _) rfl) rfl ?_;refine L.val (x_as (v:=_) rfl) rfl ?_;refine L.nil (thn_n (W.ret (fin_mk (.inr rfl) ?_)));refine ⟨_,⟨⟨_,.inr rfl,hb⟩,by simpa using hO,fun e=>hn2 e.symm⟩,((hG.mono (fun k _ e=>.inl e)).trans (hg.mono fun k _ e=>.inr e)).trans (hw.mono fun k _ e=>.inl e)⟩
theorem wbyte_ok (b:Nat) (v:Value) (l:Str) (c:UInt8) (w:World) (h:BldV w b v l) (hl:l.length≤100000000):Ret Tryz.prog 63 #[.pointer (some ⟨b,0,none⟩),B8 c] w fun _ w'=>Wrote w w' b v (l++[c]):=by
  refine ret_of_W Tryz.func63 rfl (Nat.le_of_ble_eq_true rfl) (res1 rfl) ?_;refine W.seq (W.region (L.val (x_as (v:=_) rfl) rfl ?_));refine L.nil (thn_n (W.seq (W.region (L.val (x_mv (v:=.pointer _) rfl) rfl ?_))));refine L.ret (x_call kbld_en90 rfl) rfl (ccheck_ok b v l _ h) ?_;rintro _ w7 ⟨⟨hb,ho,hn⟩,hG⟩;refine L.nil (thn_n (W.seq (W.region (L.val (x_mv (v:=.pointer _) rfl) rfl ?_))));have hlt:=hb.lt;have hs7:=hG.size;obtain ⟨a7,c7,e7,-⟩:=own_shape ho;subst e7;refine L.val (x_mv (v:=.pointer _) rfl) rfl ?_;refine L.val (x_nil rfl) rfl ?_;refine L.val (x_fa kbld_fo74_1 rfl) rfl ?_;refine L.val (x_ld (v:=.slice _ _ _) kbld_oc72 rfl (hb.cell0 rfl)) rfl ?_;refine L.val (x_mv (v:=B8 _) rfl) rfl ?_;refine L.bs (sz:=1) (cells:=[B8 c]) Tryz.underlying72 kbld_el5 rfl rfl rfl rfl (fun w13 bx13 hw hz13=>?_);have hb:=hb.carry hw;have ho:=ho.carry hw;refine L.appendN (m:=1) Tryz.underlying72 kbld_el5 rfl rfl rfl ho rfl (holdsN_box bx13) (by simp [Value.oneCell',B8]) om_ om_ (fun v14 w14 hO14 hg hob14=>?_);have hb:=hb.carryR hg (fun e=>hn e.symm);have hn2:=own_box_ne hO14 hb (by decide);obtain ⟨a14,c14,e14,-⟩:=own_shape hO14;subst e14;have hs13:=hw.size;have hG2:=(hG.mono (R':=fun k=>k=b∨some k=(Value.slice a7 l.length c7).ownBlock) (fun k _ e=>.inl e)).trans (Gr.trans (hw.mono (fun _ _ f=>f.elim)) (hg.mono fun k _ e=>.inr e));refine L.val (x_nil rfl) rfl ?_;refine L.val (x_fa kbld_fo74_1 rfl) rfl ?_;refine L.set (v:=.slice _ _ _) kbld_sz72 rfl rfl rfl hb rfl (fun wl14 hb hw hzl14=>?_);have hO:=Own.carryR hO14 hw (fun j hj e=>by have e:j=b:=e;rw [e] at hj;exact hn2 hj);refine L.nil (thn_n (W.seq (W.region (L.val (x_as (v:=_) rfl) rfl ?_))));refine L.nil (thn_n (W.ret (fin_mk (.inr rfl) ?_)));refine ⟨_,⟨⟨_,.inr rfl,hb⟩,by simpa using hO,fun e=>hn2 e.symm⟩,hG2.trans (hw.mono fun k _ e=>.inl e)⟩
end Go.Gx
