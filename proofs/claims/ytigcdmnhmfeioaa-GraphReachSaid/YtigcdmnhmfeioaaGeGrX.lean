/- What the document fixes; orders. Conditions: none. -/
import Derived.Test.YtigcdmnhmfeioaaGeGrO
import Derived.Test.YtigcdmnhmfeioaaGeGrS
namespace Go.Gx
open Go.Proofs Go.Sort
theorem kgrx_el36:elT Try.prog 36 2=true:=by kernel_rfl
theorem kgrx_el9:elT Try.prog 9 1=true:=by kernel_rfl
theorem kgrx_en11:Go.Proofs.Enters Try.prog 11:=Go.Proofs.enters_of Try.func11 kr_ rfl
theorem kgrx_en12:Go.Proofs.Enters Try.prog 12:=Go.Proofs.enters_of Try.func12 kr_ rfl
theorem kgrx_en14:Go.Proofs.Enters Try.prog 14:=Go.Proofs.enters_of Try.func14 kr_ rfl
theorem kgrx_en17:Go.Proofs.Enters Try.prog 17:=Go.Proofs.enters_of Try.func17 kr_ rfl
theorem kgrx_en20:Go.Proofs.Enters Try.prog 20:=Go.Proofs.enters_of Try.func20 kr_ rfl
theorem kgrx_oc23:oneCellT Try.prog 23=true:=by kernel_rfl
theorem kgrx_si36:structInfo Try.prog 36=some ([(0,1),(1,1)],[S [],S []]):=by kernel_rfl
theorem kgrx_sz23:(Try.prog.info? 23).map (·.size)=some 1:=by kernel_rfl
theorem L.appendGr {P:Program} {n:Nat} {Q:Post} {D:List Deferred} {E:Env} {w:World} {e:TypeId} {sz k m b g c':Nat} {xs news:List Value} {ops:Array Oper} {r:List Oper} {d:Nat} {x y:Operand} {T t:TypeId} {p:String} {af:Array Edge}
    (hu:P.underlying T=some (.slice e)) (he:elT P e sz=true) (hx:ev E x=.slice (some ⟨b,0,none⟩) k k) (hy:ev E y=.slice (some ⟨g,0,none⟩) m c') (hd:Nat.blt d n=true) (hb:Box w b e xs) (hl:xs.length=k * sz)
    (hg:Box w g e news) (hln:news.length=m * sz) (h1:∀ u∈news,u.oneCell'=true) (hm:0<m) (hk:(k+m) * 200≤140737488355328)
    (kk:∀ v' w',Own w' w.heap.size e sz v' (k+m) (xs++news)→Bel w w'→L P n ops Q r D (upd E d v') w'):
    L P n ops Q (⟨some d,.call ⟨.builtin .append,#[x,y],#[T,T]⟩,t,p,af,none⟩ :: r) D E w:=by
  obtain ⟨i,z,hi,hz,hs,hzs,hpos,hby⟩:=elT_spec he;have hold:∀ {b:Nat} {xs:List Value},Box w b e xs→∀ (j:Nat) (u:Value),xs[j]? = some u→w.cell? ((⟨b,0,none⟩:Addr).add j)=some u:=fun hb j u hj=>by
    rw [Addr.add_lit,Nat.zero_add];exact hb.cell hj
  have hby2:(k+m) * i.bytes≤(k+m) * 200:=Nat.mul_le_mul_left _ hby;obtain ⟨v',w',hrun,ho,hgr⟩:=run_append_arg_grows (P:=P) w T t e i z sz i.bytes hu hi hz hs rfl hzs hpos ⟨b,0,none⟩ k k xs hl (hold hb) ⟨g,0,none⟩ m c' news hln (hold hg) om_ (by simp only [maxLen];omega) om_;exact L.val (x_append hx hy hrun) hd (kk _ _ ho ((gr_of_grown hgr).mono fun k _ e=>by cases e))
set_option maxHeartbeats 2000000 in
theorem awake36 (w:World):Ret Try.prog 10 #[] w fun r w'=>r=.bool true∧Bel w w':=by
  have hshA:∀ a∈arW,a.1.length≤9223372036854775807∧a.2.length≤9223372036854775807:=by decide
  have hshA2:∀ a∈arW2,a.1.length≤9223372036854775807∧a.2.length≤9223372036854775807:=by decide
  refine ret_of_W Try.func10 rfl (Nat.le_of_ble_eq_true rfl) (res1 rfl) ?_;have hB:=Gr.refl (fun _=>False) w;refine W.seq (W.region (L.val (x_as (v:=.bool _) rfl) rfl ?_));refine L.nil (thn_n (W.seq (W.region (L.bs (sz:=1) (cells:=[S [100],S [97],S [98],S [99]]) Try.underlying23 kgrx_el9 rfl rfl rfl rfl (fun w8 bx8 hw hz8=>?_)))));have hB:=hB.carry hw;have hn:=strs_of_box (A:=fun _=>False) nmW bx8 (fun f=>f) (by decide) (by decide);refine L.val (x_as (v:=.slice _ _ _) rfl) rfl ?_;refine L.nil (thn_n (W.seq (W.region ?_)));(iterate 3 refine L.val (x_build (cells:=[S _,S _]) kgrx_si36 rfl rfl) rfl ?_);refine L.bs (sz:=2) (cells:=[S [97],S [98],S [98],S [99],S [100],S [98]]) Try.underlying22 kgrx_el36 rfl rfl rfl rfl (fun w12 bx12 hw hz12=>?_);have hB:=hB.carry hw;have hn:=hn.carry hw;have hA:ArcsAt (fun _=>False) w12 (.slice (some ⟨w8.heap.size,0,none⟩) 3 3) arW:=arcs_done (base:=0) (own_box (base:=0) (sz:=2) (k:=3) bx12 rfl om_ om_) hshA (by decide) (fun _ _ f=>f);refine L.val (x_as (v:=.slice _ _ _) rfl) rfl ?_;refine L.nil (thn_n (W.seq (W.region (L.val (x_mv (v:=.slice _ _ _) rfl) rfl ?_))));refine L.val (x_mv (v:=.slice _ _ _) rfl) rfl ?_;refine L.ret (x_call kgrx_en20 rfl) rfl (orderP _ _ _ _ nmW arW _ hn hA (by decide) (by decide)) ?_;rintro _ w16 ⟨⟨o,rfl,ho⟩,hw⟩;have hB:=hB.carry hw;have hn:=hn.carry hw;have hA:=hA.carry hw;have bx12:=bx12.carry hw;rw [awO] at ho ⊢;have ho:StrsAt _ w16 o [[99],[98],[97],[100]]:=ho;obtain ⟨po,co,rfl,-⟩:=id ho;refine L.val (x_mv (v:=_) rfl) rfl ?_;refine L.val (x_ext (v:=.slice _ _ _) rfl rfl) rfl ?_;refine L.val (x_ext (v:=.int _ _) rfl rfl) rfl ?_;refine L.val (x_as (v:=.slice _ _ _) rfl) rfl ?_;refine L.val (x_as (v:=.int _ _) rfl) rfl ?_;refine L.nil (thn_n (W.seq (W.region (L.val (x_mv (v:=.slice _ _ _) rfl) rfl ?_))));refine L.val (x_mv (v:=.slice _ _ _) rfl) rfl ?_;refine L.val (x_build (cells:=[S _,S _]) kgrx_si36 rfl rfl) rfl ?_;refine L.bs (sz:=2) (cells:=[S [99],S [97]]) Try.underlying22 kgrx_el36 rfl rfl rfl rfl (fun w23 bx23 hw hz23=>?_);have hB:=hB.carry hw;have hn:=hn.carry hw;have hA:=hA.carry hw;have bx12:=bx12.carry hw;have ho:=ho.carry hw;refine L.appendGr Try.underlying22 kgrx_el36 rfl rfl rfl bx12 rfl bx23 rfl (by simp [Value.oneCell',S]) om_ om_ (fun v24 w24 hO hw=>?_);have hB:=hB.carry hw;have hn:=hn.carry hw;have hA:=hA.carry hw;have bx12:=bx12.carry hw;have ho:=ho.carry hw;have bx23:=bx23.carry hw;obtain ⟨a24,c24,e24,-⟩:=own_shape hO;subst e24;have hA2:ArcsAt (fun _=>False) w24 (.slice a24 4 c24) arW2:=arcs_done hO hshA2 (by decide) (fun _ _ f=>f);refine L.ret (x_call kgrx_en20 rfl) rfl (orderP _ _ _ _ nmW arW2 _ hn hA2 (by decide) (by decide)) ?_;rintro _ w25 ⟨⟨o2,rfl,ho2⟩,hw⟩;have hB:=hB.carry hw;have hn:=hn.carry hw;have hA:=hA.carry hw;have bx12:=bx12.carry hw;have ho:=ho.carry hw;have bx23:=bx23.carry hw;rw [awO2] at ho2 ⊢;obtain ⟨po2,co2,rfl,-⟩:=id ho2;refine L.val (x_mv (v:=_) rfl) rfl ?_;refine L.val (x_ext (v:=.slice _ _ _) rfl rfl) rfl ?_;refine L.val (x_ext (v:=.int _ _) rfl rfl) rfl ?_;refine L.val (x_as (v:=.slice _ _ _) rfl) rfl ?_;refine L.val (x_as (v:=.int _ _) rfl) rfl ?_;refine L.nil (thn_n (W.seq (W.region (L.val (x_mv (v:=.slice _ _ _) rfl) rfl ?_))));refine L.val (x_mv (v:=.slice _ _ _) rfl) rfl ?_;refine L.val (x_build (cells:=[S _,S _]) kgrx_si36 rfl rfl) rfl ?_;refine L.bs (sz:=2) (cells:=[S [99],S [97]]) Try.underlying22 kgrx_el36 rfl rfl rfl rfl (fun w31 bx31 hw hz31=>?_);have hB:=hB.carry hw;have hn:=hn.carry hw;have hA:=hA.carry hw;have bx12:=bx12.carry hw;have ho:=ho.carry hw;refine L.appendGr Try.underlying22 kgrx_el36 rfl rfl rfl bx12 rfl bx31 rfl (by simp [Value.oneCell',S]) om_ om_ (fun v32 w32 hO hw=>?_);have hB:=hB.carry hw;have hn:=hn.carry hw;have hA:=hA.carry hw;have bx12:=bx12.carry hw;have ho:=ho.carry hw;have bx31:=bx31.carry hw;obtain ⟨a32,c32,e32,-⟩:=own_shape hO;subst e32;have hA2:ArcsAt (fun _=>False) w32 (.slice a32 4 c32) arW2:=arcs_done hO hshA2 (by decide) (fun _ _ f=>f);refine L.ret (x_call kgrx_en17 rfl) rfl (groupsP _ _ _ _ nmW arW2 _ hn hA2 (by decide) (by decide)) ?_;rintro v33 w33 ⟨hG,hw⟩;have hB:=hB.carry hw;have hn:=hn.carry hw;have hA:=hA.carry hw;have bx12:=bx12.carry hw;have ho:=ho.carry hw;have bx31:=bx31.carry hw;rw [awG] at hG;obtain ⟨pG,cG,rG,rfl,-,-,-,hGr⟩:=hG;obtain ⟨bG,oG,rfl,-,-⟩:=hGr.elem (i:=0) (by simp);refine L.val (x_as (v:=.slice _ _ _) rfl) rfl ?_;refine L.nil (thn_n (W.seq (W.region (L.val (x_mv (v:=.slice _ _ _) rfl) rfl ?_))));refine L.bs (sz:=1) (cells:=[S [99],S [98],S [97],S [100]]) Try.underlying23 kgrx_el9 rfl rfl rfl rfl (fun w35 bx35 hw hz35=>?_);have hB:=hB.carry hw;have hn:=hn.carry hw;have hA:=hA.carry hw;have ho:=ho.carry hw;have hGr:=hGr.carry hw;refine L.ret (x_call kgrx_en11 rfl) rfl (same36 _ _ _ _ _ [[99],[98],[97],[100]] _ ho (strs_of_box (A:=fun _=>False) [[99],[98],[97],[100]] bx35 (fun f=>f) (by decide) (by decide))) ?_;rintro _ w36 ⟨rfl,hw⟩;have hB:=hB.carry hw;have hn:=hn.carry hw;have hA:=hA.carry hw;have ho:=ho.carry hw;have hGr:=hGr.carry hw;have bx35:=bx35.carry hw;refine L.val (x_mv (v:=.bool _) rfl) rfl ?_;refine L.splitat (dj:=37) (b:=_) rfl (fun g37=>?_) (fun g37=>?_)
  ·have h37:=g37;refine L.gyes' (dj:=37) (b:=_) rfl rfl g37 ?_;refine L.val (x_mv (v:=.int _ _) rfl) rfl ?_;refine L.gyes' (dj:=37) (b:=_) rfl rfl g37 ?_;refine L.val (x_eql rfl rfl) rfl ?_;refine L.val (x_pick_t (v:=.bool _) (congrArg Value.bool g37) rfl) rfl ?_;refine L.val (x_mv (v:=.bool _) rfl) rfl ?_;refine L.splitat (dj:=41) (b:=_) rfl (fun g41=>?_) (fun g41=>?_)
   ·have h41:=of_decide_eq_true g41;refine L.gyes' (dj:=41) (b:=_) rfl rfl g41 ?_;refine L.val (x_mv (v:=.int _ _) rfl) rfl ?_;refine L.gyes' (dj:=41) (b:=_) rfl rfl g41 ?_;refine L.val (x_eql rfl rfl) rfl ?_;refine L.val (x_pick_t (v:=.bool _) (congrArg Value.bool g41) rfl) rfl ?_;refine L.val (x_mv (v:=.bool _) rfl) rfl ?_;refine L.splitat (dj:=45) (b:=_) rfl (fun g45=>?_) (fun g45=>?_)
    ·have h45:=of_decide_eq_true g45;refine L.gyes' (dj:=45) (b:=_) rfl rfl g45 ?_;refine L.val (x_mv (v:=.slice _ _ _) rfl) rfl ?_;refine L.gyes' (dj:=45) (b:=_) rfl rfl g45 ?_;refine L.val (x_len_slice Try.underlying32 rfl) rfl ?_;refine L.gyes' (dj:=45) (b:=_) rfl rfl g45 ?_;refine L.val (x_eql rfl rfl) rfl ?_;refine L.val (x_pick_t (v:=.bool _) (congrArg Value.bool g45) rfl) rfl ?_;refine L.val (x_mv (v:=.bool _) rfl) rfl ?_;refine L.splitat (dj:=50) (b:=_) rfl (fun g50=>?_) (fun g50=>?_)
     ·have h50:=of_decide_eq_true g50;obtain ⟨vg,hcg,hvg⟩:=gs_at hGr (k:=0) (by simp);obtain ⟨pvg,cvg,rfl,-⟩:=id hvg;refine L.gyes' (dj:=50) (b:=_) rfl rfl g50 ?_;refine L.val (x_mv (v:=.slice _ _ _) rfl) rfl ?_;refine L.gyes' (dj:=50) (b:=_) rfl rfl g50 ?_;refine L.val (x_ia1 (j:=0) Try.underlying32 kgrx_sz23 rfl rfl rfl (by simp)) rfl ?_;refine L.gyes' (dj:=50) (b:=_) rfl rfl g50 ?_;refine L.val (x_ld (v:=.slice _ _ _) kgrx_oc23 rfl hcg) rfl ?_;refine L.gyes' (dj:=50) (b:=_) rfl rfl g50 ?_;refine L.bs (sz:=1) (cells:=[S [97],S [98],S [99]]) Try.underlying23 kgrx_el9 rfl rfl rfl rfl (fun w54 bx54 hw hz54=>?_);have hB:=hB.carry hw;have hn:=hn.carry hw;have hA:=hA.carry hw;have ho:=ho.carry hw;have hGr:=hGr.carry hw;refine L.gyes' (dj:=50) (b:=_) rfl rfl g50 ?_;refine L.ret (x_call kgrx_en11 rfl) rfl (same36 _ _ _ _ _ [[97],[98],[99]] _ (hvg.carry hw) (strs_of_box (A:=fun _=>False) [[97],[98],[99]] bx54 (fun f=>f) (by decide) (by decide))) ?_;rintro _ w55 ⟨rfl,hw⟩;have hB:=hB.carry hw;have hn:=hn.carry hw;have hA:=hA.carry hw;have ho:=ho.carry hw;have hGr:=hGr.carry hw;have bx54:=bx54.carry hw;refine L.val (x_pick_t (v:=.bool _) (congrArg Value.bool g50) rfl) rfl ?_;refine L.val (x_mv (v:=.bool _) rfl) rfl ?_;refine L.splitat (dj:=57) (b:=_) rfl (fun g57=>?_) (fun g57=>?_)
      ·have h57:=g57;refine L.gyes' (dj:=57) (b:=_) rfl rfl g57 ?_;refine L.val (x_mv (v:=.slice _ _ _) rfl) rfl ?_;refine L.gyes' (dj:=57) (b:=_) rfl rfl g57 ?_;refine L.bs (sz:=1) (cells:=[S [98]]) Try.underlying23 kgrx_el9 rfl rfl rfl rfl (fun w59 bx59 hw hz59=>?_);have hB:=hB.carry hw;have hn:=hn.carry hw;have hA:=hA.carry hw;have ho:=ho.carry hw;have hGr:=hGr.carry hw;refine L.gyes' (dj:=57) (b:=_) rfl rfl g57 ?_;refine L.ret (x_call kgrx_en12 rfl) rfl (reachP _ _ _ _ arW [[98]] _ hA (strs_of_box (A:=fun _=>False) [[98]] bx59 (fun f=>f) (by decide) (by decide)) (by decide)) ?_;rintro v60 w60 ⟨hR60,hw⟩;have hB:=hB.carry hw;have hn:=hn.carry hw;have hA:=hA.carry hw;have ho:=ho.carry hw;have hGr:=hGr.carry hw;have bx59:=bx59.carry hw;rw [awR] at hR60;obtain ⟨p60,c60,rfl,-⟩:=id hR60;refine L.gyes' (dj:=57) (b:=_) rfl rfl g57 ?_;refine L.bs (sz:=1) (cells:=[S [98],S [99]]) Try.underlying23 kgrx_el9 rfl rfl rfl rfl (fun w61 bx61 hw hz61=>?_);have hB:=hB.carry hw;have hn:=hn.carry hw;have hA:=hA.carry hw;have ho:=ho.carry hw;have hGr:=hGr.carry hw;refine L.gyes' (dj:=57) (b:=_) rfl rfl g57 ?_;refine L.ret (x_call kgrx_en11 rfl) rfl (same36 _ _ _ _ _ [[98],[99]] _ (hR60.carry hw) (strs_of_box (A:=fun _=>False) [[98],[99]] bx61 (fun f=>f) (by decide) (by decide))) ?_;rintro _ w62 ⟨rfl,hw⟩;have hB:=hB.carry hw;have hn:=hn.carry hw;have hA:=hA.carry hw;have ho:=ho.carry hw;have hGr:=hGr.carry hw;have bx61:=bx61.carry hw;refine L.val (x_pick_t (v:=.bool _) (congrArg Value.bool g57) rfl) rfl ?_;refine L.val (x_mv (v:=.bool _) rfl) rfl ?_;refine L.splitat (dj:=64) (b:=_) rfl (fun g64=>?_) (fun g64=>?_)
       ·have h64:=g64;refine L.gyes' (dj:=64) (b:=_) rfl rfl g64 ?_;refine L.val (x_mv (v:=.slice _ _ _) rfl) rfl ?_;refine L.gyes' (dj:=64) (b:=_) rfl rfl g64 ?_;refine L.ret (x_call kgrx_en14 rfl) rfl (pathP _ _ arW [97] [99] _ hA (by decide) (by decide) (by decide)) ?_;rintro v66 w66 ⟨⟨q66,hq66,hR66⟩,hw⟩;have hB:=hB.carry hw;have hn:=hn.carry hw;have hA:=hA.carry hw;have ho:=ho.carry hw;have hGr:=hGr.carry hw;rw [hq66.uniq awP] at hR66;obtain ⟨p66,c66,rfl,-⟩:=id hR66;refine L.gyes' (dj:=64) (b:=_) rfl rfl g64 ?_;refine L.bs (sz:=1) (cells:=[S [97],S [98],S [99]]) Try.underlying23 kgrx_el9 rfl rfl rfl rfl (fun w67 bx67 hw hz67=>?_);have hB:=hB.carry hw;have hn:=hn.carry hw;have hA:=hA.carry hw;have ho:=ho.carry hw;have hGr:=hGr.carry hw;refine L.gyes' (dj:=64) (b:=_) rfl rfl g64 ?_;refine L.ret (x_call kgrx_en11 rfl) rfl (same36 _ _ _ _ _ [[97],[98],[99]] _ (hR66.carry hw) (strs_of_box (A:=fun _=>False) [[97],[98],[99]] bx67 (fun f=>f) (by decide) (by decide))) ?_;rintro _ w68 ⟨rfl,hw⟩;have hB:=hB.carry hw;have hn:=hn.carry hw;have hA:=hA.carry hw;have ho:=ho.carry hw;have hGr:=hGr.carry hw;have bx67:=bx67.carry hw;refine L.val (x_pick_t (v:=.bool _) (congrArg Value.bool g64) rfl) rfl ?_;refine L.val (x_as (v:=.bool _) rfl) rfl ?_;refine L.nil (thn_n (W.ret (fin_mk (.inr rfl) ?_)));exact ⟨vb (by decide),hB⟩
       ·have h64:=g64;exact absurd g64 (by decide)
      ·have h57:=g57;exact absurd g57 (by decide)
     ·have h50:=of_decide_eq_false g50;exact absurd g50 (by decide)
    ·have h45:=of_decide_eq_false g45;exact absurd g45 (by decide)
   ·have h41:=of_decide_eq_false g41;exact absurd g41 (by decide)
  ·have h37:=g37;exact absurd g37 (by decide)
end Go.Gx
namespace Go.Gx
open Go.Proofs Go.Sort
theorem at_has {l:List Str} {x:Str}:(decide ((0:Int)≤atI l x))=l.contains x:=by
  unfold atI;cases h:l.contains x
  · rw [if_neg (by simp)];rfl
  · rw [if_pos rfl];exact decide_eq_true om_
section
variable {E:Str→List Str} {U:List Str} {x y:Str}
end
end Go.Gx
namespace Go.Gx
open Go.Sort
section
variable {E:Str→List Str} {to from_:Str}
theorem way_cons {d:Nat} {x:Str} (h:Dist E to (d+1) x):∃ y∈E x,Dist E to d y∧wayL E to (d+1) x=x :: wayL E to d y:=by
  obtain ⟨z,hz,hw⟩:=h.1;cases hf:(E x).find? (fun y=>@decide (Wk E to d y) (Classical.propDecidable _)) with
  | none=>
    have:=List.find?_eq_none.1 hf z hz;exact absurd hw (by simpa using this)
  | some y=>
    have h1:=List.mem_of_find?_eq_some hf;have h2:Wk E to d y:=by simpa using List.find?_some hf
    exact ⟨y,h1,h.next h1 h2,by rw [wayL,hf]⟩
theorem way_facts:∀ (d:Nat) (x:Str),Dist E to d x→(∃ t,wayL E to d x=x :: t)∧(∀ z∈wayL E to d x,Rt E x z)∧(∀ z∈wayL E to d x,∃ j≤d,Dist E to j z)∧(wayL E to d x).Nodup∧
    (∀ k,k+1<(wayL E to d x).length→(wayL E to d x).getD (k+1) []∈E ((wayL E to d x).getD k []))∧(wayL E to d x).getD ((wayL E to d x).length - 1) []=to
  | 0,x,h=>by
    have e:x=to:=h.1;refine ⟨⟨[],rfl⟩,fun z hz=>?_,fun z hz=>?_,List.nodup_cons.2 ⟨by simp,List.nodup_nil⟩,fun k hk=>?_,e⟩
    · rw [List.mem_singleton.1 hz];exact Rt.refl
    · rw [List.mem_singleton.1 hz];exact ⟨0,Nat.le_refl _,h⟩
    · simp [wayL] at hk
  | d+1,x,h=>by
    obtain ⟨y,hy,hd,e⟩:=way_cons h;obtain ⟨⟨t,a1⟩,a2,a3,a4,a5,a6⟩:=way_facts d y hd;rw [e];refine ⟨⟨_,rfl⟩,fun z hz=>?_,fun z hz=>?_,List.nodup_cons.2 ⟨fun hx=>?_,a4⟩,fun k hk=>?_,?_⟩
    · rcases List.mem_cons.1 hz with e | hz
      · rw [e];exact Rt.refl
      · exact (Rt.one hy).trans (a2 z hz)
    · rcases List.mem_cons.1 hz with e | hz
      · rw [e];exact ⟨d+1,Nat.le_refl _,h⟩
      · obtain ⟨j,h1,h2⟩:=a3 z hz;exact ⟨j,by omega,h2⟩
    · obtain ⟨j,h1,h2⟩:=a3 x hx;have:=h.uniq h2;omega
    · rcases k with _ | k
      · rw [a1];exact hy
      · exact a5 k (by simpa using hk)
    · have hl:(wayL E to d y).length=t.length+1:=by rw [a1];rfl
      rw [List.length_cons,show (wayL E to d y).length+1 - 1=((wayL E to d y).length - 1)+1 by omega];exact a6
theorem rt_wk {x:Str} (h:Rt E x to):∃ d,Wk E to d x:=by
  have key:∀ z,Rt E x z→∀ d,Wk E to d z→∃ d,Wk E to d x:=by
    intro z hz;induction hz with
    | refl=>exact fun d hd=>⟨d,hd⟩
    | step _ hy ih=>exact fun d hd=>ih (d+1) ⟨_,hy,hd⟩
  exact key to h 0 rfl
theorem wk_rt:∀ {d:Nat} {x:Str},Wk E to d x→Rt E x to
  | 0,x,h=>by have e:x=to:=h;rw [e];exact Rt.refl
  | d+1,x,⟨y,hy,hw⟩=>(Rt.one hy).trans (wk_rt hw)
theorem IsPath.facts {p:List Str} (h:IsPath E from_ to p):(p≠[]↔Rt E from_ to)∧(∀ z∈p,Rt E from_ z)∧p.Nodup∧
    (∀ k,k+1<p.length→p.getD (k+1) []∈E (p.getD k []))∧(p≠[]→p.getD 0 []=from_∧p.getD (p.length - 1) []=to):=by
  rcases h with ⟨rfl,h⟩ | ⟨d,h,rfl⟩
  · refine ⟨⟨fun e=>absurd rfl e,fun hr=>?_⟩,by simp,List.nodup_nil,by simp,fun e=>absurd rfl e⟩;obtain ⟨d,hd⟩:=rt_wk hr;exact absurd hd (h d)
  · obtain ⟨⟨t,a1⟩,a2,-,a4,a5,a6⟩:=way_facts d from_ h
    exact ⟨⟨fun _=>wk_rt h.1,fun _ e=>by rw [a1] at e;cases e⟩,a2,a4,a5,fun _=>⟨by rw [a1];rfl,a6⟩⟩
end
theorem rch_rtG {l:List Arc} {u x:Str}:Rch l [u] x↔Rt (nextS l) u x:=by
  constructor
  · intro h;induction h with
    | base h=>rw [List.mem_singleton.1 h];exact Rt.refl
    | step _ h ih=>exact ih.step (mem_next.2 h)
  · intro h;induction h with
    | refl=>exact Rch.base (by simp)
    | step _ h ih=>exact Rch.step ih (mem_next.1 h)
theorem reach_idem (l:List Arc) (f:List Str):reachS l (reachS l f)=reachS l f:=by
  refine (reach_eq (strict_reach l f) (fun x h=>h) (fun a ha h=>?_) fun x h=>Rch.base h).symm;exact mem_reach.2 ((mem_reach.1 h).step ha)
theorem reach_more {l m:List Arc} {f:List Str} {x:Str} (h:x∈reachS l f):x∈reachS (l++m) f:=by
  rw [mem_reach] at h ⊢;induction h with
  | base h=>exact Rch.base h
  | step _ h ih=>exact ih.step (List.mem_append.2 (.inl h))
theorem path_facts {l:List Arc} {from_ to:Str} {p:List Str} (h:IsPath (nextS l) from_ to p):(p≠[]↔to∈reachS l [from_])∧p.length≤(reachS l [from_]).length∧
    (∀ k,k+1<p.length→(p.getD k [],p.getD (k+1) [])∈l)∧(p≠[]→p.getD 0 []=from_∧p.getD (p.length - 1) []=to):=by
  obtain ⟨a1,a2,a3,a4,a5⟩:=h.facts;refine ⟨by rw [mem_reach,rch_rtG];exact a1,strict_len_le a3 fun z hz=>mem_reach.2 (rch_rtG.2 (a2 z hz)),fun k hk=>mem_next.1 (a4 k hk),a5⟩
end Go.Gx
