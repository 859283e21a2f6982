/- What the document fixes; orders. Conditions: none. -/
import Derived.Test.YtigcdmnhmfeioaaGgGrO
import Derived.Test.YtigcdmnhmfeioaaGgGrS
import Derived.Test.YtigcdmnhmfeioaaGgGrN
namespace Go.Gx
open Go.Proofs Go.Sort
theorem kgrx_el36:elT Try.prog 36 2=true:=by kernel_rfl
theorem kgrx_el9:elT Try.prog 9 1=true:=by kernel_rfl
theorem kgrx_en11:Go.Proofs.Enters Try.prog 11:=Go.Proofs.enters_of Try.func11 kr_ rfl
theorem kgrx_en12:Go.Proofs.Enters Try.prog 12:=Go.Proofs.enters_of Try.func12 kr_ rfl
theorem kgrx_en14:Go.Proofs.Enters Try.prog 14:=Go.Proofs.enters_of Try.func14 kr_ rfl
theorem kgrx_en17:Go.Proofs.Enters Try.prog 17:=Go.Proofs.enters_of Try.func17 kr_ rfl
theorem kgrx_en20:Go.Proofs.Enters Try.prog 20:=Go.Proofs.enters_of Try.func20 kr_ rfl
theorem kgrx_oc23:oneCellT Try.prog 23=true:=by kernel_rfl
theorem kgrx_si36:structInfo Try.prog 36=some ([(0,1),(1,1)],[S [],S []]):=by kernel_rfl
theorem kgrx_sz23:(Try.prog.info? 23).map (·.size)=some 1:=by kernel_rfl
theorem L.appendGr {P:Program} {n:Nat} {Q:Post} {D:List Deferred} {E:Env} {w:World} {e:TypeId} {sz k m b g c':Nat} {xs news:List Value} {ops:Array Oper} {r:List Oper} {d:Nat} {x y:Operand} {T t:TypeId} {p:String} {af:Array Edge}
    (hu:P.underlying T=some (.slice e)) (he:elT P e sz=true) (hx:ev E x=.slice (some ⟨b,0,none⟩) k k) (hy:ev E y=.slice (some ⟨g,0,none⟩) m c') (hd:Nat.blt d n=true) (hb:Box w b e xs) (hl:xs.length=k * sz)
    (hg:Box w g e news) (hln:news.length=m * sz) (h1:∀ u∈news,u.oneCell'=true) (hm:0<m) (hk:(k+m) * 200≤140737488355328)
    (kk:∀ v' w',Own w' w.heap.size e sz v' (k+m) (xs++news)→Bel w w'→L P n ops Q r D (upd E d v') w'):
    L P n ops Q (⟨some d,.call ⟨.builtin .append,#[x,y],#[T,T]⟩,t,p,af,none⟩ :: r) D E w:=by
  obtain ⟨i,z,hi,hz,hs,hzs,hpos,hby⟩:=elT_spec he;have hold:∀ {b:Nat} {xs:List Value},Box w b e xs→∀ (j:Nat) (u:Value),xs[j]? = some u→w.cell? ((⟨b,0,none⟩:Addr).add j)=some u:=fun hb j u hj=>by
    rw [Addr.add_lit,Nat.zero_add];exact hb.cell hj
  have hby2:(k+m) * i.bytes≤(k+m) * 200:=Nat.mul_le_mul_left _ hby;obtain ⟨v',w',hrun,ho,hgr⟩:=run_append_arg_grows (P:=P) w T t e i z sz i.bytes hu hi hz hs rfl hzs hpos ⟨b,0,none⟩ k k xs hl (hold hb) ⟨g,0,none⟩ m c' news hln (hold hg) om_ (by simp only [maxLen];omega) om_;exact L.val (x_append hx hy hrun) hd (kk _ _ ho ((gr_of_grown hgr).mono fun k _ e=>by cases e))
set_option maxHeartbeats 2000000 in
theorem awake36 (w:World):Ret Try.prog 10 #[] w fun r w'=>r=.bool true∧Bel w w':=by
  have hshA:∀ a∈arW,a.1.length≤9223372036854775807∧a.2.length≤9223372036854775807:=by decide
  have hshA2:∀ a∈arW2,a.1.length≤9223372036854775807∧a.2.length≤9223372036854775807:=by decide
  refine ret_of_W Try.func10 rfl (Nat.le_of_ble_eq_true rfl) (res1 rfl) ?_;have hB:=Gr.refl (fun _=>False) w;refine W.seq (W.region (L.val (x_as (v:=.bool _) rfl) rfl ?_));refine L.nil (thn_n (W.seq (W.region (L.bs (sz:=1) (cells:=[S [100],S [97],S [98],S [99]]) Try.underlying23 kgrx_el9 rfl rfl rfl rfl (fun w8 bx8 hw hz8=>?_)))));have hB:=hB.carry hw;have hn:=strs_of_box (A:=fun _=>False) nmW bx8 (fun f=>f) (by decide) (by decide);refine L.val (x_as (v:=.slice _ _ _) rfl) rfl ?_;refine L.nil (thn_n (W.seq (W.region ?_)));(iterate 3 refine L.val (x_build (cells:=[S _,S _]) kgrx_si36 rfl rfl) rfl ?_);refine L.bs (sz:=2) (cells:=[S [97],S [98],S [98],S [99],S [100],S [98]]) Try.underlying22 kgrx_el36 rfl rfl rfl rfl (fun w12 bx12 hw hz12=>?_);have hB:=hB.carry hw;have hn:=hn.carry hw;have hA:ArcsAt (fun _=>False) w12 (.slice (some ⟨w8.heap.size,0,none⟩) 3 3) arW:=arcs_done (base:=0) (own_box (base:=0) (sz:=2) (k:=3) bx12 rfl om_ om_) hshA (by decide) (fun _ _ f=>f);refine L.val (x_as (v:=.slice _ _ _) rfl) rfl ?_;refine L.nil (thn_n (W.seq (W.region (L.val (x_mv (v:=.slice _ _ _) rfl) rfl ?_))));refine L.val (x_mv (v:=.slice _ _ _) rfl) rfl ?_;refine L.ret (x_call kgrx_en20 rfl) rfl (orderP _ _ _ _ nmW arW _ hn hA (by decide) (by decide)) ?_;rintro _ w16 ⟨⟨o,rfl,ho⟩,hw⟩;have hB:=hB.carry hw;have hn:=hn.carry hw;have hA:=hA.carry hw;have bx12:=bx12.carry hw;rw [awO] at ho ⊢;have ho:StrsAt _ w16 o [[99],[98],[97],[100]]:=ho;obtain ⟨po,co,rfl,-⟩:=id ho;refine L.val (x_mv (v:=_) rfl) rfl ?_;refine L.val (x_ext (v:=.slice _ _ _) rfl rfl) rfl ?_;refine L.val (x_ext (v:=.int _ _) rfl rfl) rfl ?_;refine L.val (x_as (v:=.slice _ _ _) rfl) rfl ?_;refine L.val (x_as (v:=.int _ _) rfl) rfl ?_;refine L.nil (thn_n (W.seq (W.region (L.val (x_mv (v:=.slice _ _ _) rfl) rfl ?_))));refine L.val (x_mv (v:=.slice _ _ _) rfl) rfl ?_;refine L.val (x_build (cells:=[S _,S _]) kgrx_si36 rfl rfl) rfl ?_;refine L.bs (sz:=2) (cells:=[S [99],S [97]]) Try.underlying22 kgrx_el36 rfl rfl rfl rfl (fun w23 bx23 hw hz23=>?_);have hB:=hB.carry hw;have hn:=hn.carry hw;have hA:=hA.carry hw;have bx12:=bx12.carry hw;have ho:=ho.carry hw;refine L.appendGr Try.underlying22 kgrx_el36 rfl rfl rfl bx12 rfl bx23 rfl (by simp [Value.oneCell',S]) om_ om_ (fun v24 w24 hO hw=>?_);have hB:=hB.carry hw;have hn:=hn.carry hw;have hA:=hA.carry hw;have bx12:=bx12.carry hw;have ho:=ho.carry hw;have bx23:=bx23.carry hw;obtain ⟨a24,c24,e24,-⟩:=own_shape hO;subst e24;have hA2:ArcsAt (fun _=>False) w24 (.slice a24 4 c24) arW2:=arcs_done hO hshA2 (by decide) (fun _ _ f=>f);refine L.ret (x_call kgrx_en20 rfl) rfl (orderP _ _ _ _ nmW arW2 _ hn hA2 (by decide) (by decide)) ?_;rintro _ w25 ⟨⟨o2,rfl,ho2⟩,hw⟩;have hB:=hB.carry hw;have hn:=hn.carry hw;have hA:=hA.carry hw;have bx12:=bx12.carry hw;have ho:=ho.carry hw;have bx23:=bx23.carry hw;rw [awO2] at ho2 ⊢;obtain ⟨po2,co2,rfl,-⟩:=id ho2;refine L.val (x_mv (v:=_) rfl) rfl ?_;refine L.val (x_ext (v:=.slice _ _ _) rfl rfl) rfl ?_;refine L.val (x_ext (v:=.int _ _) rfl rfl) rfl ?_;refine L.val (x_as (v:=.slice _ _ _) rfl) rfl ?_;refine L.val (x_as (v:=.int _ _) rfl) rfl ?_;refine L.nil (thn_n (W.seq (W.region (L.val (x_mv (v:=.slice _ _ _) rfl) rfl ?_))));refine L.val (x_mv (v:=.slice _ _ _) rfl) rfl ?_;refine L.val (x_build (cells:=[S _,S _]) kgrx_si36 rfl rfl) rfl ?_;refine L.bs (sz:=2) (cells:=[S [99],S [97]]) Try.underlying22 kgrx_el36 rfl rfl rfl rfl (fun w31 bx31 hw hz31=>?_);have hB:=hB.carry hw;have hn:=hn.carry hw;have hA:=hA.carry hw;have bx12:=bx12.carry hw;have ho:=ho.carry hw;refine L.appendGr Try.underlying22 kgrx_el36 rfl rfl rfl bx12 rfl bx31 rfl (by simp [Value.oneCell',S]) om_ om_ (fun v32 w32 hO hw=>?_);have hB:=hB.carry hw;have hn:=hn.carry hw;have hA:=hA.carry hw;have bx12:=bx12.carry hw;have ho:=ho.carry hw;have bx31:=bx31.carry hw;obtain ⟨a32,c32,e32,-⟩:=own_shape hO;subst e32;have hA2:ArcsAt (fun _=>False) w32 (.slice a32 4 c32) arW2:=arcs_done hO hshA2 (by decide) (fun _ _ f=>f);refine L.ret (x_call kgrx_en17 rfl) rfl (groupsP _ _ _ _ nmW arW2 _ hn hA2 (by decide) (by decide)) ?_;rintro v33 w33 ⟨hG,hw⟩;have hB:=hB.carry hw;have hn:=hn.carry hw;have hA:=hA.carry hw;have bx12:=bx12.carry hw;have ho:=ho.carry hw;have bx31:=bx31.carry hw;rw [awG] at hG;obtain ⟨pG,cG,rG,rfl,-,-,-,hGr⟩:=hG;obtain ⟨bG,oG,rfl,-,-⟩:=hGr.elem (i:=0) (by simp);refine L.val (x_as (v:=.slice _ _ _) rfl) rfl ?_;refine L.nil (thn_n (W.seq (W.region (L.val (x_mv (v:=.slice _ _ _) rfl) rfl ?_))));refine L.bs (sz:=1) (cells:=[S [99],S [98],S [97],S [100]]) Try.underlying23 kgrx_el9 rfl rfl rfl rfl (fun w35 bx35 hw hz35=>?_);have hB:=hB.carry hw;have hn:=hn.carry hw;have hA:=hA.carry hw;have ho:=ho.carry hw;have hGr:=hGr.carry hw;refine L.ret (x_call kgrx_en11 rfl) rfl (same36 _ _ _ _ _ [[99],[98],[97],[100]] _ ho (strs_of_box (A:=fun _=>False) [[99],[98],[97],[100]] bx35 (fun f=>f) (by decide) (by decide))) ?_;rintro _ w36 ⟨rfl,hw⟩;have hB:=hB.carry hw;have hn:=hn.carry hw;have hA:=hA.carry hw;have ho:=ho.carry hw;have hGr:=hGr.carry hw;have bx35:=bx35.carry hw;refine L.val (x_mv (v:=.bool _) rfl) rfl ?_;refine L.splitat (dj:=37) (b:=_) rfl (fun g37=>?_) (fun g37=>?_)
  ·have h37:=g37;refine L.gyes' (dj:=37) (b:=_) rfl rfl g37 ?_;refine L.val (x_mv (v:=.int _ _) rfl) rfl ?_;refine L.gyes' (dj:=37) (b:=_) rfl rfl g37 ?_;refine L.val (x_eql rfl rfl) rfl ?_;refine L.val (x_pick_t (v:=.bool _) (congrArg Value.bool g37) rfl) rfl ?_;refine L.val (x_mv (v:=.bool _) rfl) rfl ?_;refine L.splitat (dj:=41) (b:=_) rfl (fun g41=>?_) (fun g41=>?_)
   ·have h41:=of_decide_eq_true g41;refine L.gyes' (dj:=41) (b:=_) rfl rfl g41 ?_;refine L.val (x_mv (v:=.int _ _) rfl) rfl ?_;refine L.gyes' (dj:=41) (b:=_) rfl rfl g41 ?_;refine L.val (x_eql rfl rfl) rfl ?_;refine L.val (x_pick_t (v:=.bool _) (congrArg Value.bool g41) rfl) rfl ?_;refine L.val (x_mv (v:=.bool _) rfl) rfl ?_;refine L.splitat (dj:=45) (b:=_) rfl (fun g45=>?_) (fun g45=>?_)
    ·have h45:=of_decide_eq_true g45;refine L.gyes' (dj:=45) (b:=_) rfl rfl g45 ?_;refine L.val (x_mv (v:=.slice _ _ _) rfl) rfl ?_;refine L.gyes' (dj:=45) (b:=_) rfl rfl g45 ?_;refine L.val (x_len_slice Try.underlying32 rfl) rfl ?_;refine L.gyes' (dj:=45) (b:=_) rfl rfl g45 ?_;refine L.val (x_eql rfl rfl) rfl ?_;refine L.val (x_pick_t (v:=.bool _) (congrArg Value.bool g45) rfl) rfl ?_;refine L.val (x_mv (v:=.bool _) rfl) rfl ?_;refine L.splitat (dj:=50) (b:=_) rfl (fun g50=>?_) (fun g50=>?_)
     ·have h50:=of_decide_eq_true g50;obtain ⟨vg,hcg,hvg⟩:=gs_at hGr (k:=0) (by simp);obtain ⟨pvg,cvg,rfl,-⟩:=id hvg;refine L.gyes' (dj:=50) (b:=_) rfl rfl g50 ?_;refine L.val (x_mv (v:=.slice _ _ _) rfl) rfl ?_;refine L.gyes' (dj:=50) (b:=_) rfl rfl g50 ?_;refine L.val (x_ia1 (j:=0) Try.underlying32 kgrx_sz23 rfl rfl rfl (by simp)) rfl ?_;refine L.gyes' (dj:=50) (b:=_) rfl rfl g50 ?_;refine L.val (x_ld (v:=.slice _ _ _) kgrx_oc23 rfl hcg) rfl ?_;refine L.gyes' (dj:=50) (b:=_) rfl rfl g50 ?_;refine L.bs (sz:=1) (cells:=[S [97],S [98],S [99]]) Try.underlying23 kgrx_el9 rfl rfl rfl rfl (fun w54 bx54 hw hz54=>?_);have hB:=hB.carry hw;have hn:=hn.carry hw;have hA:=hA.carry hw;have ho:=ho.carry hw;have hGr:=hGr.carry hw;refine L.gyes' (dj:=50) (b:=_) rfl rfl g50 ?_;refine L.ret (x_call kgrx_en11 rfl) rfl (same36 _ _ _ _ _ [[97],[98],[99]] _ (hvg.carry hw) (strs_of_box (A:=fun _=>False) [[97],[98],[99]] bx54 (fun f=>f) (by decide) (by decide))) ?_;rintro _ w55 ⟨rfl,hw⟩;have hB:=hB.carry hw;have hn:=hn.carry hw;have hA:=hA.carry hw;have ho:=ho.carry hw;have hGr:=hGr.carry hw;have bx54:=bx54.carry hw;refine L.val (x_pick_t (v:=.bool _) (congrArg Value.bool g50) rfl) rfl ?_;refine L.val (x_mv (v:=.bool _) rfl) rfl ?_;refine L.splitat (dj:=57) (b:=_) rfl (fun g57=>?_) (fun g57=>?_)
      ·have h57:=g57;refine L.gyes' (dj:=57) (b:=_) rfl rfl g57 ?_;refine L.val (x_mv (v:=.slice _ _ _) rfl) rfl ?_;refine L.gyes' (dj:=57) (b:=_) rfl rfl g57 ?_;refine L.bs (sz:=1) (cells:=[S [98]]) Try.underlying23 kgrx_el9 rfl rfl rfl rfl (fun w59 bx59 hw hz59=>?_);have hB:=hB.carry hw;have hn:=hn.carry hw;have hA:=hA.carry hw;have ho:=ho.carry hw;have hGr:=hGr.carry hw;refine L.gyes' (dj:=57) (b:=_) rfl rfl g57 ?_;refine L.ret (x_call kgrx_en12 rfl) rfl (reachP _ _ _ _ arW [[98]] _ hA (strs_of_box (A:=fun _=>False) [[98]] bx59 (fun f=>f) (by decide) (by decide)) (by decide)) ?_;rintro v60 w60 ⟨hR60,hw⟩;have hB:=hB.carry hw;have hn:=hn.carry hw;have hA:=hA.carry hw;have ho:=ho.carry hw;have hGr:=hGr.carry hw;have bx59:=bx59.carry hw;rw [awR] at hR60;obtain ⟨p60,c60,rfl,-⟩:=id hR60;refine L.gyes' (dj:=57) (b:=_) rfl rfl g57 ?_;refine L.bs (sz:=1) (cells:=[S [98],S [99]]) Try.underlying23 kgrx_el9 rfl rfl rfl rfl (fun w61 bx61 hw hz61=>?_);have hB:=hB.carry hw;have hn:=hn.carry hw;have hA:=hA.carry hw;have ho:=ho.carry hw;have hGr:=hGr.carry hw;refine L.gyes' (dj:=57) (b:=_) rfl rfl g57 ?_;refine L.ret (x_call kgrx_en11 rfl) rfl (same36 _ _ _ _ _ [[98],[99]] _ (hR60.carry hw) (strs_of_box (A:=fun _=>False) [[98],[99]] bx61 (fun f=>f) (by decide) (by decide))) ?_;rintro _ w62 ⟨rfl,hw⟩;have hB:=hB.carry hw;have hn:=hn.carry hw;have hA:=hA.carry hw;have ho:=ho.carry hw;have hGr:=hGr.carry hw;have bx61:=bx61.carry hw;refine L.val (x_pick_t (v:=.bool _) (congrArg Value.bool g57) rfl) rfl ?_;refine L.val (x_mv (v:=.bool _) rfl) rfl ?_;refine L.splitat (dj:=64) (b:=_) rfl (fun g64=>?_) (fun g64=>?_)
       ·have h64:=g64;refine L.gyes' (dj:=64) (b:=_) rfl rfl g64 ?_;refine L.val (x_mv (v:=.slice _ _ _) rfl) rfl ?_;refine L.gyes' (dj:=64) (b:=_) rfl rfl g64 ?_;refine L.ret (x_call kgrx_en14 rfl) rfl (pathP _ _ arW [97] [99] _ hA (by decide) (by decide) (by decide)) ?_;rintro v66 w66 ⟨⟨q66,hq66,hR66⟩,hw⟩;have hB:=hB.carry hw;have hn:=hn.carry hw;have hA:=hA.carry hw;have ho:=ho.carry hw;have hGr:=hGr.carry hw;rw [hq66.uniq awP] at hR66;obtain ⟨p66,c66,rfl,-⟩:=id hR66;refine L.gyes' (dj:=64) (b:=_) rfl rfl g64 ?_;refine L.bs (sz:=1) (cells:=[S [97],S [98],S [99]]) Try.underlying23 kgrx_el9 rfl rfl rfl rfl (fun w67 bx67 hw hz67=>?_);have hB:=hB.carry hw;have hn:=hn.carry hw;have hA:=hA.carry hw;have ho:=ho.carry hw;have hGr:=hGr.carry hw;refine L.gyes' (dj:=64) (b:=_) rfl rfl g64 ?_;refine L.ret (x_call kgrx_en11 rfl) rfl (same36 _ _ _ _ _ [[97],[98],[99]] _ (hR66.carry hw) (strs_of_box (A:=fun _=>False) [[97],[98],[99]] bx67 (fun f=>f) (by decide) (by decide))) ?_;rintro _ w68 ⟨rfl,hw⟩;have hB:=hB.carry hw;have hn:=hn.carry hw;have hA:=hA.carry hw;have ho:=ho.carry hw;have hGr:=hGr.carry hw;have bx67:=bx67.carry hw;refine L.val (x_pick_t (v:=.bool _) (congrArg Value.bool g64) rfl) rfl ?_;refine L.val (x_as (v:=.bool _) rfl) rfl ?_;refine L.nil (thn_n (W.ret (fin_mk (.inr rfl) ?_)));exact ⟨vb (by decide),hB⟩
       ·have h64:=g64;exact absurd g64 (by decide)
      ·have h57:=g57;exact absurd g57 (by decide)
     ·have h50:=of_decide_eq_false g50;exact absurd g50 (by decide)
    ·have h45:=of_decide_eq_false g45;exact absurd g45 (by decide)
   ·have h41:=of_decide_eq_false g41;exact absurd g41 (by decide)
  ·have h37:=g37;exact absurd g37 (by decide)
end Go.Gx
namespace Go.Gx
open Go.Sort
section
variable {E:Str→List Str} {to from_:Str}
theorem way_cons {d:Nat} {x:Str} (h:Dist E to (d+1) x):∃ y∈E x,Dist E to d y∧wayL E to (d+1) x=x :: wayL E to d y:=by
  obtain ⟨z,hz,hw⟩:=h.1;cases hf:(E x).find? (fun y=>@decide (Wk E to d y) (Classical.propDecidable _)) with
  | none=>
    have:=List.find?_eq_none.1 hf z hz;exact absurd hw (by simpa using this)
  | some y=>
    have h1:=List.mem_of_find?_eq_some hf;have h2:Wk E to d y:=by simpa using List.find?_some hf
    exact ⟨y,h1,h.next h1 h2,by rw [wayL,hf]⟩
theorem way_facts:∀ (d:Nat) (x:Str),Dist E to d x→(∃ t,wayL E to d x=x :: t)∧(∀ z∈wayL E to d x,Rt E x z)∧(∀ z∈wayL E to d x,∃ j≤d,Dist E to j z)∧(wayL E to d x).Nodup∧
    (∀ k,k+1<(wayL E to d x).length→(wayL E to d x).getD (k+1) []∈E ((wayL E to d x).getD k []))∧(wayL E to d x).getD ((wayL E to d x).length - 1) []=to
  | 0,x,h=>by
    have e:x=to:=h.1;refine ⟨⟨[],rfl⟩,fun z hz=>?_,fun z hz=>?_,List.nodup_cons.2 ⟨by simp,List.nodup_nil⟩,fun k hk=>?_,e⟩
    · rw [List.mem_singleton.1 hz];exact Rt.refl
    · rw [List.mem_singleton.1 hz];exact ⟨0,Nat.le_refl _,h⟩
    · simp [wayL] at hk
  | d+1,x,h=>by
    obtain ⟨y,hy,hd,e⟩:=way_cons h;obtain ⟨⟨t,a1⟩,a2,a3,a4,a5,a6⟩:=way_facts d y hd;rw [e];refine ⟨⟨_,rfl⟩,fun z hz=>?_,fun z hz=>?_,List.nodup_cons.2 ⟨fun hx=>?_,a4⟩,fun k hk=>?_,?_⟩
    · rcases List.mem_cons.1 hz with e | hz
      · rw [e];exact Rt.refl
      · exact (Rt.one hy).trans (a2 z hz)
    · rcases List.mem_cons.1 hz with e | hz
      · rw [e];exact ⟨d+1,Nat.le_refl _,h⟩
      · obtain ⟨j,h1,h2⟩:=a3 z hz;exact ⟨j,by omega,h2⟩
    · obtain ⟨j,h1,h2⟩:=a3 x hx;have:=h.uniq h2;omega
    · rcases k with _ | k
      · rw [a1];exact hy
      · exact a5 k (by simpa using hk)
    · have hl:(wayL E to d y).length=t.length+1:=by rw [a1];rfl
      rw [List.length_cons,show (wayL E to d y).length+1 - 1=((wayL E to d y).length - 1)+1 by omega];exact a6
theorem rt_wk {x:Str} (h:Rt E x to):∃ d,Wk E to d x:=by
  have key:∀ z,Rt E x z→∀ d,Wk E to d z→∃ d,Wk E to d x:=by
    intro z hz;induction hz with
    | refl=>exact fun d hd=>⟨d,hd⟩
    | step _ hy ih=>exact fun d hd=>ih (d+1) ⟨_,hy,hd⟩
  exact key to h 0 rfl
theorem wk_rt:∀ {d:Nat} {x:Str},Wk E to d x→Rt E x to
  | 0,x,h=>by have e:x=to:=h;rw [e];exact Rt.refl
  | d+1,x,⟨y,hy,hw⟩=>(Rt.one hy).trans (wk_rt hw)
theorem IsPath.facts {p:List Str} (h:IsPath E from_ to p):(p≠[]↔Rt E from_ to)∧(∀ z∈p,Rt E from_ z)∧p.Nodup∧
    (∀ k,k+1<p.length→p.getD (k+1) []∈E (p.getD k []))∧(p≠[]→p.getD 0 []=from_∧p.getD (p.length - 1) []=to):=by
  rcases h with ⟨rfl,h⟩ | ⟨d,h,rfl⟩
  · refine ⟨⟨fun e=>absurd rfl e,fun hr=>?_⟩,by simp,List.nodup_nil,by simp,fun e=>absurd rfl e⟩;obtain ⟨d,hd⟩:=rt_wk hr;exact absurd hd (h d)
  · obtain ⟨⟨t,a1⟩,a2,-,a4,a5,a6⟩:=way_facts d from_ h
    exact ⟨⟨fun _=>wk_rt h.1,fun _ e=>by rw [a1] at e;cases e⟩,a2,a4,a5,fun _=>⟨by rw [a1];rfl,a6⟩⟩
end
theorem rch_rtG {l:List Arc} {u x:Str}:Rch l [u] x↔Rt (nextS l) u x:=by
  constructor
  · intro h;induction h with
    | base h=>rw [List.mem_singleton.1 h];exact Rt.refl
    | step _ h ih=>exact ih.step (mem_next.2 h)
  · intro h;induction h with
    | refl=>exact Rch.base (by simp)
    | step _ h ih=>exact Rch.step ih (mem_next.1 h)
theorem path_facts {l:List Arc} {from_ to:Str} {p:List Str} (h:IsPath (nextS l) from_ to p):(p≠[]↔to∈reachS l [from_])∧p.length≤(reachS l [from_]).length∧
    (∀ k,k+1<p.length→(p.getD k [],p.getD (k+1) [])∈l)∧(p≠[]→p.getD 0 []=from_∧p.getD (p.length - 1) []=to):=by
  obtain ⟨a1,a2,a3,a4,a5⟩:=h.facts;refine ⟨by rw [mem_reach,rch_rtG];exact a1,strict_len_le a3 fun z hz=>mem_reach.2 (rch_rtG.2 (a2 z hz)),fun k hk=>mem_next.1 (a4 k hk),a5⟩
end Go.Gx
namespace Go.Gx
open Go.Proofs Go.Sort
theorem kgrwa_mixed:Try.prog.follows .mixedOrders=true:=by kernel_rfl
theorem kgrwa_oc9:oneCellT Try.prog 9=true:=by kernel_rfl
theorem kgrwa_sz9:(Try.prog.info? 9).map (·.size)=some 1:=by kernel_rfl
theorem ltL_drop {a b:List Str} {k:Nat} (ha:k<a.length) (hb:k<b.length):ltL (a.drop k) (b.drop k)=(ltStr (a.getD k []) (b.getD k []) || ((a.getD k []) == (b.getD k []) && ltL (a.drop (k+1)) (b.drop (k+1)))):=by
  rw [List.drop_eq_getElem_cons ha,List.drop_eq_getElem_cons hb,ltL,List.getD_eq_getElem?_getD,List.getD_eq_getElem?_getD,List.getElem?_eq_getElem ha,List.getElem?_eq_getElem hb];rfl
theorem before36 (A B:Nat→Prop) (v u:Value) (a b:List Str) (w:World) (ha:StrsAt A w v a) (hb:StrsAt B w u b) (hl:a.length=b.length):Ret Try.prog 33 #[v,u] w fun r w'=>r=.bool (ltL a b)∧Bel w w':=by
  obtain ⟨p,cap,rfl,p1,p2,p3,-⟩:=id ha;obtain ⟨p',cap',rfl,q1,q2,q3,-⟩:=id hb;refine ret_of_W Try.func33 rfl (Nat.le_of_ble_eq_true rfl) (res1 rfl) ?_;have hB:=Gr.refl (fun _=>False) w;refine W.seq (W.region (L.val (x_as (v:=.bool _) rfl) rfl ?_));refine L.nil (thn_n (W.seq (W.seq (W.region (L.val (x_as (v:=.int _ _) rfl) rfl ?_)))));refine L.nil (thn_n (W.block (W.loop (fun m' E w'=>∃ (k:Nat),m'=a.length - k∧E 0=.slice p a.length cap∧E 1=.slice p' b.length cap'∧E 5=.int .i64 (k:Nat)∧(Bel w w')∧(StrsAt A w' (.slice p a.length cap) a)∧(StrsAt B w' (.slice p' b.length cap') b)∧(k≤a.length)∧(ltL a b=ltL (a.drop k) (b.drop k))) (a.length) ?_ ?_)))
  ·exact ⟨0,by omega,vi_,vi_,vi_,ao_,ao_,ao_,ao_,(by rfl)⟩
  ·rintro _ E wL6 ⟨k,em,e0,e1,e5,hB,ha,hb,hk,he⟩;rw [upd_self e0,upd_self e1,upd_self e5];refine W.seq (W.seq (W.region (L.val (x_mv (v:=.int _ _) rfl) rfl ?_)));refine L.val (x_mv (v:=.slice _ _ _) rfl) rfl ?_;refine L.val (x_len_slice Try.underlying23 rfl) rfl ?_;refine L.val (x_lss rfl rfl) rfl ?_;refine L.nil (thn_n (W.cond (b:=_) rfl (fun g9=>?_) (fun g9=>?_)))
   ·have h9:=of_decide_eq_true g9;have hlt:k<a.length:=by omega
    have hltb:k<b.length:=by omega
    obtain ⟨c,o,rfl,hc⟩:=ha.elem hlt;obtain ⟨c',o',rfl,hc'⟩:=hb.elem hltb;have hdr:=ltL_drop hlt hltb;refine W.skip (thn_n (W.seq (W.block (W.seq (W.drawB kgrwa_mixed kr_ ?_)))));refine LQ.val (fun w hw=>x_mv (v:=.slice _ _ _) rfl) rfl ?_;refine LQ.val (fun w hw=>x_mv (v:=.int _ _) rfl) rfl ?_;refine LQ.val (fun w hw=>x_ia1 (j:=k) Try.underlying23 kgrwa_sz9 rfl rfl om_ om_) rfl ?_;refine LQ.val (fun w hw=>x_ld (v:=S _) kgrwa_oc9 rfl (hw.keep hc)) rfl ?_;refine LQ.val (fun w hw=>x_mv (v:=.slice _ _ _) rfl) rfl ?_;refine LQ.val (fun w hw=>x_mv (v:=.int _ _) rfl) rfl ?_;refine LQ.val (fun w hw=>x_ia1 (j:=k) Try.underlying23 kgrwa_sz9 rfl rfl om_ om_) rfl ?_;refine LQ.val (fun w hw=>x_ld (v:=S _) kgrwa_oc9 rfl (hw.keep hc')) rfl ?_;refine LQ.val (fun w hw=>x_nes rfl rfl) rfl ?_;refine LQ.nil ?_;intro w12 hw;have hB:=hB.carry hw;have ha:=ha.carry hw;have hb:=hb.carry hw;refine thn_n (W.cond (b:=_) rfl (fun g20=>?_) (fun g20=>?_))
    ·have h20:=sne_t g20;have hne:((a.getD k []) == (b.getD k []))=false:=by simpa using h20
     rw [hne,Bool.false_and,Bool.or_false] at hdr;refine W.seq (W.drawB kgrwa_mixed kr_ ?_);refine LQ.val (fun w hw=>x_mv (v:=.slice _ _ _) rfl) rfl ?_;refine LQ.val (fun w hw=>x_mv (v:=.int _ _) rfl) rfl ?_;refine LQ.val (fun w hw=>x_ia1 (j:=k) Try.underlying23 kgrwa_sz9 rfl rfl om_ om_) rfl ?_;refine LQ.val (fun w hw=>x_ld (v:=S _) kgrwa_oc9 rfl (hw.keep (ha.elemAt hlt))) rfl ?_;refine LQ.val (fun w hw=>x_mv (v:=.slice _ _ _) rfl) rfl ?_;refine LQ.val (fun w hw=>x_mv (v:=.int _ _) rfl) rfl ?_;refine LQ.val (fun w hw=>x_ia1 (j:=k) Try.underlying23 kgrwa_sz9 rfl rfl om_ om_) rfl ?_;refine LQ.val (fun w hw=>x_ld (v:=S _) kgrwa_oc9 rfl (hw.keep (hb.elemAt hltb))) rfl ?_;refine LQ.val (fun w hw=>x_lts rfl rfl) rfl ?_;refine LQ.val (fun w hw=>x_as (v:=.bool _) rfl) rfl ?_;refine LQ.nil ?_;intro w21 hw;have hB:=hB.carry hw;have ha:=ha.carry hw;have hb:=hb.carry hw;refine thn_n (W.ret (blk_r (thn_r (thn_r (blk_r (thn_r (fin_mk (.inr rfl) ?_)))))));exact ⟨vb (by rw [he,hdr];exact lt_bytesG _ _),hB⟩
    ·have h20:=sne_f g20;have heq:a.getD k []=b.getD k []:=h20;have he2:ltL a b=ltL (a.drop (k+1)) (b.drop (k+1)):=by rw [he,hdr,heq,lt_irr];simp
     refine W.skip (blk_n (thn_n (W.region (L.val (x_mv (v:=.int _ _) rfl) rfl ?_))));refine L.val (x_add rfl rfl (wr64 om_)) rfl ?_;refine L.val (x_as (v:=.int _ _) rfl) rfl ?_;refine L.nil (thn_n ⟨rfl,?_⟩);refine ⟨_,?_,k+1,rfl,vi_,vi_,vi_,ao_,ao_,ao_,ao_,(by exact he2)⟩;omega
   ·have h9:=dlt_f g9;refine W.exit (thn_x (thn_x (blk_hit ?_)));refine thn_n (W.seq (W.region (L.val (x_as (v:=.bool _) rfl) rfl ?_)));refine L.nil (thn_n (W.ret (fin_mk (.inr rfl) ?_)));have hka:k=a.length:=by omega
    rw [hka,List.drop_length,hl,List.drop_length] at he;exact ⟨vb he.symm,hB⟩
end Go.Gx
namespace Go.Gx
open Go.Sort
def Way (E:Str→List Str):Nat→Str→Str→List Str→Prop
  | 0,x,y,p=>x=y∧p=[x]
  | d+1,x,y,p=>∃ z∈E x,∃ q,Way E d z y q∧p=x :: q
section
variable {E:Str→List Str} {x y z fr:Str} {p q:List Str} {d n:Nat}
theorem Way.len:∀ {d:Nat} {x:Str} {p:List Str},Way E d x y p→p.length=d+1
  | 0,x,p,h=>by rw [h.2];rfl
  | d+1,x,p,⟨z,_,q,h,e⟩=>by rw [e,List.length_cons,h.len]
theorem Way.head {d:Nat} {x:Str} {p:List Str} (h:Way E d x y p):∃ t,p=x :: t:=by
  cases d with
  | zero=>exact ⟨[],h.2⟩
  | succ d=>obtain ⟨z,-,q,-,e⟩:=h;exact ⟨q,e⟩
theorem Way.wk:∀ {d:Nat} {x:Str} {p:List Str},Way E d x y p→Wk E y d x
  | 0,x,p,h=>h.1
  | d+1,x,p,⟨z,hz,q,h,_⟩=>⟨z,hz,h.wk⟩
theorem ltL_head (x:Str) (p q:List Str):ltL (x :: p) (x :: q)=ltL p q:=by rw [ltL,lt_irr];simp
theorem way_least (hs:∀ x,Strict (E x)):∀ (d:Nat) (x:Str),Wk E y d x→Way E d x y (wayL E y d x)∧∀ q,Way E d x y q→q=wayL E y d x∨ltL (wayL E y d x) q=true
  | 0,x,h=>⟨⟨h,rfl⟩,fun q hq=>.inl hq.2⟩
  | d+1,x,h=>by
    obtain ⟨z,hz,hw⟩:=h;cases hf:(E x).find? (fun v=>@decide (Wk E y d v) (Classical.propDecidable _)) with
    | none=>exact absurd hw (by simpa using List.find?_eq_none.1 hf z hz)
    | some v=>
      have e:wayL E y (d+1) x=x :: wayL E y d v:=by rw [wayL,hf]
      have h1:=List.mem_of_find?_eq_some hf;have h2:Wk E y d v:=by simpa using List.find?_some hf
      obtain ⟨i1,i2⟩:=way_least hs d v h2;rw [e];refine ⟨⟨v,h1,_,i1,rfl⟩,fun q hq=>?_⟩;obtain ⟨u,hu,r,hr,rfl⟩:=hq;have huv:u=v∨ltStr v u=true:=by
        obtain ⟨-,pre,post,e1,e2⟩:=List.find?_eq_some_iff_append.1 hf;rw [e1] at hu;rcases List.mem_append.1 hu with hu | hu
        · exact absurd hr.wk (by simpa using e2 u hu)
        · rcases List.mem_cons.1 hu with hu | hu
          · exact .inl hu
          · have:=hs x;rw [e1,Strict,List.pairwise_append,List.pairwise_cons] at this;exact .inr (this.2.1.1 u hu)
      rw [ltL_head];rcases huv with rfl | hlt
      · rcases i2 r hr with e3 | h3
        · exact .inl (by rw [e3])
        · exact .inr h3
      · obtain ⟨t,e3⟩:=i1.head;obtain ⟨t',e4⟩:=hr.head;rw [e3,e4,ltL,hlt,Bool.true_or];exact .inr rfl
theorem way_snoc:∀ {d:Nat} {x:Str} {p:List Str},Way E (d+1) x y p↔∃ z q,Way E d x z q∧y∈E z∧p=q++[y]
  | 0,x,p=>by
    constructor
    · rintro ⟨w,hw,q,⟨rfl,rfl⟩,rfl⟩;exact ⟨x,[x],⟨rfl,rfl⟩,hw,rfl⟩
    · rintro ⟨z,q,⟨rfl,rfl⟩,hy,rfl⟩;exact ⟨y,hy,[y],⟨rfl,rfl⟩,rfl⟩
  | d+1,x,p=>by
    constructor
    · rintro ⟨w,hw,q,h,rfl⟩;obtain ⟨z,q',h1,h2,rfl⟩:=way_snoc.1 h;exact ⟨z,x :: q',⟨w,hw,q',h1,rfl⟩,h2,rfl⟩
    · rintro ⟨z,q,⟨w,hw,q',h1,rfl⟩,h2,rfl⟩;exact ⟨w,hw,q'++[y],way_snoc.2 ⟨z,q',h1,h2,rfl⟩,rfl⟩
theorem ltL_snoc (y:Str):∀ (p q:List Str),p.length=q.length→ltL (p++[y]) (q++[y])=ltL p q
  | [],[],_=>by rw [List.nil_append,ltL_irr];rfl
  | [],_ :: _,h=>by cases h
  | _ :: _,[],h=>by cases h
  | a :: p,b :: q,h=>by
    rw [List.cons_append,List.cons_append,ltL,ltL,ltL_snoc y p q (by simpa using h)]
theorem wk_snoc:∀ {d:Nat} {x:Str},Wk E z d x→y∈E z→Wk E y (d+1) x
  | 0,x,h,hy=>⟨y,by rw [show x=z from h];exact hy,rfl⟩
  | d+1,x,⟨w,hw,h⟩,hy=>⟨w,hw,wk_snoc h hy⟩
theorem wk_unsnoc:∀ {d:Nat} {x:Str},Wk E y (d+1) x→∃ z,y∈E z∧Wk E z d x
  | 0,x,⟨w,hw,h⟩=>⟨x,by rw [← (show w=y from h)];exact hw,rfl⟩
  | d+1,x,⟨w,hw,h⟩=>by
    obtain ⟨z,h1,h2⟩:=wk_unsnoc h;exact ⟨z,h1,w,hw,h2⟩
def Bst (E:Str→List Str) (fr:Str) (n:Nat) (x:Str) (p:List Str):Prop:=(p=[]∧∀ d≤n,¬ Wk E x d fr)∨∃ d≤n,Dist E x d fr∧p=wayL E x d fr
theorem bst0:Bst E fr 0 x (if x=fr then [fr] else []):=by
  by_cases e:x=fr
  · rw [if_pos e];exact .inr ⟨0,Nat.le_refl _,⟨e.symm,fun j hj=>absurd hj om_⟩,rfl⟩
  · rw [if_neg e];refine .inl ⟨rfl,fun d hd h=>?_⟩;have:d=0:=by omega
    subst this;exact e (show fr=x from h).symm
theorem Bst.up (h:Bst E fr n x p) (hp:p≠[]):Bst E fr (n+1) x p:=by
  rcases h with ⟨e,-⟩ | ⟨d,h1,h2,h3⟩
  · exact absurd e hp
  · exact .inr ⟨d,by omega,h2,h3⟩
theorem Bst.path (h:Bst E fr n x p) (hp:p≠[]):IsPath E fr x p:=by
  rcases h with ⟨e,-⟩ | ⟨d,h1,h2,h3⟩
  · exact absurd e hp
  · exact .inr ⟨d,h2,h3⟩
theorem Bst.none (h:Bst E fr n x []) (hs:∀ x,Strict (E x)):∀ d≤n,¬ Wk E x d fr:=by
  rcases h with ⟨-,h⟩ | ⟨d,h1,h2,h3⟩
  · exact h
  · have:=(way_least hs d fr h2.1).1.len;rw [← h3] at this;cases this
theorem Bst.cand (hs:∀ x,Strict (E x)) (hx:∀ d≤n,¬ Wk E x d fr) (hz:x∈E z) (h:Bst E fr n z p):(p=[]∧¬ Wk E z n fr)∨(p≠[]∧Wk E z n fr∧p=wayL E z n fr):=by
  rcases h with ⟨e,h⟩ | ⟨d,h1,h2,h3⟩
  · exact .inl ⟨e,h n (Nat.le_refl _)⟩
  · have hd:d=n:=by
      refine Classical.byContradiction fun hne=>?_
      exact hx (d+1) om_ (wk_snoc h2.1 hz)
    subst hd;refine .inr ⟨fun e=>?_,h2.1,h3⟩;have:=(way_least hs d fr h2.1).1.len;rw [← h3,e] at this;cases this
def Nw (E:Str→List Str) (fr:Str) (n:Nat) (x:Str) (zs p:List Str):Prop:=
  (p=[]∧∀ z∈zs,¬ Wk E z n fr)∨∃ z∈zs,Wk E z n fr∧p=wayL E z n fr++[x]∧∀ u∈zs,Wk E u n fr→ltL (wayL E u n fr++[x]) p=false
theorem nw_nil:Nw E fr n x [] []:=.inl ⟨rfl,by simp⟩
theorem Nw.len {zs:List Str} (hs:∀ x,Strict (E x)) (h:Nw E fr n x zs p) (hp:p≠[]):p.length=n+2:=by
  rcases h with ⟨e,-⟩ | ⟨z,-,h1,e,-⟩
  · exact absurd e hp
  · rw [e,List.length_append,(way_least hs n fr h1).1.len];rfl
def stepB (x:Str) (p0 q:List Str):List Str:=if q=[] then p0 else if p0=[]∨ltL (q++[x]) p0=true then q++[x] else p0
theorem Nw.skip {zs:List Str} (h:Nw E fr n x zs p) (hz:¬ Wk E z n fr):Nw E fr n x (zs++[z]) p:=by
  rcases h with ⟨e,h⟩ | ⟨v,h1,h2,h3,h4⟩
  · refine .inl ⟨e,fun u hu=>?_⟩;rcases List.mem_append.1 hu with hu | hu
    · exact h u hu
    · rw [List.mem_singleton.1 hu];exact hz
  · refine .inr ⟨v,List.mem_append.2 (.inl h1),h2,h3,fun u hu hw=>?_⟩;rcases List.mem_append.1 hu with hu | hu
    · exact h4 u hu hw
    · rw [List.mem_singleton.1 hu] at hw;exact absurd hw hz
theorem Nw.step {zs:List Str} (hs:∀ x,Strict (E x)) (h:Nw E fr n x zs p) (hx:∀ d≤n,¬ Wk E x d fr) (hz:x∈E z) (hb:Bst E fr n z q):Nw E fr n x (zs++[z]) (stepB x p q):=by
  rcases hb.cand hs hx hz with ⟨rfl,h1⟩ | ⟨h0,h1,h2⟩
  · rw [stepB,if_pos rfl];exact h.skip h1
  · rw [stepB,if_neg h0];rcases h with ⟨e,h⟩ | ⟨v,h3,h4,h5,h6⟩
    · rw [if_pos (.inl e)];refine .inr ⟨z,by simp,h1,by rw [h2],fun u hu hw=>?_⟩;rcases List.mem_append.1 hu with hu | hu
      · exact absurd hw (h u hu)
      · rw [List.mem_singleton.1 hu,h2];exact ltL_irr _
    · by_cases hc:p=[]∨ltL (q++[x]) p=true
      · rw [if_pos hc];have hlt:ltL (q++[x]) p=true:=by
          rcases hc with e | hc
          · rw [h5] at e;simp at e
          · exact hc
        refine .inr ⟨z,by simp,h1,by rw [h2],fun u hu hw=>?_⟩;rcases List.mem_append.1 hu with hu | hu
        · cases hcc:ltL (wayL E u n fr++[x]) (q++[x]) with
          | false=>rfl
          | true=>have:=ltL_tr hcc hlt;rw [h6 u hu hw] at this;cases this
        · rw [List.mem_singleton.1 hu,h2];exact ltL_irr _
      · rw [if_neg hc];refine .inr ⟨v,List.mem_append.2 (.inl h3),h4,h5,fun u hu hw=>?_⟩;rcases List.mem_append.1 hu with hu | hu
        · exact h6 u hu hw
        · rw [List.mem_singleton.1 hu,← h2];cases hcc:ltL (q++[x]) p with
          | false=>rfl
          | true=>exact absurd (.inr hcc) hc
theorem Nw.fin {zs:List Str} (hs:∀ x,Strict (E x)) (h:Nw E fr n x zs p) (hx:∀ d≤n,¬ Wk E x d fr) (hz:∀ z,z∈zs↔x∈E z):Bst E fr (n+1) x p:=by
  rcases h with ⟨e,h⟩ | ⟨v,h3,h4,h5,h6⟩
  · refine .inl ⟨e,fun d hd hw=>?_⟩;by_cases hdn:d≤n
    · exact hx d hdn hw
    · have:d=n+1:=by omega
      subst this;obtain ⟨z,h1,h2⟩:=wk_unsnoc hw;exact h z ((hz z).2 h1) h2
  · have hw:Wk E x (n+1) fr:=wk_snoc h4 ((hz v).1 h3);refine .inr ⟨n+1,Nat.le_refl _,⟨hw,fun j hj=>hx j om_⟩,?_⟩;obtain ⟨w1,w2⟩:=way_least hs (n+1) fr hw;have hv:=way_least hs n fr h4;rcases w2 p (way_snoc.2 ⟨v,_,hv.1,(hz v).1 h3,h5⟩) with e | hlt
    · exact e
    · obtain ⟨u,r,r1,r2,r3⟩:=way_snoc.1 w1;obtain ⟨u1,u2⟩:=way_least hs n fr r1.wk;have h7:=h6 u ((hz u).2 r2) r1.wk;rw [r3] at hlt;rcases u2 r r1 with e | h8
      · rw [e,h7] at hlt;cases hlt
      · have h9:ltL (wayL E u n fr++[x]) (r++[x])=true:=by rw [ltL_snoc _ _ _ (by rw [u1.len,r1.len])];exact h8
        rw [ltL_tr h9 hlt] at h7;cases h7
end
def fromsL (l:List Arc) (x:Str):List Str:=(l.filter fun a=>a.2 == x).map (·.1)
theorem mem_froms {l:List Arc} {x z:Str}:z∈fromsL l x↔x∈nextS l z:=by
  unfold fromsL
  rw [mem_next,List.mem_map];constructor
  · rintro ⟨a,ha,rfl⟩;rw [List.mem_filter,beq_iff_eq] at ha;rw [← ha.2];exact ha.1
  · intro h;exact ⟨(z,x),List.mem_filter.2 ⟨h,by simp⟩,rfl⟩
theorem froms_take {l:List Arc} {x:Str} {k:Nat} (h:k<l.length):fromsL (l.take (k+1)) x=fromsL (l.take k) x++if (l.getD k default).2=x then [(l.getD k default).1] else []:=by
  unfold fromsL
  rw [List.take_succ_eq_append_getElem h,List.filter_append,List.map_append,List.getD_eq_getElem?_getD,List.getElem?_eq_getElem h];congr 1;by_cases e:l[k].2=x
  · have e2:(l[k].2 == x)=true:=beq_iff_eq.2 e;simp [e]
  · have e2:(l[k].2 == x)=false:=beq_eq_false_iff_ne.2 e;simp [e]
theorem not_reach {l:List Arc} {fr z:Str} (h:z∉reachS l [fr]) (d:Nat):¬ Wk (nextS l) z d fr:=fun hw=>h (mem_reach.2 (rch_rtG.2 (wk_rt hw)))
theorem Bst.all {l:List Arc} {fr x:Str} {p:List Str} (h:Bst (nextS l) fr (reachS l [fr]).length x p) (hx:x∈reachS l [fr]):IsPath (nextS l) fr x p:=by
  rcases h with ⟨e,h⟩ | ⟨d,-,h2,h3⟩
  · obtain ⟨d,hd⟩:=rt_wk (rch_rtG.1 (mem_reach.1 hx));obtain ⟨j,-,hj⟩:=hd.dist;have hp:IsPath (nextS l) fr x (wayL (nextS l) x j fr):=.inr ⟨j,hj,rfl⟩;have h1:=(path_facts hp).2.1;have h2:=(way_least (E:=nextS l) (y:=x) (fun x=>strict_once _) j fr hj.1).1.len;exact absurd hj.1 (h j om_)
  · exact .inr ⟨d,h2,h3⟩
end Go.Gx
