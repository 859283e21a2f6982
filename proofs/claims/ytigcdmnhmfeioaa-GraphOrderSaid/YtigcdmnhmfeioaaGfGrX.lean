/- What the document fixes; orders. Conditions: none. -/
import Derived.Test.YtigcdmnhmfeioaaGfGrO
import Derived.Test.YtigcdmnhmfeioaaGfGrF
import Derived.Test.YtigcdmnhmfeioaaGfGrN
namespace Go.Gx
open Go.Proofs Go.Sort
theorem kgrx_el36:elT Try.prog 36 2=true:=by kernel_rfl
theorem kgrx_el9:elT Try.prog 9 1=true:=by kernel_rfl
theorem kgrx_en11:Go.Proofs.Enters Try.prog 11:=Go.Proofs.enters_of Try.func11 kr_ rfl
theorem kgrx_en12:Go.Proofs.Enters Try.prog 12:=Go.Proofs.enters_of Try.func12 kr_ rfl
theorem kgrx_en14:Go.Proofs.Enters Try.prog 14:=Go.Proofs.enters_of Try.func14 kr_ rfl
theorem kgrx_en17:Go.Proofs.Enters Try.prog 17:=Go.Proofs.enters_of Try.func17 kr_ rfl
theorem kgrx_en20:Go.Proofs.Enters Try.prog 20:=Go.Proofs.enters_of Try.func20 kr_ rfl
theorem kgrx_oc23:oneCellT Try.prog 23=true:=by kernel_rfl
theorem kgrx_si36:structInfo Try.prog 36=some ([(0,1),(1,1)],[S [],S []]):=by kernel_rfl
theorem kgrx_sz23:(Try.prog.info? 23).map (·.size)=some 1:=by kernel_rfl
theorem L.appendGr {P:Program} {n:Nat} {Q:Post} {D:List Deferred} {E:Env} {w:World} {e:TypeId} {sz k m b g c':Nat} {xs news:List Value} {ops:Array Oper} {r:List Oper} {d:Nat} {x y:Operand} {T t:TypeId} {p:String} {af:Array Edge}
    (hu:P.underlying T=some (.slice e)) (he:elT P e sz=true) (hx:ev E x=.slice (some ⟨b,0,none⟩) k k) (hy:ev E y=.slice (some ⟨g,0,none⟩) m c') (hd:Nat.blt d n=true) (hb:Box w b e xs) (hl:xs.length=k * sz)
    (hg:Box w g e news) (hln:news.length=m * sz) (h1:∀ u∈news,u.oneCell'=true) (hm:0<m) (hk:(k+m) * 200≤140737488355328)
    (kk:∀ v' w',Own w' w.heap.size e sz v' (k+m) (xs++news)→Bel w w'→L P n ops Q r D (upd E d v') w'):
    L P n ops Q (⟨some d,.call ⟨.builtin .append,#[x,y],#[T,T]⟩,t,p,af,none⟩ :: r) D E w:=by
  obtain ⟨i,z,hi,hz,hs,hzs,hpos,hby⟩:=elT_spec he;have hold:∀ {b:Nat} {xs:List Value},Box w b e xs→∀ (j:Nat) (u:Value),xs[j]? = some u→w.cell? ((⟨b,0,none⟩:Addr).add j)=some u:=fun hb j u hj=>by
    rw [Addr.add_lit,Nat.zero_add];exact hb.cell hj
  have hby2:(k+m) * i.bytes≤(k+m) * 200:=Nat.mul_le_mul_left _ hby;obtain ⟨v',w',hrun,ho,hgr⟩:=run_append_arg_grows (P:=P) w T t e i z sz i.bytes hu hi hz hs rfl hzs hpos ⟨b,0,none⟩ k k xs hl (hold hb) ⟨g,0,none⟩ m c' news hln (hold hg) om_ (by simp only [maxLen];omega) om_;exact L.val (x_append hx hy hrun) hd (kk _ _ ho ((gr_of_grown hgr).mono fun k _ e=>by cases e))
set_option maxHeartbeats 2000000 in
theorem awake36 (w:World):Ret Try.prog 10 #[] w fun r w'=>r=.bool true∧Bel w w':=by
  have hshA:∀ a∈arW,a.1.length≤9223372036854775807∧a.2.length≤9223372036854775807:=by decide
  have hshA2:∀ a∈arW2,a.1.length≤9223372036854775807∧a.2.length≤9223372036854775807:=by decide
  refine ret_of_W Try.func10 rfl (Nat.le_of_ble_eq_true rfl) (res1 rfl) ?_;have hB:=Gr.refl (fun _=>False) w;refine W.seq (W.region (L.val (x_as (v:=.bool _) rfl) rfl ?_));refine L.nil (thn_n (W.seq (W.region (L.bs (sz:=1) (cells:=[S [100],S [97],S [98],S [99]]) Try.underlying23 kgrx_el9 rfl rfl rfl rfl (fun w8 bx8 hw hz8=>?_)))));have hB:=hB.carry hw;have hn:=strs_of_box (A:=fun _=>False) nmW bx8 (fun f=>f) (by decide) (by decide);refine L.val (x_as (v:=.slice _ _ _) rfl) rfl ?_;refine L.nil (thn_n (W.seq (W.region ?_)));(iterate 3 refine L.val (x_build (cells:=[S _,S _]) kgrx_si36 rfl rfl) rfl ?_);refine L.bs (sz:=2) (cells:=[S [97],S [98],S [98],S [99],S [100],S [98]]) Try.underlying22 kgrx_el36 rfl rfl rfl rfl (fun w12 bx12 hw hz12=>?_);have hB:=hB.carry hw;have hn:=hn.carry hw;have hA:ArcsAt (fun _=>False) w12 (.slice (some ⟨w8.heap.size,0,none⟩) 3 3) arW:=arcs_done (base:=0) (own_box (base:=0) (sz:=2) (k:=3) bx12 rfl om_ om_) hshA (by decide) (fun _ _ f=>f);refine L.val (x_as (v:=.slice _ _ _) rfl) rfl ?_;refine L.nil (thn_n (W.seq (W.region (L.val (x_mv (v:=.slice _ _ _) rfl) rfl ?_))));refine L.val (x_mv (v:=.slice _ _ _) rfl) rfl ?_;refine L.ret (x_call kgrx_en20 rfl) rfl (orderP _ _ _ _ nmW arW _ hn hA (by decide) (by decide)) ?_;rintro _ w16 ⟨⟨o,rfl,ho⟩,hw⟩;have hB:=hB.carry hw;have hn:=hn.carry hw;have hA:=hA.carry hw;have bx12:=bx12.carry hw;rw [awO] at ho ⊢;have ho:StrsAt _ w16 o [[99],[98],[97],[100]]:=ho;obtain ⟨po,co,rfl,-⟩:=id ho;refine L.val (x_mv (v:=_) rfl) rfl ?_;refine L.val (x_ext (v:=.slice _ _ _) rfl rfl) rfl ?_;refine L.val (x_ext (v:=.int _ _) rfl rfl) rfl ?_;refine L.val (x_as (v:=.slice _ _ _) rfl) rfl ?_;refine L.val (x_as (v:=.int _ _) rfl) rfl ?_;refine L.nil (thn_n (W.seq (W.region (L.val (x_mv (v:=.slice _ _ _) rfl) rfl ?_))));refine L.val (x_mv (v:=.slice _ _ _) rfl) rfl ?_;refine L.val (x_build (cells:=[S _,S _]) kgrx_si36 rfl rfl) rfl ?_;refine L.bs (sz:=2) (cells:=[S [99],S [97]]) Try.underlying22 kgrx_el36 rfl rfl rfl rfl (fun w23 bx23 hw hz23=>?_);have hB:=hB.carry hw;have hn:=hn.carry hw;have hA:=hA.carry hw;have bx12:=bx12.carry hw;have ho:=ho.carry hw;refine L.appendGr Try.underlying22 kgrx_el36 rfl rfl rfl bx12 rfl bx23 rfl (by simp [Value.oneCell',S]) om_ om_ (fun v24 w24 hO hw=>?_);have hB:=hB.carry hw;have hn:=hn.carry hw;have hA:=hA.carry hw;have bx12:=bx12.carry hw;have ho:=ho.carry hw;have bx23:=bx23.carry hw;obtain ⟨a24,c24,e24,-⟩:=own_shape hO;subst e24;have hA2:ArcsAt (fun _=>False) w24 (.slice a24 4 c24) arW2:=arcs_done hO hshA2 (by decide) (fun _ _ f=>f);refine L.ret (x_call kgrx_en20 rfl) rfl (orderP _ _ _ _ nmW arW2 _ hn hA2 (by decide) (by decide)) ?_;rintro _ w25 ⟨⟨o2,rfl,ho2⟩,hw⟩;have hB:=hB.carry hw;have hn:=hn.carry hw;have hA:=hA.carry hw;have bx12:=bx12.carry hw;have ho:=ho.carry hw;have bx23:=bx23.carry hw;rw [awO2] at ho2 ⊢;obtain ⟨po2,co2,rfl,-⟩:=id ho2;refine L.val (x_mv (v:=_) rfl) rfl ?_;refine L.val (x_ext (v:=.slice _ _ _) rfl rfl) rfl ?_;refine L.val (x_ext (v:=.int _ _) rfl rfl) rfl ?_;refine L.val (x_as (v:=.slice _ _ _) rfl) rfl ?_;refine L.val (x_as (v:=.int _ _) rfl) rfl ?_;refine L.nil (thn_n (W.seq (W.region (L.val (x_mv (v:=.slice _ _ _) rfl) rfl ?_))));refine L.val (x_mv (v:=.slice _ _ _) rfl) rfl ?_;refine L.val (x_build (cells:=[S _,S _]) kgrx_si36 rfl rfl) rfl ?_;refine L.bs (sz:=2) (cells:=[S [99],S [97]]) Try.underlying22 kgrx_el36 rfl rfl rfl rfl (fun w31 bx31 hw hz31=>?_);have hB:=hB.carry hw;have hn:=hn.carry hw;have hA:=hA.carry hw;have bx12:=bx12.carry hw;have ho:=ho.carry hw;refine L.appendGr Try.underlying22 kgrx_el36 rfl rfl rfl bx12 rfl bx31 rfl (by simp [Value.oneCell',S]) om_ om_ (fun v32 w32 hO hw=>?_);have hB:=hB.carry hw;have hn:=hn.carry hw;have hA:=hA.carry hw;have bx12:=bx12.carry hw;have ho:=ho.carry hw;have bx31:=bx31.carry hw;obtain ⟨a32,c32,e32,-⟩:=own_shape hO;subst e32;have hA2:ArcsAt (fun _=>False) w32 (.slice a32 4 c32) arW2:=arcs_done hO hshA2 (by decide) (fun _ _ f=>f);refine L.ret (x_call kgrx_en17 rfl) rfl (groupsP _ _ _ _ nmW arW2 _ hn hA2 (by decide) (by decide)) ?_;rintro v33 w33 ⟨hG,hw⟩;have hB:=hB.carry hw;have hn:=hn.carry hw;have hA:=hA.carry hw;have bx12:=bx12.carry hw;have ho:=ho.carry hw;have bx31:=bx31.carry hw;rw [awG] at hG;obtain ⟨pG,cG,rG,rfl,-,-,-,hGr⟩:=hG;obtain ⟨bG,oG,rfl,-,-⟩:=hGr.elem (i:=0) (by simp);refine L.val (x_as (v:=.slice _ _ _) rfl) rfl ?_;refine L.nil (thn_n (W.seq (W.region (L.val (x_mv (v:=.slice _ _ _) rfl) rfl ?_))));refine L.bs (sz:=1) (cells:=[S [99],S [98],S [97],S [100]]) Try.underlying23 kgrx_el9 rfl rfl rfl rfl (fun w35 bx35 hw hz35=>?_);have hB:=hB.carry hw;have hn:=hn.carry hw;have hA:=hA.carry hw;have ho:=ho.carry hw;have hGr:=hGr.carry hw;refine L.ret (x_call kgrx_en11 rfl) rfl (same36 _ _ _ _ _ [[99],[98],[97],[100]] _ ho (strs_of_box (A:=fun _=>False) [[99],[98],[97],[100]] bx35 (fun f=>f) (by decide) (by decide))) ?_;rintro _ w36 ⟨rfl,hw⟩;have hB:=hB.carry hw;have hn:=hn.carry hw;have hA:=hA.carry hw;have ho:=ho.carry hw;have hGr:=hGr.carry hw;have bx35:=bx35.carry hw;refine L.val (x_mv (v:=.bool _) rfl) rfl ?_;refine L.splitat (dj:=37) (b:=_) rfl (fun g37=>?_) (fun g37=>?_)
  ·have h37:=g37;refine L.gyes' (dj:=37) (b:=_) rfl rfl g37 ?_;refine L.val (x_mv (v:=.int _ _) rfl) rfl ?_;refine L.gyes' (dj:=37) (b:=_) rfl rfl g37 ?_;refine L.val (x_eql rfl rfl) rfl ?_;refine L.val (x_pick_t (v:=.bool _) (congrArg Value.bool g37) rfl) rfl ?_;refine L.val (x_mv (v:=.bool _) rfl) rfl ?_;refine L.splitat (dj:=41) (b:=_) rfl (fun g41=>?_) (fun g41=>?_)
   ·have h41:=of_decide_eq_true g41;refine L.gyes' (dj:=41) (b:=_) rfl rfl g41 ?_;refine L.val (x_mv (v:=.int _ _) rfl) rfl ?_;refine L.gyes' (dj:=41) (b:=_) rfl rfl g41 ?_;refine L.val (x_eql rfl rfl) rfl ?_;refine L.val (x_pick_t (v:=.bool _) (congrArg Value.bool g41) rfl) rfl ?_;refine L.val (x_mv (v:=.bool _) rfl) rfl ?_;refine L.splitat (dj:=45) (b:=_) rfl (fun g45=>?_) (fun g45=>?_)
    ·have h45:=of_decide_eq_true g45;refine L.gyes' (dj:=45) (b:=_) rfl rfl g45 ?_;refine L.val (x_mv (v:=.slice _ _ _) rfl) rfl ?_;refine L.gyes' (dj:=45) (b:=_) rfl rfl g45 ?_;refine L.val (x_len_slice Try.underlying32 rfl) rfl ?_;refine L.gyes' (dj:=45) (b:=_) rfl rfl g45 ?_;refine L.val (x_eql rfl rfl) rfl ?_;refine L.val (x_pick_t (v:=.bool _) (congrArg Value.bool g45) rfl) rfl ?_;refine L.val (x_mv (v:=.bool _) rfl) rfl ?_;refine L.splitat (dj:=50) (b:=_) rfl (fun g50=>?_) (fun g50=>?_)
     ·have h50:=of_decide_eq_true g50;obtain ⟨vg,hcg,hvg⟩:=gs_at hGr (k:=0) (by simp);obtain ⟨pvg,cvg,rfl,-⟩:=id hvg;refine L.gyes' (dj:=50) (b:=_) rfl rfl g50 ?_;refine L.val (x_mv (v:=.slice _ _ _) rfl) rfl ?_;refine L.gyes' (dj:=50) (b:=_) rfl rfl g50 ?_;refine L.val (x_ia1 (j:=0) Try.underlying32 kgrx_sz23 rfl rfl rfl (by simp)) rfl ?_;refine L.gyes' (dj:=50) (b:=_) rfl rfl g50 ?_;refine L.val (x_ld (v:=.slice _ _ _) kgrx_oc23 rfl hcg) rfl ?_;refine L.gyes' (dj:=50) (b:=_) rfl rfl g50 ?_;refine L.bs (sz:=1) (cells:=[S [97],S [98],S [99]]) Try.underlying23 kgrx_el9 rfl rfl rfl rfl (fun w54 bx54 hw hz54=>?_);have hB:=hB.carry hw;have hn:=hn.carry hw;have hA:=hA.carry hw;have ho:=ho.carry hw;have hGr:=hGr.carry hw;refine L.gyes' (dj:=50) (b:=_) rfl rfl g50 ?_;refine L.ret (x_call kgrx_en11 rfl) rfl (same36 _ _ _ _ _ [[97],[98],[99]] _ (hvg.carry hw) (strs_of_box (A:=fun _=>False) [[97],[98],[99]] bx54 (fun f=>f) (by decide) (by decide))) ?_;rintro _ w55 ⟨rfl,hw⟩;have hB:=hB.carry hw;have hn:=hn.carry hw;have hA:=hA.carry hw;have ho:=ho.carry hw;have hGr:=hGr.carry hw;have bx54:=bx54.carry hw;refine L.val (x_pick_t (v:=.bool _) (congrArg Value.bool g50) rfl) rfl ?_;refine L.val (x_mv (v:=.bool _) rfl) rfl ?_;refine L.splitat (dj:=57) (b:=_) rfl (fun g57=>?_) (fun g57=>?_)
      ·have h57:=g57;refine L.gyes' (dj:=57) (b:=_) rfl rfl g57 ?_;refine L.val (x_mv (v:=.slice _ _ _) rfl) rfl ?_;refine L.gyes' (dj:=57) (b:=_) rfl rfl g57 ?_;refine L.bs (sz:=1) (cells:=[S [98]]) Try.underlying23 kgrx_el9 rfl rfl rfl rfl (fun w59 bx59 hw hz59=>?_);have hB:=hB.carry hw;have hn:=hn.carry hw;have hA:=hA.carry hw;have ho:=ho.carry hw;have hGr:=hGr.carry hw;refine L.gyes' (dj:=57) (b:=_) rfl rfl g57 ?_;refine L.ret (x_call kgrx_en12 rfl) rfl (reachP _ _ _ _ arW [[98]] _ hA (strs_of_box (A:=fun _=>False) [[98]] bx59 (fun f=>f) (by decide) (by decide)) (by decide)) ?_;rintro v60 w60 ⟨hR60,hw⟩;have hB:=hB.carry hw;have hn:=hn.carry hw;have hA:=hA.carry hw;have ho:=ho.carry hw;have hGr:=hGr.carry hw;have bx59:=bx59.carry hw;rw [awR] at hR60;obtain ⟨p60,c60,rfl,-⟩:=id hR60;refine L.gyes' (dj:=57) (b:=_) rfl rfl g57 ?_;refine L.bs (sz:=1) (cells:=[S [98],S [99]]) Try.underlying23 kgrx_el9 rfl rfl rfl rfl (fun w61 bx61 hw hz61=>?_);have hB:=hB.carry hw;have hn:=hn.carry hw;have hA:=hA.carry hw;have ho:=ho.carry hw;have hGr:=hGr.carry hw;refine L.gyes' (dj:=57) (b:=_) rfl rfl g57 ?_;refine L.ret (x_call kgrx_en11 rfl) rfl (same36 _ _ _ _ _ [[98],[99]] _ (hR60.carry hw) (strs_of_box (A:=fun _=>False) [[98],[99]] bx61 (fun f=>f) (by decide) (by decide))) ?_;rintro _ w62 ⟨rfl,hw⟩;have hB:=hB.carry hw;have hn:=hn.carry hw;have hA:=hA.carry hw;have ho:=ho.carry hw;have hGr:=hGr.carry hw;have bx61:=bx61.carry hw;refine L.val (x_pick_t (v:=.bool _) (congrArg Value.bool g57) rfl) rfl ?_;refine L.val (x_mv (v:=.bool _) rfl) rfl ?_;refine L.splitat (dj:=64) (b:=_) rfl (fun g64=>?_) (fun g64=>?_)
       ·have h64:=g64;refine L.gyes' (dj:=64) (b:=_) rfl rfl g64 ?_;refine L.val (x_mv (v:=.slice _ _ _) rfl) rfl ?_;refine L.gyes' (dj:=64) (b:=_) rfl rfl g64 ?_;refine L.ret (x_call kgrx_en14 rfl) rfl (pathP _ _ arW [97] [99] _ hA (by decide) (by decide) (by decide)) ?_;rintro v66 w66 ⟨⟨q66,hq66,hR66⟩,hw⟩;have hB:=hB.carry hw;have hn:=hn.carry hw;have hA:=hA.carry hw;have ho:=ho.carry hw;have hGr:=hGr.carry hw;rw [hq66.uniq awP] at hR66;obtain ⟨p66,c66,rfl,-⟩:=id hR66;refine L.gyes' (dj:=64) (b:=_) rfl rfl g64 ?_;refine L.bs (sz:=1) (cells:=[S [97],S [98],S [99]]) Try.underlying23 kgrx_el9 rfl rfl rfl rfl (fun w67 bx67 hw hz67=>?_);have hB:=hB.carry hw;have hn:=hn.carry hw;have hA:=hA.carry hw;have ho:=ho.carry hw;have hGr:=hGr.carry hw;refine L.gyes' (dj:=64) (b:=_) rfl rfl g64 ?_;refine L.ret (x_call kgrx_en11 rfl) rfl (same36 _ _ _ _ _ [[97],[98],[99]] _ (hR66.carry hw) (strs_of_box (A:=fun _=>False) [[97],[98],[99]] bx67 (fun f=>f) (by decide) (by decide))) ?_;rintro _ w68 ⟨rfl,hw⟩;have hB:=hB.carry hw;have hn:=hn.carry hw;have hA:=hA.carry hw;have ho:=ho.carry hw;have hGr:=hGr.carry hw;have bx67:=bx67.carry hw;refine L.val (x_pick_t (v:=.bool _) (congrArg Value.bool g64) rfl) rfl ?_;refine L.val (x_as (v:=.bool _) rfl) rfl ?_;refine L.nil (thn_n (W.ret (fin_mk (.inr rfl) ?_)));exact ⟨vb (by decide),hB⟩
       ·have h64:=g64;exact absurd g64 (by decide)
      ·have h57:=g57;exact absurd g57 (by decide)
     ·have h50:=of_decide_eq_false g50;exact absurd g50 (by decide)
    ·have h45:=of_decide_eq_false g45;exact absurd g45 (by decide)
   ·have h41:=of_decide_eq_false g41;exact absurd g41 (by decide)
  ·have h37:=g37;exact absurd g37 (by decide)
end Go.Gx
namespace Go.Gx
open Go.Proofs Go.Sort
theorem at_has {l:List Str} {x:Str}:(decide ((0:Int)≤atI l x))=l.contains x:=by
  unfold atI;cases h:l.contains x
  · rw [if_neg (by simp)];rfl
  · rw [if_pos rfl];exact decide_eq_true om_
section
variable {E:Str→List Str} {U:List Str} {x y:Str}
end
end Go.Gx
namespace Go.Gx
open Go.Sort
theorem circle {T:Str→Str→Prop} (ht:∀ x y z,T x y→T y z→T x z):∀ (n:Nat) (l:List Str),l.length≤n→l≠[]→(∀ x∈l,∃ y∈l,T x y)→∃ x∈l,T x x:=by
  intro n;induction n with
  | zero=>intro l h hne;exact absurd (List.eq_nil_of_length_eq_zero om_) hne
  | succ n ih=>
    intro l h hne hs;cases l with
    | nil=>exact absurd rfl hne
    | cons x l=>
      obtain ⟨y,hy,hxy⟩:=hs x (by simp);by_cases e:y=x
      · exact ⟨x,by simp,by rw [e] at hxy;exact hxy⟩
      · have hyl:y∈l:=(List.mem_cons.1 hy).resolve_left e;obtain ⟨z,hz,hzz⟩:=ih l (by simpa using h) (fun e=>by rw [e] at hyl;cases hyl) fun z hz=>by
          obtain ⟨u,hu,hzu⟩:=hs z (List.mem_cons_of_mem _ hz);rcases List.mem_cons.1 hu with e2 | hu
          · exact ⟨y,hyl,ht _ _ _ (by rw [e2] at hzu;exact hzu) hxy⟩
          · exact ⟨u,hu,hzu⟩
        exact ⟨z,List.mem_cons_of_mem _ hz,hzz⟩
def Rt1 (E:Str→List Str) (x z:Str):Prop:=∃ y,y∈E x∧Rt E y z
theorem Rt1.trans {E:Str→List Str} {x y z:Str} (h:Rt1 E x y) (k:Rt1 E y z):Rt1 E x z:=by
  obtain ⟨a,ha,h1⟩:=h;obtain ⟨b,hb,h2⟩:=k;exact ⟨a,ha,h1.trans ((Rt.one hb).trans h2)⟩
theorem rt1_self {E:Str→List Str} {U:List Str} (hU:∀ x∈U,∀ y∈E x,y∈U) {x:Str} (hx:x∈U) (h:Rt1 E x x):x∈E x∨∃ y∈U,y≠x∧Rt E x y∧Rt E y x:=by
  obtain ⟨y,hy,hyx⟩:=h;by_cases e:y=x
  · rw [e] at hy;exact .inl hy
  · exact .inr ⟨y,hU x hx y hy,e,Rt.one hy,hyx⟩
def OrdOk (E:Str→List Str) (o:List Str):Prop:=∀ i,i<o.length→∀ y∈E (o.getD i []),y∈o.take i
theorem ord_nil (E:Str→List Str):OrdOk E []:=fun i hi=>absurd hi (by simp)
theorem ord_snoc {E:Str→List Str} {o:List Str} {n:Str} (h:OrdOk E o) (hn:∀ y∈E n,y∈o):OrdOk E (o++[n]):=fun i hi y hy=>by
  rw [List.length_append,List.length_singleton] at hi;by_cases e:i=o.length
  · subst e;rw [List.getD_eq_getElem?_getD,List.getElem?_append_right (Nat.le_refl _),Nat.sub_self] at hy;rw [List.take_left' rfl];exact hn y hy
  · rw [List.getD_eq_getElem?_getD,List.getElem?_append_left om_,← List.getD_eq_getElem?_getD] at hy;rw [List.take_append_of_le_length om_];exact h i om_ y hy
theorem idx_take {l:List Str} {x:Str} {i:Nat} (h:x∈l.take i):l.idxOf x<i:=by
  have e:l=l.take i++l.drop i:=(List.take_append_drop i l).symm;rw [e,List.idxOf_append,if_pos h];have:=List.idxOf_lt_length_iff.2 h;rw [List.length_take] at this;omega
theorem ord_idx {E:Str→List Str} {o:List Str} (h:OrdOk E o) {x y:Str} (hx:x∈o) (hy:y∈E x):y∈o∧o.idxOf y<o.idxOf x:=by
  have hi:=List.idxOf_lt_length_iff.2 hx;have hg:o.getD (o.idxOf x) []=x:=by rw [List.getD_eq_getElem?_getD,List.getElem?_eq_getElem hi];simp
  have:=h (o.idxOf x) hi y (by rw [hg];exact hy);exact ⟨List.mem_of_mem_take this,idx_take this⟩
theorem ord_rt {E:Str→List Str} {o:List Str} (h:OrdOk E o) {x y:Str} (hx:x∈o) (hr:Rt E x y):y∈o∧o.idxOf y≤o.idxOf x:=by
  induction hr with
  | refl=>exact ⟨hx,Nat.le_refl _⟩
  | step _ hy ih=>
    have h2:=ord_idx h ih.1 hy;exact ⟨h2.1,by omega⟩
theorem ord_none {E:Str→List Str} {o:List Str} (h:OrdOk E o) {x:Str} (hx:x∈o):¬ Rt1 E x x:=fun ⟨y,hy,hr⟩=>by
  have h1:=ord_idx h hx hy;have h2:=ord_rt h h1.1 hr;omega
theorem ordF_some {all:List Str} {l:List Arc}:∀ (k:Nat) (out o:List Str),ordF all l k out=some o→OrdOk (nextS l) out→out.Nodup→(∀ x∈out,x∈all)→OrdOk (nextS l) o∧o.Nodup∧(∀ x∈o,x∈all)∧o.length=out.length+k
  | 0,out,o,h,h1,h2,h3=>by
    rw [ordF] at h;have e:=Option.some.inj h;subst e;exact ⟨h1,h2,h3,rfl⟩
  | k+1,out,o,h,h1,h2,h3=>by
    rw [ordF] at h;cases hp:pickL all l out with
    | none=>rw [hp] at h;cases h
    | some n=>
      rw [hp] at h;obtain ⟨p1,p2,p3⟩:=pick_mem hp;rw [ready_next,List.all_eq_true] at p3;obtain ⟨a1,a2,a3,a4⟩:=ordF_some k (out++[n]) o h (ord_snoc h1 fun y hy=>by simpa using p3 y hy) (List.nodup_append.2 ⟨h2,by simp,fun a ha b hb e=>by rw [List.mem_singleton.1 hb] at e;rw [e] at ha;exact p2 ha⟩) fun x hx=>by
        rcases List.mem_append.1 hx with hx | hx
        · exact h3 x hx
        · rw [List.mem_singleton.1 hx];exact p1
      exact ⟨a1,a2,a3,by rw [a4,List.length_append,List.length_singleton];omega⟩
theorem stuck {all:List Str} {l:List Arc} {out:List Str} (hU:∀ x∈all,∀ y∈nextS l x,y∈all) (hl:out.length<all.length) (hn:all.Nodup) (hr:∀ x∈all,x∉out→readyL l x out=false):∃ x∈all,Rt1 (nextS l) x x:=by
  have hne:leftL all out≠[]:=fun e=>by
    have:=strict_len_le hn (m:=out) fun x hx=>by
      refine Classical.byContradiction fun h=>?_
      have hm:x∈leftL all out:=by unfold leftL;rw [List.mem_filter];exact ⟨hx,by simpa using h⟩
      rw [e] at hm;cases hm
    omega
  have hmem:∀ x,x∈leftL all out↔x∈all∧x∉out:=fun x=>by unfold leftL;rw [List.mem_filter];simp
  obtain ⟨x,hx,h⟩:=circle (T:=Rt1 (nextS l)) (fun _ _ _ a b=>a.trans b) _ (leftL all out) (Nat.le_refl _) hne fun x hx=>by
    obtain ⟨h1,h2⟩:=(hmem x).1 hx;have h3:=hr x h1 h2;rw [ready_next,List.all_eq_false] at h3;obtain ⟨y,hy,h4⟩:=h3;exact ⟨y,(hmem y).2 ⟨hU x h1 y hy,by simpa using h4⟩,y,hy,Rt.refl⟩
  exact ⟨x,((hmem x).1 hx).1,h⟩
theorem ordF_none {all:List Str} {l:List Arc} (hU:∀ x∈all,∀ y∈nextS l x,y∈all) (hn:all.Nodup):∀ (k:Nat) (out:List Str),ordF all l k out=none→out.length+k=all.length→∃ x∈all,Rt1 (nextS l) x x
  | 0,out,h,_=>by rw [ordF] at h;cases h
  | k+1,out,h,hl=>by
    rw [ordF] at h;cases hp:pickL all l out with
    | some n=>
      rw [hp] at h;exact ordF_none hU hn k (out++[n]) h (by rw [List.length_append,List.length_singleton];omega)
    | none=>
      refine stuck hU (out:=out) om_ hn fun x hx hxo=>?_
      have:=List.find?_eq_none.1 hp x hx;simpa [hxo] using this
theorem levF_some {all:List Str} {l:List Arc} (hn:all.Nodup):∀ (k:Nat) (done:List Str) (out o:List (List Str)),levF all l k done out=some o→out.flatten=done→DoneL all done→o.flatten.length=all.length
  | 0,_,_,_,h,_,_=>by rw [levF] at h;cases h
  | k+1,done,out,o,h,h1,h2=>by
    rw [levF] at h;split at h
    · rename_i hl
      have e:=Option.some.inj h;subst e;rw [h1];have:=strict_len_le h2.1 h2.2;omega
    · split at h
      · cases h
      · exact levF_some hn k _ _ o h (by rw [List.flatten_append,h1];simp) (h2.level hn l)
theorem levF_none {all:List Str} {l:List Arc} (hU:∀ x∈all,∀ y∈nextS l x,y∈all) (hn:all.Nodup):∀ (k:Nat) (done:List Str) (out:List (List Str)),levF all l k done out=none→all.length<k+done.length→DoneL all done→∃ x∈all,Rt1 (nextS l) x x
  | 0,done,_,_,hk,h2=>by
    have:=strict_len_le h2.1 h2.2;omega
  | k+1,done,out,h,hk,h2=>by
    rw [levF] at h;split at h
    · cases h
    · rename_i hl
      split at h
      · rename_i he
        refine stuck hU (out:=done) om_ hn fun x hx hxo=>?_
        cases hr:readyL l x done with
        | false=>rfl
        | true=>
          have hm:x∈levelL all l done:=by unfold levelL;rw [List.mem_filter];simp [hx,hxo,hr]
          rw [he] at hm;cases hm
      · rename_i he
        refine levF_none hU hn k _ _ h ?_ (h2.level hn l);have:=List.length_pos_iff.2 he;rw [List.length_append];omega
theorem ord_append {E:Str→List Str} {o:List Str} (h:OrdOk E o):∀ t:List Str,(∀ x∈t,∀ y∈E x,y∈o)→OrdOk E (o++t):=by
  intro t ht i hi y hy;rw [List.length_append] at hi;by_cases e:i<o.length
  · rw [List.getD_eq_getElem?_getD,List.getElem?_append_left e,← List.getD_eq_getElem?_getD] at hy;rw [List.take_append_of_le_length om_];exact h i e y hy
  · have hit:i - o.length<t.length:=by omega
    rw [List.getD_eq_getElem?_getD,List.getElem?_append_right om_,List.getElem?_eq_getElem hit] at hy;have h1:=ht _ (List.getElem_mem hit) y hy;rw [List.take_append];refine List.mem_append.2 (.inl ?_);rw [List.take_of_length_le om_];exact h1
theorem levF_ord {all:List Str} {l:List Arc} (hn:all.Nodup):∀ (k:Nat) (done:List Str) (out o:List (List Str)),levF all l k done out=some o→out.flatten=done→DoneL all done→OrdOk (nextS l) done→OrdOk (nextS l) o.flatten∧DoneL all o.flatten
  | 0,_,_,_,h,_,_,_=>by rw [levF] at h;cases h
  | k+1,done,out,o,h,h1,h2,h3=>by
    rw [levF] at h;split at h
    · have e:=Option.some.inj h;subst e;rw [h1];exact ⟨h3,h2⟩
    · split at h
      · cases h
      · refine levF_ord hn k _ _ o h (by rw [List.flatten_append,h1];simp) (h2.level hn l) (ord_append h3 _ fun x hx y hy=>?_);have h4:=(level_mem.1 hx).2.2;rw [ready_next,List.all_eq_true] at h4;simpa using h4 y hy
theorem fill_all {all o:List Str} (hn:all.Nodup) (h:DoneL all o) (hl:o.length=all.length) {x:Str} (hx:x∈all):x∈o:=by
  refine Classical.byContradiction fun hne=>?_
  have:=strict_len_le (l:=x :: o) (m:=all) (List.nodup_cons.2 ⟨hne,h.1⟩) fun y hy=>by
    rcases List.mem_cons.1 hy with e | hy
    · rw [e];exact hx
    · exact h.2 y hy
  rw [List.length_cons] at this;omega
section
variable {names:List Str} {l:List Arc}
theorem order_facts:(ordS names l=none↔∃ x∈onceL names,Rt1 (nextS (countL (onceL names) l)) x x)∧(levS names l=none↔∃ x∈onceL names,Rt1 (nextS (countL (onceL names) l)) x x)∧
    (∀ o,ordS names l=some o→OrdOk (nextS (countL (onceL names) l)) o∧DoneL (onceL names) o∧o.length=(onceL names).length)∧∀ o,levS names l=some o→o.flatten.length=(onceL names).length:=by
  have hn:(onceL names).Nodup:=(strict_once _).nodup;have hU:∀ x∈onceL names,∀ y∈nextS (countL (onceL names) l) x,y∈onceL names:=fun x _ y hy=>(mem_count.1 (mem_next.1 hy)).2.2
  have f1:∀ o,ordS names l=some o→OrdOk (nextS (countL (onceL names) l)) o∧DoneL (onceL names) o∧o.length=(onceL names).length:=fun o h=>by
    obtain ⟨a1,a2,a3,a4⟩:=ordF_some _ _ _ h (ord_nil _) List.nodup_nil (by simp);exact ⟨a1,⟨a2,a3⟩,by rw [a4];simp⟩
  have f2:∀ o,levS names l=some o→OrdOk (nextS (countL (onceL names) l)) o.flatten∧DoneL (onceL names) o.flatten∧o.flatten.length=(onceL names).length:=fun o h=>
    have h1:=levF_ord hn _ _ _ _ h rfl (DoneL.nil _) (ord_nil _)
    ⟨h1.1,h1.2,levF_some hn _ _ _ _ h rfl (DoneL.nil _)⟩
  refine ⟨⟨fun h=>ordF_none hU hn _ _ h (by simp),fun ⟨x,hx,hr⟩=>?_⟩,⟨fun h=>levF_none hU hn _ _ _ h (by simp) (DoneL.nil _),fun ⟨x,hx,hr⟩=>?_⟩,f1,fun o h=>(f2 o h).2.2⟩
  · cases h:ordS names l with
    | none=>rfl
    | some o=>
      obtain ⟨a1,a2,a3⟩:=f1 o h;exact absurd hr (ord_none a1 (fill_all hn a2 a3 hx))
  · cases h:levS names l with
    | none=>rfl
    | some o=>
      obtain ⟨a1,a2,a3⟩:=f2 o h;exact absurd hr (ord_none a1 (fill_all hn a2 a3 hx))
end
theorem rt_ne {E:Str→List Str} {x y:Str} (h:Rt E x y):x=y∨Rt1 E x y:=by
  induction h with
  | refl=>exact .inl rfl
  | step h hy ih=>
    rcases ih with e | ⟨a,ha,h2⟩
    · rw [← e] at hy;exact .inr ⟨_,hy,Rt.refl⟩
    · exact .inr ⟨a,ha,h2.step hy⟩
theorem circle_iff {U:List Str} {cl:List Arc} (hs:Strict U) (hU:∀ a∈cl,a.1∈U∧a.2∈U):(∃ x∈U,Rt1 (nextS cl) x x)↔(∃ c∈groupsS (nextS cl) U,1<c.length)∨∃ a∈cl,a.1=a.2:=by
  constructor
  · rintro ⟨x,hx,h⟩;rcases rt1_self (fun x _ y hy=>(hU _ (mem_next.1 hy)).2) hx h with h | ⟨y,hy,hne,h1,h2⟩
    · exact .inr ⟨_,mem_next.1 h,rfl⟩
    · refine .inl ⟨clsU (nextS cl) U x,(mem_groups hs).2 ⟨x,hx,rfl⟩,?_⟩;have:=strict_len_le (l:=[x,y]) (m:=clsU (nextS cl) U x) (by simp [Ne.symm hne]) fun z hz=>by
        rcases List.mem_cons.1 hz with e | hz
        · rw [e];exact mem_cls.2 ⟨hx,Rt.refl,Rt.refl⟩
        · rw [List.mem_singleton.1 hz];exact mem_cls.2 ⟨hy,h1,h2⟩
      have:2≤(clsU (nextS cl) U x).length:=this;omega
  · rintro (⟨c,hc,hl⟩ | ⟨a,ha,e⟩)
    · obtain ⟨u,hu,rfl⟩:=(mem_groups hs).1 hc;have hnd:(clsU (nextS cl) U u).Nodup:=by unfold clsU;exact Strict.nodup (hs.filter _)
      match hcl:clsU (nextS cl) U u,hl,hnd with
      | x :: y :: t,_,hnd=>
        have hx:=mem_cls.1 (show x∈clsU (nextS cl) U u by rw [hcl];simp);have hy:=mem_cls.1 (show y∈clsU (nextS cl) U u by rw [hcl];simp);have hne:x≠y:=fun e=>by rw [e] at hnd;simp at hnd
        rcases rt_ne (hx.2.2.trans hy.2.1) with e | h1
        · exact absurd e hne
        · obtain ⟨b,hb,h2⟩:=h1;exact ⟨x,hx.1,b,hb,h2.trans (hy.2.2.trans hx.2.1)⟩
    · refine ⟨a.1,(hU a ha).1,a.1,mem_next.2 ?_,Rt.refl⟩;have:(a.1,a.1)=a:=by rw [Prod.ext_iff];exact ⟨rfl,e⟩
      rw [this];exact ha
theorem groups_len {E:Str→List Str} {U:List Str} (hs:Strict U):(groupsS E U).flatten.length=U.length:=by
  have hp:(groupsS E U).flatten.Perm U:=by
    refine (List.perm_ext_iff_of_nodup ?_ hs.nodup).2 fun x=>?_
    · unfold List.Nodup;rw [List.pairwise_flatten];refine ⟨fun c hc=>?_,(groups_sorted hs).imp_of_mem fun {a b} ha hb hab x hx y hy e=>?_⟩
      · obtain ⟨u,-,rfl⟩:=(mem_groups hs).1 hc;unfold clsU;exact Strict.nodup (hs.filter _)
      · obtain ⟨u,-,rfl⟩:=(mem_groups hs).1 ha;obtain ⟨v,-,rfl⟩:=(mem_groups hs).1 hb;have h1:=mem_cls.1 hx;have h2:=mem_cls.1 hy;rw [← e] at h2;rw [cls_same h1.2.1 h1.2.2,cls_same h2.2.1 h2.2.2,ltL_irr] at hab;cases hab
    · rw [List.mem_flatten];constructor
      · rintro ⟨c,hc,hx⟩;obtain ⟨u,-,rfl⟩:=(mem_groups hs).1 hc;exact (mem_cls.1 hx).1
      · intro hx;exact ⟨_,(mem_groups hs).2 ⟨x,hx,rfl⟩,mem_cls.2 ⟨hx,Rt.refl,Rt.refl⟩⟩
  exact hp.length_eq
theorem flat_takeL {α : Type} {gs:List (List α)} {i:Nat} (h:i<gs.length):(gs.take (i+1)).flatten.length=(gs.take i).flatten.length+(gs.getD i []).length:=by
  rw [List.take_succ_eq_append_getElem h,List.flatten_append,List.length_append,List.getD_eq_getElem?_getD,List.getElem?_eq_getElem h];simp
theorem flat_take_le {α : Type} (gs:List (List α)) (i:Nat):(gs.take i).flatten.length≤gs.flatten.length:=by
  conv=>rhs;rw [← List.take_append_drop i gs]
  rw [List.flatten_append,List.length_append];omega
theorem any_take {α : Type} {p:α → Bool} {l:List α} {i:Nat} (d:α) (h:i<l.length):(l.take (i+1)).any p=((l.take i).any p || p (l.getD i d)):=by
  rw [List.take_succ_eq_append_getElem h,List.any_append,List.getD_eq_getElem?_getD,List.getElem?_eq_getElem h];simp
theorem order_idx {names:List Str} {l:List Arc} {o:List Str} (h:ordS names l=some o) {a:Arc} (ha:a∈l) (h1:a.1∈o) (h2:a.2∈o):o.idxOf a.2<o.idxOf a.1:=by
  obtain ⟨-,-,f,-⟩:=order_facts (names:=names) (l:=l);obtain ⟨a1,a2,-⟩:=f o h;exact (ord_idx a1 h1 (mem_next.2 (mem_count.2 ⟨ha,a2.2 _ h1,a2.2 _ h2⟩))).2
theorem order_all {names:List Str} {l:List Arc} {o:List Str} (h:ordS names l=some o) {x:Str} (hx:x∈names):x∈o:=by
  obtain ⟨-,-,f,-⟩:=order_facts (names:=names) (l:=l);obtain ⟨a1,a2,a3⟩:=f o h;exact fill_all (strict_once _).nodup a2 a3 (mem_once.2 hx)
theorem law_circle (names:List Str) (l:List Arc):((groupsS (nextS (countL (onceL names) l)) (onceL names)).any (fun c=>decide (1<c.length)) || l.any (fun a=>a.1 == a.2 && names.contains a.1))=(ordS names l).isNone:=by
  obtain ⟨f,-,-,-⟩:=order_facts (names:=names) (l:=l);rw [Bool.eq_iff_iff,Option.isNone_iff_eq_none,f,circle_iff (strict_once _) (fun a ha=>(mem_count.1 ha).2),Bool.or_eq_true,List.any_eq_true,List.any_eq_true];constructor
  · rintro (⟨c,hc,h⟩ | ⟨a,ha,h⟩)
    · exact .inl ⟨c,hc,of_decide_eq_true h⟩
    · rw [Bool.and_eq_true,beq_iff_eq,List.contains_iff_mem] at h;exact .inr ⟨a,mem_count.2 ⟨ha,mem_once.2 h.2,by rw [← h.1];exact mem_once.2 h.2⟩,h.1⟩
  · rintro (⟨c,hc,h⟩ | ⟨a,ha,h⟩)
    · exact .inl ⟨c,hc,decide_eq_true h⟩
    · have h1:=mem_count.1 ha;exact .inr ⟨a,h1.1,by rw [Bool.and_eq_true,beq_iff_eq,List.contains_iff_mem];exact ⟨h,mem_once.1 h1.2.1⟩⟩
theorem lev_none (names:List Str) (l:List Arc):(levS names l).isNone=(ordS names l).isNone:=by
  obtain ⟨f,g,-,-⟩:=order_facts (names:=names) (l:=l);rw [Bool.eq_iff_iff,Option.isNone_iff_eq_none,Option.isNone_iff_eq_none,f,g]
end Go.Gx
