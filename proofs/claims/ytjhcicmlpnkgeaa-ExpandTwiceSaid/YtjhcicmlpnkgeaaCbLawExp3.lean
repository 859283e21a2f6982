/- The laws ExpandClosed, ExpandTwice. Conditions: none. -/
import Derived.SizedLaws
import Derived.Deep.Slices
import Derived.ProofKit
import Derived.Test.YtjhcicmlpnkgeaaCbLawExp
import Derived.Test.YtjhcicmlpnkgeaaCbCheck
import Derived.Test.YtjhcicmlpnkgeaaCbRep
namespace Go.Gx
open Go.Proofs
theorem klawexp3_ag25:aggT Try.prog 25 5=true:=by kernel_rfl
theorem klawexp3_en10:Go.Proofs.Enters Try.prog 10:=Go.Proofs.enters_of Try.func10 kr_ rfl
theorem klawexp3_en11:Go.Proofs.Enters Try.prog 11:=Go.Proofs.enters_of Try.func11 kr_ rfl
theorem klawexp3_en13:Go.Proofs.Enters Try.prog 13:=Go.Proofs.enters_of Try.func13 kr_ rfl
theorem klawexp3_en15:Go.Proofs.Enters Try.prog 15:=Go.Proofs.enters_of Try.func15 kr_ rfl
theorem klawexp3_en18:Go.Proofs.Enters Try.prog 18:=Go.Proofs.enters_of Try.func18 kr_ rfl
theorem klawexp3_en19:Go.Proofs.Enters Try.prog 19:=Go.Proofs.enters_of Try.func19 kr_ rfl
theorem klawexp3_en9:Go.Proofs.Enters Try.prog 9:=Go.Proofs.enters_of Try.func9 kr_ rfl
theorem klawexp3_fo37_2:fieldOff Try.prog 37 2=some 2:=by kernel_rfl
theorem klawexp3_mixed:Try.prog.follows .mixedOrders=true:=by kernel_rfl
theorem klawexp3_si25:structInfo Try.prog 25=some ([(0,1),(1,1),(2,1),(3,1),(4,1)],[Value.int .i64 0,S [],S [],Value.slice none 0 0,Value.slice none 0 0]):=by kernel_rfl
theorem klawexp3_sz37:(Try.prog.info? 37).map (·.size)=some 7:=by kernel_rfl
theorem klawexp3_zr25:(Try.prog.info? 25).bind (·.zero)=some (Value.agg [Value.int .i64 0,S [],S [],Value.slice none 0 0,Value.slice none 0 0].toArray):=by kernel_rfl
theorem law_closed (A0 B0:Nat→Prop) (s:Sh) (env:List Bd) (xs:List Value) (v:Value) (w:World) (hs0:ShC A0 w xs s) (hE0:BdsAt B0 w v env):
    Ret Try.prog 5 #[.agg xs.toArray,v] w fun v' w'=>v'=.bool true∧Bel w w':=by
  obtain ⟨A,hs,hA⟩:∃ A1:Nat→Prop,ShC A1 w xs s∧(∀ k,w.heap.size≤k→A1 k):=⟨_,hs0.up,fun _=>.inr⟩;obtain ⟨B,hE0,hB1⟩:∃ A1:Nat→Prop,BdsAt A1 w v env∧(∀ k,w.heap.size≤k→A1 k):=⟨_,hE0.up,fun _=>.inr⟩;obtain ⟨pv,capv,row,rfl,p1,p2,p3,hE⟩:=hE0;have hEb:∀ {w'},RecRow BdC 7 B w' pv row env→BdsAt B w' (.slice pv env.length capv) env:=fun h=>⟨pv,capv,row,rfl,p1,p2,p3,h⟩
  have hlen:=hs.len;refine ret_of_W Try.func5 rfl (Nat.le_of_ble_eq_true rfl) (res1 rfl) ?_;have hB:=Gr.refl (fun _=>False) w;refine W.seq (W.region (L.box (cs:=xs) rfl rfl (fun w2 bx2 hw hz2=>?_)));have hB:=hB.carry hw;have hs:=hs.carry hw;have hE:=hE.carry hw;refine L.val (x_as (v:=.bool _) rfl) rfl ?_;refine L.nil (thn_n (W.seq (W.seq (W.region (L.val (x_mv (v:=.slice _ _ _) rfl) rfl ?_)))));refine L.ret (x_call klawexp3_en9 rfl) rfl (small11 _ env _ _ (hEb hE)) ?_;rintro _ w10 ⟨rfl,hw⟩;have hB:=hB.carry hw;have hs:=hs.carry hw;have hE:=hE.carry hw;have bx2:=bx2.carry hw;refine L.val (x_not rfl) rfl ?_;refine L.nil (thn_n (W.cond (b:=_) rfl (fun g11=>?_) (fun g11=>?_)))
  ·have h11:=(not_t g11);refine W.seq (W.region (L.ret (x_call klawexp3_en10 rfl) rfl (awake11 _) ?_));rintro _ w12 ⟨rfl,hw⟩;have hB:=hB.carry hw;have hs:=hs.carry hw;have hE:=hE.carry hw;have bx2:=bx2.carry hw;refine L.val (x_as (v:=.bool _) rfl) rfl ?_;refine L.nil (thn_n (W.ret (thn_r (fin_mk (.inr rfl) ?_))));exact ⟨rfl,hB⟩
  ·have h11:=(not_f g11);have hsm:smallE env=true:=by simpa using h11
   obtain ⟨hl60,-⟩:=smallE_iff.1 hsm;refine W.skip (thn_n (W.seq (W.region (L.val (x_as (v:=.bool _) rfl) rfl ?_))));refine L.nil (thn_n (W.seq (W.seq (W.region (L.val (x_as (v:=.int _ _) rfl) rfl ?_)))));refine L.nil (thn_n (W.block (W.loop (fun m' E w'=>∃ (i:Nat),m'=env.length - i∧E 1=.slice pv env.length capv∧E 2=.pointer (some ⟨w.heap.size,0,none⟩)∧E 5=.bool ((env.take i).all fun b=>closedS b.sh)∧E 6=.int .i64 (i:Nat)∧(Bel w w')∧(ShC A w' xs s)∧(RecRow BdC 7 B w' pv row env)∧(Box w' w.heap.size 25 xs)∧(i≤env.length)) (env.length) ?_ ?_)))
   ·exact ⟨0,by omega,vi_,vi_,by first | rfl | exact vi om_ | exact vb (by assumption),vi_,ao_,ao_,ao_,ao_,ao_⟩
   ·rintro _ E wL13 ⟨i,em,e1,e2,e5,e6,hB,hs,hE,bx2,hi⟩;rw [upd_self e1,upd_self e2,upd_self e5,upd_self e6];refine W.seq (W.seq (W.region (L.val (x_mv (v:=.int _ _) rfl) rfl ?_)));refine L.val (x_mv (v:=.slice _ _ _) rfl) rfl ?_;refine L.val (x_len_slice Try.underlying26 rfl) rfl ?_;refine L.val (x_lss rfl rfl) rfl ?_;refine L.nil (thn_n (W.cond (b:=_) rfl (fun g16=>?_) (fun g16=>?_)))
    ·have h16:=of_decide_eq_true g16;have hip:i<env.length:=by omega
     obtain ⟨pb,po,rfl,-,-⟩:=hE.elem hip;obtain ⟨rs,e1,hr,hlo,hln⟩:=hE.each i hip;have hrs:=hr.len;have e2:(env.take (i+1)).all (fun b=>closedS b.sh)=((env.take i).all (fun b=>closedS b.sh) && closedS (env.getD i default).sh):=by
       have e3:env.take (i+1)=env.take i++[env.getD i default]:=by rw [List.take_succ_eq_append_getElem hip,List.getD_eq_getElem?_getD,List.getElem?_eq_getElem hip];rfl
       rw [e3,List.all_append];simp
     have e2:=e2.symm;refine W.skip (thn_n (W.seq (W.block (W.region (L.val (x_mv (v:=.bool _) rfl) rfl ?_)))));refine L.val (x_mv (v:=.bool _) rfl) rfl ?_;refine' L.group 6 21 26 26 20 true rfl ?_ ?_ ?_;rotate_left 1
     ·intro g20 hg20;have h20:=g20;refine L.gyes' (dj:=20) (b:=_) rfl rfl g20 ?_;refine L.val (x_mv (v:=.slice _ _ _) rfl) rfl ?_;refine L.gyes' (dj:=20) (b:=_) rfl rfl g20 ?_;refine L.val (x_mv (v:=.int _ _) rfl) rfl ?_;refine L.gyes' (dj:=20) (b:=_) rfl rfl g20 ?_;refine L.val (x_ia (j:=i) Try.underlying26 klawexp3_sz37 rfl rfl om_ om_) rfl ?_;refine L.gyes' (dj:=20) (b:=_) rfl rfl g20 ?_;refine L.val (x_fa klawexp3_fo37_2 rfl) rfl ?_;refine L.gyes' (dj:=20) (b:=_) rfl rfl g20 ?_;refine L.val (x_ldn (vs:=rs) klawexp3_ag25 rfl hrs (by have:=hE.rowD hip 2 (m:=5) (by rw [e1];exact hrs);rw [e1] at this;exact this)) rfl ?_;refine L.gyes' (dj:=20) (b:=_) rfl rfl g20 ?_;refine L.ret (x_call klawexp3_en18 rfl) rfl (closedL _ _ _ _ hr) ?_;rintro _ w26 ⟨rfl,hw⟩;have hB:=hB.carry hw;have hs:=hs.carry hw;have hE:=hE.carry hw;have bx2:=bx2.carry hw;have hg20:=hg20.carry hw;refine L.nil (thn_n ⟨rfl,?_,?_,fun _=>rfl⟩)
      ·exact hg20
      ·repeat (first | exact jeq.refl _ _ _ | refine jeq.upd rfl ?_ | refine jeq.jk rfl rfl ?_)
     ·intro g20;(iterate 6 refine L.gno (dj:=20) (b:=_) rfl rfl g20 rfl ?_);refine L.nil (thn_n ⟨rfl,Gr.refl _ _,?_⟩);refine ⟨?_,fun h=>h.elim⟩;repeat (first | exact jeq.refl _ _ _ | refine jeq.upd rfl ?_ | refine jeq.jk rfl rfl ?_)
     intro J20 w20 hw j20;have hB:=hB.carry hw;have hs:=hs.carry hw;have hE:=hE.carry hw;have bx2:=bx2.carry hw;refine L.val (x_and rfl j20) rfl ?_;refine L.val (x_as (v:=.bool _) rfl) rfl ?_;refine L.nil (blk_n (thn_n (W.region (L.val (x_mv (v:=.int _ _) rfl) rfl ?_))));refine L.val (x_add rfl rfl (wr64 om_)) rfl ?_;refine L.val (x_as (v:=.int _ _) rfl) rfl ?_;refine L.nil (thn_n ⟨rfl,?_⟩);refine ⟨_,?_,i+1,rfl,vi_,vi_,by first | rfl | exact vi om_ | exact vb (by assumption),vi_,ao_,ao_,ao_,ao_,ao_⟩;omega
    ·have h16:=dlt_f g16;have hii:i=env.length:=by omega
     subst hii;rw [List.take_length];refine W.exit (thn_x (thn_x (blk_hit ?_)));refine thn_n (W.seq (W.region (L.val (x_ldn (vs:=xs) klawexp3_ag25 rfl hlen (bx2.row hlen)) rfl ?_)));refine L.val (x_mv (v:=.slice _ _ _) rfl) rfl ?_;refine L.ret (x_call klawexp3_en11 rfl) rfl (resolve_ok _ _ s env _ _ _ hs (hEb hE) om_) ?_;rintro _ w31 ⟨cs31,rfl,h7,hw⟩;have hB:=hB.carry hw;have hs:=hs.carry hw;have hE:=hE.carry hw;have bx2:=bx2.carry hw;have hl7:=h7.len;have h7:=h7.up;have hsz31:=hB.size;have hx2:=bx2.lt;refine L.val (x_mv (v:=_) rfl) rfl ?_;refine L.val (x_ext (v:=_) rfl rfl) rfl ?_;refine L.val (x_ext (v:=.int _ _) rfl rfl) rfl ?_;refine L.alloc (cs:=[Value.int .i64 0,S [],S [],Value.slice none 0 0,Value.slice none 0 0]) klawexp3_zr25 rfl rfl (fun w7 bx7 hw hz7=>?_);have hB:=hB.carry hw;have hs:=hs.carry hw;have hE:=hE.carry hw;have bx2:=bx2.carry hw;have h7:=h7.carry hw;refine L.setRow klawexp3_ag25 rfl rfl bx7 rfl hl7 h7.one (fun wl34 bx7 hw hzl34=>?_);have hsz:=hB.size;have hB:=hB.set hw om_;have hs:=hs.carryR hw (fun j e=>hA j (by have e:j=_:=e;omega));have hE:=hE.carryR hw (fun j e=>hB1 j (by have e:j=_:=e;omega));have bx2:=bx2.carryR hw om_;have h7:=h7.carryR hw (fun j e=>.inr (by have e:j=_:=e;omega));refine L.val (x_as (v:=.int _ _) rfl) rfl ?_;refine L.nil (thn_n (W.seq (W.seq (W.region (L.val (x_mv (v:=.int _ _) rfl) rfl ?_)))));refine L.val (x_eql rfl rfl) rfl ?_;refine L.val (x_mv (v:=.bool _) rfl) rfl ?_;refine' L.group0 1 37 37 37 36 true rfl ?_ ?_ ?_;rotate_left 1
     ·intro g36;have h36:=of_decide_eq_true g36;refine L.gyes' (dj:=36) (b:=_) rfl rfl g36 ?_;refine L.val (x_mv (v:=.bool _) rfl) rfl ?_;refine L.nil (thn_n ⟨rfl,rfl,?_,rfl⟩);repeat (first | exact jeq.refl _ _ _ | refine jeq.upd rfl ?_ | refine jeq.jk rfl rfl ?_)
     ·intro g36;refine L.gno (dj:=36) (b:=_) rfl rfl g36 rfl ?_;refine L.nil (thn_n ⟨rfl,rfl,?_⟩);repeat (first | exact jeq.refl _ _ _ | refine jeq.upd rfl ?_ | refine jeq.jk rfl rfl ?_)
     intro J36 j36;refine L.val (x_and rfl j36) rfl ?_;refine L.val (x_mv (v:=.bool _) rfl) rfl ?_;refine' L.group 3 40 42 42 39 true rfl ?_ ?_ ?_;rotate_left 1
     ·intro g39 hg39;have h39:=g39;refine L.gyes' (dj:=39) (b:=_) rfl rfl g39 ?_;refine L.val (x_ldn (vs:=cs31) klawexp3_ag25 rfl hl7 (bx7.row hl7)) rfl ?_;refine L.gyes' (dj:=39) (b:=_) rfl rfl g39 ?_;refine L.ret (x_call klawexp3_en18 rfl) rfl (closedL _ _ _ _ h7) ?_;rintro _ w41 ⟨rfl,hw⟩;have hB:=hB.carry hw;have hs:=hs.carry hw;have hE:=hE.carry hw;have bx2:=bx2.carry hw;have h7:=h7.carry hw;have bx7:=bx7.carry hw;have hg39:=hg39.carry hw;refine L.gyes' (dj:=39) (b:=_) rfl rfl g39 ?_;refine L.val (x_not rfl) rfl ?_;refine L.nil (thn_n ⟨rfl,?_,?_,fun _=>rfl⟩)
      ·exact hg39
      ·repeat (first | exact jeq.refl _ _ _ | refine jeq.upd rfl ?_ | refine jeq.jk rfl rfl ?_)
     ·intro g39;(iterate 3 refine L.gno (dj:=39) (b:=_) rfl rfl g39 rfl ?_);refine L.nil (thn_n ⟨rfl,Gr.refl _ _,?_⟩);refine ⟨?_,fun h=>h.elim⟩;repeat (first | exact jeq.refl _ _ _ | refine jeq.upd rfl ?_ | refine jeq.jk rfl rfl ?_)
     intro J39 w39 hw j39;have hB:=hB.carry hw;have hs:=hs.carry hw;have hE:=hE.carry hw;have bx2:=bx2.carry hw;have h7:=h7.carry hw;have bx7:=bx7.carry hw;refine L.val (x_and rfl j39) rfl ?_;refine L.nil (thn_n (W.cond (b:=_) rfl (fun g43=>?_) (fun g43=>?_)))
     ·have h43:=g43;exfalso;have hh:((rsvS (findB env) s).2=0∧(env.all fun b=>closedS b.sh)=true)∧closedS (rsvS (findB env) s).1=false:=by simpa using h43
      have:=rsv_closed (fun b hb=>(List.all_eq_true.1 hh.1.2) b hb) hh.1.1;rw [hh.2] at this;cases this
     ·have h43:=g43;refine W.skip (thn_n (W.seq (W.seq (W.region (L.val (x_ldn (vs:=xs) klawexp3_ag25 rfl hlen (bx2.row hlen)) rfl ?_)))));refine L.ret (x_call klawexp3_en18 rfl) rfl (closedL _ s _ _ hs) ?_;rintro _ w45 ⟨rfl,hw⟩;have hB:=hB.carry hw;have hs:=hs.carry hw;have hE:=hE.carry hw;have bx2:=bx2.carry hw;have h7:=h7.carry hw;have bx7:=bx7.carry hw;refine L.nil (thn_n (W.cond (b:=_) rfl (fun g45=>?_) (fun g45=>?_)))
      ·have h45:=g45;have hse:=rsv_self (F:=findB env) h45;have hso:sortS s=s.sort:=by unfold sortS;unfold closedS at h45;rw [Bool.and_eq_true,decide_eq_true_eq] at h45;rw [if_pos h45.1]
       refine W.seq (W.drawF 12 klawexp3_mixed (fun wF46 hB0=>?_));refine LAC.takeN (i:=0) rfl kr_ kr_ kr_ kr_ (fun w hw=>x_mv (v:=.int _ _) rfl) rfl ?_;refine LAC.takeN (i:=1) rfl kr_ kr_ kr_ kr_ (fun w hw=>x_eql rfl rfl) rfl ?_;refine LAC.takeN (i:=2) rfl kr_ kr_ kr_ kr_ (fun w hw=>x_mv (v:=.bool _) rfl) rfl ?_;refine LAC.split (dj:=48) (b:=_) rfl (fun g48=>?_) (fun g48=>?_)
       ·have h48:=of_decide_eq_true g48;refine LAC.takeG (i:=3) rfl kr_ kr_ kr_ kr_ (dj:=48) (b:=_) rfl rfl g48 (fun w hw=>x_ldn (vs:=cs31) klawexp3_ag25 rfl hl7 (hw.keepRow hl7 (bx7.row hl7))) rfl ?_;refine LAC.takeG (i:=4) rfl kr_ kr_ kr_ kr_ (dj:=48) (b:=_) rfl rfl g48 (fun w hw=>x_ldn (vs:=xs) klawexp3_ag25 rfl hlen (hw.keepRow hlen (bx2.row hlen))) rfl ?_;refine LAC.step (rs:=[5]) (fun _=>hB0) kr_ (by simp) ⟨⟨_,rfl,?_⟩,trivial⟩;refine L.gyes' (dj:=48) (b:=_) rfl rfl g48 ?_;refine L.ret (x_call klawexp3_en19 rfl) rfl (sort_okL _ s _ _ (hs.carry hB0)) ?_;rintro _ w51 ⟨cs51,rfl,hq,hw⟩;have hB0:=hB0.carry hw;refine L.nil (thn_n (LAC.step (rs:=[6]) (fun _=>hB0) kr_ (by simp) ⟨⟨_,rfl,?_⟩,trivial⟩));refine L.gyes' (dj:=48) (b:=_) rfl rfl g48 ?_;refine L.ret (x_call klawexp3_en13 rfl) rfl (equal07 _ _ _ (Nat.lt_succ_self _) _ _ _ _ _ (h7.carry hB0) hq) ?_;rintro _ w52 ⟨rfl,hw⟩;have hB0:=hB0.carry hw;have hq:=hq.carry hw;refine L.nil (thn_n (LAC.takeN (i:=7) rfl kr_ kr_ kr_ kr_ (fun w hw=>x_pick_t (v:=.bool _) (congrArg Value.bool g48) rfl) rfl ?_));refine LAC.takeN (i:=8) rfl kr_ kr_ kr_ kr_ (fun w hw=>x_mv (v:=.bool _) rfl) rfl ?_;refine LAC.split (dj:=54) (b:=_) rfl (fun g54=>?_) (fun g54=>?_)
        ·have h54:=g54;refine LAC.step (rs:=[9]) (fun _=>hB0) kr_ (by simp) ⟨⟨_,rfl,?_⟩,trivial⟩;refine L.gyes' (dj:=54) (b:=_) rfl rfl g54 ?_;refine L.ret (x_call klawexp3_en10 rfl) rfl (awake11 _) ?_;rintro _ w55 ⟨rfl,hw⟩;have hB0:=hB0.carry hw;have hq:=hq.carry hw;refine L.nil (thn_n (LAC.takeN (i:=10) rfl kr_ kr_ kr_ kr_ (fun w hw=>x_pick_t (v:=.bool _) (congrArg Value.bool g54) rfl) rfl ?_));refine LAC.takeN (i:=11) rfl kr_ kr_ kr_ kr_ (fun w hw=>x_as (v:=.bool _) rfl) rfl ?_;refine LAC.doneF kr_ hB0 ?_;have hB:=hB.carry hB0;have hs:=hs.carry hB0;have bx2:=bx2.carry hB0;have bx7:=bx7.carry hB0;have h7:=h7.carry hB0;refine thn_n (W.ret (thn_r (fin_mk (.inr rfl) ?_)));exact ⟨rfl,hB⟩
        ·have h54:=g54;exfalso;rw [hse,hso,eqS_t rfl] at h54;simp at h54
       ·have h48:=of_decide_eq_false g48;exfalso;rw [hse] at h48;simp at h48
      ·have h45:=g45;refine W.skip (thn_n (W.seq (W.region (L.val (x_ldn (vs:=xs) klawexp3_ag25 rfl hlen (bx2.row hlen)) rfl ?_))));refine L.ret (x_call klawexp3_en15 rfl) rfl (checkL _ s _ _ hs) ?_;rintro _ w58 ⟨rfl,hw⟩;have hB:=hB.carry hw;have hs:=hs.carry hw;have hE:=hE.carry hw;have bx2:=bx2.carry hw;have h7:=h7.carry hw;have bx7:=bx7.carry hw;refine L.val (x_eql rfl rfl) rfl ?_;refine L.val (x_mv (v:=.bool _) rfl) rfl ?_;refine' L.group 4 61 64 64 60 false rfl ?_ ?_ ?_;rotate_left 1
       ·intro g60 hg60;have h60:=of_decide_eq_false g60;refine L.gyes' (dj:=60) (b:=_) rfl rfl g60 ?_;refine L.val (x_mv (v:=.int _ _) rfl) rfl ?_;refine L.gyes' (dj:=60) (b:=_) rfl rfl g60 ?_;refine L.val (x_ldn (vs:=xs) klawexp3_ag25 rfl hlen (bx2.row hlen)) rfl ?_;refine L.gyes' (dj:=60) (b:=_) rfl rfl g60 ?_;refine L.ret (x_call klawexp3_en15 rfl) rfl (checkL _ s _ _ hs) ?_;rintro _ w63 ⟨rfl,hw⟩;have hB:=hB.carry hw;have hs:=hs.carry hw;have hE:=hE.carry hw;have bx2:=bx2.carry hw;have h7:=h7.carry hw;have bx7:=bx7.carry hw;have hg60:=hg60.carry hw;refine L.gyes' (dj:=60) (b:=_) rfl rfl g60 ?_;refine L.val (x_eql rfl rfl) rfl ?_;refine L.nil (thn_n ⟨rfl,?_,?_,fun _=>rfl⟩)
        ·exact hg60
        ·repeat (first | exact jeq.refl _ _ _ | refine jeq.upd rfl ?_ | refine jeq.jk rfl rfl ?_)
       ·intro g60;(iterate 4 refine L.gno (dj:=60) (b:=_) rfl rfl g60 rfl ?_);refine L.nil (thn_n ⟨rfl,Gr.refl _ _,?_⟩);refine ⟨?_,fun h=>h.elim⟩;repeat (first | exact jeq.refl _ _ _ | refine jeq.upd rfl ?_ | refine jeq.jk rfl rfl ?_)
       intro J60 w60 hw j60;have hB:=hB.carry hw;have hs:=hs.carry hw;have hE:=hE.carry hw;have bx2:=bx2.carry hw;have h7:=h7.carry hw;have bx7:=bx7.carry hw;refine L.val (x_or rfl j60) rfl ?_;refine L.val (x_mv (v:=.bool _) rfl) rfl ?_;refine' L.group 1 67 67 67 66 true rfl ?_ ?_ ?_;rotate_left 1
       ·intro g66 hg66;have h66:=g66;refine L.gyes' (dj:=66) (b:=_) rfl rfl g66 ?_;refine L.ret (x_call klawexp3_en10 rfl) rfl (awake11 _) ?_;rintro _ w67 ⟨rfl,hw⟩;have hB:=hB.carry hw;have hs:=hs.carry hw;have hE:=hE.carry hw;have bx2:=bx2.carry hw;have h7:=h7.carry hw;have bx7:=bx7.carry hw;have hg66:=hg66.carry hw;refine L.nil (thn_n ⟨rfl,?_,?_,fun _=>rfl⟩)
        ·exact hg66
        ·repeat (first | exact jeq.refl _ _ _ | refine jeq.upd rfl ?_ | refine jeq.jk rfl rfl ?_)
       ·intro g66;refine L.gno (dj:=66) (b:=_) rfl rfl g66 rfl ?_;refine L.nil (thn_n ⟨rfl,Gr.refl _ _,?_⟩);refine ⟨?_,fun h=>h.elim⟩;repeat (first | exact jeq.refl _ _ _ | refine jeq.upd rfl ?_ | refine jeq.jk rfl rfl ?_)
       intro J66 w66 hw j66;have hB:=hB.carry hw;have hs:=hs.carry hw;have hE:=hE.carry hw;have bx2:=bx2.carry hw;have h7:=h7.carry hw;have bx7:=bx7.carry hw;refine L.val (x_and rfl j66) rfl ?_;refine L.val (x_as (v:=.bool _) rfl) rfl ?_;refine L.nil (thn_n (W.ret (fin_mk (.inr rfl) ?_)));have he:checkS s≠0→(rsvS (findB env) s).2=checkS s:=fun h=>by unfold rsvS;rw [if_neg h]
       exact ⟨vb (by
         by_cases hc:checkS s=0
         · simp [hc]
         · simp [hc,he hc]),hB⟩
theorem law_twice (A0 B0 C0:Nat→Prop) (s:Sh) (env other:List Bd) (xs:List Value) (v u:Value) (w:World) (hs0:ShC A0 w xs s) (hE0:BdsAt B0 w v env) (hF0:BdsAt C0 w u other):
    Ret Try.prog 6 #[.agg xs.toArray,v,u] w fun v' w'=>v'=.bool true∧Bel w w':=by
  obtain ⟨A,hs,hA⟩:∃ A1:Nat→Prop,ShC A1 w xs s∧(∀ k,w.heap.size≤k→A1 k):=⟨_,hs0.up,fun _=>.inr⟩;obtain ⟨B,hE,hB1⟩:∃ A1:Nat→Prop,BdsAt A1 w v env∧(∀ k,w.heap.size≤k→A1 k):=⟨_,hE0.up,fun _=>.inr⟩;obtain ⟨C,hF,hC1⟩:∃ A1:Nat→Prop,BdsAt A1 w u other∧(∀ k,w.heap.size≤k→A1 k):=⟨_,hF0.up,fun _=>.inr⟩;obtain ⟨pv,capv,-,rfl,-⟩:=id hE;obtain ⟨pu,capu,-,rfl,-⟩:=id hF;have hlen:=hs.len;refine ret_of_W Try.func6 rfl (Nat.le_of_ble_eq_true rfl) (res1 rfl) ?_;have hB:=Gr.refl (fun _=>False) w;refine W.seq (W.region (L.box (cs:=xs) rfl rfl (fun w3 bx3 hw hz3=>?_)));have hB:=hB.carry hw;have hs:=hs.carry hw;have hE:=hE.carry hw;have hF:=hF.carry hw;refine L.val (x_as (v:=.bool _) rfl) rfl ?_;refine L.nil (thn_n (W.seq (W.seq (W.region (L.val (x_mv (v:=.slice _ _ _) rfl) rfl ?_)))));refine L.ret (x_call klawexp3_en9 rfl) rfl (small11 _ env _ _ hE) ?_;rintro _ w12 ⟨rfl,hw⟩;have hB:=hB.carry hw;have hs:=hs.carry hw;have hE:=hE.carry hw;have hF:=hF.carry hw;have bx3:=bx3.carry hw;refine L.val (x_not rfl) rfl ?_;refine L.val (x_mv (v:=.bool _) rfl) rfl ?_;refine' L.group 3 15 17 17 14 false rfl ?_ ?_ ?_;rotate_left 1
  ·intro g14 hg14;have h14:=(not_f g14);refine L.gyes' (dj:=14) (b:=_) rfl rfl g14 ?_;refine L.val (x_mv (v:=.slice _ _ _) rfl) rfl ?_;refine L.gyes' (dj:=14) (b:=_) rfl rfl g14 ?_;refine L.ret (x_call klawexp3_en9 rfl) rfl (small11 _ other _ _ hF) ?_;rintro _ w16 ⟨rfl,hw⟩;have hB:=hB.carry hw;have hs:=hs.carry hw;have hE:=hE.carry hw;have hF:=hF.carry hw;have bx3:=bx3.carry hw;have hg14:=hg14.carry hw;refine L.gyes' (dj:=14) (b:=_) rfl rfl g14 ?_;refine L.val (x_not rfl) rfl ?_;refine L.nil (thn_n ⟨rfl,?_,?_,fun _=>rfl⟩)
   ·exact hg14
   ·repeat (first | exact jeq.refl _ _ _ | refine jeq.upd rfl ?_ | refine jeq.jk rfl rfl ?_)
  ·intro g14;(iterate 3 refine L.gno (dj:=14) (b:=_) rfl rfl g14 rfl ?_);refine L.nil (thn_n ⟨rfl,Gr.refl _ _,?_⟩);refine ⟨?_,fun h=>h.elim⟩;repeat (first | exact jeq.refl _ _ _ | refine jeq.upd rfl ?_ | refine jeq.jk rfl rfl ?_)
  intro J14 w14 hw j14;have hB:=hB.carry hw;have hs:=hs.carry hw;have hE:=hE.carry hw;have hF:=hF.carry hw;have bx3:=bx3.carry hw;refine L.val (x_or rfl j14) rfl ?_;refine L.nil (thn_n (W.cond (b:=_) rfl (fun g18=>?_) (fun g18=>?_)))
  ·have h18:=g18;refine W.seq (W.region (L.ret (x_call klawexp3_en10 rfl) rfl (awake11 _) ?_));rintro _ w19 ⟨rfl,hw⟩;have hB:=hB.carry hw;have hs:=hs.carry hw;have hE:=hE.carry hw;have hF:=hF.carry hw;have bx3:=bx3.carry hw;refine L.val (x_as (v:=.bool _) rfl) rfl ?_;refine L.nil (thn_n (W.ret (thn_r (fin_mk (.inr rfl) ?_))));exact ⟨rfl,hB⟩
  ·have h18:=g18;have hsm:smallE env=true∧smallE other=true:=by simpa using h18
   obtain ⟨hl60,-⟩:=smallE_iff.1 hsm.1;obtain ⟨hl61,-⟩:=smallE_iff.1 hsm.2;refine W.skip (thn_n (W.seq (W.region (L.val (x_ldn (vs:=xs) klawexp3_ag25 rfl hlen (bx3.row hlen)) rfl ?_))));refine L.val (x_mv (v:=.slice _ _ _) rfl) rfl ?_;refine L.ret (x_call klawexp3_en11 rfl) rfl (resolve_ok _ _ s env _ _ _ hs hE om_) ?_;rintro _ w23 ⟨cs23,rfl,h7,hw⟩;have hB:=hB.carry hw;have hs:=hs.carry hw;have hE:=hE.carry hw;have hF:=hF.carry hw;have bx3:=bx3.carry hw;have hl7:=h7.len;have h7:=h7.up;have hsz23:=hB.size;have hx3:=bx3.lt;refine L.val (x_mv (v:=_) rfl) rfl ?_;refine L.val (x_ext (v:=_) rfl rfl) rfl ?_;refine L.val (x_ext (v:=.int _ _) rfl rfl) rfl ?_;refine L.alloc (cs:=[Value.int .i64 0,S [],S [],Value.slice none 0 0,Value.slice none 0 0]) klawexp3_zr25 rfl rfl (fun w7 bx7 hw hz7=>?_);have hB:=hB.carry hw;have hs:=hs.carry hw;have hE:=hE.carry hw;have hF:=hF.carry hw;have bx3:=bx3.carry hw;have h7:=h7.carry hw;refine L.setRow klawexp3_ag25 rfl rfl bx7 rfl hl7 h7.one (fun wl20 bx7 hw hzl20=>?_);have hsz:=hB.size;have hB:=hB.set hw om_;have hs:=hs.carryR hw (fun j e=>hA j (by have e:j=_:=e;omega));have hE:=hE.carryR hw (fun j e=>hB1 j (by have e:j=_:=e;omega));have hF:=hF.carryR hw (fun j e=>hC1 j (by have e:j=_:=e;omega));have bx3:=bx3.carryR hw om_;have h7:=h7.carryR hw (fun j e=>.inr (by have e:j=_:=e;omega));refine L.val (x_as (v:=.int _ _) rfl) rfl ?_;refine L.nil (thn_n (W.seq (W.seq (W.region (L.val (x_mv (v:=.int _ _) rfl) rfl ?_)))));refine L.val (x_neq rfl rfl) rfl ?_;refine L.nil (thn_n (W.cond (b:=_) rfl (fun g27=>?_) (fun g27=>?_)))
   ·have h27:=dne_t g27;have hz:=rsv_no h27;refine W.seq (W.region (L.val (x_ldn (vs:=cs23) klawexp3_ag25 rfl hl7 (bx7.row hl7)) rfl ?_));refine L.val (x_build (cells:=[.int _ _,S _,S _,.slice _ _ _,.slice _ _ _]) klawexp3_si25 rfl rfl) rfl ?_;refine L.ret (x_call klawexp3_en13 rfl) rfl (equal07 _ _ _ (Nat.lt_succ_self _) _ (fun _=>False) _ _ _ h7 (zeroC _ _)) ?_;rintro _ w30 ⟨rfl,hw⟩;have hB:=hB.carry hw;have hs:=hs.carry hw;have hE:=hE.carry hw;have hF:=hF.carry hw;have bx3:=bx3.carry hw;have h7:=h7.carry hw;have bx7:=bx7.carry hw;refine L.val (x_mv (v:=.bool _) rfl) rfl ?_;refine' L.group 1 32 32 32 31 true rfl ?_ ?_ ?_;rotate_left 1
    ·intro g31 hg31;have h31:=g31;refine L.gyes' (dj:=31) (b:=_) rfl rfl g31 ?_;refine L.ret (x_call klawexp3_en10 rfl) rfl (awake11 _) ?_;rintro _ w32 ⟨rfl,hw⟩;have hB:=hB.carry hw;have hs:=hs.carry hw;have hE:=hE.carry hw;have hF:=hF.carry hw;have bx3:=bx3.carry hw;have h7:=h7.carry hw;have bx7:=bx7.carry hw;have hg31:=hg31.carry hw;refine L.nil (thn_n ⟨rfl,?_,?_,fun _=>rfl⟩)
     ·exact hg31
     ·repeat (first | exact jeq.refl _ _ _ | refine jeq.upd rfl ?_ | refine jeq.jk rfl rfl ?_)
    ·intro g31;refine L.gno (dj:=31) (b:=_) rfl rfl g31 rfl ?_;refine L.nil (thn_n ⟨rfl,Gr.refl _ _,?_⟩);refine ⟨?_,fun h=>h.elim⟩;repeat (first | exact jeq.refl _ _ _ | refine jeq.upd rfl ?_ | refine jeq.jk rfl rfl ?_)
    intro J31 w31 hw j31;have hB:=hB.carry hw;have hs:=hs.carry hw;have hE:=hE.carry hw;have hF:=hF.carry hw;have bx3:=bx3.carry hw;have h7:=h7.carry hw;have bx7:=bx7.carry hw;refine L.val (x_and rfl j31) rfl ?_;refine L.val (x_as (v:=.bool _) rfl) rfl ?_;refine L.nil (thn_n (W.ret (thn_r (fin_mk (.inr rfl) ?_))));exact ⟨vb (by rw [hz,eqS_t rfl];rfl),hB⟩
   ·have h27:=dne_f g27;obtain ⟨hc,hso⟩:=rsv_stays h27;have hso2:sortS (rsvS (findB env) s).1=(rsvS (findB env) s).1:=by unfold sortS;rw [if_pos hc,hso]
    have hs27:=hB.size;have hx7:=bx7.lt;refine W.skip (thn_n (W.seq (W.seq (W.drawF 10 klawexp3_mixed (fun wF34 hB0=>?_)))));refine LAC.takeN (i:=0) rfl kr_ kr_ kr_ kr_ (fun w hw=>x_ldn (vs:=cs23) klawexp3_ag25 rfl hl7 (hw.keepRow hl7 (bx7.row hl7))) rfl ?_;refine LAC.takeN (i:=2) rfl kr_ kr_ kr_ kr_ (fun w hw=>x_ldn (vs:=cs23) klawexp3_ag25 rfl hl7 (hw.keepRow hl7 (bx7.row hl7))) rfl ?_;refine LAC.step (rs:=[1]) (fun _=>hB0) kr_ (by simp) ⟨⟨_,rfl,?_⟩,trivial⟩;refine L.ret (x_call klawexp3_en19 rfl) rfl (sort_okL _ _ _ _ (h7.carry hB0)) ?_;rintro _ w35 ⟨cs35,rfl,hq,hw⟩;have hB0:=hB0.carry hw;refine L.nil (thn_n (LAC.step (rs:=[3]) (fun _=>hB0) kr_ (by simp) ⟨⟨_,rfl,?_⟩,trivial⟩));refine L.ret (x_call klawexp3_en13 rfl) rfl (equal07 _ _ _ (Nat.lt_succ_self _) _ _ _ _ _ hq (h7.carry hB0)) ?_;rintro _ w37 ⟨rfl,hw⟩;have hB0:=hB0.carry hw;have hq:=hq.carry hw;refine L.nil (thn_n (LAC.takeN (i:=4) rfl kr_ kr_ kr_ kr_ (fun w hw=>x_not rfl) rfl ?_));refine LAC.takeN (i:=5) rfl kr_ kr_ kr_ kr_ (fun w hw=>x_mv (v:=.bool _) rfl) rfl ?_;refine LAC.split (dj:=39) (b:=_) rfl (fun g39=>?_) (fun g39=>?_)
    ·have h39:=(not_t g39);exfalso;rw [hso2,eqS_t rfl] at h39;simp at h39
    ·have h39:=(not_f g39);refine LAC.takeG (i:=6) rfl kr_ kr_ kr_ kr_ (dj:=39) (b:=_) rfl rfl g39 (fun w hw=>x_ldn (vs:=cs23) klawexp3_ag25 rfl hl7 (hw.keepRow hl7 (bx7.row hl7))) rfl ?_;refine LAC.step (rs:=[7]) (fun _=>hB0) kr_ (by simp) ⟨⟨_,rfl,?_⟩,trivial⟩;refine L.gyes' (dj:=39) (b:=_) rfl rfl g39 ?_;refine L.ret (x_call klawexp3_en15 rfl) rfl (checkL _ _ _ _ (h7.carry hB0)) ?_;rintro _ w41 ⟨rfl,hw⟩;have hB0:=hB0.carry hw;have hq:=hq.carry hw;refine L.nil (thn_n (LAC.takeG (i:=8) rfl kr_ kr_ kr_ kr_ (dj:=39) (b:=_) rfl rfl g39 (fun w hw=>x_neq rfl rfl) rfl ?_));refine LAC.takeN (i:=9) rfl kr_ kr_ kr_ kr_ (fun w hw=>x_pick_f (v:=.bool _) (congrArg Value.bool g39) rfl) rfl ?_;refine LAC.doneF kr_ hB0 ?_;have hB:=hB.carry hB0;have hF:=hF.carry hB0;have bx7:=bx7.carry hB0;have h7:=h7.carry hB0;have hs34:=hB0.size;have hsB34:=hB.size;refine thn_n (W.cond (b:=_) rfl (fun g42=>?_) (fun g42=>?_))
     ·have h42:=dne_t g42;exact absurd hc h42
     ·have h42:=dne_f g42;refine W.skip (thn_n (W.seq (W.region (L.val (x_ldn (vs:=cs23) klawexp3_ag25 rfl hl7 (bx7.row hl7)) rfl ?_))));refine L.val (x_mv (v:=.slice _ _ _) rfl) rfl ?_;refine L.ret (x_call klawexp3_en11 rfl) rfl (resolve_ok _ _ (rsvS (findB env) s).1 other _ _ _ h7 hF om_) ?_;rintro _ w47 ⟨cs47,rfl,h9,hw⟩;have hB:=hB.carry hw;have hF:=hF.carry hw;have bx7:=bx7.carry hw;have h7:=h7.carry hw;have hl9:=h9.len;have h9:=h9.up;have hsw47:=hw.size;refine L.val (x_mv (v:=_) rfl) rfl ?_;refine L.val (x_ext (v:=_) rfl rfl) rfl ?_;refine L.val (x_ext (v:=.int _ _) rfl rfl) rfl ?_;refine L.alloc (cs:=[Value.int .i64 0,S [],S [],Value.slice none 0 0,Value.slice none 0 0]) klawexp3_zr25 rfl rfl (fun w9 bx9 hw hz9=>?_);have hB:=hB.carry hw;have hF:=hF.carry hw;have bx7:=bx7.carry hw;have h7:=h7.carry hw;have h9:=h9.carry hw;refine L.setRow klawexp3_ag25 rfl rfl bx9 rfl hl9 h9.one (fun wl49 bx9 hw hzl49=>?_);have hsz:=hB.size;have hB:=hB.set hw om_;have hF:=hF.carryR hw (fun j e=>hC1 j (by have e:j=_:=e;omega));have bx7:=bx7.carryR hw om_;have h7:=h7.carryR hw (fun j e=>.inr (by have e:j=_:=e;omega));have h9:=h9.carryR hw (fun j e=>.inr (by have e:j=_:=e;omega));refine L.val (x_as (v:=.int _ _) rfl) rfl ?_;refine L.nil (thn_n (W.seq (W.region (L.val (x_ldn (vs:=cs23) klawexp3_ag25 rfl hl7 (bx7.row hl7)) rfl ?_))));refine L.ret (x_call klawexp3_en18 rfl) rfl (closedL _ _ _ _ h7) ?_;rintro _ w51 ⟨rfl,hw⟩;have hB:=hB.carry hw;have hF:=hF.carry hw;have bx7:=bx7.carry hw;have h7:=h7.carry hw;have h9:=h9.carry hw;have bx9:=bx9.carry hw;refine L.val (x_not rfl) rfl ?_;refine L.val (x_mv (v:=.bool _) rfl) rfl ?_;refine' L.group 7 54 60 60 53 false rfl ?_ ?_ ?_;rotate_left 1
      ·intro g53 hg53;have h53:=(not_f g53);refine L.gyes' (dj:=53) (b:=_) rfl rfl g53 ?_;refine L.val (x_mv (v:=.int _ _) rfl) rfl ?_;refine L.gyes' (dj:=53) (b:=_) rfl rfl g53 ?_;refine L.val (x_eql rfl rfl) rfl ?_;refine L.gyes' (dj:=53) (b:=_) rfl rfl g53 ?_;refine L.val (x_mv (v:=.bool _) rfl) rfl ?_;refine' L.group 3 57 59 59 56 true rfl ?_ ?_ ?_;rotate_left 1
       ·intro g56 hg56;have h56:=of_decide_eq_true g56;refine L.gyes' (dj:=56) (b:=_) rfl rfl g56 ?_;refine L.val (x_ldn (vs:=cs23) klawexp3_ag25 rfl hl7 (bx7.row hl7)) rfl ?_;refine L.gyes' (dj:=56) (b:=_) rfl rfl g56 ?_;refine L.val (x_ldn (vs:=cs47) klawexp3_ag25 rfl hl9 (bx9.row hl9)) rfl ?_;refine L.gyes' (dj:=56) (b:=_) rfl rfl g56 ?_;refine L.ret (x_call klawexp3_en13 rfl) rfl (equal07 _ _ _ (Nat.lt_succ_self _) _ _ _ _ _ h7 h9) ?_;rintro _ w59 ⟨rfl,hw⟩;have hB:=hB.carry hw;have hF:=hF.carry hw;have bx7:=bx7.carry hw;have h7:=h7.carry hw;have h9:=h9.carry hw;have bx9:=bx9.carry hw;have hg53:=hg53.carry hw;have hg56:=hg56.carry hw;refine L.nil (thn_n ⟨rfl,?_,?_,fun _=>rfl⟩)
        ·exact hg56
        ·repeat (first | exact jeq.refl _ _ _ | refine jeq.upd rfl ?_ | refine jeq.jk rfl rfl ?_)
       ·intro g56;(iterate 3 refine L.gno (dj:=56) (b:=_) rfl rfl g56 rfl ?_);refine L.nil (thn_n ⟨rfl,Gr.refl _ _,?_⟩);refine ⟨?_,fun h=>h.elim⟩;repeat (first | exact jeq.refl _ _ _ | refine jeq.upd rfl ?_ | refine jeq.jk rfl rfl ?_)
       intro J56 w56 hw j56;have hB:=hB.carry hw;have hF:=hF.carry hw;have bx7:=bx7.carry hw;have h7:=h7.carry hw;have h9:=h9.carry hw;have bx9:=bx9.carry hw;have hg53:=hg53.carry hw;refine L.gyes' (dj:=53) (b:=_) rfl rfl g53 ?_;refine L.val (x_and rfl j56) rfl ?_;refine L.nil (thn_n ⟨rfl,?_,?_,fun _=>rfl⟩)
       ·exact hg53
       ·repeat (first | exact jeq.refl _ _ _ | refine jeq.upd rfl ?_ | refine jeq.jk rfl rfl ?_)
      ·intro g53;(iterate 3 refine L.gno (dj:=53) (b:=_) rfl rfl g53 rfl ?_);(iterate 3 refine L.gun (dj:=56) rfl rfl rfl ?_);refine L.gno (dj:=53) (b:=_) rfl rfl g53 rfl ?_;refine L.nil (thn_n ⟨rfl,Gr.refl _ _,?_⟩);refine ⟨?_,fun h=>h.elim⟩;repeat (first | exact jeq.refl _ _ _ | refine jeq.upd rfl ?_ | refine jeq.jk rfl rfl ?_)
      intro J53 w53 hw j53;have hB:=hB.carry hw;have hF:=hF.carry hw;have bx7:=bx7.carry hw;have h7:=h7.carry hw;have h9:=h9.carry hw;have bx9:=bx9.carry hw;refine L.val (x_or rfl j53) rfl ?_;refine L.val (x_mv (v:=.bool _) rfl) rfl ?_;refine' L.group 1 63 63 63 62 true rfl ?_ ?_ ?_;rotate_left 1
      ·intro g62 hg62;have h62:=g62;refine L.gyes' (dj:=62) (b:=_) rfl rfl g62 ?_;refine L.ret (x_call klawexp3_en10 rfl) rfl (awake11 _) ?_;rintro _ w63 ⟨rfl,hw⟩;have hB:=hB.carry hw;have hF:=hF.carry hw;have bx7:=bx7.carry hw;have h7:=h7.carry hw;have h9:=h9.carry hw;have bx9:=bx9.carry hw;have hg62:=hg62.carry hw;refine L.nil (thn_n ⟨rfl,?_,?_,fun _=>rfl⟩)
       ·exact hg62
       ·repeat (first | exact jeq.refl _ _ _ | refine jeq.upd rfl ?_ | refine jeq.jk rfl rfl ?_)
      ·intro g62;refine L.gno (dj:=62) (b:=_) rfl rfl g62 rfl ?_;refine L.nil (thn_n ⟨rfl,Gr.refl _ _,?_⟩);refine ⟨?_,fun h=>h.elim⟩;repeat (first | exact jeq.refl _ _ _ | refine jeq.upd rfl ?_ | refine jeq.jk rfl rfl ?_)
      intro J62 w62 hw j62;have hB:=hB.carry hw;have hF:=hF.carry hw;have bx7:=bx7.carry hw;have h7:=h7.carry hw;have h9:=h9.carry hw;have bx9:=bx9.carry hw;refine L.val (x_and rfl j62) rfl ?_;refine L.val (x_as (v:=.bool _) rfl) rfl ?_;refine L.nil (thn_n (W.ret (fin_mk (.inr rfl) ?_)));exact ⟨vb (by
        by_cases hcl:closedS (rsvS (findB env) s).1=true
        · have hse:=rsv_self (F:=findB other) hcl;rw [hse,hso,hcl,eqS_t rfl];simp
        · simp [hcl]),hB⟩
end Go.Gx
namespace Go.Gx
open Go.ChangeShapes Go.WideShapes Go.Deep
section
variable {H:Type} {enc:TypeId × Value→H} {P:Program} {w:World} {base:Nat} {spare:Nat→Bool} {held:Bool}
theorem weights_at {t:TypeId} {fs:Array Field} {ds:List (DataW H)} {N:Nat} (ht:P.underlying t=some (.struct fs)) (h:((DataW.agg ds).weights P t).all (· ≤ N)=true) {i:Nat} {f:Field} {d:DataW H} (hf:fs[i]? = some f) (hd:ds[i]? = some d):(d.weights P f.type).all (· ≤ N)=true:=by
  have h0:(DataW.agg ds).weights P t=DataW.weightsEach P (fs.toList.map (·.type)) ds:=by simp [DataW.weights,ht]
  rw [h0] at h;rw [List.all_eq_true] at h ⊢;intro n hn;exact h n (DataW.weights_mem_each (t:=f.type) (by simp [hf]) hd n hn)
theorem weightsAll_mem {e:TypeId}:∀ {l:List (DataW H)} {d:DataW H},d∈l→∀ n∈d.weights P e,n∈DataW.weightsAll P e l
  | x :: l,d,hd,n,hn=>by
    rcases List.mem_cons.1 hd with rfl | hd
    · simp only [DataW.weightsAll,List.mem_append];exact .inl hn
    · simp only [DataW.weightsAll,List.mem_append];exact .inr (weightsAll_mem hd n hn)
theorem weights_slice {t e:TypeId} {l r:List (DataW H)} {N:Nat} (ht:P.underlying t=some (.slice e)) (h:((DataW.slice l r).weights P t).all (· ≤ N)=true):(l.length+r.length) * P.bytesOf e≤N∧∀ d∈l,(d.weights P e).all (· ≤ N)=true:=by
  have h0:(DataW.slice l r).weights P t=(l.length+r.length) * P.bytesOf e :: (DataW.weightsAll P e l++DataW.weightsAll P e r):=by simp [DataW.weights,ht]
  rw [h0,List.all_eq_true] at h;refine ⟨by simpa using h _ (List.mem_cons_self ..),fun d hd=>List.all_eq_true.2 fun n hn=>h n (List.mem_cons_of_mem _ (List.mem_append_left _ (weightsAll_mem hd n hn)))⟩
theorem max_le {s:ByteArray} (h:s.size≤maxLen):s.data.toList.length≤9223372036854775807:=by
  have h1:s.data.toList.length=s.size:=Array.length_toList;have h2:maxLen=9223372036854775807:=rfl;omega
theorem strs_open {t e:TypeId} {fuel:Nat} {v:Value} {x:DataW H × List MemPlace} (ht:P.underlying t=some (.slice e)) (he:P.underlying e=some .string) (hc:P.cellsOf e=1) (hb:2≤P.bytesOf e)
    (h:DataW.trod enc P w base spare held fuel t [v]=some x) (hw:(x.1.weights P t).all (· ≤ reachBytes)=true):∃ l,StrsAt (fun _=>False) w v l:=by
  rcases open_slice1 ht hc h with ⟨h1,rfl⟩ | ⟨a,len,cap,m,n,V,D,Pl,h1,-,hl,hm,hmm,rfl,hx⟩
  · simp only [List.cons.injEq,and_true] at h1;exact ⟨[],h1 ▸ StrsAt.nil _ _ _ _ (by simp)⟩
  · simp only [List.cons.injEq,and_true] at h1;subst h1;have hlm:len≤m:=by rw [hmm];split <;> omega
    have hs:∀ i,i<len→∃ s:Str,V i=S s∧s.length≤9223372036854775807:=fun i hi=>by
      obtain ⟨s,h1,-,h2⟩:=DataW.trod_string he (hx i om_).2;simp only [List.cons.injEq,and_true] at h1;exact ⟨s.data.toList,by rw [h1];simp [S],max_le h2⟩
    obtain ⟨f,hf⟩:=choose_lt (α := Str) hs;have hby:=(weights_slice ht hw).1;have hlen:len≤70368744177664:=by
      have h1:len * P.bytesOf e≤reachBytes:=Nat.le_trans (Nat.mul_le_mul_right _ (by simp)) hby;have h2:len * 2≤len * P.bytesOf e:=Nat.mul_le_mul_left _ hb;have h3:=reachBytes_lt;omega
    have e0:((List.range len).map f).length=len:=by simp
    refine ⟨(List.range len).map f,some a,cap,by rw [e0],by rw [e0];exact hl,hm,by rw [e0];exact hlen,?_,fun hne=>?_⟩
    · intro x hx;obtain ⟨i,hi,rfl⟩:=List.mem_map.1 hx;exact (hf i (by simpa using hi)).2
    · have h0:0<len:=by rcases Nat.eq_zero_or_pos len with h | h;exact absurd (by rw [h];rfl) hne;exact h
      have hc0:=(hx 0 om_).1;obtain ⟨b,o,spot⟩:=a;have hspot:spot=none:=by simpa [Addr.add] using World.cell?_spot hc0
      subst hspot;refine ⟨b,o,rfl,fun f=>f,fun i hi=>?_⟩;rw [e0] at hi;have hci:=(hx i om_).1;rw [add_plain] at hci;rw [hci,(hf i hi).1];simp [hi]
structure ShT (P:Program) (tS eN:TypeId) (f0 f1 f2 f3 f4:Field):Prop where
  hS:P.underlying tS=some (.struct #[f0,f1,f2,f3,f4])
  h0:P.underlying f0.type=some (.int .i64)
  h1:P.underlying f1.type=some .string
  h2:P.underlying f2.type=some .string
  h3:P.underlying f3.type=some (.slice eN)
  hN:P.underlying eN=some .string
  h4:P.underlying f4.type=some (.slice tS)
  o:f0.offset=0∧f1.offset=1∧f2.offset=2∧f3.offset=3∧f4.offset=4
  c:P.cellsOf f0.type=1∧P.cellsOf f1.type=1∧P.cellsOf f2.type=1∧P.cellsOf f3.type=1∧P.cellsOf f4.type=1
  cS:P.cellsOf tS=5
  cN:P.cellsOf eN=1
  bS:2≤P.bytesOf tS
  bN:2≤P.bytesOf eN
theorem sh_open {tS eN:TypeId} {f0 f1 f2 f3 f4:Field} (T:ShT P tS eN f0 f1 f2 f3 f4):∀ (fuel:Nat) (cs:List Value) (x:DataW H × List MemPlace),DataW.trod enc P w base spare held fuel tS cs=some x→
    (x.1.weights P tS).all (· ≤ reachBytes)=true→∃ s,ShC (fun _=>False) w cs s:=by
  intro fuel;induction fuel using Nat.strongRecOn with
  | _ fuel ih=>
    intro cs x h hw;obtain ⟨xs,n,rfl,rfl,hlen,hxl,hf⟩:=DataW.trod_struct T.hS h;rw [T.cS] at hlen;obtain ⟨o0,o1,o2,o3,o4⟩:=T.o;obtain ⟨c0,c1,c2,c3,c4⟩:=T.c
    match cs,hlen with
    | [v0,v1,v2,v3,v4],_=>
      match xs,hxl with
      | [x0,x1,x2,x3,x4],_=>
        have g0:=hf 0 f0 rfl;have g1:=hf 1 f1 rfl;have g2:=hf 2 f2 rfl;have g3:=hf 3 f3 rfl;have g4:=hf 4 f4 rfl;rw [o0,c0] at g0;rw [o1,c1] at g1;rw [o2,c2] at g2;rw [o3,c3] at g3;rw [o4,c4] at g4;have w3:=weights_at T.hS hw (i:=3) (f:=f3) (d:=x3.1) rfl rfl;have w4:=weights_at T.hS hw (i:=4) (f:=f4) (d:=x4.1) rfl rfl;obtain ⟨k,e0,-,-⟩:=DataW.trod_int T.h0 (x:=x0) g0;obtain ⟨s1,e1,-,l1⟩:=DataW.trod_string T.h1 (x:=x1) g1;obtain ⟨s2,e2,-,l2⟩:=DataW.trod_string T.h2 (x:=x2) g2;obtain ⟨ns,hns⟩:=strs_open T.h3 T.hN T.cN T.bN (x:=x3) g3 w3;simp at e0 e1 e2;have hps:∃ ps,ShsAt (fun _=>False) w v4 ps:=by
          rcases DataW.trod_slice T.h4 (x:=x4) g4 with ⟨h1,rfl⟩ | ⟨a,len,cap,elems,rest,n',hn',h1,rfl,-,hl,hm,hel,hx,-,-⟩
          · simp at h1;exact ⟨[],h1 ▸ ShsAt.nil _ _ _ _ (by simp)⟩
          · simp at h1;subst h1;obtain ⟨hby,hwd⟩:=weights_slice T.h4 w4;have hlen:len≤70368744177664:=by
              have h1:len * P.bytesOf tS≤reachBytes:=Nat.le_trans (Nat.mul_le_mul_right _ (by simp [hel])) hby;have h2:len * 2≤len * P.bytesOf tS:=Nat.mul_le_mul_left _ T.bS;have h3:=reachBytes_lt;omega
            have each:∀ i,i<len→∃ p:List Value × Sh,p.1.length=5∧(∀ j,j<5→w.cell? ((a.add (i * 5)).add j)=p.1[j]?)∧ShC (fun _=>False) w p.1 p.2:=fun i hi=>by
              have h0:=hx i hi;rw [List.getElem?_eq_getElem om_] at h0;obtain ⟨cs',h1,h2⟩:=Option.bind_eq_some_iff.1 h0;rw [T.cS] at h1;obtain ⟨-,h3,h4⟩:=World.cells?_some h1;obtain ⟨s,hs⟩:=ih n' om_ cs' _ h2 (hwd _ (List.mem_map_of_mem (List.getElem_mem _)));exact ⟨(cs',s),h3,h4,hs⟩
            obtain ⟨F,hF⟩:=choose_lt (α := List Value × Sh) each;have e0:((List.range len).map fun i=>(F i).2).length=len:=by simp
            refine ⟨(List.range len).map fun i=>(F i).2,some a,cap,fun i=>(F i).1,by rw [e0],by rw [e0];exact hl,hm,by rw [e0];exact hlen,?_⟩;refine ⟨fun hne=>?_,fun i hi=>(hF i (by rw [e0] at hi;exact hi)).1,fun i hi=>?_⟩
            · have h0:0<len:=by rcases Nat.eq_zero_or_pos len with h | h;exact absurd (by rw [h];rfl) hne;exact h
              obtain ⟨q1,q2,-⟩:=hF 0 h0;have hc0:=q2 0 om_;rw [List.getElem?_eq_getElem om_] at hc0;obtain ⟨b,o,spot⟩:=a;have hspot:spot=none:=by simpa [Addr.add] using World.cell?_spot hc0
              subst hspot;refine ⟨b,o,rfl,fun f=>f,fun i j hi hj=>?_⟩;rw [e0] at hi;have:=(hF i hi).2.1 j hj;rw [add_plain,add_plain] at this;exact this
            · rw [e0] at hi;have:=(hF i hi).2.2;simpa [hi] using this
        obtain ⟨ps,hps⟩:=hps;refine ⟨.mk k s1.data.toList s2.data.toList ns ps,?_⟩;rw [e0,e1,e2];have:=ShC.intro (k:=k) (of:=s1.data.toList) (nm:=s2.data.toList) hns hps (max_le l1) (max_le l2);simpa [S] using this
end
end Go.Gx
namespace Go.Gx
open Go.ChangeShapes Go.WideShapes Go.Deep Go.RowKit
section
variable {H:Type} {enc:TypeId × Value→H} {P:Program}
theorem Gr.kept {W W':World} (h:Bel W W') (may:MemPlace→Prop):W.keptBut W' may:=by
  refine ⟨h.os,h.output,fun i hi=>?_⟩;rw [h.block i hi (fun f=>f)];have hx:=Array.getElem?_eq_getElem hi;rw [hx];generalize W.heap[i]=o;cases o <;> simp
theorem trodAll_stays {W W':World} (hl:laidOutB P=true) (hB:Bel W W') {sp:Nat→Bool}:∀ {ts:List TypeId} {vs:List Value} {ds:List (DataW H)} {ps:List MemPlace},
    (∀ t∈ts,P.readableRec t=true∧t<P.types.size)→DataW.TrodAll enc P W 0 (fun _=>true) true ts vs ds ps→(∀ p∈ps,sp p.block=true)→DataW.TrodAll enc P W' 0 sp true ts vs ds ps
  | [],[],[],_,_,h,_=>h
  | t :: ts,v :: vs,d :: ds,ps,hr,h,hs=>by
    have hlt:=h.lt;obtain ⟨p,q,h1,h2,rfl⟩:=h;exact ⟨p,q,WideElems.Trod_stays hl (hr t (by simp)).1 (hr t (by simp)).2 h1 (fun x hx=>hB.below.same (hlt x (List.mem_append_left _ hx))) (fun x hx=>hs x (List.mem_append_left _ hx)),
      trodAll_stays hl hB (fun t ht=>hr t (by simp [ht])) h2 (fun x hx=>hs x (List.mem_append_right _ hx)),rfl⟩
theorem post_of_bel {f:Func} {s:ChangeSpec} {apart fresh handsOn again:Bool} {W W':World} {args:Array Value} {ds gs:List (DataW H)} {before:List MemPlace} {tb:TypeId}
    (hl:laidOutB P=true) (hr:∀ t∈f.params.toList,P.readableRec t=true∧t<P.types.size) (hv:s.vars=[]) (hres:f.resultTypes=#[tb]) (hb:P.underlying tb=some .bool)
    (hW:DataW.Whole enc P f.params.toList s.vars apart W args.toList ds gs before) (hs:s.fn H (ds++gs)={ results:=[.lit (.bool true)],args:=ds }) (hB:Bel W W'):
    s.post enc P f apart fresh handsOn again W args (.bool true) W':=by
  have hlt:=hW.lt;obtain ⟨p,q,hA,hV,rfl,hz,hn⟩:=id hW;rw [hv] at hV;obtain ⟨rfl,rfl⟩:=trodVars_none hV;simp only [List.append_nil] at hlt hs hz hn;have hA':∀ sp:Nat→Bool,(∀ x∈p,sp x.block=true)→DataW.TrodAll enc P W' 0 sp true f.params.toList args.toList ds p:=fun sp h=>trodAll_stays hl hB hr hA h
  have hR:∀ (b:Nat) (sp:Nat→Bool) (hd:Bool),DataW.TrodAll enc P W' b sp hd f.resultTypes.toList ((Value.bool true).resultList f.resultTypes.size) [DataW.lit (.bool true)] []:=fun b sp hd=>by
    rw [hres];exact trodAll_mk1 ⟨1,by simp [DataW.trod,hb,Value.cells]⟩
  refine ⟨ds,[],p++[],[],p,[],hW,?_,?_,?_,hB.kept _,fun _=>⟨?_,[DataW.lit (.bool true)]++ds,[],([]++p)++[],⟨[]++p,[],trodAll_append (hA' _ fun _ _=>rfl) (hR _ _ _),?_,rfl,?_,?_⟩,?_⟩⟩
  · rw [List.append_nil,hs];exact hR _ _ _
  · rw [List.append_nil,hs];exact hA' _ (fun x hx=>by simpa using hlt x hx)
  · rw [List.append_nil,hs,hv];exact rfl
  · intro j t r h1 h2;rw [hres] at h1 h2
    match j,h1,h2 with
    | 0,h1,h2=>
      simp [Value.resultList] at h1 h2;subst h1;subst h2;simp [Value.okWide,hb,Cell.okWide,Cell.ok]
  · rw [hv];exact rfl
  · intro b off hp;simp only [List.nil_append,List.append_nil] at hp;have:=hz b off hp;have hb':=hlt _ hp;unfold World.frozen? at this ⊢;rw [hB.block b hb' (fun f=>f)];exact this
  · intro ha;simpa using hn ha
  · intro x hx _;simpa using hx
theorem sh_arg {tS eN:TypeId} {f0 f1 f2 f3 f4:Field} (T:ShT P tS eN f0 f1 f2 f3 f4) {W:World} {base:Nat} {v:Value} {d:DataW H} {p:List MemPlace}
    (hv:Value.okWide P W .any base tS v) (h:DataW.Trod enc P W 0 (fun _=>true) true tS v d p) (hw:(d.weights P tS).all (· ≤ reachBytes)=true):∃ cs s,v=.agg cs.toArray∧ShC (fun _=>False) W cs s:=by
  unfold Value.okWide at hv;rw [T.hS] at hv;obtain ⟨a,rfl,-⟩:=hv;obtain ⟨fuel,h⟩:=h;obtain ⟨s,hs⟩:=sh_open T _ _ _ h hw;exact ⟨a.toList,s,rfl,hs⟩
end
end Go.Gx
