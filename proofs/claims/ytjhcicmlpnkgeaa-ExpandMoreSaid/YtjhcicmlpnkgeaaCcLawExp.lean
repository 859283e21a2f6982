/- Resolve by the document; small environments; what is fixed. Conditions: none. -/
import Derived.Test.YtjhcicmlpnkgeaaCcExp3
import Derived.Test.YtjhcicmlpnkgeaaCcEq
import Derived.Test.YtjhcicmlpnkgeaaCcSort3
import Derived.Test.YtjhcicmlpnkgeaaCcOwn
import Derived.Test.YtjhcicmlpnkgeaaCcPerm
namespace Go.Gx
open Go.Proofs
theorem klawexp_ag25:aggT Try.prog 25 5=true:=by kernel_rfl
theorem klawexp_el25:elT Try.prog 25 5=true:=by kernel_rfl
theorem klawexp_el37:elT Try.prog 37 7=true:=by kernel_rfl
theorem klawexp_el9:elT Try.prog 9 1=true:=by kernel_rfl
theorem klawexp_en11:Go.Proofs.Enters Try.prog 11:=Go.Proofs.enters_of Try.func11 kr_ rfl
theorem klawexp_en13:Go.Proofs.Enters Try.prog 13:=Go.Proofs.enters_of Try.func13 kr_ rfl
theorem klawexp_en14:Go.Proofs.Enters Try.prog 14:=Go.Proofs.enters_of Try.func14 kr_ rfl
theorem klawexp_fo37_2:fieldOff Try.prog 37 2=some 2:=by kernel_rfl
theorem klawexp_si25:structInfo Try.prog 25=some ([(0,1),(1,1),(2,1),(3,1),(4,1)],[Value.int .i64 0,S [],S [],Value.slice none 0 0,Value.slice none 0 0]):=by kernel_rfl
theorem klawexp_si37:structInfo Try.prog 37=some ([(0,1),(1,1),(2,5)],[S [],S [],Value.int .i64 0,S [],S [],Value.slice none 0 0,Value.slice none 0 0]):=by kernel_rfl
theorem klawexp_sz37:(Try.prog.info? 37).map (·.size)=some 7:=by kernel_rfl
theorem klawexp_zr25:(Try.prog.info? 25).bind (·.zero)=some (Value.agg [Value.int .i64 0,S [],S [],Value.slice none 0 0,Value.slice none 0 0].toArray):=by kernel_rfl
def smallE (env:List Bd):Bool:=decide (env.length≤60) && env.all fun b=>decide (b.sh.size≤800)
theorem small11 (A0:Nat→Prop) (env:List Bd) (v:Value) (w:World) (hE:BdsAt A0 w v env):
    Ret Try.prog 9 #[v] w fun v' w'=>v'=.bool (smallE env)∧Bel w w':=by
  obtain ⟨p,cap,row,rfl,p1,p2,p3,hE⟩:=hE;refine ret_of_W Try.func9 rfl (Nat.le_of_ble_eq_true rfl) (res1 rfl) ?_;have hB:=Gr.refl (fun _=>False) w;refine W.seq (W.region (L.val (x_as (v:=.bool _) rfl) rfl ?_));refine L.nil (thn_n (W.seq (W.seq (W.region (L.val (x_mv (v:=.slice _ _ _) rfl) rfl ?_)))));refine L.val (x_len_slice Try.underlying26 rfl) rfl ?_;refine L.val (x_gtr rfl rfl) rfl ?_;refine L.nil (thn_n (W.cond (b:=_) rfl (fun g6=>?_) (fun g6=>?_)))
  ·have h6:=of_decide_eq_true g6;refine W.seq (W.region (L.val (x_as (v:=.bool _) rfl) rfl ?_));refine L.nil (thn_n (W.ret (thn_r (fin_mk (.inr rfl) ?_))));have h:¬ env.length≤60:=by omega
   have e:smallE env=false:=by unfold smallE;rw [decide_eq_false h];rfl
   exact ⟨vb e.symm,hB⟩
  ·have h6:=dlt_f g6;refine W.skip (thn_n (W.seq (W.seq (W.region (L.val (x_as (v:=.int _ _) rfl) rfl ?_)))));refine L.nil (thn_n (W.block (W.loop (fun m' E w'=>∃ (i:Nat),m'=env.length - i∧E 0=.slice p env.length cap∧E 3=.int .i64 (i:Nat)∧(Bel w w')∧(RecRow BdC 7 A0 w' p row env)∧(i≤env.length)∧((env.take i).all (fun b=>decide (b.sh.size≤800))=true)) (env.length) ?_ ?_)))
   ·exact ⟨0,by omega,vi_,vi_,ao_,ao_,ao_,(by rfl)⟩
   ·rintro _ E wL7 ⟨i,em,e0,e3,hB,hE,hi,hall⟩;rw [upd_self e0,upd_self e3];refine W.seq (W.seq (W.region (L.val (x_mv (v:=.int _ _) rfl) rfl ?_)));refine L.val (x_mv (v:=.slice _ _ _) rfl) rfl ?_;refine L.val (x_len_slice Try.underlying26 rfl) rfl ?_;refine L.val (x_lss rfl rfl) rfl ?_;refine L.nil (thn_n (W.cond (b:=_) rfl (fun g10=>?_) (fun g10=>?_)))
    ·have h10:=of_decide_eq_true g10;have hip:i<env.length:=by omega
     obtain ⟨pb,po,rfl,-,-⟩:=hE.elem hip;obtain ⟨rs,e1,hs,hlo,hln⟩:=hE.each i hip;have hrs:=hs.len;have e2:env.take (i+1)=env.take i++[env.getD i default]:=by rw [List.take_succ_eq_append_getElem hip,List.getD_eq_getElem?_getD,List.getElem?_eq_getElem hip];rfl
     refine W.skip (thn_n (W.seq (W.block (W.seq (W.region (L.val (x_mv (v:=.slice _ _ _) rfl) rfl ?_))))));refine L.val (x_mv (v:=.int _ _) rfl) rfl ?_;refine L.val (x_ia (j:=i) Try.underlying26 klawexp_sz37 rfl rfl om_ om_) rfl ?_;refine L.val (x_fa klawexp_fo37_2 rfl) rfl ?_;refine L.val (x_ldn (vs:=rs) klawexp_ag25 rfl hrs (by have:=hE.rowD hip 2 (m:=5) (by rw [e1];exact hrs);rw [e1] at this;exact this)) rfl ?_;refine L.ret (x_call klawexp_en14 rfl) rfl (size07 _ (env.getD i default).sh (Nat.lt_succ_self _) A0 _ 800 _ om_ om_ hs) ?_;rintro _ w18 ⟨rfl,hw⟩;have hB:=hB.carry hw;have hE:=hE.carry hw;refine L.val (x_gtr rfl rfl) rfl ?_;refine L.nil (thn_n (W.cond (b:=_) rfl (fun g19=>?_) (fun g19=>?_)))
     ·have h19:=of_decide_eq_true g19;refine W.seq (W.region (L.val (x_as (v:=.bool _) rfl) rfl ?_));refine L.nil (thn_n (W.ret (blk_r (thn_r (thn_r (blk_r (thn_r (fin_mk (.inr rfl) ?_))))))));have hbig:¬ (env.getD i default).sh.size≤800:=by omega
      have hno:env.all (fun b=>decide (b.sh.size≤800))=false:=by
        rw [List.all_eq_false];refine ⟨env.getD i default,?_,by simpa using hbig⟩;rw [List.getD_eq_getElem?_getD,List.getElem?_eq_getElem hip];exact List.getElem_mem _
      have e:smallE env=false:=by unfold smallE;rw [hno,Bool.and_false]
      exact ⟨vb e.symm,hB⟩
     ·have h19:=dlt_f g19;have hsm:(env.getD i default).sh.size≤800:=by omega
      refine W.skip (blk_n (thn_n (W.region (L.val (x_mv (v:=.int _ _) rfl) rfl ?_))));refine L.val (x_add rfl rfl (wr64 om_)) rfl ?_;refine L.val (x_as (v:=.int _ _) rfl) rfl ?_;refine L.nil (thn_n ⟨rfl,?_⟩);refine ⟨_,?_,i+1,rfl,vi_,vi_,ao_,ao_,ao_,(by rw [e2,List.all_append,hall];simpa using hsm)⟩;omega
    ·have h10:=dlt_f g10;refine W.exit (thn_x (thn_x (blk_hit ?_)));refine thn_n (W.seq (W.region (L.val (x_as (v:=.bool _) rfl) rfl ?_)));refine L.nil (thn_n (W.ret (fin_mk (.inr rfl) ?_)));have hii:i=env.length:=by omega
     rw [hii,List.take_length] at hall;have e:smallE env=true:=by unfold smallE;rw [hall,decide_eq_true (by omega:env.length≤60)];rfl
     exact ⟨vb e.symm,hB⟩
theorem smallE_iff {env:List Bd}:smallE env=true↔env.length≤60∧∀ b∈env,b.sh.size≤800:=by
  unfold smallE;simp
def shL11:Sh:=.mk 5 [] [] [] [.mk 1 [] [] [] []]
def shA11:Sh:=.mk 9 [] [65] [] []
def shX11:Sh:=.mk 6 [] [] [[120],[97]] [shA11,.mk 1 [] [] [] []]
def shR11:Sh:=.mk 6 [] [] [[97],[120]] [.mk 1 [] [] [] [],shL11]
def env11:List Bd:=[⟨[],[65],shL11⟩]
theorem rsv11:rsvS (findB env11) shX11=(shR11,0):=by kernel_rfl
theorem rsv11':rsvS (findB []) shX11=(zeroS,110):=by kernel_rfl
theorem awake11 (w:World):Ret Try.prog 10 #[] w fun v w'=>v=.bool true∧Bel w w':=by
  refine ret_of_W Try.func10 rfl (Nat.le_of_ble_eq_true rfl) (res1 rfl) ?_;have hB:=Gr.refl (fun _=>False) w;refine W.seq (W.region (L.val (x_as (v:=.bool _) rfl) rfl ?_));refine L.nil (thn_n (W.seq (W.region (L.val (x_build (cells:=[.int _ _,S _,S _,.slice _ _ _,.slice _ _ _]) klawexp_si25 rfl rfl) rfl ?_))));refine L.alloc (cs:=[Value.int .i64 0,S [],S [],Value.slice none 0 0,Value.slice none 0 0]) klawexp_zr25 rfl rfl (fun w1 bx1 hw hz1=>?_);have hB:=hB.carry hw;refine L.setRow klawexp_ag25 rfl rfl bx1 rfl rfl (by simp [Value.oneCell',S]) (fun wl4 bx1 hw hzl4=>?_);have hsz:=hB.size;have hB:=hB.set hw om_;refine L.nil (thn_n (W.seq (W.region (L.val (x_ldn (vs:=leafC 1) klawexp_ag25 rfl rfl (bx1.row rfl)) rfl ?_))));refine L.bs (sz:=5) (cells:=leafC 1) Try.underlying23 klawexp_el25 rfl rfl rfl rfl (fun w11 bx11 hw hz11=>?_);have hB:=hB.carry hw;have bx1:=bx1.carry hw;refine L.val (x_build (cells:=[.int _ _,S _,S _,.slice _ _ _,.slice _ _ _]) klawexp_si25 rfl rfl) rfl ?_;refine L.alloc (cs:=[Value.int .i64 0,S [],S [],Value.slice none 0 0,Value.slice none 0 0]) klawexp_zr25 rfl rfl (fun w2 bx2 hw hz2=>?_);have hB:=hB.carry hw;have bx1:=bx1.carry hw;have bx11:=bx11.carry hw;refine L.setRow klawexp_ag25 rfl rfl bx2 rfl rfl (by simp [Value.oneCell',S]) (fun wl9 bx2 hw hzl9=>?_);have hsz:=hB.size;have hB:=hB.set hw om_;have bx1:=bx1.carryR hw om_;have bx11:=bx11.carryR hw om_;refine L.nil (thn_n (W.seq (W.region (L.val (x_build (cells:=[.int _ _,S _,S _,.slice _ _ _,.slice _ _ _]) klawexp_si25 rfl rfl) rfl ?_))));refine L.alloc (cs:=[Value.int .i64 0,S [],S [],Value.slice none 0 0,Value.slice none 0 0]) klawexp_zr25 rfl rfl (fun w3 bx3 hw hz3=>?_);have hB:=hB.carry hw;have bx1:=bx1.carry hw;have bx11:=bx11.carry hw;have bx2:=bx2.carry hw;refine L.setRow klawexp_ag25 rfl rfl bx3 rfl rfl (by simp [Value.oneCell',S]) (fun wl12 bx3 hw hzl12=>?_);have hsz:=hB.size;have hB:=hB.set hw om_;have bx1:=bx1.carryR hw om_;have bx11:=bx11.carryR hw om_;have bx2:=bx2.carryR hw om_;refine L.nil (thn_n (W.seq (W.region (L.bs (sz:=1) (cells:=[S [120],S [97]]) Try.underlying22 klawexp_el9 rfl rfl rfl rfl (fun w14 bx14 hw hz14=>?_)))));have hB:=hB.carry hw;have bx1:=bx1.carry hw;have bx11:=bx11.carry hw;have bx2:=bx2.carry hw;have bx3:=bx3.carry hw;refine L.val (x_ldn (vs:=[.int .i64 9,S [],S [65],.slice none 0 0,.slice none 0 0]) klawexp_ag25 rfl rfl (bx3.row rfl)) rfl ?_;refine L.val (x_ldn (vs:=leafC 1) klawexp_ag25 rfl rfl (bx1.row rfl)) rfl ?_;refine L.bs (sz:=5) (cells:=[.int .i64 9,S [],S [65],.slice none 0 0,.slice none 0 0,.int .i64 1,S [],S [],.slice none 0 0,.slice none 0 0]) Try.underlying23 klawexp_el25 rfl rfl rfl rfl (fun w17 bx17 hw hz17=>?_);have hB:=hB.carry hw;have bx1:=bx1.carry hw;have bx11:=bx11.carry hw;have bx2:=bx2.carry hw;have bx3:=bx3.carry hw;have bx14:=bx14.carry hw;refine L.val (x_build (cells:=[.int _ _,S _,S _,.slice _ _ _,.slice _ _ _]) klawexp_si25 rfl rfl) rfl ?_;refine L.alloc (cs:=[Value.int .i64 0,S [],S [],Value.slice none 0 0,Value.slice none 0 0]) klawexp_zr25 rfl rfl (fun w4 bx4 hw hz4=>?_);have hB:=hB.carry hw;have bx1:=bx1.carry hw;have bx11:=bx11.carry hw;have bx2:=bx2.carry hw;have bx3:=bx3.carry hw;have bx14:=bx14.carry hw;have bx17:=bx17.carry hw;refine L.setRow klawexp_ag25 rfl rfl bx4 rfl rfl (by simp [Value.oneCell',S]) (fun wl19 bx4 hw hzl19=>?_);have hsz:=hB.size;have hB:=hB.set hw om_;have bx1:=bx1.carryR hw om_;have bx11:=bx11.carryR hw om_;have bx2:=bx2.carryR hw om_;have bx3:=bx3.carryR hw om_;have bx14:=bx14.carryR hw om_;have bx17:=bx17.carryR hw om_;have hA:ShC (fun _=>False) wl19 [.int .i64 9,S [],S [65],.slice none 0 0,.slice none 0 0] shA11:=ShC.intro (StrsAt.nil _ _ _ _ (by simp)) (ShsAt.nil _ _ _ _ (by simp)) (by simp) (by simp);have hx:ShC (fun _=>False) wl19 [.int .i64 6,S [],S [],.slice (some ⟨wl12.heap.size,0,none⟩) 2 2,.slice (some ⟨w14.heap.size,0,none⟩) 2 2] shX11:=
    ShC.intro (strs_of_box [[120],[97]] bx14 (fun f=>f) (by simp) (by simp)) (shs_of_box [[.int .i64 9,S [],S [65],.slice none 0 0,.slice none 0 0],leafC 1] [shA11,.mk 1 [] [] [] []] bx17 (fun f=>f) (by simp) rfl (each2 hA (leaf _ _ 1))) (by simp) (by simp)
  have hl:ShC (fun _=>False) wl19 [.int .i64 5,S [],S [],.slice none 0 0,.slice (some ⟨wl4.heap.size,0,none⟩) 1 1] shL11:=
    ShC.intro (StrsAt.nil _ _ _ _ (by simp)) (shs_of_box [leafC 1] [.mk 1 [] [] [] []] bx11 (fun f=>f) (by simp) rfl (each1 (leaf _ _ 1))) (by simp) (by simp)
  have hx:=hx.up;have hl:=hl.up;have z19:=hB.size;refine L.nil (thn_n (W.seq (W.region (L.val (x_ldn (vs:=[.int .i64 6,S [],S [],.slice (some ⟨wl12.heap.size,0,none⟩) 2 2,.slice (some ⟨w14.heap.size,0,none⟩) 2 2]) klawexp_ag25 rfl rfl (bx4.row rfl)) rfl ?_))));refine L.val (x_ldn (vs:=[.int .i64 5,S [],S [],.slice none 0 0,.slice (some ⟨wl4.heap.size,0,none⟩) 1 1]) klawexp_ag25 rfl rfl (bx2.row rfl)) rfl ?_;refine L.val (x_build (cells:=[S _,S _,.int _ _,S _,S _,.slice _ _ _,.slice _ _ _]) klawexp_si37 rfl rfl) rfl ?_;refine L.bs (sz:=7) (cells:=[S [],S [65],.int .i64 5,S [],S [],.slice none 0 0,.slice (some ⟨wl4.heap.size,0,none⟩) 1 1]) Try.underlying26 klawexp_el37 rfl rfl rfl rfl (fun w23 bx23 hw hz23=>?_);have hB:=hB.carry hw;have bx1:=bx1.carry hw;have bx2:=bx2.carry hw;have bx4:=bx4.carry hw;have hx:=hx.carry hw;have hl:=hl.carry hw;have hE:BdsAt (fun k=>wl19.heap.size<k) w23 (.slice (some ⟨wl19.heap.size,0,none⟩) 1 1) env11:=recs_of_box (k:=7) [[S [],S [65],.int .i64 5,S [],S [],.slice none 0 0,.slice (some ⟨wl4.heap.size,0,none⟩) 1 1]] env11 bx23 (Nat.lt_irrefl _) (by simp [env11]) rfl
      (fun i hi=>by match i,hi with | 0,_=>rfl) (fun i hi=>by match i,hi with | 0,_=>exact ⟨_,rfl,hl.mono (fun k _ h=>.inr (Nat.le_of_lt h)),by simp [env11],by simp [env11]⟩)
  refine L.ret (x_call klawexp_en11 rfl) rfl (resolve_ok _ _ shX11 env11 _ _ _ hx hE (by simp [env11])) ?_;rintro _ w24 ⟨cs24,rfl,h5,hw⟩;have hB:=hB.carry hw;have bx1:=bx1.carry hw;have bx2:=bx2.carry hw;have bx4:=bx4.carry hw;have hx:=hx.carry hw;have hl:=hl.carry hw;have bx23:=bx23.carry hw;rw [rsv11] at h5 ⊢;have hl5:=h5.len;have h5:=h5.up;have hs24:=hw.size;have hsB24:=hB.size;refine L.val (x_mv (v:=_) rfl) rfl ?_;refine L.val (x_ext (v:=_) rfl rfl) rfl ?_;refine L.val (x_ext (v:=.int _ _) rfl rfl) rfl ?_;refine L.alloc (cs:=[Value.int .i64 0,S [],S [],Value.slice none 0 0,Value.slice none 0 0]) klawexp_zr25 rfl rfl (fun w5 bx5 hw hz5=>?_);have hB:=hB.carry hw;have bx1:=bx1.carry hw;have bx2:=bx2.carry hw;have bx4:=bx4.carry hw;have hx:=hx.carry hw;have hl:=hl.carry hw;have bx23:=bx23.carry hw;have h5:=h5.carry hw;refine L.setRow klawexp_ag25 rfl rfl bx5 rfl hl5 h5.one (fun wl29 bx5 hw hzl29=>?_);have hsz:=hB.size;have hB:=hB.set hw om_;have bx1:=bx1.carryR hw om_;have bx2:=bx2.carryR hw om_;have bx4:=bx4.carryR hw om_;have hx:=hx.carryR hw (fun j e=>.inr (by have e:j=_:=e;omega));have hl:=hl.carryR hw (fun j e=>.inr (by have e:j=_:=e;omega));have bx23:=bx23.carryR hw om_;have h5:=h5.carryR hw (fun j e=>.inr (by have e:j=_:=e;omega));refine L.val (x_as (v:=.int _ _) rfl) rfl ?_;refine L.nil (thn_n (W.seq (W.region (L.val (x_ldn (vs:=[.int .i64 6,S [],S [],.slice (some ⟨wl12.heap.size,0,none⟩) 2 2,.slice (some ⟨w14.heap.size,0,none⟩) 2 2]) klawexp_ag25 rfl rfl (bx4.row rfl)) rfl ?_))));refine L.ret (x_call klawexp_en11 rfl) rfl (resolve_ok _ (fun _=>False) shX11 [] _ _ _ hx (RecsAt.nil om_) (by simp)) ?_;rintro _ w29 ⟨cs29,rfl,h7,hw⟩;have hB:=hB.carry hw;have bx1:=bx1.carry hw;have bx2:=bx2.carry hw;have bx4:=bx4.carry hw;have bx5:=bx5.carry hw;have hx:=hx.carry hw;have hl:=hl.carry hw;have h5:=h5.carry hw;rw [rsv11'] at h7 ⊢;have hl7:=h7.len;have hs29:=hw.size;have hx5:=bx5.lt;refine L.val (x_mv (v:=_) rfl) rfl ?_;refine L.val (x_ext (v:=_) rfl rfl) rfl ?_;refine L.val (x_ext (v:=.int _ _) rfl rfl) rfl ?_;refine L.alloc (cs:=[Value.int .i64 0,S [],S [],Value.slice none 0 0,Value.slice none 0 0]) klawexp_zr25 rfl rfl (fun w7 bx7 hw hz7=>?_);have hB:=hB.carry hw;have bx1:=bx1.carry hw;have bx2:=bx2.carry hw;have bx4:=bx4.carry hw;have bx5:=bx5.carry hw;have hx:=hx.carry hw;have hl:=hl.carry hw;have h5:=h5.carry hw;refine L.setRow klawexp_ag25 rfl rfl bx7 rfl hl7 h7.one (fun wl37 bx7 hw hzl37=>?_);have hsz:=hB.size;have hB:=hB.set hw om_;have bx1:=bx1.carryR hw om_;have bx2:=bx2.carryR hw om_;have bx4:=bx4.carryR hw om_;have bx5:=bx5.carryR hw om_;have hx:=hx.carryR hw (fun j e=>.inr (by have e:j=_:=e;omega));have hl:=hl.carryR hw (fun j e=>.inr (by have e:j=_:=e;omega));have h5:=h5.carryR hw (fun j e=>.inr (by have e:j=_:=e;omega));refine L.val (x_as (v:=.int _ _) rfl) rfl ?_;refine L.nil (thn_n (W.seq (W.region (L.val (x_mv (v:=.int _ _) rfl) rfl ?_))));refine L.val (x_eql rfl rfl) rfl ?_;refine L.val (x_mv (v:=.bool _) rfl) rfl ?_;refine' L.group 7 35 41 41 34 true rfl ?_ ?_ ?_;rotate_left 1
  ·intro g34 hg34;have h34:=of_decide_eq_true g34;refine L.gyes' (dj:=34) (b:=_) rfl rfl g34 ?_;refine L.val (x_ldn (vs:=cs24) klawexp_ag25 rfl hl5 (bx5.row hl5)) rfl ?_;refine L.gyes' (dj:=34) (b:=_) rfl rfl g34 ?_;refine L.bs (sz:=1) (cells:=[S [97],S [120]]) Try.underlying22 klawexp_el9 rfl rfl rfl rfl (fun w36 bx36 hw hz36=>?_);have hB:=hB.carry hw;have bx1:=bx1.carry hw;have bx2:=bx2.carry hw;have bx5:=bx5.carry hw;have hl:=hl.carry hw;have h5:=h5.carry hw;have hg34:=hg34.carry hw;refine L.gyes' (dj:=34) (b:=_) rfl rfl g34 ?_;refine L.val (x_ldn (vs:=leafC 1) klawexp_ag25 rfl rfl (bx1.row rfl)) rfl ?_;refine L.gyes' (dj:=34) (b:=_) rfl rfl g34 ?_;refine L.val (x_ldn (vs:=[.int .i64 5,S [],S [],.slice none 0 0,.slice (some ⟨wl4.heap.size,0,none⟩) 1 1]) klawexp_ag25 rfl rfl (bx2.row rfl)) rfl ?_;refine L.gyes' (dj:=34) (b:=_) rfl rfl g34 ?_;refine L.bs (sz:=5) (cells:=[.int .i64 1,S [],S [],.slice none 0 0,.slice none 0 0,.int .i64 5,S [],S [],.slice none 0 0,.slice (some ⟨wl4.heap.size,0,none⟩) 1 1]) Try.underlying23 klawexp_el25 rfl rfl rfl rfl (fun w39 bx39 hw hz39=>?_);have hB:=hB.carry hw;have bx1:=bx1.carry hw;have bx2:=bx2.carry hw;have bx5:=bx5.carry hw;have hl:=hl.carry hw;have h5:=h5.carry hw;have hg34:=hg34.carry hw;have bx36:=bx36.carry hw;have hr:ShC (fun _=>False) w39 [.int .i64 6,S [],S [],.slice (some ⟨wl37.heap.size,0,none⟩) 2 2,.slice (some ⟨w36.heap.size,0,none⟩) 2 2] shR11:=
     ShC.intro (strs_of_box [[97],[120]] bx36 (fun f=>f) (by simp) (by simp)) (shs_of_box [leafC 1,[.int .i64 5,S [],S [],.slice none 0 0,.slice (some ⟨wl4.heap.size,0,none⟩) 1 1]] [.mk 1 [] [] [] [],shL11] bx39 (fun f=>f) (by simp) rfl (each2 (leaf _ _ 1) (hl.mono fun k _ h=>h.elim))) (by simp) (by simp)
   refine L.gyes' (dj:=34) (b:=_) rfl rfl g34 ?_;refine L.val (x_build (cells:=[.int _ _,S _,S _,.slice _ _ _,.slice _ _ _]) klawexp_si25 rfl rfl) rfl ?_;refine L.gyes' (dj:=34) (b:=_) rfl rfl g34 ?_;refine L.ret (x_call klawexp_en13 rfl) rfl (equal07 _ _ _ (Nat.lt_succ_self _) _ _ _ _ _ h5 hr) ?_;rintro _ w41 ⟨rfl,hw⟩;have hB:=hB.carry hw;have bx1:=bx1.carry hw;have bx2:=bx2.carry hw;have bx5:=bx5.carry hw;have hl:=hl.carry hw;have h5:=h5.carry hw;have hg34:=hg34.carry hw;have bx36:=bx36.carry hw;have bx39:=bx39.carry hw;refine L.nil (thn_n ⟨rfl,?_,?_,fun _=>rfl⟩)
   ·exact hg34
   ·repeat (first | exact jeq.refl _ _ _ | refine jeq.upd rfl ?_ | refine jeq.jk rfl rfl ?_)
  ·intro g34;(iterate 7 refine L.gno (dj:=34) (b:=_) rfl rfl g34 rfl ?_);refine L.nil (thn_n ⟨rfl,Gr.refl _ _,?_⟩);refine ⟨?_,fun h=>h.elim⟩;repeat (first | exact jeq.refl _ _ _ | refine jeq.upd rfl ?_ | refine jeq.jk rfl rfl ?_)
  intro J34 w34 hw j34;have hB:=hB.carry hw;have bx1:=bx1.carry hw;have bx2:=bx2.carry hw;have bx5:=bx5.carry hw;have hl:=hl.carry hw;have h5:=h5.carry hw;refine L.val (x_and rfl j34) rfl ?_;refine L.val (x_mv (v:=.bool _) rfl) rfl ?_;refine' L.group0 2 44 45 45 43 true rfl ?_ ?_ ?_;rotate_left 1
  ·intro g43;have h43:=g43;refine L.gyes' (dj:=43) (b:=_) rfl rfl g43 ?_;refine L.val (x_mv (v:=.int _ _) rfl) rfl ?_;refine L.gyes' (dj:=43) (b:=_) rfl rfl g43 ?_;refine L.val (x_eql rfl rfl) rfl ?_;refine L.nil (thn_n ⟨rfl,rfl,?_,rfl⟩);repeat (first | exact jeq.refl _ _ _ | refine jeq.upd rfl ?_ | refine jeq.jk rfl rfl ?_)
  ·intro g43;refine L.gno (dj:=43) (b:=_) rfl rfl g43 rfl ?_;refine L.gno (dj:=43) (b:=_) rfl rfl g43 rfl ?_;refine L.nil (thn_n ⟨rfl,rfl,?_⟩);repeat (first | exact jeq.refl _ _ _ | refine jeq.upd rfl ?_ | refine jeq.jk rfl rfl ?_)
  intro J43 j43;refine L.val (x_and rfl j43) rfl ?_;refine L.val (x_as (v:=.bool _) rfl) rfl ?_;refine L.nil (thn_n (W.ret (fin_mk (.inr rfl) ?_)));exact ⟨vb (by rw [eqS_t rfl];rfl),hB⟩
end Go.Gx
namespace Go.Gx
open Go.Sort
theorem putS_mk {F:Str→Str→Option Sh} {k:Int} {o n:Str} {ns:List Str} {ps:List Sh}:putS F (.mk k o n ns ps)=if k=9 then F o n else (putL F ps).map fun qs=>.mk k o n ns qs:=by rw [putS]
theorem sort_mkN {k:Int} {o n:Str} {ns:List Str} {ps:List Sh} (h:¬ ns=[]):(Sh.mk k o n ns ps).sort=.mk k o n ((pairUp ns (ps.map Sh.sort)).map (·.1)) ((pairUp ns (ps.map Sh.sort)).map (·.2)):=by rw [Sh.sort_eq];exact if_neg h
theorem turn_mkN {k:Int} {o n:Str} {ns:List Str} {ps:List Sh} (h:¬ ns=[]):(Sh.mk k o n ns ps).turn=.mk k o n ns.reverse (ps.map Sh.turn).reverse:=by rw [Sh.turn_eq];exact if_neg h
mutual
def Sh.meets (of nm:Str):Sh→Bool
  | .mk k o n _ ps=>meetsL of nm ps || (decide (k=9) && o == of && n == nm)
def meetsL (of nm:Str):List Sh→Bool
  | []=>false
  | p :: ps=>p.meets of nm || meetsL of nm ps
end
theorem meetsL_any {of nm:Str}:∀ {l:List Sh},meetsL of nm l=l.any (Sh.meets of nm)
  | []=>rfl
  | p :: ps=>by rw [meetsL,meetsL_any (l:=ps)];rfl
theorem Sh.meets_eq {of nm:Str} (s:Sh):s.meets of nm=(s.parts.any (Sh.meets of nm) || (decide (s.kind=9) && s.of == of && s.name == nm)):=by
  cases s with
  | mk k o n ns ps=>rw [Sh.meets,meetsL_any];rfl
theorem put_moreN {F F':Str→Str→Option Sh} {of nm:Str} (hF:∀ o n,¬ (o=of∧n=nm)→F' o n=F o n):∀ (N:Nat) (s:Sh),SizeOf.sizeOf s<N→s.meets of nm=false→putS F' s=putS F s
  | 0,_,h,_=>by omega
  | N+1,s,hN,h=>by
    rw [Sh.meets_eq,Bool.or_eq_false_iff] at h;by_cases hk:s.kind=9
    · rw [putS_name hk,putS_name hk];refine hF _ _ fun e=>?_
      have:=h.2;rw [hk,e.1,e.2] at this;simp at this
    · have each:∀ i,i<s.parts.length→putP F' s i=putP F s i:=fun i hi=>by
        refine put_moreN hF N _ (by have:=Sh.part_lt (s:=s) hi;omega) ?_;have h1:=List.any_eq_false.1 h.1 (s.parts.getD i default) (by rw [List.getD_eq_getElem?_getD,List.getElem?_eq_getElem hi];exact List.getElem_mem _);simpa using h1
      rw [putS_else hk,putS_else hk];have e1:(List.range s.parts.length).all (fun i=>(putP F' s i).isSome)=(List.range s.parts.length).all (fun i=>(putP F s i).isSome):=by
        rw [Bool.eq_iff_iff,List.all_eq_true,List.all_eq_true];exact ⟨fun g i hi=>by rw [← each i (List.mem_range.1 hi)];exact g i hi,fun g i hi=>by rw [each i (List.mem_range.1 hi)];exact g i hi⟩
      have e2:((List.range s.parts.length).map fun i=>(putP F' s i).getD default)=(List.range s.parts.length).map fun i=>(putP F s i).getD default:=List.map_congr_left fun i hi=>by rw [each i (List.mem_range.1 hi)]
      rw [e1,e2]
theorem findB_ins {b:Bd} {o n:Str} (h:¬ (b.of=o∧b.name=n)):∀ {l m:List Bd},findB (l++b :: m) o n=findB (l++m) o n
  | [],m=>by
    rw [List.nil_append,List.nil_append,findB,if_neg h];cases findB m o n <;> rfl
  | a :: l,m=>by rw [List.cons_append,List.cons_append,findB,findB,findB_ins h]
theorem rsv_more {b:Bd} {l m:List Bd} {s:Sh} (h:s.meets b.of b.name=false):rsvS (findB (l++b :: m)) s=rsvS (findB (l++m)) s:=by
  unfold rsvS;rw [put_moreN (F:=findB (l++m)) (F':=findB (l++b :: m)) (fun o n hne=>findB_ins (fun e=>hne ⟨e.1.symm,e.2.symm⟩)) _ s (Nat.lt_succ_self _) h]
structure Lk (t' t:Sh):Prop where
  size:t'.size=t.size
  deep:t'.deep=t.deep
  fits:t'.allB fitsS=t.allB fitsS
  sort:t.allB fitsS=true→t'.sort=t.sort
structure LkL (l' l:List Sh):Prop where
  len:l'.length=l.length
  size:sizeL l'=sizeL l
  deep:deepL l'=deepL l
  fits:allL fitsS l'=allL fitsS l
  sort:allL fitsS l=true→l'.map Sh.sort=l.map Sh.sort
theorem Lk.refl (t:Sh):Lk t t:=⟨rfl,rfl,rfl,fun _=>rfl⟩
theorem LkL.cons {t' t:Sh} {l' l:List Sh} (h:Lk t' t) (hl:LkL l' l):LkL (t' :: l') (t :: l):=by
  refine ⟨by simp [hl.len],by rw [sizeL,sizeL,h.size,hl.size],by rw [deepL,deepL,h.deep,hl.deep],by rw [allL,allL,h.fits,hl.fits],fun hf=>?_⟩;rw [allL,Bool.and_eq_true] at hf;rw [List.map_cons,List.map_cons,h.sort hf.1,hl.sort hf.2]
theorem putL_turn {F:Str→Str→Option Sh}:∀ {ps:List Sh},(∀ p∈ps,(∀ t,putS F p=some t→∃ t',putS F p.turn=some t'∧Lk t' t)∧(putS F p=none→putS F p.turn=none))→
    (∀ qs,putL F ps=some qs→∃ qs',putL F (ps.map Sh.turn)=some qs'∧LkL qs' qs)∧(putL F ps=none→putL F (ps.map Sh.turn)=none)
  | [],_=>⟨fun qs h=>by rw [putL] at h;cases h;exact ⟨[],by rw [List.map_nil,putL],⟨rfl,rfl,rfl,rfl,fun _=>rfl⟩⟩,fun h=>by rw [putL] at h;cases h⟩
  | p :: ps,h=>by
    obtain ⟨h1,h2⟩:=h p (by simp);obtain ⟨g1,g2⟩:=putL_turn (ps:=ps) fun q hq=>h q (by simp [hq])
    rw [List.map_cons,putL,putL];cases hp:putS F p with
    | none=>rw [h2 hp];exact ⟨fun qs e=>(by cases e),fun _=>rfl⟩
    | some t=>
      obtain ⟨t',e1,e2⟩:=h1 t hp;rw [e1];cases hq:putL F ps with
      | none=>rw [g2 hq];exact ⟨fun qs e=>(by cases e),fun _=>rfl⟩
      | some qs=>
        obtain ⟨qs',e3,e4⟩:=g1 qs hq;rw [e3];exact ⟨fun r e=>(by cases e;exact ⟨_,rfl,.cons e2 e4⟩),fun e=>(by cases e)⟩
theorem putL_rev {F:Str→Str→Option Sh} {l:List Sh}:putL F l.reverse=(putL F l).map List.reverse:=by
  rw [putL_eq,putL_eq,List.all_reverse,List.map_reverse];split <;> rfl
theorem allL_perm {l l':List Sh} (h:l.Perm l'):allL fitsS l=allL fitsS l':=by
  rw [Bool.eq_iff_iff,allL_iff,allL_iff];exact ⟨fun g x hx=>g x (h.mem_iff.2 hx),fun g x hx=>g x (h.mem_iff.1 hx)⟩
theorem put_turnN {F:Str→Str→Option Sh}:∀ (N:Nat) (s:Sh),SizeOf.sizeOf s<N→(∀ t,putS F s=some t→∃ t',putS F s.turn=some t'∧Lk t' t)∧(putS F s=none→putS F s.turn=none)
  | 0,_,h=>by omega
  | N+1,s,hN=>by
    have hkind:s.turn.kind=s.kind∧s.turn.of=s.of∧s.turn.name=s.name:=by rw [Sh.turn_eq];split <;> exact ⟨rfl,rfl,rfl⟩
    by_cases hk:s.kind=9
    · rw [putS_name hk,putS_name (hkind.1.trans hk),hkind.2.1,hkind.2.2];exact ⟨fun t h=>⟨t,h,Lk.refl t⟩,fun h=>h⟩
    · obtain ⟨g1,g2⟩:=putL_turn (F:=F) (ps:=s.parts) fun p hp=>by
        refine put_turnN N p ?_;obtain ⟨i,hi,rfl⟩:=List.getElem_of_mem hp;have:=Sh.part_lt (s:=s) hi;rw [List.getD_eq_getElem?_getD,List.getElem?_eq_getElem hi,Option.getD_some] at this;omega
      cases s with
      | mk k o n ns ps=>
      have hk9:¬ k=9:=hk;simp only [Sh.parts] at g1 g2;by_cases hn:ns=[]
      · subst hn;rw [Sh.turn_eq];simp only [Sh.names,Sh.parts,Sh.kind,Sh.of,Sh.name,if_true];rw [putS_mk,putS_mk,if_neg hk9,if_neg hk9];refine ⟨fun t h=>?_,fun h=>?_⟩
        · obtain ⟨qs,hq,rfl⟩:=Option.map_eq_some_iff.1 h;obtain ⟨qs',e1,e2⟩:=g1 qs hq;rw [e1];refine ⟨_,rfl,⟨by rw [Sh.size_eq,Sh.size_eq];exact congrArg _ e2.size,by rw [Sh.deep_eq,Sh.deep_eq];exact congrArg _ e2.deep,?_,fun hf=>?_⟩⟩
          · rw [Sh.allB_eq,Sh.allB_eq];simp only [Sh.parts];rw [e2.fits,fits_perm (List.Perm.refl _) e2.len]
          · rw [Sh.allB_eq,Bool.and_eq_true] at hf;rw [Sh.sort_eq,Sh.sort_eq];simp only [Sh.names,Sh.parts,Sh.kind,Sh.of,Sh.name,if_true];rw [e2.sort hf.2]
        · rw [Option.map_eq_none_iff] at h ⊢;exact g2 h
      · rw [turn_mkN hn,putS_mk,putS_mk,if_neg hk9,if_neg hk9,putL_rev];refine ⟨fun t h=>?_,fun h=>?_⟩
        · obtain ⟨qs,hq,rfl⟩:=Option.map_eq_some_iff.1 h;obtain ⟨qs',e1,e2⟩:=g1 qs hq;rw [e1];refine ⟨.mk k o n ns.reverse qs'.reverse,rfl,⟨by rw [Sh.size_eq,Sh.size_eq];exact congrArg _ ((sizeL_perm (List.reverse_perm _)).trans e2.size),by rw [Sh.deep_eq,Sh.deep_eq];exact congrArg _ ((deepL_perm (List.reverse_perm _)).trans e2.deep),?_,fun hf=>?_⟩⟩
          · rw [Sh.allB_eq,Sh.allB_eq];simp only [Sh.parts];have e4:fitsS (.mk k o n ns.reverse qs'.reverse)=fitsS (.mk k o n ns qs):=fits_perm (List.reverse_perm ns) (by rw [List.length_reverse,e2.len]);rw [allL_perm (List.reverse_perm qs'),e2.fits,e4]
          · rw [Sh.allB_eq,Bool.and_eq_true] at hf;have hnn:¬ ns.reverse=[]:=by simpa using hn
            obtain ⟨hl,hd⟩:ns.length=qs.length∧nodup ns=true:=(fits_names hf.1).resolve_left hn;rw [sort_mkN hn,sort_mkN hnn];have e3:pairUp ns.reverse (qs'.reverse.map Sh.sort)=pairUp ns (qs.map Sh.sort):=by
              rw [List.map_reverse,e2.sort hf.2];refine pairUp_of ?_ (by simpa using hl) ((List.reverse_perm ns).nodup_iff.2 (nodup_iff.1 hd));rw [zip_rev (by simpa using hl)];exact List.reverse_perm _
            rw [e3]
        · rw [Option.map_eq_none_iff] at h;rw [g2 h];rfl
theorem rsv_turn {F:Str→Str→Option Sh} {s:Sh} (h:checkS s=0):rsvS F s.turn=rsvS F s:=by
  obtain ⟨h1,h2⟩:=put_turnN (F:=F) _ s (Nat.lt_succ_self _);unfold rsvS;rw [if_pos h,if_pos (check_turn h)];cases hp:putS F s with
  | none=>rw [h2 hp]
  | some t=>
    obtain ⟨t',e1,e2⟩:=h1 t hp;rw [e1];have hc:checkS t'=checkS t:=by unfold checkS;rw [e2.size,e2.deep,e2.fits]
    simp only [hc];by_cases ht:checkS t=0
    · rw [if_pos ht,if_pos ht,e2.sort (check_zero ht).2.2]
    · rw [if_neg ht,if_neg ht]
end Go.Gx
namespace Go.Gx
open Go.Proofs Go.Sort
def tN (s:Sh) (i:Nat):List Str:=if s.names=[] then [] else (s.names.take i).reverse
def tP (s:Sh) (i:Nat):List Sh:=if s.names=[] then (s.parts.take i).map Sh.turn else ((s.parts.take i).map Sh.turn).reverse
theorem tN_zero (s:Sh):tN s 0=[]:=by unfold tN;split <;> simp
theorem tP_zero (s:Sh):tP s 0=[]:=by unfold tP;split <;> simp
theorem tN_nil {s:Sh} {i:Nat} (h:s.names=[]):tN s i=[]:=by unfold tN;rw [if_pos h]
theorem tN_succ {s:Sh} {i:Nat} (h:s.names≠[]) (hi:i<s.names.length):tN s (i+1)=s.names.getD i [] :: tN s i:=by
  unfold tN;rw [if_neg h,if_neg h,List.take_succ_eq_append_getElem hi];simp [List.getD_eq_getElem?_getD,hi]
theorem tP_nil {s:Sh} {i:Nat} (h:s.names=[]) (hi:i<s.parts.length):tP s (i+1)=tP s i++[(s.parts.getD i default).turn]:=by
  unfold tP;rw [if_pos h,if_pos h,List.take_succ_eq_append_getElem hi,List.map_append];congr 1;simp [List.getD_eq_getElem?_getD,hi]
theorem tP_succ {s:Sh} {i:Nat} (h:s.names≠[]) (hi:i<s.parts.length):tP s (i+1)=(s.parts.getD i default).turn :: tP s i:=by
  unfold tP;rw [if_neg h,if_neg h,List.take_succ_eq_append_getElem hi,List.map_append,List.reverse_append];have e:s.parts.getD i default=s.parts[i]:=by simp [List.getD_eq_getElem?_getD,hi]
  rw [e];rfl
theorem tP_len {s:Sh} {i:Nat} (hi:i≤s.parts.length):(tP s i).length=i:=by
  unfold tP;split <;> simp <;> omega
theorem tN_len {s:Sh} {i:Nat}:(tN s i).length≤i:=by
  unfold tN;split <;> simp;omega
theorem tN_short {s:Sh} {i:Nat} (h:∀ x∈s.names,x.length≤9223372036854775807):∀ x∈tN s i,x.length≤9223372036854775807:=by
  unfold tN;split
  · simp
  · intro x hx;exact h x (List.mem_of_mem_take (List.mem_reverse.1 hx))
theorem turn_of_t {s:Sh} (h:s.names=[]∨s.names.length=s.parts.length):Sh.mk s.kind s.of s.name (tN s s.parts.length) (tP s s.parts.length)=s.turn:=by
  rw [Sh.turn_eq];unfold tN tP;by_cases hn:s.names=[]
  · rw [if_pos hn,if_pos hn,if_pos hn,List.take_length]
  · rw [if_neg hn,if_neg hn,if_neg hn,List.take_length,List.take_of_length_le (by have:=h.resolve_left hn;omega)]
end Go.Gx
