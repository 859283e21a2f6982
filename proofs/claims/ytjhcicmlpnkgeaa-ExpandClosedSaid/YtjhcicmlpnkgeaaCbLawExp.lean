/- Resolve by the document; small environments; what is fixed. Conditions: none. -/
import Derived.Test.YtjhcicmlpnkgeaaCbExp3
import Derived.Test.YtjhcicmlpnkgeaaCbEq
import Derived.Test.YtjhcicmlpnkgeaaCbSort3
import Derived.Test.YtjhcicmlpnkgeaaCbOwn
import Derived.Test.YtjhcicmlpnkgeaaCbPerm
namespace Go.Gx
open Go.Proofs
theorem klawexp_ag25:aggT Try.prog 25 5=true:=by kernel_rfl
theorem klawexp_el25:elT Try.prog 25 5=true:=by kernel_rfl
theorem klawexp_el37:elT Try.prog 37 7=true:=by kernel_rfl
theorem klawexp_el9:elT Try.prog 9 1=true:=by kernel_rfl
theorem klawexp_en11:Go.Proofs.Enters Try.prog 11:=Go.Proofs.enters_of Try.func11 kr_ rfl
theorem klawexp_en13:Go.Proofs.Enters Try.prog 13:=Go.Proofs.enters_of Try.func13 kr_ rfl
theorem klawexp_en14:Go.Proofs.Enters Try.prog 14:=Go.Proofs.enters_of Try.func14 kr_ rfl
theorem klawexp_fo37_2:fieldOff Try.prog 37 2=some 2:=by kernel_rfl
theorem klawexp_si25:structInfo Try.prog 25=some ([(0,1),(1,1),(2,1),(3,1),(4,1)],[Value.int .i64 0,S [],S [],Value.slice none 0 0,Value.slice none 0 0]):=by kernel_rfl
theorem klawexp_si37:structInfo Try.prog 37=some ([(0,1),(1,1),(2,5)],[S [],S [],Value.int .i64 0,S [],S [],Value.slice none 0 0,Value.slice none 0 0]):=by kernel_rfl
theorem klawexp_sz37:(Try.prog.info? 37).map (·.size)=some 7:=by kernel_rfl
theorem klawexp_zr25:(Try.prog.info? 25).bind (·.zero)=some (Value.agg [Value.int .i64 0,S [],S [],Value.slice none 0 0,Value.slice none 0 0].toArray):=by kernel_rfl
def smallE (env:List Bd):Bool:=decide (env.length≤60) && env.all fun b=>decide (b.sh.size≤800)
theorem small11 (A0:Nat→Prop) (env:List Bd) (v:Value) (w:World) (hE:BdsAt A0 w v env):
    Ret Try.prog 9 #[v] w fun v' w'=>v'=.bool (smallE env)∧Bel w w':=by
  obtain ⟨p,cap,row,rfl,p1,p2,p3,hE⟩:=hE;refine ret_of_W Try.func9 rfl (Nat.le_of_ble_eq_true rfl) (res1 rfl) ?_;have hB:=Gr.refl (fun _=>False) w;refine W.seq (W.region (L.val (x_as (v:=.bool _) rfl) rfl ?_));refine L.nil (thn_n (W.seq (W.seq (W.region (L.val (x_mv (v:=.slice _ _ _) rfl) rfl ?_)))));refine L.val (x_len_slice Try.underlying26 rfl) rfl ?_;refine L.val (x_gtr rfl rfl) rfl ?_;refine L.nil (thn_n (W.cond (b:=_) rfl (fun g6=>?_) (fun g6=>?_)))
  ·have h6:=of_decide_eq_true g6;refine W.seq (W.region (L.val (x_as (v:=.bool _) rfl) rfl ?_));refine L.nil (thn_n (W.ret (thn_r (fin_mk (.inr rfl) ?_))));have h:¬ env.length≤60:=by omega
   have e:smallE env=false:=by unfold smallE;rw [decide_eq_false h];rfl
   exact ⟨vb e.symm,hB⟩
  ·have h6:=dlt_f g6;refine W.skip (thn_n (W.seq (W.seq (W.region (L.val (x_as (v:=.int _ _) rfl) rfl ?_)))));refine L.nil (thn_n (W.block (W.loop (fun m' E w'=>∃ (i:Nat),m'=env.length - i∧E 0=.slice p env.length cap∧E 3=.int .i64 (i:Nat)∧(Bel w w')∧(RecRow BdC 7 A0 w' p row env)∧(i≤env.length)∧((env.take i).all (fun b=>decide (b.sh.size≤800))=true)) (env.length) ?_ ?_)))
   ·exact ⟨0,by omega,vi_,vi_,ao_,ao_,ao_,(by rfl)⟩
   ·rintro _ E wL7 ⟨i,em,e0,e3,hB,hE,hi,hall⟩;rw [upd_self e0,upd_self e3];refine W.seq (W.seq (W.region (L.val (x_mv (v:=.int _ _) rfl) rfl ?_)));refine L.val (x_mv (v:=.slice _ _ _) rfl) rfl ?_;refine L.val (x_len_slice Try.underlying26 rfl) rfl ?_;refine L.val (x_lss rfl rfl) rfl ?_;refine L.nil (thn_n (W.cond (b:=_) rfl (fun g10=>?_) (fun g10=>?_)))
    ·have h10:=of_decide_eq_true g10;have hip:i<env.length:=by omega
     obtain ⟨pb,po,rfl,-,-⟩:=hE.elem hip;obtain ⟨rs,e1,hs,hlo,hln⟩:=hE.each i hip;have hrs:=hs.len;have e2:env.take (i+1)=env.take i++[env.getD i default]:=by rw [List.take_succ_eq_append_getElem hip,List.getD_eq_getElem?_getD,List.getElem?_eq_getElem hip];rfl
     refine W.skip (thn_n (W.seq (W.block (W.seq (W.region (L.val (x_mv (v:=.slice _ _ _) rfl) rfl ?_))))));refine L.val (x_mv (v:=.int _ _) rfl) rfl ?_;refine L.val (x_ia (j:=i) Try.underlying26 klawexp_sz37 rfl rfl om_ om_) rfl ?_;refine L.val (x_fa klawexp_fo37_2 rfl) rfl ?_;refine L.val (x_ldn (vs:=rs) klawexp_ag25 rfl hrs (by have:=hE.rowD hip 2 (m:=5) (by rw [e1];exact hrs);rw [e1] at this;exact this)) rfl ?_;refine L.ret (x_call klawexp_en14 rfl) rfl (size07 _ (env.getD i default).sh (Nat.lt_succ_self _) A0 _ 800 _ om_ om_ hs) ?_;rintro _ w18 ⟨rfl,hw⟩;have hB:=hB.carry hw;have hE:=hE.carry hw;refine L.val (x_gtr rfl rfl) rfl ?_;refine L.nil (thn_n (W.cond (b:=_) rfl (fun g19=>?_) (fun g19=>?_)))
     ·have h19:=of_decide_eq_true g19;refine W.seq (W.region (L.val (x_as (v:=.bool _) rfl) rfl ?_));refine L.nil (thn_n (W.ret (blk_r (thn_r (thn_r (blk_r (thn_r (fin_mk (.inr rfl) ?_))))))));have hbig:¬ (env.getD i default).sh.size≤800:=by omega
      have hno:env.all (fun b=>decide (b.sh.size≤800))=false:=by
        rw [List.all_eq_false];refine ⟨env.getD i default,?_,by simpa using hbig⟩;rw [List.getD_eq_getElem?_getD,List.getElem?_eq_getElem hip];exact List.getElem_mem _
      have e:smallE env=false:=by unfold smallE;rw [hno,Bool.and_false]
      exact ⟨vb e.symm,hB⟩
     ·have h19:=dlt_f g19;have hsm:(env.getD i default).sh.size≤800:=by omega
      refine W.skip (blk_n (thn_n (W.region (L.val (x_mv (v:=.int _ _) rfl) rfl ?_))));refine L.val (x_add rfl rfl (wr64 om_)) rfl ?_;refine L.val (x_as (v:=.int _ _) rfl) rfl ?_;refine L.nil (thn_n ⟨rfl,?_⟩);refine ⟨_,?_,i+1,rfl,vi_,vi_,ao_,ao_,ao_,(by rw [e2,List.all_append,hall];simpa using hsm)⟩;omega
    ·have h10:=dlt_f g10;refine W.exit (thn_x (thn_x (blk_hit ?_)));refine thn_n (W.seq (W.region (L.val (x_as (v:=.bool _) rfl) rfl ?_)));refine L.nil (thn_n (W.ret (fin_mk (.inr rfl) ?_)));have hii:i=env.length:=by omega
     rw [hii,List.take_length] at hall;have e:smallE env=true:=by unfold smallE;rw [hall,decide_eq_true (by omega:env.length≤60)];rfl
     exact ⟨vb e.symm,hB⟩
theorem smallE_iff {env:List Bd}:smallE env=true↔env.length≤60∧∀ b∈env,b.sh.size≤800:=by
  unfold smallE;simp
def shL11:Sh:=.mk 5 [] [] [] [.mk 1 [] [] [] []]
def shA11:Sh:=.mk 9 [] [65] [] []
def shX11:Sh:=.mk 6 [] [] [[120],[97]] [shA11,.mk 1 [] [] [] []]
def shR11:Sh:=.mk 6 [] [] [[97],[120]] [.mk 1 [] [] [] [],shL11]
def env11:List Bd:=[⟨[],[65],shL11⟩]
theorem rsv11:rsvS (findB env11) shX11=(shR11,0):=by kernel_rfl
theorem rsv11':rsvS (findB []) shX11=(zeroS,110):=by kernel_rfl
theorem awake11 (w:World):Ret Try.prog 10 #[] w fun v w'=>v=.bool true∧Bel w w':=by
  refine ret_of_W Try.func10 rfl (Nat.le_of_ble_eq_true rfl) (res1 rfl) ?_;have hB:=Gr.refl (fun _=>False) w;refine W.seq (W.region (L.val (x_as (v:=.bool _) rfl) rfl ?_));refine L.nil (thn_n (W.seq (W.region (L.val (x_build (cells:=[.int _ _,S _,S _,.slice _ _ _,.slice _ _ _]) klawexp_si25 rfl rfl) rfl ?_))));refine L.alloc (cs:=[Value.int .i64 0,S [],S [],Value.slice none 0 0,Value.slice none 0 0]) klawexp_zr25 rfl rfl (fun w1 bx1 hw hz1=>?_);have hB:=hB.carry hw;refine L.setRow klawexp_ag25 rfl rfl bx1 rfl rfl (by simp [Value.oneCell',S]) (fun wl4 bx1 hw hzl4=>?_);have hsz:=hB.size;have hB:=hB.set hw om_;refine L.nil (thn_n (W.seq (W.region (L.val (x_ldn (vs:=leafC 1) klawexp_ag25 rfl rfl (bx1.row rfl)) rfl ?_))));refine L.bs (sz:=5) (cells:=leafC 1) Try.underlying23 klawexp_el25 rfl rfl rfl rfl (fun w11 bx11 hw hz11=>?_);have hB:=hB.carry hw;have bx1:=bx1.carry hw;refine L.val (x_build (cells:=[.int _ _,S _,S _,.slice _ _ _,.slice _ _ _]) klawexp_si25 rfl rfl) rfl ?_;refine L.alloc (cs:=[Value.int .i64 0,S [],S [],Value.slice none 0 0,Value.slice none 0 0]) klawexp_zr25 rfl rfl (fun w2 bx2 hw hz2=>?_);have hB:=hB.carry hw;have bx1:=bx1.carry hw;have bx11:=bx11.carry hw;refine L.setRow klawexp_ag25 rfl rfl bx2 rfl rfl (by simp [Value.oneCell',S]) (fun wl9 bx2 hw hzl9=>?_);have hsz:=hB.size;have hB:=hB.set hw om_;have bx1:=bx1.carryR hw om_;have bx11:=bx11.carryR hw om_;refine L.nil (thn_n (W.seq (W.region (L.val (x_build (cells:=[.int _ _,S _,S _,.slice _ _ _,.slice _ _ _]) klawexp_si25 rfl rfl) rfl ?_))));refine L.alloc (cs:=[Value.int .i64 0,S [],S [],Value.slice none 0 0,Value.slice none 0 0]) klawexp_zr25 rfl rfl (fun w3 bx3 hw hz3=>?_);have hB:=hB.carry hw;have bx1:=bx1.carry hw;have bx11:=bx11.carry hw;have bx2:=bx2.carry hw;refine L.setRow klawexp_ag25 rfl rfl bx3 rfl rfl (by simp [Value.oneCell',S]) (fun wl12 bx3 hw hzl12=>?_);have hsz:=hB.size;have hB:=hB.set hw om_;have bx1:=bx1.carryR hw om_;have bx11:=bx11.carryR hw om_;have bx2:=bx2.carryR hw om_;refine L.nil (thn_n (W.seq (W.region (L.bs (sz:=1) (cells:=[S [120],S [97]]) Try.underlying22 klawexp_el9 rfl rfl rfl rfl (fun w14 bx14 hw hz14=>?_)))));have hB:=hB.carry hw;have bx1:=bx1.carry hw;have bx11:=bx11.carry hw;have bx2:=bx2.carry hw;have bx3:=bx3.carry hw;refine L.val (x_ldn (vs:=[.int .i64 9,S [],S [65],.slice none 0 0,.slice none 0 0]) klawexp_ag25 rfl rfl (bx3.row rfl)) rfl ?_;refine L.val (x_ldn (vs:=leafC 1) klawexp_ag25 rfl rfl (bx1.row rfl)) rfl ?_;refine L.bs (sz:=5) (cells:=[.int .i64 9,S [],S [65],.slice none 0 0,.slice none 0 0,.int .i64 1,S [],S [],.slice none 0 0,.slice none 0 0]) Try.underlying23 klawexp_el25 rfl rfl rfl rfl (fun w17 bx17 hw hz17=>?_);have hB:=hB.carry hw;have bx1:=bx1.carry hw;have bx11:=bx11.carry hw;have bx2:=bx2.carry hw;have bx3:=bx3.carry hw;have bx14:=bx14.carry hw;refine L.val (x_build (cells:=[.int _ _,S _,S _,.slice _ _ _,.slice _ _ _]) klawexp_si25 rfl rfl) rfl ?_;refine L.alloc (cs:=[Value.int .i64 0,S [],S [],Value.slice none 0 0,Value.slice none 0 0]) klawexp_zr25 rfl rfl (fun w4 bx4 hw hz4=>?_);have hB:=hB.carry hw;have bx1:=bx1.carry hw;have bx11:=bx11.carry hw;have bx2:=bx2.carry hw;have bx3:=bx3.carry hw;have bx14:=bx14.carry hw;have bx17:=bx17.carry hw;refine L.setRow klawexp_ag25 rfl rfl bx4 rfl rfl (by simp [Value.oneCell',S]) (fun wl19 bx4 hw hzl19=>?_);have hsz:=hB.size;have hB:=hB.set hw om_;have bx1:=bx1.carryR hw om_;have bx11:=bx11.carryR hw om_;have bx2:=bx2.carryR hw om_;have bx3:=bx3.carryR hw om_;have bx14:=bx14.carryR hw om_;have bx17:=bx17.carryR hw om_;have hA:ShC (fun _=>False) wl19 [.int .i64 9,S [],S [65],.slice none 0 0,.slice none 0 0] shA11:=ShC.intro (StrsAt.nil _ _ _ _ (by simp)) (ShsAt.nil _ _ _ _ (by simp)) (by simp) (by simp);have hx:ShC (fun _=>False) wl19 [.int .i64 6,S [],S [],.slice (some ⟨wl12.heap.size,0,none⟩) 2 2,.slice (some ⟨w14.heap.size,0,none⟩) 2 2] shX11:=
    ShC.intro (strs_of_box [[120],[97]] bx14 (fun f=>f) (by simp) (by simp)) (shs_of_box [[.int .i64 9,S [],S [65],.slice none 0 0,.slice none 0 0],leafC 1] [shA11,.mk 1 [] [] [] []] bx17 (fun f=>f) (by simp) rfl (each2 hA (leaf _ _ 1))) (by simp) (by simp)
  have hl:ShC (fun _=>False) wl19 [.int .i64 5,S [],S [],.slice none 0 0,.slice (some ⟨wl4.heap.size,0,none⟩) 1 1] shL11:=
    ShC.intro (StrsAt.nil _ _ _ _ (by simp)) (shs_of_box [leafC 1] [.mk 1 [] [] [] []] bx11 (fun f=>f) (by simp) rfl (each1 (leaf _ _ 1))) (by simp) (by simp)
  have hx:=hx.up;have hl:=hl.up;have z19:=hB.size;refine L.nil (thn_n (W.seq (W.region (L.val (x_ldn (vs:=[.int .i64 6,S [],S [],.slice (some ⟨wl12.heap.size,0,none⟩) 2 2,.slice (some ⟨w14.heap.size,0,none⟩) 2 2]) klawexp_ag25 rfl rfl (bx4.row rfl)) rfl ?_))));refine L.val (x_ldn (vs:=[.int .i64 5,S [],S [],.slice none 0 0,.slice (some ⟨wl4.heap.size,0,none⟩) 1 1]) klawexp_ag25 rfl rfl (bx2.row rfl)) rfl ?_;refine L.val (x_build (cells:=[S _,S _,.int _ _,S _,S _,.slice _ _ _,.slice _ _ _]) klawexp_si37 rfl rfl) rfl ?_;refine L.bs (sz:=7) (cells:=[S [],S [65],.int .i64 5,S [],S [],.slice none 0 0,.slice (some ⟨wl4.heap.size,0,none⟩) 1 1]) Try.underlying26 klawexp_el37 rfl rfl rfl rfl (fun w23 bx23 hw hz23=>?_);have hB:=hB.carry hw;have bx1:=bx1.carry hw;have bx2:=bx2.carry hw;have bx4:=bx4.carry hw;have hx:=hx.carry hw;have hl:=hl.carry hw;have hE:BdsAt (fun k=>wl19.heap.size<k) w23 (.slice (some ⟨wl19.heap.size,0,none⟩) 1 1) env11:=recs_of_box (k:=7) [[S [],S [65],.int .i64 5,S [],S [],.slice none 0 0,.slice (some ⟨wl4.heap.size,0,none⟩) 1 1]] env11 bx23 (Nat.lt_irrefl _) (by simp [env11]) rfl
      (fun i hi=>by match i,hi with | 0,_=>rfl) (fun i hi=>by match i,hi with | 0,_=>exact ⟨_,rfl,hl.mono (fun k _ h=>.inr (Nat.le_of_lt h)),by simp [env11],by simp [env11]⟩)
  refine L.ret (x_call klawexp_en11 rfl) rfl (resolve_ok _ _ shX11 env11 _ _ _ hx hE (by simp [env11])) ?_;rintro _ w24 ⟨cs24,rfl,h5,hw⟩;have hB:=hB.carry hw;have bx1:=bx1.carry hw;have bx2:=bx2.carry hw;have bx4:=bx4.carry hw;have hx:=hx.carry hw;have hl:=hl.carry hw;have bx23:=bx23.carry hw;rw [rsv11] at h5 ⊢;have hl5:=h5.len;have h5:=h5.up;have hs24:=hw.size;have hsB24:=hB.size;refine L.val (x_mv (v:=_) rfl) rfl ?_;refine L.val (x_ext (v:=_) rfl rfl) rfl ?_;refine L.val (x_ext (v:=.int _ _) rfl rfl) rfl ?_;refine L.alloc (cs:=[Value.int .i64 0,S [],S [],Value.slice none 0 0,Value.slice none 0 0]) klawexp_zr25 rfl rfl (fun w5 bx5 hw hz5=>?_);have hB:=hB.carry hw;have bx1:=bx1.carry hw;have bx2:=bx2.carry hw;have bx4:=bx4.carry hw;have hx:=hx.carry hw;have hl:=hl.carry hw;have bx23:=bx23.carry hw;have h5:=h5.carry hw;refine L.setRow klawexp_ag25 rfl rfl bx5 rfl hl5 h5.one (fun wl29 bx5 hw hzl29=>?_);have hsz:=hB.size;have hB:=hB.set hw om_;have bx1:=bx1.carryR hw om_;have bx2:=bx2.carryR hw om_;have bx4:=bx4.carryR hw om_;have hx:=hx.carryR hw (fun j e=>.inr (by have e:j=_:=e;omega));have hl:=hl.carryR hw (fun j e=>.inr (by have e:j=_:=e;omega));have bx23:=bx23.carryR hw om_;have h5:=h5.carryR hw (fun j e=>.inr (by have e:j=_:=e;omega));refine L.val (x_as (v:=.int _ _) rfl) rfl ?_;refine L.nil (thn_n (W.seq (W.region (L.val (x_ldn (vs:=[.int .i64 6,S [],S [],.slice (some ⟨wl12.heap.size,0,none⟩) 2 2,.slice (some ⟨w14.heap.size,0,none⟩) 2 2]) klawexp_ag25 rfl rfl (bx4.row rfl)) rfl ?_))));refine L.ret (x_call klawexp_en11 rfl) rfl (resolve_ok _ (fun _=>False) shX11 [] _ _ _ hx (RecsAt.nil om_) (by simp)) ?_;rintro _ w29 ⟨cs29,rfl,h7,hw⟩;have hB:=hB.carry hw;have bx1:=bx1.carry hw;have bx2:=bx2.carry hw;have bx4:=bx4.carry hw;have bx5:=bx5.carry hw;have hx:=hx.carry hw;have hl:=hl.carry hw;have h5:=h5.carry hw;rw [rsv11'] at h7 ⊢;have hl7:=h7.len;have hs29:=hw.size;have hx5:=bx5.lt;refine L.val (x_mv (v:=_) rfl) rfl ?_;refine L.val (x_ext (v:=_) rfl rfl) rfl ?_;refine L.val (x_ext (v:=.int _ _) rfl rfl) rfl ?_;refine L.alloc (cs:=[Value.int .i64 0,S [],S [],Value.slice none 0 0,Value.slice none 0 0]) klawexp_zr25 rfl rfl (fun w7 bx7 hw hz7=>?_);have hB:=hB.carry hw;have bx1:=bx1.carry hw;have bx2:=bx2.carry hw;have bx4:=bx4.carry hw;have bx5:=bx5.carry hw;have hx:=hx.carry hw;have hl:=hl.carry hw;have h5:=h5.carry hw;refine L.setRow klawexp_ag25 rfl rfl bx7 rfl hl7 h7.one (fun wl37 bx7 hw hzl37=>?_);have hsz:=hB.size;have hB:=hB.set hw om_;have bx1:=bx1.carryR hw om_;have bx2:=bx2.carryR hw om_;have bx4:=bx4.carryR hw om_;have bx5:=bx5.carryR hw om_;have hx:=hx.carryR hw (fun j e=>.inr (by have e:j=_:=e;omega));have hl:=hl.carryR hw (fun j e=>.inr (by have e:j=_:=e;omega));have h5:=h5.carryR hw (fun j e=>.inr (by have e:j=_:=e;omega));refine L.val (x_as (v:=.int _ _) rfl) rfl ?_;refine L.nil (thn_n (W.seq (W.region (L.val (x_mv (v:=.int _ _) rfl) rfl ?_))));refine L.val (x_eql rfl rfl) rfl ?_;refine L.val (x_mv (v:=.bool _) rfl) rfl ?_;refine' L.group 7 35 41 41 34 true rfl ?_ ?_ ?_;rotate_left 1
  ·intro g34 hg34;have h34:=of_decide_eq_true g34;refine L.gyes' (dj:=34) (b:=_) rfl rfl g34 ?_;refine L.val (x_ldn (vs:=cs24) klawexp_ag25 rfl hl5 (bx5.row hl5)) rfl ?_;refine L.gyes' (dj:=34) (b:=_) rfl rfl g34 ?_;refine L.bs (sz:=1) (cells:=[S [97],S [120]]) Try.underlying22 klawexp_el9 rfl rfl rfl rfl (fun w36 bx36 hw hz36=>?_);have hB:=hB.carry hw;have bx1:=bx1.carry hw;have bx2:=bx2.carry hw;have bx5:=bx5.carry hw;have hl:=hl.carry hw;have h5:=h5.carry hw;have hg34:=hg34.carry hw;refine L.gyes' (dj:=34) (b:=_) rfl rfl g34 ?_;refine L.val (x_ldn (vs:=leafC 1) klawexp_ag25 rfl rfl (bx1.row rfl)) rfl ?_;refine L.gyes' (dj:=34) (b:=_) rfl rfl g34 ?_;refine L.val (x_ldn (vs:=[.int .i64 5,S [],S [],.slice none 0 0,.slice (some ⟨wl4.heap.size,0,none⟩) 1 1]) klawexp_ag25 rfl rfl (bx2.row rfl)) rfl ?_;refine L.gyes' (dj:=34) (b:=_) rfl rfl g34 ?_;refine L.bs (sz:=5) (cells:=[.int .i64 1,S [],S [],.slice none 0 0,.slice none 0 0,.int .i64 5,S [],S [],.slice none 0 0,.slice (some ⟨wl4.heap.size,0,none⟩) 1 1]) Try.underlying23 klawexp_el25 rfl rfl rfl rfl (fun w39 bx39 hw hz39=>?_);have hB:=hB.carry hw;have bx1:=bx1.carry hw;have bx2:=bx2.carry hw;have bx5:=bx5.carry hw;have hl:=hl.carry hw;have h5:=h5.carry hw;have hg34:=hg34.carry hw;have bx36:=bx36.carry hw;have hr:ShC (fun _=>False) w39 [.int .i64 6,S [],S [],.slice (some ⟨wl37.heap.size,0,none⟩) 2 2,.slice (some ⟨w36.heap.size,0,none⟩) 2 2] shR11:=
     ShC.intro (strs_of_box [[97],[120]] bx36 (fun f=>f) (by simp) (by simp)) (shs_of_box [leafC 1,[.int .i64 5,S [],S [],.slice none 0 0,.slice (some ⟨wl4.heap.size,0,none⟩) 1 1]] [.mk 1 [] [] [] [],shL11] bx39 (fun f=>f) (by simp) rfl (each2 (leaf _ _ 1) (hl.mono fun k _ h=>h.elim))) (by simp) (by simp)
   refine L.gyes' (dj:=34) (b:=_) rfl rfl g34 ?_;refine L.val (x_build (cells:=[.int _ _,S _,S _,.slice _ _ _,.slice _ _ _]) klawexp_si25 rfl rfl) rfl ?_;refine L.gyes' (dj:=34) (b:=_) rfl rfl g34 ?_;refine L.ret (x_call klawexp_en13 rfl) rfl (equal07 _ _ _ (Nat.lt_succ_self _) _ _ _ _ _ h5 hr) ?_;rintro _ w41 ⟨rfl,hw⟩;have hB:=hB.carry hw;have bx1:=bx1.carry hw;have bx2:=bx2.carry hw;have bx5:=bx5.carry hw;have hl:=hl.carry hw;have h5:=h5.carry hw;have hg34:=hg34.carry hw;have bx36:=bx36.carry hw;have bx39:=bx39.carry hw;refine L.nil (thn_n ⟨rfl,?_,?_,fun _=>rfl⟩)
   ·exact hg34
   ·repeat (first | exact jeq.refl _ _ _ | refine jeq.upd rfl ?_ | refine jeq.jk rfl rfl ?_)
  ·intro g34;(iterate 7 refine L.gno (dj:=34) (b:=_) rfl rfl g34 rfl ?_);refine L.nil (thn_n ⟨rfl,Gr.refl _ _,?_⟩);refine ⟨?_,fun h=>h.elim⟩;repeat (first | exact jeq.refl _ _ _ | refine jeq.upd rfl ?_ | refine jeq.jk rfl rfl ?_)
  intro J34 w34 hw j34;have hB:=hB.carry hw;have bx1:=bx1.carry hw;have bx2:=bx2.carry hw;have bx5:=bx5.carry hw;have hl:=hl.carry hw;have h5:=h5.carry hw;refine L.val (x_and rfl j34) rfl ?_;refine L.val (x_mv (v:=.bool _) rfl) rfl ?_;refine' L.group0 2 44 45 45 43 true rfl ?_ ?_ ?_;rotate_left 1
  ·intro g43;have h43:=g43;refine L.gyes' (dj:=43) (b:=_) rfl rfl g43 ?_;refine L.val (x_mv (v:=.int _ _) rfl) rfl ?_;refine L.gyes' (dj:=43) (b:=_) rfl rfl g43 ?_;refine L.val (x_eql rfl rfl) rfl ?_;refine L.nil (thn_n ⟨rfl,rfl,?_,rfl⟩);repeat (first | exact jeq.refl _ _ _ | refine jeq.upd rfl ?_ | refine jeq.jk rfl rfl ?_)
  ·intro g43;refine L.gno (dj:=43) (b:=_) rfl rfl g43 rfl ?_;refine L.gno (dj:=43) (b:=_) rfl rfl g43 rfl ?_;refine L.nil (thn_n ⟨rfl,rfl,?_⟩);repeat (first | exact jeq.refl _ _ _ | refine jeq.upd rfl ?_ | refine jeq.jk rfl rfl ?_)
  intro J43 j43;refine L.val (x_and rfl j43) rfl ?_;refine L.val (x_as (v:=.bool _) rfl) rfl ?_;refine L.nil (thn_n (W.ret (fin_mk (.inr rfl) ?_)));exact ⟨vb (by rw [eqS_t rfl];rfl),hB⟩
end Go.Gx
namespace Go.Gx
open Go.Sort
theorem sort_closedN:∀ (N:Nat) (s:Sh),SizeOf.sizeOf s<N→s.allB notName=true→s.sort.allB notName=true
  | 0,_,h,_=>by omega
  | N+1,s,hN,h=>by
    rw [Sh.allB_eq,Bool.and_eq_true,allL_iff] at h;have ih:∀ x∈s.parts.map Sh.sort,x.allB notName=true:=fun x hx=>by
      obtain ⟨y,hy,rfl⟩:=List.mem_map.1 hx;have:SizeOf.sizeOf y<SizeOf.sizeOf s:=by
        obtain ⟨i,hi,rfl⟩:=List.getElem_of_mem hy;have:=Sh.part_lt (s:=s) hi
        rwa [List.getD_eq_getElem?_getD,List.getElem?_eq_getElem hi,Option.getD_some] at this
      exact sort_closedN N y om_ (h.2 y hy)
    rw [Sh.sort_eq];split
    · rw [Sh.allB_eq,Bool.and_eq_true,allL_iff];exact ⟨h.1,ih⟩
    · rw [Sh.allB_eq,Bool.and_eq_true,allL_iff];refine ⟨h.1,fun x hx=>?_⟩;obtain ⟨⟨a,b⟩,hab,rfl⟩:=List.mem_map.1 hx;exact ih b (List.of_mem_zip (pairUp_perm.mem_iff.1 hab)).2
theorem sort_closed {s:Sh} (h:s.allB notName=true):s.sort.allB notName=true:=sort_closedN _ s (Nat.lt_succ_self _) h
theorem put_some {F:Str→Str→Option Sh} {s t:Sh} (hk:s.kind≠9) (h:putS F s=some t):(∀ i,i<s.parts.length→(putP F s i).isSome=true)∧t=.mk s.kind s.of s.name s.names ((List.range s.parts.length).map fun i=>(putP F s i).getD default):=by
  rw [putS_else hk] at h;split at h
  · next ha=>
    refine ⟨fun i hi=>?_,(Option.some.inj h).symm⟩;rw [List.all_eq_true] at ha;exact ha i (List.mem_range.2 hi)
  · cases h
theorem put_closedN {F:Str→Str→Option Sh} (hF:∀ o n t,F o n=some t→t.allB notName=true):∀ (N:Nat) (s t:Sh),SizeOf.sizeOf s<N→putS F s=some t→t.allB notName=true
  | 0,_,_,h,_=>by omega
  | N+1,s,t,hN,h=>by
    by_cases hk:s.kind=9
    · rw [putS_name hk] at h;exact hF _ _ _ h
    · obtain ⟨h1,rfl⟩:=put_some hk h;rw [Sh.allB_eq,Bool.and_eq_true,allL_iff];refine ⟨by show (!decide (s.kind=9))=true;simp [hk],fun x hx=>?_⟩;obtain ⟨i,hi,rfl⟩:=List.mem_map.1 hx;have hi:=List.mem_range.1 hi;obtain ⟨r,hr⟩:=Option.isSome_iff_exists.1 (h1 i hi);rw [hr];exact put_closedN hF N _ r (by have:=Sh.part_lt (s:=s) hi;omega) hr
theorem put_selfN {F:Str→Str→Option Sh}:∀ (N:Nat) (s:Sh),SizeOf.sizeOf s<N→s.allB notName=true→putS F s=some s
  | 0,_,h,_=>by omega
  | N+1,s,hN,h=>by
    rw [Sh.allB_eq,Bool.and_eq_true,allL_iff] at h;have hk:s.kind≠9:=by simpa [notName] using h.1
    have each:∀ i,i<s.parts.length→putP F s i=some (s.parts.getD i default):=fun i hi=>by
      refine put_selfN N _ (by have:=Sh.part_lt (s:=s) hi;omega) (h.2 _ ?_);rw [List.getD_eq_getElem?_getD,List.getElem?_eq_getElem hi];exact List.getElem_mem _
    rw [putS_else hk,if_pos (by rw [List.all_eq_true];intro i hi;rw [each i (List.mem_range.1 hi)];rfl)];have e:((List.range s.parts.length).map fun i=>(putP F s i).getD default)=s.parts:=by
      have e2:((List.range s.parts.length).map fun i=>(putP F s i).getD default)=(List.range s.parts.length).map fun i=>id (s.parts.getD i default):=List.map_congr_left fun i hi=>by rw [each i (List.mem_range.1 hi)];rfl
      rw [e2,← list_range (f:=id)];simp
    rw [e];cases s;rfl
theorem rsv_ok {F:Str→Str→Option Sh} {s:Sh} (h:(rsvS F s).2=0):∃ t,checkS s=0∧putS F s=some t∧checkS t=0∧rsvS F s=(t.sort,0):=by
  unfold rsvS at h ⊢;by_cases hc:checkS s=0
  · rw [if_pos hc] at h ⊢;cases hp:putS F s with
    | none=>rw [hp] at h;cases h
    | some t=>
      rw [hp] at h;by_cases ht:checkS t=0
      · exact ⟨t,hc,rfl,ht,by simp only [if_pos ht]⟩
      · simp only [if_neg ht] at h;exact absurd h ht
  · rw [if_neg hc] at h;exact absurd h hc
theorem rsv_no {F:Str→Str→Option Sh} {s:Sh} (h:(rsvS F s).2≠0):(rsvS F s).1=zeroS:=by
  unfold rsvS at h ⊢;by_cases hc:checkS s=0
  · rw [if_pos hc] at h ⊢;cases hp:putS F s with
    | none=>rfl
    | some t=>
      rw [hp] at h;by_cases ht:checkS t=0
      · simp only [if_pos ht] at h;exact absurd rfl h
      · simp only [if_neg ht]
  · rw [if_neg hc]
theorem rsv_closed {env:List Bd} {s:Sh} (hE:∀ b∈env,closedS b.sh=true) (h:(rsvS (findB env) s).2=0):closedS (rsvS (findB env) s).1=true:=by
  obtain ⟨t,-,hp,ht,e⟩:=rsv_ok h;rw [e];have hn:t.allB notName=true:=put_closedN (F:=findB env) (fun o n t ht=>by
    obtain ⟨b,hb,rfl,-⟩:=findB_mem ht;have:=hE b hb;unfold closedS at this;rw [Bool.and_eq_true] at this;exact this.2) _ s t (Nat.lt_succ_self _) hp
  unfold closedS;rw [check_sort ht,sort_closed hn];rfl
theorem rsv_self {F:Str→Str→Option Sh} {s:Sh} (h:closedS s=true):rsvS F s=(s.sort,0):=by
  unfold closedS at h;rw [Bool.and_eq_true,decide_eq_true_eq] at h;unfold rsvS;rw [if_pos h.1,put_selfN _ s (Nat.lt_succ_self _) h.2];simp only [if_pos h.1]
theorem rsv_stays {F:Str→Str→Option Sh} {s:Sh} (h:(rsvS F s).2=0):checkS (rsvS F s).1=0∧(rsvS F s).1.sort=(rsvS F s).1:=by
  obtain ⟨t,-,-,ht,e⟩:=rsv_ok h;rw [e];exact ⟨check_sort ht,sort_stays ht⟩
structure Lk (t' t:Sh):Prop where
  size:t'.size=t.size
  deep:t'.deep=t.deep
  fits:t'.allB fitsS=t.allB fitsS
  sort:t.allB fitsS=true→t'.sort=t.sort
structure LkL (l' l:List Sh):Prop where
  len:l'.length=l.length
  size:sizeL l'=sizeL l
  deep:deepL l'=deepL l
  fits:allL fitsS l'=allL fitsS l
  sort:allL fitsS l=true→l'.map Sh.sort=l.map Sh.sort
theorem Lk.refl (t:Sh):Lk t t:=⟨rfl,rfl,rfl,fun _=>rfl⟩
theorem LkL.cons {t' t:Sh} {l' l:List Sh} (h:Lk t' t) (hl:LkL l' l):LkL (t' :: l') (t :: l):=by
  refine ⟨by simp [hl.len],by rw [sizeL,sizeL,h.size,hl.size],by rw [deepL,deepL,h.deep,hl.deep],by rw [allL,allL,h.fits,hl.fits],fun hf=>?_⟩;rw [allL,Bool.and_eq_true] at hf;rw [List.map_cons,List.map_cons,h.sort hf.1,hl.sort hf.2]
end Go.Gx
