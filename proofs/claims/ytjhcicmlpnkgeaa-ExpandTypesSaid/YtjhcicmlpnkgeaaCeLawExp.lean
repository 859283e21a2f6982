/- Resolve by the document; small environments; what is fixed. Conditions: none. -/
import Derived.Test.YtjhcicmlpnkgeaaCeExp3
import Derived.Test.YtjhcicmlpnkgeaaCeEq
import Derived.Test.YtjhcicmlpnkgeaaCeSort3
import Derived.Test.YtjhcicmlpnkgeaaCeOwn
import Derived.Test.YtjhcicmlpnkgeaaCeDrawD
namespace Go.Gx
open Go.Proofs
theorem klawexp_ag25:aggT Try.prog 25 5=true:=by kernel_rfl
theorem klawexp_el25:elT Try.prog 25 5=true:=by kernel_rfl
theorem klawexp_el37:elT Try.prog 37 7=true:=by kernel_rfl
theorem klawexp_el9:elT Try.prog 9 1=true:=by kernel_rfl
theorem klawexp_en11:Go.Proofs.Enters Try.prog 11:=Go.Proofs.enters_of Try.func11 kr_ rfl
theorem klawexp_en13:Go.Proofs.Enters Try.prog 13:=Go.Proofs.enters_of Try.func13 kr_ rfl
theorem klawexp_si25:structInfo Try.prog 25=some ([(0,1),(1,1),(2,1),(3,1),(4,1)],[Value.int .i64 0,S [],S [],Value.slice none 0 0,Value.slice none 0 0]):=by kernel_rfl
theorem klawexp_si37:structInfo Try.prog 37=some ([(0,1),(1,1),(2,5)],[S [],S [],Value.int .i64 0,S [],S [],Value.slice none 0 0,Value.slice none 0 0]):=by kernel_rfl
theorem klawexp_zr25:(Try.prog.info? 25).bind (·.zero)=some (Value.agg [Value.int .i64 0,S [],S [],Value.slice none 0 0,Value.slice none 0 0].toArray):=by kernel_rfl
def shL11:Sh:=.mk 5 [] [] [] [.mk 1 [] [] [] []]
def shA11:Sh:=.mk 9 [] [65] [] []
def shX11:Sh:=.mk 6 [] [] [[120],[97]] [shA11,.mk 1 [] [] [] []]
def shR11:Sh:=.mk 6 [] [] [[97],[120]] [.mk 1 [] [] [] [],shL11]
def env11:List Bd:=[⟨[],[65],shL11⟩]
theorem rsv11:rsvS (findB env11) shX11=(shR11,0):=by kernel_rfl
theorem rsv11':rsvS (findB []) shX11=(zeroS,110):=by kernel_rfl
theorem awake11 (w:World):Ret Try.prog 10 #[] w fun v w'=>v=.bool true∧Bel w w':=by
  refine ret_of_W Try.func10 rfl (Nat.le_of_ble_eq_true rfl) (res1 rfl) ?_;have hB:=Gr.refl (fun _=>False) w;refine W.seq (W.region (L.val (x_as (v:=.bool _) rfl) rfl ?_));refine L.nil (thn_n (W.seq (W.region (L.val (x_build (cells:=[.int _ _,S _,S _,.slice _ _ _,.slice _ _ _]) klawexp_si25 rfl rfl) rfl ?_))));refine L.alloc (cs:=[Value.int .i64 0,S [],S [],Value.slice none 0 0,Value.slice none 0 0]) klawexp_zr25 rfl rfl (fun w1 bx1 hw hz1=>?_);have hB:=hB.carry hw;refine L.setRow klawexp_ag25 rfl rfl bx1 rfl rfl (by simp [Value.oneCell',S]) (fun wl4 bx1 hw hzl4=>?_);have hsz:=hB.size;have hB:=hB.set hw om_;refine L.nil (thn_n (W.seq (W.region (L.val (x_ldn (vs:=leafC 1) klawexp_ag25 rfl rfl (bx1.row rfl)) rfl ?_))));refine L.bs (sz:=5) (cells:=leafC 1) Try.underlying23 klawexp_el25 rfl rfl rfl rfl (fun w11 bx11 hw hz11=>?_);have hB:=hB.carry hw;have bx1:=bx1.carry hw;refine L.val (x_build (cells:=[.int _ _,S _,S _,.slice _ _ _,.slice _ _ _]) klawexp_si25 rfl rfl) rfl ?_;refine L.alloc (cs:=[Value.int .i64 0,S [],S [],Value.slice none 0 0,Value.slice none 0 0]) klawexp_zr25 rfl rfl (fun w2 bx2 hw hz2=>?_);have hB:=hB.carry hw;have bx1:=bx1.carry hw;have bx11:=bx11.carry hw;refine L.setRow klawexp_ag25 rfl rfl bx2 rfl rfl (by simp [Value.oneCell',S]) (fun wl9 bx2 hw hzl9=>?_);have hsz:=hB.size;have hB:=hB.set hw om_;have bx1:=bx1.carryR hw om_;have bx11:=bx11.carryR hw om_;refine L.nil (thn_n (W.seq (W.region (L.val (x_build (cells:=[.int _ _,S _,S _,.slice _ _ _,.slice _ _ _]) klawexp_si25 rfl rfl) rfl ?_))));refine L.alloc (cs:=[Value.int .i64 0,S [],S [],Value.slice none 0 0,Value.slice none 0 0]) klawexp_zr25 rfl rfl (fun w3 bx3 hw hz3=>?_);have hB:=hB.carry hw;have bx1:=bx1.carry hw;have bx11:=bx11.carry hw;have bx2:=bx2.carry hw;refine L.setRow klawexp_ag25 rfl rfl bx3 rfl rfl (by simp [Value.oneCell',S]) (fun wl12 bx3 hw hzl12=>?_);have hsz:=hB.size;have hB:=hB.set hw om_;have bx1:=bx1.carryR hw om_;have bx11:=bx11.carryR hw om_;have bx2:=bx2.carryR hw om_;refine L.nil (thn_n (W.seq (W.region (L.bs (sz:=1) (cells:=[S [120],S [97]]) Try.underlying22 klawexp_el9 rfl rfl rfl rfl (fun w14 bx14 hw hz14=>?_)))));have hB:=hB.carry hw;have bx1:=bx1.carry hw;have bx11:=bx11.carry hw;have bx2:=bx2.carry hw;have bx3:=bx3.carry hw;refine L.val (x_ldn (vs:=[.int .i64 9,S [],S [65],.slice none 0 0,.slice none 0 0]) klawexp_ag25 rfl rfl (bx3.row rfl)) rfl ?_;refine L.val (x_ldn (vs:=leafC 1) klawexp_ag25 rfl rfl (bx1.row rfl)) rfl ?_;refine L.bs (sz:=5) (cells:=[.int .i64 9,S [],S [65],.slice none 0 0,.slice none 0 0,.int .i64 1,S [],S [],.slice none 0 0,.slice none 0 0]) Try.underlying23 klawexp_el25 rfl rfl rfl rfl (fun w17 bx17 hw hz17=>?_);have hB:=hB.carry hw;have bx1:=bx1.carry hw;have bx11:=bx11.carry hw;have bx2:=bx2.carry hw;have bx3:=bx3.carry hw;have bx14:=bx14.carry hw;refine L.val (x_build (cells:=[.int _ _,S _,S _,.slice _ _ _,.slice _ _ _]) klawexp_si25 rfl rfl) rfl ?_;refine L.alloc (cs:=[Value.int .i64 0,S [],S [],Value.slice none 0 0,Value.slice none 0 0]) klawexp_zr25 rfl rfl (fun w4 bx4 hw hz4=>?_);have hB:=hB.carry hw;have bx1:=bx1.carry hw;have bx11:=bx11.carry hw;have bx2:=bx2.carry hw;have bx3:=bx3.carry hw;have bx14:=bx14.carry hw;have bx17:=bx17.carry hw;refine L.setRow klawexp_ag25 rfl rfl bx4 rfl rfl (by simp [Value.oneCell',S]) (fun wl19 bx4 hw hzl19=>?_);have hsz:=hB.size;have hB:=hB.set hw om_;have bx1:=bx1.carryR hw om_;have bx11:=bx11.carryR hw om_;have bx2:=bx2.carryR hw om_;have bx3:=bx3.carryR hw om_;have bx14:=bx14.carryR hw om_;have bx17:=bx17.carryR hw om_;have hA:ShC (fun _=>False) wl19 [.int .i64 9,S [],S [65],.slice none 0 0,.slice none 0 0] shA11:=ShC.intro (StrsAt.nil _ _ _ _ (by simp)) (ShsAt.nil _ _ _ _ (by simp)) (by simp) (by simp);have hx:ShC (fun _=>False) wl19 [.int .i64 6,S [],S [],.slice (some ⟨wl12.heap.size,0,none⟩) 2 2,.slice (some ⟨w14.heap.size,0,none⟩) 2 2] shX11:=
    ShC.intro (strs_of_box [[120],[97]] bx14 (fun f=>f) (by simp) (by simp)) (shs_of_box [[.int .i64 9,S [],S [65],.slice none 0 0,.slice none 0 0],leafC 1] [shA11,.mk 1 [] [] [] []] bx17 (fun f=>f) (by simp) rfl (each2 hA (leaf _ _ 1))) (by simp) (by simp)
  have hl:ShC (fun _=>False) wl19 [.int .i64 5,S [],S [],.slice none 0 0,.slice (some ⟨wl4.heap.size,0,none⟩) 1 1] shL11:=
    ShC.intro (StrsAt.nil _ _ _ _ (by simp)) (shs_of_box [leafC 1] [.mk 1 [] [] [] []] bx11 (fun f=>f) (by simp) rfl (each1 (leaf _ _ 1))) (by simp) (by simp)
  have hx:=hx.up;have hl:=hl.up;have z19:=hB.size;refine L.nil (thn_n (W.seq (W.region (L.val (x_ldn (vs:=[.int .i64 6,S [],S [],.slice (some ⟨wl12.heap.size,0,none⟩) 2 2,.slice (some ⟨w14.heap.size,0,none⟩) 2 2]) klawexp_ag25 rfl rfl (bx4.row rfl)) rfl ?_))));refine L.val (x_ldn (vs:=[.int .i64 5,S [],S [],.slice none 0 0,.slice (some ⟨wl4.heap.size,0,none⟩) 1 1]) klawexp_ag25 rfl rfl (bx2.row rfl)) rfl ?_;refine L.val (x_build (cells:=[S _,S _,.int _ _,S _,S _,.slice _ _ _,.slice _ _ _]) klawexp_si37 rfl rfl) rfl ?_;refine L.bs (sz:=7) (cells:=[S [],S [65],.int .i64 5,S [],S [],.slice none 0 0,.slice (some ⟨wl4.heap.size,0,none⟩) 1 1]) Try.underlying26 klawexp_el37 rfl rfl rfl rfl (fun w23 bx23 hw hz23=>?_);have hB:=hB.carry hw;have bx1:=bx1.carry hw;have bx2:=bx2.carry hw;have bx4:=bx4.carry hw;have hx:=hx.carry hw;have hl:=hl.carry hw;have hE:BdsAt (fun k=>wl19.heap.size<k) w23 (.slice (some ⟨wl19.heap.size,0,none⟩) 1 1) env11:=recs_of_box (k:=7) [[S [],S [65],.int .i64 5,S [],S [],.slice none 0 0,.slice (some ⟨wl4.heap.size,0,none⟩) 1 1]] env11 bx23 (Nat.lt_irrefl _) (by simp [env11]) rfl
      (fun i hi=>by match i,hi with | 0,_=>rfl) (fun i hi=>by match i,hi with | 0,_=>exact ⟨_,rfl,hl.mono (fun k _ h=>.inr (Nat.le_of_lt h)),by simp [env11],by simp [env11]⟩)
  refine L.ret (x_call klawexp_en11 rfl) rfl (resolve_ok _ _ shX11 env11 _ _ _ hx hE (by simp [env11])) ?_;rintro _ w24 ⟨cs24,rfl,h5,hw⟩;have hB:=hB.carry hw;have bx1:=bx1.carry hw;have bx2:=bx2.carry hw;have bx4:=bx4.carry hw;have hx:=hx.carry hw;have hl:=hl.carry hw;have bx23:=bx23.carry hw;rw [rsv11] at h5 ⊢;have hl5:=h5.len;have h5:=h5.up;have hs24:=hw.size;have hsB24:=hB.size;refine L.val (x_mv (v:=_) rfl) rfl ?_;refine L.val (x_ext (v:=_) rfl rfl) rfl ?_;refine L.val (x_ext (v:=.int _ _) rfl rfl) rfl ?_;refine L.alloc (cs:=[Value.int .i64 0,S [],S [],Value.slice none 0 0,Value.slice none 0 0]) klawexp_zr25 rfl rfl (fun w5 bx5 hw hz5=>?_);have hB:=hB.carry hw;have bx1:=bx1.carry hw;have bx2:=bx2.carry hw;have bx4:=bx4.carry hw;have hx:=hx.carry hw;have hl:=hl.carry hw;have bx23:=bx23.carry hw;have h5:=h5.carry hw;refine L.setRow klawexp_ag25 rfl rfl bx5 rfl hl5 h5.one (fun wl29 bx5 hw hzl29=>?_);have hsz:=hB.size;have hB:=hB.set hw om_;have bx1:=bx1.carryR hw om_;have bx2:=bx2.carryR hw om_;have bx4:=bx4.carryR hw om_;have hx:=hx.carryR hw (fun j e=>.inr (by have e:j=_:=e;omega));have hl:=hl.carryR hw (fun j e=>.inr (by have e:j=_:=e;omega));have bx23:=bx23.carryR hw om_;have h5:=h5.carryR hw (fun j e=>.inr (by have e:j=_:=e;omega));refine L.val (x_as (v:=.int _ _) rfl) rfl ?_;refine L.nil (thn_n (W.seq (W.region (L.val (x_ldn (vs:=[.int .i64 6,S [],S [],.slice (some ⟨wl12.heap.size,0,none⟩) 2 2,.slice (some ⟨w14.heap.size,0,none⟩) 2 2]) klawexp_ag25 rfl rfl (bx4.row rfl)) rfl ?_))));refine L.ret (x_call klawexp_en11 rfl) rfl (resolve_ok _ (fun _=>False) shX11 [] _ _ _ hx (RecsAt.nil om_) (by simp)) ?_;rintro _ w29 ⟨cs29,rfl,h7,hw⟩;have hB:=hB.carry hw;have bx1:=bx1.carry hw;have bx2:=bx2.carry hw;have bx4:=bx4.carry hw;have bx5:=bx5.carry hw;have hx:=hx.carry hw;have hl:=hl.carry hw;have h5:=h5.carry hw;rw [rsv11'] at h7 ⊢;have hl7:=h7.len;have hs29:=hw.size;have hx5:=bx5.lt;refine L.val (x_mv (v:=_) rfl) rfl ?_;refine L.val (x_ext (v:=_) rfl rfl) rfl ?_;refine L.val (x_ext (v:=.int _ _) rfl rfl) rfl ?_;refine L.alloc (cs:=[Value.int .i64 0,S [],S [],Value.slice none 0 0,Value.slice none 0 0]) klawexp_zr25 rfl rfl (fun w7 bx7 hw hz7=>?_);have hB:=hB.carry hw;have bx1:=bx1.carry hw;have bx2:=bx2.carry hw;have bx4:=bx4.carry hw;have bx5:=bx5.carry hw;have hx:=hx.carry hw;have hl:=hl.carry hw;have h5:=h5.carry hw;refine L.setRow klawexp_ag25 rfl rfl bx7 rfl hl7 h7.one (fun wl37 bx7 hw hzl37=>?_);have hsz:=hB.size;have hB:=hB.set hw om_;have bx1:=bx1.carryR hw om_;have bx2:=bx2.carryR hw om_;have bx4:=bx4.carryR hw om_;have bx5:=bx5.carryR hw om_;have hx:=hx.carryR hw (fun j e=>.inr (by have e:j=_:=e;omega));have hl:=hl.carryR hw (fun j e=>.inr (by have e:j=_:=e;omega));have h5:=h5.carryR hw (fun j e=>.inr (by have e:j=_:=e;omega));refine L.val (x_as (v:=.int _ _) rfl) rfl ?_;refine L.nil (thn_n (W.seq (W.region (L.val (x_mv (v:=.int _ _) rfl) rfl ?_))));refine L.val (x_eql rfl rfl) rfl ?_;refine L.val (x_mv (v:=.bool _) rfl) rfl ?_;refine' L.group 7 35 41 41 34 true rfl ?_ ?_ ?_;rotate_left 1
  ·intro g34 hg34;have h34:=of_decide_eq_true g34;refine L.gyes' (dj:=34) (b:=_) rfl rfl g34 ?_;refine L.val (x_ldn (vs:=cs24) klawexp_ag25 rfl hl5 (bx5.row hl5)) rfl ?_;refine L.gyes' (dj:=34) (b:=_) rfl rfl g34 ?_;refine L.bs (sz:=1) (cells:=[S [97],S [120]]) Try.underlying22 klawexp_el9 rfl rfl rfl rfl (fun w36 bx36 hw hz36=>?_);have hB:=hB.carry hw;have bx1:=bx1.carry hw;have bx2:=bx2.carry hw;have bx5:=bx5.carry hw;have hl:=hl.carry hw;have h5:=h5.carry hw;have hg34:=hg34.carry hw;refine L.gyes' (dj:=34) (b:=_) rfl rfl g34 ?_;refine L.val (x_ldn (vs:=leafC 1) klawexp_ag25 rfl rfl (bx1.row rfl)) rfl ?_;refine L.gyes' (dj:=34) (b:=_) rfl rfl g34 ?_;refine L.val (x_ldn (vs:=[.int .i64 5,S [],S [],.slice none 0 0,.slice (some ⟨wl4.heap.size,0,none⟩) 1 1]) klawexp_ag25 rfl rfl (bx2.row rfl)) rfl ?_;refine L.gyes' (dj:=34) (b:=_) rfl rfl g34 ?_;refine L.bs (sz:=5) (cells:=[.int .i64 1,S [],S [],.slice none 0 0,.slice none 0 0,.int .i64 5,S [],S [],.slice none 0 0,.slice (some ⟨wl4.heap.size,0,none⟩) 1 1]) Try.underlying23 klawexp_el25 rfl rfl rfl rfl (fun w39 bx39 hw hz39=>?_);have hB:=hB.carry hw;have bx1:=bx1.carry hw;have bx2:=bx2.carry hw;have bx5:=bx5.carry hw;have hl:=hl.carry hw;have h5:=h5.carry hw;have hg34:=hg34.carry hw;have bx36:=bx36.carry hw;have hr:ShC (fun _=>False) w39 [.int .i64 6,S [],S [],.slice (some ⟨wl37.heap.size,0,none⟩) 2 2,.slice (some ⟨w36.heap.size,0,none⟩) 2 2] shR11:=
     ShC.intro (strs_of_box [[97],[120]] bx36 (fun f=>f) (by simp) (by simp)) (shs_of_box [leafC 1,[.int .i64 5,S [],S [],.slice none 0 0,.slice (some ⟨wl4.heap.size,0,none⟩) 1 1]] [.mk 1 [] [] [] [],shL11] bx39 (fun f=>f) (by simp) rfl (each2 (leaf _ _ 1) (hl.mono fun k _ h=>h.elim))) (by simp) (by simp)
   refine L.gyes' (dj:=34) (b:=_) rfl rfl g34 ?_;refine L.val (x_build (cells:=[.int _ _,S _,S _,.slice _ _ _,.slice _ _ _]) klawexp_si25 rfl rfl) rfl ?_;refine L.gyes' (dj:=34) (b:=_) rfl rfl g34 ?_;refine L.ret (x_call klawexp_en13 rfl) rfl (equal07 _ _ _ (Nat.lt_succ_self _) _ _ _ _ _ h5 hr) ?_;rintro _ w41 ⟨rfl,hw⟩;have hB:=hB.carry hw;have bx1:=bx1.carry hw;have bx2:=bx2.carry hw;have bx5:=bx5.carry hw;have hl:=hl.carry hw;have h5:=h5.carry hw;have hg34:=hg34.carry hw;have bx36:=bx36.carry hw;have bx39:=bx39.carry hw;refine L.nil (thn_n ⟨rfl,?_,?_,fun _=>rfl⟩)
   ·exact hg34
   ·repeat (first | exact jeq.refl _ _ _ | refine jeq.upd rfl ?_ | refine jeq.jk rfl rfl ?_)
  ·intro g34;(iterate 7 refine L.gno (dj:=34) (b:=_) rfl rfl g34 rfl ?_);refine L.nil (thn_n ⟨rfl,Gr.refl _ _,?_⟩);refine ⟨?_,fun h=>h.elim⟩;repeat (first | exact jeq.refl _ _ _ | refine jeq.upd rfl ?_ | refine jeq.jk rfl rfl ?_)
  intro J34 w34 hw j34;have hB:=hB.carry hw;have bx1:=bx1.carry hw;have bx2:=bx2.carry hw;have bx5:=bx5.carry hw;have hl:=hl.carry hw;have h5:=h5.carry hw;refine L.val (x_and rfl j34) rfl ?_;refine L.val (x_mv (v:=.bool _) rfl) rfl ?_;refine' L.group0 2 44 45 45 43 true rfl ?_ ?_ ?_;rotate_left 1
  ·intro g43;have h43:=g43;refine L.gyes' (dj:=43) (b:=_) rfl rfl g43 ?_;refine L.val (x_mv (v:=.int _ _) rfl) rfl ?_;refine L.gyes' (dj:=43) (b:=_) rfl rfl g43 ?_;refine L.val (x_eql rfl rfl) rfl ?_;refine L.nil (thn_n ⟨rfl,rfl,?_,rfl⟩);repeat (first | exact jeq.refl _ _ _ | refine jeq.upd rfl ?_ | refine jeq.jk rfl rfl ?_)
  ·intro g43;refine L.gno (dj:=43) (b:=_) rfl rfl g43 rfl ?_;refine L.gno (dj:=43) (b:=_) rfl rfl g43 rfl ?_;refine L.nil (thn_n ⟨rfl,rfl,?_⟩);repeat (first | exact jeq.refl _ _ _ | refine jeq.upd rfl ?_ | refine jeq.jk rfl rfl ?_)
  intro J43 j43;refine L.val (x_and rfl j43) rfl ?_;refine L.val (x_as (v:=.bool _) rfl) rfl ?_;refine L.nil (thn_n (W.ret (fin_mk (.inr rfl) ?_)));exact ⟨vb (by rw [eqS_t rfl];rfl),hB⟩
end Go.Gx
namespace Go.Gx
open Go.Proofs
section
variable {w:World}
theorem HoldsN.take {p:Option Addr} {n cap sz:Nat} {xs:List Value} (h:HoldsN w (.slice p n cap) n xs) {k:Nat} (hk:k≤n):HoldsN w (.slice p k cap) k (xs.take (k * sz)):=by
  rcases h with ⟨a,c,e,hc⟩ | ⟨c,e,h0,hx⟩
  · cases e;exact .inl ⟨a,cap,rfl,fun j x hj=>hc j x (by rw [List.getElem?_take] at hj;split at hj;exact hj;cases hj)⟩
  · cases e;have:k=0:=by omega
    subst this;exact .inr ⟨cap,rfl,rfl,by simp⟩
theorem HoldsN.drop {p:Option Addr} {n cap sz:Nat} {xs:List Value} (h:HoldsN w (.slice p n cap) n xs) (hl:xs.length=n * sz) (hn:n≤cap) {k:Nat} (hk:k≤n):HoldsN w (.slice (if cap=k then p else p.map (·.add (k * sz))) (n - k) (cap - k)) (n - k) (xs.drop (k * sz)):=by
  rcases h with ⟨a,c,e,hc⟩ | ⟨c,e,h0,hx⟩
  · cases e;by_cases hck:cap=k
    · have hkn:k=n:=by omega
      rw [if_pos hck];refine .inl ⟨a,_,rfl,fun j x hj=>?_⟩;rw [List.drop_of_length_le (by rw [hl,hkn];exact Nat.le_refl _)] at hj;simp at hj
    · rw [if_neg hck];refine .inl ⟨_,_,rfl,fun j x hj=>?_⟩;rw [List.getElem?_drop] at hj;have h1:=hc _ x hj;obtain ⟨b,o,spot⟩:=a;have hlt:=(List.getElem?_eq_some_iff.1 hj).1;have hsp:spot=none:=by simpa [Addr.add] using World.cell?_spot (hc 0 _ (List.getElem?_eq_getElem (by omega:0<xs.length)))
      subst hsp;show w.cell? (((⟨b,o,none⟩:Addr).add (k * sz)).add j)=some x;rw [addp,addp];rw [addp] at h1;rw [← h1];congr 2;omega
  · cases e;have:k=0:=by omega
    subst this;refine .inr ⟨cap - 0,?_,rfl,by rw [hx];simp⟩;split <;> rfl
def RowsC {α : Type} [Inhabited α] (C:Thing α) (A:Nat→Prop) (w:World) (rows:List (List Value)) (l:List α):Prop:=rows.length=l.length∧∀ i,i<l.length→C A w (rows.getD i []) (l.getD i default)
theorem RowsC.append {α : Type} [Inhabited α] {C:Thing α} {A:Nat→Prop} {r r':List (List Value)} {l l':List α} (h:RowsC C A w r l) (h':RowsC C A w r' l'):RowsC C A w (r++r') (l++l'):=by
  refine ⟨by simp [h.1,h'.1],fun i hi=>?_⟩;simp only [List.getD_eq_getElem?_getD];by_cases hlt:i<l.length
  · rw [List.getElem?_append_left (by rw [h.1];exact hlt),List.getElem?_append_left hlt];have:=h.2 i hlt;simpa only [List.getD_eq_getElem?_getD] using this
  · rw [List.getElem?_append_right (by rw [h.1];omega),List.getElem?_append_right om_,h.1];have:=h'.2 (i - l.length) (by simp at hi;omega);simpa only [List.getD_eq_getElem?_getD] using this
theorem RowsC.one {α : Type} [Inhabited α] {C:Thing α} {A:Nat→Prop} {r:List Value} {x:α} (h:C A w r x):RowsC C A w [r] [x]:=⟨rfl,fun i hi=>by match i,hi with | 0,_=>exact h⟩
theorem RowsC.nil {α : Type} [Inhabited α] {C:Thing α} {A:Nat→Prop}:RowsC C A w [] ([]:List α):=⟨rfl,fun i hi=>absurd hi (by simp)⟩
theorem RowsC.take {α : Type} [Inhabited α] {C:Thing α} {A:Nat→Prop} {r:List (List Value)} {l:List α} (h:RowsC C A w r l) (k:Nat):RowsC C A w (r.take k) (l.take k):=by
  refine ⟨by simp [h.1],fun i hi=>?_⟩;have hi2:i<l.length∧i<k:=by rw [List.length_take] at hi;omega
  have:=h.2 i hi2.1;simp only [List.getD_eq_getElem?_getD] at this ⊢
  rwa [List.getElem?_take_of_lt hi2.2,List.getElem?_take_of_lt hi2.2]
theorem RowsC.drop {α : Type} [Inhabited α] {C:Thing α} {A:Nat→Prop} {r:List (List Value)} {l:List α} (h:RowsC C A w r l) (k:Nat):RowsC C A w (r.drop k) (l.drop k):=by
  refine ⟨by simp [h.1],fun i hi=>?_⟩;have hi2:k+i<l.length:=by rw [List.length_drop] at hi;omega
  have:=h.2 (k+i) hi2;simp only [List.getD_eq_getElem?_getD] at this ⊢
  rwa [List.getElem?_drop,List.getElem?_drop]
section
variable {α : Type} [Inhabited α] {C:Thing α} {k:Nat} [Car C k] {A A' R:Nat→Prop} {r:List (List Value)} {l:List α}
theorem RowsC.lens (h:RowsC C A w r l):∀ q∈r,q.length=k:=fun q hq=>by
  obtain ⟨i,hi,rfl⟩:=List.getElem_of_mem hq;have:=Car.len (h.2 i (by rw [← h.1];exact hi))
  rwa [List.getD_eq_getElem?_getD,List.getElem?_eq_getElem hi] at this
omit [Car C k] in
omit [Car C k] in
theorem RowsC.carryR {k:Nat} [Car C k] {w':World} (h:RowsC C A w r l) (g:Gr R w w') (hR:∀ j,R j→A j):RowsC C A w' r l:=⟨h.1,fun i hi=>Car.carryR (h.2 i hi) g hR⟩
omit [Car C k] in
theorem RowsC.carry {k:Nat} [Car C k] {w':World} (h:RowsC C A w r l) (g:Bel w w'):RowsC C A w' r l:=⟨h.1,fun i hi=>Car.carry (h.2 i hi) g⟩
omit [Car C k] in
theorem RowsC.mono {k:Nat} [Car C k] (h:RowsC C A w r l) (hA:∀ b,b<w.heap.size→A' b→A b):RowsC C A' w r l:=⟨h.1,fun i hi=>Car.mono (h.2 i hi) hA⟩
theorem RowsC.done {base:Nat} {e:TypeId} {v:Value} (h:RowsC C A w r l) (ho:Own w base e k v l.length r.flatten) (hl:l.length≤70368744177664) (hA:∀ j,A' j→A j) (hb:∀ j,base≤j→¬ A' j):RecsAt C k A' w v l:=
  RecOwn.done (A:=A) ⟨r,h.1,ho,fun i hi=>Car.len (h.2 i hi),h.2⟩ hl hA hb
theorem RowsC.doneB {base:Nat} {e:TypeId} {v:Value} (h:RowsC C A w r l) (ho:Own w base e k v l.length r.flatten) (hl:l.length≤70368744177664) (hA:∀ j,A' j→A j) (hb:∀ j,some j=v.ownBlock→¬ A' j):RecsAt C k A' w v l:=by
  have h1:=h.done (A':=fun j=>A' j∧j<base) ho hl (fun j hj=>hA j hj.1) (fun j h1 h2=>by omega);obtain ⟨p,cap,row,e1,g1,g2,g3,hR⟩:=h1;refine ⟨p,cap,row,e1,g1,g2,g3,fun hne=>?_,hR.len,fun i hi=>?_⟩
  · obtain ⟨b,o,hp,-,hc⟩:=hR.at_ hne;exact ⟨b,o,hp,hb b (by rw [e1,hp];rfl),hc⟩
  · obtain ⟨b,o,hp,-,hc⟩:=hR.at_ (by rintro rfl;simp at hi);have hrow:row i=r.getD i []:=by
      rcases Own.open ho with ⟨h1,h2,h3⟩ | ⟨g,cp,tl,h1,-,-,-,hbx⟩
      · rw [h2] at hi;omega
      · have hr:∀ q∈r,q.length=k:=h.lens;rw [h1,hp] at e1;simp only [Value.slice.injEq,Option.some.injEq,Addr.mk.injEq,and_true] at e1;obtain ⟨⟨rfl,rfl⟩,-⟩:=e1;have hri:i<r.length:=by rw [h.1];exact hi
        have hl1:(r.getD i []).length=k:=Car.len (h.2 i hi);apply List.ext_getElem?;intro j;by_cases hj:j<k
        · rw [← hc i j hi hj,Nat.zero_add,← flatk hr hj hri];have hv:(r.getD i [])[j]? = some ((r.getD i [])[j]'om_):=List.getElem?_eq_getElem om_;have hf:=flatk hr hj hri;rw [hv] at hf;have hlt:i * k+j<r.flatten.length:=(List.getElem?_eq_some_iff.1 hf).1;rw [hf];exact hbx.cell (by rw [List.getElem?_append_left hlt];exact hf)
        · rw [List.getElem?_eq_none (by rw [hR.len i hi];omega),List.getElem?_eq_none om_]
    rw [hrow];exact Car.mono (h.2 i hi) fun j _ hj=>hA j hj
omit [Car C k] in
end
end
end Go.Gx
namespace Go.Gx
open Go.ChangeShapes Go.WideShapes Go.Deep Go.RowKit
structure De where
  kind:Int
  name:Str
  sh:Sh
def DeC (A:Nat→Prop) (w:World) (cs:List Value) (d:De):Prop:=∃ rs tl,cs=.int .i64 d.kind :: S d.name :: (rs++tl)∧ShC A w rs d.sh∧tl.length=10∧d.name.length≤9223372036854775807
theorem DeC.len {A:Nat→Prop} {w:World} {cs:List Value} {d:De} (h:DeC A w cs d):cs.length=17:=by obtain ⟨rs,tl,rfl,h,h2,-⟩:=h;simp [h.len,h2]
theorem DeC.move {A A':Nat→Prop} {w w':World} (hc:∀ (a:Addr) v,¬ A a.block→w.cell? a=some v→w'.cell? a=some v∧¬ A' a.block) {cs:List Value} {d:De} (h:DeC A w cs d):DeC A' w' cs d:=by
  obtain ⟨rs,tl,e,h,h2⟩:=h;exact ⟨rs,tl,e,h.move hc,h2⟩
theorem DeC.carryR {A R:Nat→Prop} {w w':World} {cs:List Value} {d:De} (h:DeC A w cs d) (g:Gr R w w') (hR:∀ k,R k→A k):DeC A w' cs d:=h.move fun _ _ hA hv=>⟨g.cell hv (fun hr=>hA (hR _ hr)),hA⟩
theorem DeC.carry {A:Nat→Prop} {w w':World} {cs:List Value} {d:De} (h:DeC A w cs d) (g:Bel w w'):DeC A w' cs d:=h.carryR g fun _ f=>f.elim
theorem DeC.mono {A A':Nat→Prop} {w:World} {cs:List Value} {d:De} (h:DeC A w cs d) (hA:∀ j,j<w.heap.size→A' j→A j):DeC A' w cs d:=h.move fun _ _ hn hv=>⟨hv,fun h'=>hn (hA _ (World.block_lt_of_cell? w _ hv) h')⟩
theorem DeC.up {A:Nat→Prop} {w:World} {cs:List Value} {d:De} (h:DeC A w cs d):DeC (fun k=>A k∨w.heap.size≤k) w cs d:=h.mono fun b hb h'=>h'.resolve_right om_
section
variable {H:Type} {enc:TypeId × Value→H} {P:Program}
theorem str_arg {tT:TypeId} (ht:P.underlying tT=some .string) {W:World} {base:Nat} {v:Value} {d:DataW H} {p:List MemPlace}
    (hv:Value.okWide P W .any base tT v) (h:DataW.Trod enc P W 0 (fun _=>true) true tT v d p):∃ s:Str,v=S s∧s.length≤9223372036854775807:=by
  obtain ⟨fuel,h⟩:=h;have hcells:v.cells.toList=[v]:=by
    unfold Value.okWide at hv;rw [ht] at hv;cases v <;> simp_all [Value.cells,Cell.okWide,Cell.ok]
  rw [hcells] at h;obtain ⟨s,e,-,l⟩:=DataW.trod_string ht (x:=(d,p)) h;simp at e;exact ⟨s.data.toList,by rw [e];simp [S],max_le l⟩
end
end Go.Gx
namespace Go.Gx
open Go.Proofs
theorem krefexp2_ag25:aggT Try.prog 25 5=true:=by kernel_rfl
theorem krefexp2_en13:Go.Proofs.Enters Try.prog 13:=Go.Proofs.enters_of Try.func13 kr_ rfl
theorem krefexp2_fo37_0:fieldOff Try.prog 37 0=some 0:=by kernel_rfl
theorem krefexp2_fo37_1:fieldOff Try.prog 37 1=some 1:=by kernel_rfl
theorem krefexp2_fo37_2:fieldOff Try.prog 37 2=some 2:=by kernel_rfl
theorem krefexp2_mixed:Try.prog.follows .mixedOrders=true:=by kernel_rfl
theorem krefexp2_oc9:oneCellT Try.prog 9=true:=by kernel_rfl
theorem krefexp2_sz37:(Try.prog.info? 37).map (·.size)=some 7:=by kernel_rfl
theorem same11 (A B:Nat→Prop) (l:List Bd) (v u:Value) (w:World) (h1:BdsAt A w v l) (h2:BdsAt B w u l):
    Ret Try.prog 22 #[v,u] w fun v' w'=>v'=.bool true∧Bel w w':=by
  obtain ⟨p,cap,row,rfl,p1,p2,p3,hE⟩:=h1;obtain ⟨q,caq,roq,rfl,q1,q2,q3,hF⟩:=h2;refine ret_of_W Try.func22 rfl (Nat.le_of_ble_eq_true rfl) (res1 rfl) ?_;have hB:=Gr.refl (fun _=>False) w;refine W.seq (W.region (L.val (x_as (v:=.bool _) rfl) rfl ?_));refine L.nil (thn_n (W.seq (W.seq (W.region (L.val (x_mv (v:=.slice _ _ _) rfl) rfl ?_)))));refine L.val (x_len_slice Try.underlying26 rfl) rfl ?_;refine L.val (x_mv (v:=.slice _ _ _) rfl) rfl ?_;refine L.val (x_len_slice Try.underlying26 rfl) rfl ?_;refine L.val (x_neq rfl rfl) rfl ?_;refine L.nil (thn_n (W.cond (b:=_) rfl (fun g10=>?_) (fun g10=>?_)))
  ·have h10:=dne_t g10;exact absurd rfl h10
  ·have h10:=dne_f g10;refine W.skip (thn_n (W.seq (W.seq (W.region (L.val (x_as (v:=.int _ _) rfl) rfl ?_)))));refine L.nil (thn_n (W.block (W.loop (fun m' E w'=>∃ (i:Nat),m'=l.length - i∧E 0=.slice p l.length cap∧E 1=.slice q l.length caq∧E 5=.int .i64 (i:Nat)∧(Bel w w')∧(RecRow BdC 7 A w' p row l)∧(RecRow BdC 7 B w' q roq l)∧(i≤l.length)) (l.length) ?_ ?_)))
   ·exact ⟨0,by omega,vi_,vi_,vi_,ao_,ao_,ao_,ao_⟩
   ·rintro _ E wL11 ⟨i,em,e0,e1,e5,hB,hE,hF,hi⟩;rw [upd_self e0,upd_self e1,upd_self e5];refine W.seq (W.seq (W.region (L.val (x_mv (v:=.int _ _) rfl) rfl ?_)));refine L.val (x_mv (v:=.slice _ _ _) rfl) rfl ?_;refine L.val (x_len_slice Try.underlying26 rfl) rfl ?_;refine L.val (x_lss rfl rfl) rfl ?_;refine L.nil (thn_n (W.cond (b:=_) rfl (fun g14=>?_) (fun g14=>?_)))
    ·have h14:=of_decide_eq_true g14;have hip:i<l.length:=by omega
     obtain ⟨pb,po,rfl,-,-⟩:=hE.elem hip;obtain ⟨qb,qo,rfl,-,-⟩:=hF.elem hip;obtain ⟨rs,e1,hr,hlo,hln⟩:=hE.each i hip;obtain ⟨ss,e2,hs,-,-⟩:=hF.each i hip;have hrs:=hr.len;have hss:=hs.len;refine W.skip (thn_n (W.seq (W.block (W.seq (W.drawB krefexp2_mixed kr_ ?_)))));refine LQ.val (fun w hw=>x_mv (v:=.slice _ _ _) rfl) rfl ?_;refine LQ.val (fun w hw=>x_mv (v:=.int _ _) rfl) rfl ?_;refine LQ.val (fun w hw=>x_ia (j:=i) Try.underlying26 krefexp2_sz37 rfl rfl om_ om_) rfl ?_;refine LQ.val (fun w hw=>x_fa krefexp2_fo37_0 rfl) rfl ?_;refine LQ.val (fun w hw=>x_ld (v:=S _) krefexp2_oc9 rfl (hw.keep (hE.cell hip (j:=0) (by rw [e1];rfl)))) rfl ?_;refine LQ.val (fun w hw=>x_mv (v:=.slice _ _ _) rfl) rfl ?_;refine LQ.val (fun w hw=>x_mv (v:=.int _ _) rfl) rfl ?_;refine LQ.val (fun w hw=>x_ia (j:=i) Try.underlying26 krefexp2_sz37 rfl rfl om_ om_) rfl ?_;refine LQ.val (fun w hw=>x_fa krefexp2_fo37_0 rfl) rfl ?_;refine LQ.val (fun w hw=>x_ld (v:=S _) krefexp2_oc9 rfl (hw.keep (hF.cell hip (j:=0) (by rw [e2];rfl)))) rfl ?_;refine LQ.val (fun w hw=>x_nes rfl rfl) rfl ?_;refine LQ.val (fun w hw=>x_mv (v:=.bool _) rfl) rfl ?_;refine' LQ.group 11 29 39 39 28 false rfl ?_ ?_ ?_;rotate_left 1
     ·intro g28;have h28:=sne_f g28;refine LQ.gyes' (dj:=28) (b:=_) rfl rfl g28 ?_;refine LQ.val (fun w hw=>x_mv (v:=.slice _ _ _) rfl) rfl ?_;refine LQ.gyes' (dj:=28) (b:=_) rfl rfl g28 ?_;refine LQ.val (fun w hw=>x_mv (v:=.int _ _) rfl) rfl ?_;refine LQ.gyes' (dj:=28) (b:=_) rfl rfl g28 ?_;refine LQ.val (fun w hw=>x_ia (j:=i) Try.underlying26 krefexp2_sz37 rfl rfl om_ om_) rfl ?_;refine LQ.gyes' (dj:=28) (b:=_) rfl rfl g28 ?_;refine LQ.val (fun w hw=>x_fa krefexp2_fo37_1 rfl) rfl ?_;refine LQ.gyes' (dj:=28) (b:=_) rfl rfl g28 ?_;refine LQ.val (fun w hw=>x_ld (v:=S _) krefexp2_oc9 rfl (hw.keep (hE.cell hip (j:=1) (by rw [e1];rfl)))) rfl ?_;refine LQ.gyes' (dj:=28) (b:=_) rfl rfl g28 ?_;refine LQ.val (fun w hw=>x_mv (v:=.slice _ _ _) rfl) rfl ?_;refine LQ.gyes' (dj:=28) (b:=_) rfl rfl g28 ?_;refine LQ.val (fun w hw=>x_mv (v:=.int _ _) rfl) rfl ?_;refine LQ.gyes' (dj:=28) (b:=_) rfl rfl g28 ?_;refine LQ.val (fun w hw=>x_ia (j:=i) Try.underlying26 krefexp2_sz37 rfl rfl om_ om_) rfl ?_;refine LQ.gyes' (dj:=28) (b:=_) rfl rfl g28 ?_;refine LQ.val (fun w hw=>x_fa krefexp2_fo37_1 rfl) rfl ?_;refine LQ.gyes' (dj:=28) (b:=_) rfl rfl g28 ?_;refine LQ.val (fun w hw=>x_ld (v:=S _) krefexp2_oc9 rfl (hw.keep (hF.cell hip (j:=1) (by rw [e2];rfl)))) rfl ?_;refine LQ.gyes' (dj:=28) (b:=_) rfl rfl g28 ?_;refine LQ.val (fun w hw=>x_nes rfl rfl) rfl ?_;refine LQ.nil ?_;refine ⟨?_,rfl⟩;repeat (first | exact jeq.refl _ _ _ | refine jeq.upd rfl ?_ | refine jeq.jk rfl rfl ?_)
     ·intro g28;(iterate 11 refine LQ.gno (dj:=28) (b:=_) rfl rfl g28 rfl ?_);refine LQ.nil ?_;repeat (first | exact jeq.refl _ _ _ | refine jeq.upd rfl ?_ | refine jeq.jk rfl rfl ?_)
     intro J28 j28;refine LQ.val (fun w hw=>x_or rfl j28) rfl ?_;refine LQ.val (fun w hw=>x_mv (v:=.bool _) rfl) rfl ?_;refine' LQ.group 12 42 53 53 41 false rfl ?_ ?_ ?_;rotate_left 1
     ·intro g41;have h41:=g41;refine LQ.gyes' (dj:=41) (b:=_) rfl rfl g41 ?_;refine LQ.val (fun w hw=>x_mv (v:=.slice _ _ _) rfl) rfl ?_;refine LQ.gyes' (dj:=41) (b:=_) rfl rfl g41 ?_;refine LQ.val (fun w hw=>x_mv (v:=.int _ _) rfl) rfl ?_;refine LQ.gyes' (dj:=41) (b:=_) rfl rfl g41 ?_;refine LQ.val (fun w hw=>x_ia (j:=i) Try.underlying26 krefexp2_sz37 rfl rfl om_ om_) rfl ?_;refine LQ.gyes' (dj:=41) (b:=_) rfl rfl g41 ?_;refine LQ.val (fun w hw=>x_fa krefexp2_fo37_2 rfl) rfl ?_;refine LQ.gyes' (dj:=41) (b:=_) rfl rfl g41 ?_;refine LQ.val (fun w hw=>x_ldn (vs:=rs) krefexp2_ag25 rfl hrs (hw.keepRow hrs (by have:=hE.rowD hip 2 (m:=5) (by rw [e1];exact hrs);rw [e1] at this;exact this))) rfl ?_;refine LQ.gyes' (dj:=41) (b:=_) rfl rfl g41 ?_;refine LQ.val (fun w hw=>x_mv (v:=.slice _ _ _) rfl) rfl ?_;refine LQ.gyes' (dj:=41) (b:=_) rfl rfl g41 ?_;refine LQ.val (fun w hw=>x_mv (v:=.int _ _) rfl) rfl ?_;refine LQ.gyes' (dj:=41) (b:=_) rfl rfl g41 ?_;refine LQ.val (fun w hw=>x_ia (j:=i) Try.underlying26 krefexp2_sz37 rfl rfl om_ om_) rfl ?_;refine LQ.gyes' (dj:=41) (b:=_) rfl rfl g41 ?_;refine LQ.val (fun w hw=>x_fa krefexp2_fo37_2 rfl) rfl ?_;refine LQ.gyes' (dj:=41) (b:=_) rfl rfl g41 ?_;refine LQ.val (fun w hw=>x_ldn (vs:=ss) krefexp2_ag25 rfl hss (hw.keepRow hss (by have:=hF.rowD hip 2 (m:=5) (by rw [e2];exact hss);rw [e2] at this;exact this))) rfl ?_;refine LQ.gyes' (dj:=41) (b:=_) rfl rfl g41 ?_;refine LQ.ret (fun w=>x_call krefexp2_en13 rfl) (fun w hw=>Ret.mono (equal07 _ _ _ (Nat.lt_succ_self _) _ _ _ _ _ (hr.carry hw) (hs.carry hw)) (fun _ _ h=>⟨h.1,Gr.trans hw h.2⟩)) rfl ?_;refine LQ.gyes' (dj:=41) (b:=_) rfl rfl g41 ?_;refine LQ.val (fun w hw=>x_not rfl) rfl ?_;refine LQ.nil ?_;refine ⟨?_,rfl⟩;repeat (first | exact jeq.refl _ _ _ | refine jeq.upd rfl ?_ | refine jeq.jk rfl rfl ?_)
     ·intro g41;(iterate 12 refine LQ.gno (dj:=41) (b:=_) rfl rfl g41 rfl ?_);refine LQ.nil ?_;repeat (first | exact jeq.refl _ _ _ | refine jeq.upd rfl ?_ | refine jeq.jk rfl rfl ?_)
     intro J41 j41;refine LQ.val (fun w hw=>x_or rfl j41) rfl ?_;refine LQ.nil ?_;intro w17 hw;have hB:=hB.carry hw;have hE:=hE.carry hw;have hF:=hF.carry hw;refine thn_n (W.cond (b:=_) rfl (fun g54=>?_) (fun g54=>?_))
     ·have h54:=g54;exfalso;rw [eqS_t rfl] at h54;simp at h54
     ·have h54:=g54;refine W.skip (blk_n (thn_n (W.region (L.val (x_mv (v:=.int _ _) rfl) rfl ?_))));refine L.val (x_add rfl rfl (wr64 om_)) rfl ?_;refine L.val (x_as (v:=.int _ _) rfl) rfl ?_;refine L.nil (thn_n ⟨rfl,?_⟩);refine ⟨_,?_,i+1,rfl,vi_,vi_,vi_,ao_,ao_,ao_,ao_⟩;omega
    ·have h14:=dlt_f g14;refine W.exit (thn_x (thn_x (blk_hit ?_)));refine thn_n (W.seq (W.region (L.val (x_as (v:=.bool _) rfl) rfl ?_)));refine L.nil (thn_n (W.ret (fin_mk (.inr rfl) ?_)));exact ⟨rfl,hB⟩
end Go.Gx
namespace Go.Gx
open Go.ChangeShapes Go.WideShapes Go.Deep Go.RowKit
def slimB (s:Sh):Bool:=decide (s.names.length * 16≤140737488355328)
structure It where
  kind:Int
  name:Str
  sh:Sh
instance:Inhabited It:=⟨⟨0,[],default⟩⟩
def ItC (A:Nat→Prop) (w:World) (cs:List Value) (x:It):Prop:=∃ rs,cs=.int .i64 x.kind :: S x.name :: rs∧ShC A w rs x.sh∧x.name.length≤9223372036854775807∧x.sh.allB slimB=true
instance car_it:Car ItC 7 where
  pos:=by omega
  len:=fun h=>by obtain ⟨rs,rfl,h,-⟩:=h;simp [h.len]
  one:=fun h=>by
    obtain ⟨rs,rfl,h,-⟩:=h
    intro v hv
    rcases List.mem_cons.1 hv with rfl | hv
    · rfl
    · rcases List.mem_cons.1 hv with rfl | hv
      · rfl
      · exact h.one v hv
  move:=fun hc h=>by obtain ⟨rs,e,h,h2⟩:=h;exact ⟨rs,e,h.move hc,h2⟩
def typ1 (of:Str) (x:It):Option Bd:=if x.kind=1 then some ⟨of,x.name,x.sh⟩ else if x.kind=2 then some ⟨of,x.name,.mk 10 of x.name [] []⟩ else none
def typS (of:Str) (l:List It):List Bd:=l.filterMap (typ1 of)
theorem typ_succ {of:Str} {l:List It} {i:Nat} (hi:i<l.length):typS of (l.take (i+1))=typS of (l.take i)++(typ1 of (l.getD i default)).toList:=by
  unfold typS;rw [List.take_succ_eq_append_getElem hi,List.filterMap_append,List.getD_eq_getElem?_getD,List.getElem?_eq_getElem hi];simp only [List.filterMap_cons,List.filterMap_nil,Option.getD_some];cases typ1 of l[i] <;> rfl
theorem typ_len {of:Str} {l:List It} {i:Nat}:(typS of (l.take i)).length≤i:=by
  unfold typS;have:=List.length_filterMap_le (typ1 of) (l.take i);simp only [List.length_take] at this;omega
section
variable {P:Program} {n:Nat} {Q:Post} {D:List Deferred} {E:Env} {w:World}
theorem L.appendNB {base:Nat} {e:TypeId} {sz:Nat} {v:Value} {k:Nat} {xs:List Value} {ops:Array Oper} {r:List Oper} {d:Nat} {x y:Operand} {T t:TypeId} {p:String} {af:Array Edge} {u:Value} {m Bt:Nat} {news:List Value}
    (hu:P.underlying T=some (.slice e)) (he:elT P e sz=true) (hbt:(P.info? e).map (fun i=>decide (i.bytes≤Bt))=some true) (h1B:1≤Bt) (hx:ev E x=v) (hy:ev E y=u) (hd:Nat.blt d n=true) (h:Own w base e sz v k xs)
    (hl:news.length=m * sz) (hn:HoldsN w u m news) (h1:∀ u∈news,u.oneCell'=true) (hk:(k+m) * Bt≤140737488355328) (hb:base≤w.heap.size)
    (kk:∀ v' w',Own w' base e sz v' (k+m) (xs++news)→Gr (fun j=>some j=v.ownBlock) w w'→(v'.ownBlock=v.ownBlock∨v'.ownBlock=some w.heap.size)→L P n ops Q r D (upd E d v') w'):
    L P n ops Q (⟨some d,.call ⟨.builtin .append,#[x,y],#[T,T]⟩,t,p,af,none⟩ :: r) D E w:=by
  obtain ⟨i,z,hi,hz,hs,hzs,hpos,-⟩:=elT_spec he;have hby:i.bytes≤Bt:=by rw [hi] at hbt;simpa using hbt
  rcases hn with ⟨a,c,rfl,hn⟩ | ⟨c,rfl,rfl,rfl⟩
  · have hkm:k+m≤140737488355328:=Nat.le_trans (Nat.le_mul_of_pos_right _ h1B) hk;obtain ⟨v',w',a1,a2,a3,a4,a5⟩:=run_append_own_at (P:=P) w base T t e i z sz i.bytes hu hi hz hs rfl hzs hpos v k xs h a m c news hl hn h1 (by simp only [maxLen];omega) (Nat.le_trans (Nat.mul_le_mul_left _ hby) hk) hb;exact L.val (x_append hx hy a1) hd (kk v' w' a2 (gr_of_grown a3) a5)
  · have hrun:(Builtin.append_ #[T,T] t #[v,.slice none 0 c]).run P w=.ok v w:=by
      rcases h.2 with ⟨rfl,rfl⟩ | ⟨g,cap,cur,rfl,_,_,hnc,_⟩
      · simp [Builtin.append_,run_underlying hu,sizeOf,typeInfo,hi,Builtin.lenOf,Builtin.firstCells]
      · simp [Builtin.append_,run_underlying hu,sizeOf,typeInfo,hi,Builtin.lenOf,Builtin.firstCells,hnc,storeCells]
    refine L.val (x_append hx hy hrun) hd (kk v w (by simpa using h) (Gr.refl _ _) (.inl rfl))
end
section
variable {H:Type} {enc:TypeId × Value→H} {P:Program} {w:World} {base:Nat} {spare:Nat→Bool} {held:Bool}
theorem strs_bytes {t e:TypeId} {fuel:Nat} {v:Value} {x:DataW H × List MemPlace} (ht:P.underlying t=some (.slice e)) (hc:P.cellsOf e=1) (h:DataW.trod enc P w base spare held fuel t [v]=some x) (hw:(x.1.weights P t).all (· ≤ reachBytes)=true):
    ∃ p m c,v=.slice p m c∧m * P.bytesOf e≤reachBytes:=by
  rcases open_slice1 ht hc h with ⟨h1,rfl⟩ | ⟨a,len,cap,m,n,V,D,Pl,h1,-,hl,hm,hmm,rfl,hx⟩
  · simp only [List.cons.injEq,and_true] at h1;exact ⟨none,0,0,h1,by simp⟩
  · simp only [List.cons.injEq,and_true] at h1;have hlm:len≤m:=by rw [hmm];split <;> omega
    have hby:=(weights_slice ht hw).1;exact ⟨_,len,cap,h1,Nat.le_trans (Nat.mul_le_mul_right _ (by simp)) hby⟩
theorem sh_openS {tS eN:TypeId} {f0 f1 f2 f3 f4:Field} (T:ShT P tS eN f0 f1 f2 f3 f4) (h16:16≤P.bytesOf eN):∀ (fuel:Nat) (cs:List Value) (x:DataW H × List MemPlace),DataW.trod enc P w base spare held fuel tS cs=some x→
    (x.1.weights P tS).all (· ≤ reachBytes)=true→∃ s,ShC (fun _=>False) w cs s∧s.allB slimB=true:=by
  intro fuel;induction fuel using Nat.strongRecOn with
  | _ fuel ih=>
    intro cs x h hw;obtain ⟨xs,n,rfl,rfl,hlen,hxl,hf⟩:=DataW.trod_struct T.hS h;rw [T.cS] at hlen;obtain ⟨o0,o1,o2,o3,o4⟩:=T.o;obtain ⟨c0,c1,c2,c3,c4⟩:=T.c
    match cs,hlen with
    | [v0,v1,v2,v3,v4],_=>
      match xs,hxl with
      | [x0,x1,x2,x3,x4],_=>
        have g0:=hf 0 f0 rfl;have g1:=hf 1 f1 rfl;have g2:=hf 2 f2 rfl;have g3:=hf 3 f3 rfl;have g4:=hf 4 f4 rfl;rw [o0,c0] at g0;rw [o1,c1] at g1;rw [o2,c2] at g2;rw [o3,c3] at g3;rw [o4,c4] at g4;have w3:=weights_at T.hS hw (i:=3) (f:=f3) (d:=x3.1) rfl rfl;have w4:=weights_at T.hS hw (i:=4) (f:=f4) (d:=x4.1) rfl rfl;obtain ⟨k,e0,-,-⟩:=DataW.trod_int T.h0 (x:=x0) g0;obtain ⟨s1,e1,-,l1⟩:=DataW.trod_string T.h1 (x:=x1) g1;obtain ⟨s2,e2,-,l2⟩:=DataW.trod_string T.h2 (x:=x2) g2;obtain ⟨ns,hns⟩:=strs_open T.h3 T.hN T.cN T.bN (x:=x3) g3 w3;obtain ⟨pn,mn,cn,en,hbn⟩:=strs_bytes T.h3 T.cN (x:=x3) g3 w3;have hslim:ns.length * 16≤140737488355328:=by
          obtain ⟨p',c',e',-⟩:=id hns;rw [e'] at en;simp only [Value.slice.injEq] at en;have h1:ns.length * 16≤mn * P.bytesOf eN:=by rw [en.2.1];exact Nat.mul_le_mul_left _ h16
          have h3:=reachBytes_lt;omega
        simp at e0 e1 e2;have hps:∃ ps,ShsAt (fun _=>False) w v4 ps∧allL slimB ps=true:=by
          rcases DataW.trod_slice T.h4 (x:=x4) g4 with ⟨h1,rfl⟩ | ⟨a,len,cap,elems,rest,n',hn',h1,rfl,-,hl,hm,hel,hx,-,-⟩
          · simp at h1;exact ⟨[],h1 ▸ ShsAt.nil _ _ _ _ (by simp),rfl⟩
          · simp at h1;subst h1;obtain ⟨hby,hwd⟩:=weights_slice T.h4 w4;have hlen:len≤70368744177664:=by
              have h1:len * P.bytesOf tS≤reachBytes:=Nat.le_trans (Nat.mul_le_mul_right _ (by simp [hel])) hby;have h2:len * 2≤len * P.bytesOf tS:=Nat.mul_le_mul_left _ T.bS;have h3:=reachBytes_lt;omega
            have each:∀ i,i<len→∃ p:List Value × Sh,p.1.length=5∧(∀ j,j<5→w.cell? ((a.add (i * 5)).add j)=p.1[j]?)∧ShC (fun _=>False) w p.1 p.2∧p.2.allB slimB=true:=fun i hi=>by
              have h0:=hx i hi;rw [List.getElem?_eq_getElem om_] at h0;obtain ⟨cs',h1,h2⟩:=Option.bind_eq_some_iff.1 h0;rw [T.cS] at h1;obtain ⟨-,h3,h4⟩:=World.cells?_some h1;obtain ⟨s,hs,hs2⟩:=ih n' om_ cs' _ h2 (hwd _ (List.mem_map_of_mem (List.getElem_mem _)));exact ⟨(cs',s),h3,h4,hs,hs2⟩
            obtain ⟨F,hF⟩:=choose_lt (α := List Value × Sh) each;have e0:((List.range len).map fun i=>(F i).2).length=len:=by simp
            refine ⟨(List.range len).map fun i=>(F i).2,⟨some a,cap,fun i=>(F i).1,by rw [e0],by rw [e0];exact hl,hm,by rw [e0];exact hlen,?_⟩,?_⟩
            · refine ⟨fun hne=>?_,fun i hi=>(hF i (by rw [e0] at hi;exact hi)).1,fun i hi=>?_⟩
              · have h0:0<len:=by rcases Nat.eq_zero_or_pos len with h | h;exact absurd (by rw [h];rfl) hne;exact h
                obtain ⟨q1,q2,-⟩:=hF 0 h0;have hc0:=q2 0 om_;rw [List.getElem?_eq_getElem om_] at hc0;obtain ⟨b,o,spot⟩:=a;have hspot:spot=none:=by simpa [Addr.add] using World.cell?_spot hc0
                subst hspot;refine ⟨b,o,rfl,fun f=>f,fun i j hi hj=>?_⟩;rw [e0] at hi;have:=(hF i hi).2.1 j hj;rw [add_plain,add_plain] at this;exact this
              · rw [e0] at hi;have:=(hF i hi).2.2.1;simpa [hi] using this
            · rw [allL_iff];intro y hy;obtain ⟨i,hi,rfl⟩:=List.mem_map.1 hy;exact (hF i (List.mem_range.1 hi)).2.2.2
        obtain ⟨ps,hps,hpl⟩:=hps;refine ⟨.mk k s1.data.toList s2.data.toList ns ps,?_,by rw [Sh.allB,hpl,Bool.and_true];exact decide_eq_true hslim⟩;rw [e0,e1,e2];have:=ShC.intro (k:=k) (of:=s1.data.toList) (nm:=s2.data.toList) hns hps (max_le l1) (max_le l2);simpa [S] using this
structure ItT (P:Program) (tB tS:TypeId) (g0 g1 g2:Field):Prop where
  hB:P.underlying tB=some (.struct #[g0,g1,g2])
  h0:P.underlying g0.type=some (.int .i64)
  h1:P.underlying g1.type=some .string
  h2:g2.type=tS
  o:g0.offset=0∧g1.offset=1∧g2.offset=2
  c:P.cellsOf g0.type=1∧P.cellsOf g1.type=1∧P.cellsOf tS=5∧P.cellsOf tB=7
theorem it_open {tB tS eN:TypeId} {g0 g1 g2 f0 f1 f2 f3 f4:Field} (G:ItT P tB tS g0 g1 g2) (T:ShT P tS eN f0 f1 f2 f3 f4) (h16:16≤P.bytesOf eN) (fuel:Nat) (cs:List Value) (x:DataW H × List MemPlace) (h:DataW.trod enc P w base spare held fuel tB cs=some x)
    (hw:(x.1.weights P tB).all (· ≤ reachBytes)=true):∃ b,ItC (fun _=>False) w cs b:=by
  obtain ⟨xs,n,rfl,rfl,hlen,hxl,hf⟩:=DataW.trod_struct G.hB h;obtain ⟨o0,o1,o2⟩:=G.o;obtain ⟨c0,c1,c2,c3⟩:=G.c;rw [c3] at hlen
  match cs,hlen with
  | v0 :: v1 :: rs,hlen=>
    match xs,hxl with
    | [x0,x1,x2],_=>
      have g0':=hf 0 g0 rfl;have g1':=hf 1 g1 rfl;have g2':=hf 2 g2 rfl;rw [o0,c0] at g0';rw [o1,c1] at g1';rw [o2,G.h2,c2] at g2';have w2:=weights_at G.hB hw (i:=2) (f:=g2) (d:=x2.1) rfl rfl;obtain ⟨k,e0,-,-⟩:=DataW.trod_int G.h0 (x:=x0) g0';obtain ⟨s1,e1,-,l1⟩:=DataW.trod_string G.h1 (x:=x1) g1';have hrs:rs.length=5:=by simpa using hlen
      have er:((v0 :: v1 :: rs).drop 2).take 5=rs:=List.take_of_length_le (by show rs.length≤5;omega);rw [er] at g2';rw [G.h2] at w2;obtain ⟨s,hs,hs2⟩:=sh_openS T h16 _ _ x2 g2' w2;simp at e0 e1;refine ⟨⟨k,s1.data.toList,s⟩,rs,?_,hs,max_le l1,hs2⟩;rw [e0,e1];simp [S]
theorem its_arg {tE tB tS eN:TypeId} {g0 g1 g2 f0 f1 f2 f3 f4:Field} (hE:P.underlying tE=some (.slice tB)) (hb:2≤P.bytesOf tB) (G:ItT P tB tS g0 g1 g2) (T:ShT P tS eN f0 f1 f2 f3 f4) (h16:16≤P.bytesOf eN) {W:World} {base:Nat} {v:Value} {d:DataW H} {p:List MemPlace}
    (hv:Value.okWide P W .any base tE v) (h:DataW.Trod enc P W 0 (fun _=>true) true tE v d p) (hw:(d.weights P tE).all (· ≤ reachBytes)=true):∃ l,RecsAt ItC 7 (fun _=>False) W v l:=
  recs_arg hE G.c.2.2.2 om_ hb (fun fuel cs x h hw=>it_open G T h16 fuel cs x h hw) hv h hw
end
end Go.Gx
