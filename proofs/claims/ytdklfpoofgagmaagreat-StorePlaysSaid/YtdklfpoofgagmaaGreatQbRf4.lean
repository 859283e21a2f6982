/- The document's disk, as it lies in memory. Conditions: none. -/
import Derived.Test.YtdklfpoofgagmaaGreatQbRf2
import Derived.Test.YtdklfpoofgagmaaGreatQbDsf4
namespace Go.Gx
open Go.Proofs
theorem krf4_el5:elT Tryz.prog 5 1=true:=by kernel_rfl
theorem krf4_el9:elT Tryz.prog 9 1=true:=by kernel_rfl
theorem krf4_fo64_0:fieldOff Tryz.prog 64 0=some 0:=by kernel_rfl
theorem krf4_oc22:oneCellT Tryz.prog 22=true:=by kernel_rfl
theorem krf4_si64:structInfo Tryz.prog 64=some ([(0,1),(1,1),(2,1),(3,3),(6,1),(7,1)],[Value.slice none 0 0,Value.slice none 0 0,Value.int .i64 0,Value.slice none 0 0,Value.int .i64 0,Value.int .i64 0,Value.bool false,Value.int .i64 0]):=by kernel_rfl
theorem krf4_sz22:(Tryz.prog.info? 22).map (·.size)=some 1:=by kernel_rfl
def rkTy (T:TypeId):Bool:=T == 64 || T == 94
def rlTy (T:TypeId):Bool:=rkTy T || T == 82
def Rq (ty:TypeId→Bool) (n0 bp:Nat) (w:World) (k:Nat):Prop:=k=bp∨DkB ty n0 w k
def Rt (ty:TypeId→Bool) (n0 bp:Nat) (w w':World):Prop:=Gr (Rq ty n0 bp w) w w'
section
variable {ty:TypeId→Bool} {n0 bp b:Nat} {w w' w'':World} {T:TypeId} {cs:List Value}
theorem Rt.same (h:Rt ty n0 bp w w') {k:Nat} (hk:k<w.heap.size) (hn:¬ Rq ty n0 bp w k):w'.heap[k]? = w.heap[k]? ∧ ¬ Rq ty n0 bp w' k:=by
  have e:=h.block k hk hn;refine ⟨e,fun hr=>hn ?_⟩;rcases hr with h1 | ⟨h1,cs,T,m,h2,h3⟩
  · exact .inl h1
  · exact .inr ⟨h1,cs,T,m,by rw [← e];exact h2,h3⟩
theorem Rt.refl (ty:TypeId→Bool) (n0 bp:Nat) (w:World):Rt ty n0 bp w w:=Gr.refl _ _
theorem Rt.trans (h:Rt ty n0 bp w w') (h2:Rt ty n0 bp w' w''):Rt ty n0 bp w w'':=
  ⟨h2.os.trans h.os,h2.tape.trans h.tape,h2.output.trans h.output,Nat.le_trans h.size h2.size,fun k hk hn=>by
    obtain ⟨e,hn'⟩:=h.same hk hn;exact (h2.block k (Nat.lt_of_lt_of_le hk h.size) hn').trans e⟩
theorem Rt.mono {ty':TypeId→Bool} (h:Rt ty n0 bp w w') (ht:∀ T,ty T=true→ty' T=true):Rt ty' n0 bp w w':=Gr.mono h (fun _ _ e=>e.imp id fun e=>DkB.mono e ht)
theorem Rt.of_bel (g:Bel w w'):Rt ty n0 bp w w':=g.mono (fun _ _ f=>f.elim)
theorem Rt.carry (h:Rt ty n0 bp w w') (g:Bel w' w''):Rt ty n0 bp w w'':=h.trans (Rt.of_bel g)
theorem Rt.bel {w0:World} (h:Bel w0 w) (hb:w0.heap.size≤bp) (g:Rt ty w0.heap.size bp w w'):Bel w0 w':=Gr.step h g (fun i hi e=>by
  rcases e with e | e
  · omega
  · have:=e.1;omega)
theorem Rq.no_box (h:Box w b T cs) (hT:ty T=false) (hb:b≠bp):¬ Rq ty n0 bp w b:=fun hr=>by
  rcases hr with h1 | h1
  · exact hb h1
  · exact DkB.no_box h hT h1
theorem Rq.box (h:Box w b T cs) (hT:ty T=true) (hb:n0≤b):Rq ty n0 bp w b:=.inr (DkB.box h hT hb)
theorem Box.rg (h:Box w b T cs) (g:Rt ty n0 bp w w') (hT:ty T=false) (hb:b≠bp):Box w' b T cs:=h.carryR g (Rq.no_box h hT hb)
theorem StrsAt.rg {v:Value} {l:List Str} (h:StrsAt (Rq ty n0 bp w) w v l) (g:Rt ty n0 bp w w'):StrsAt (Rq ty n0 bp w') w' v l:=by
  obtain ⟨p,cap,rfl,h1,h2,h3,h4,h5⟩:=h;refine ⟨p,cap,rfl,h1,h2,h3,h4,fun hne=>?_⟩;obtain ⟨b,o,rfl,hA,hc⟩:=h5 hne;have hlt:b<w.heap.size:=World.block_lt_of_cell? w _ (hc 0 (List.length_pos_iff.2 hne));exact ⟨b,o,rfl,(g.same hlt hA).2,fun i hi=>g.cell (hc i hi) hA⟩
end
def rwV (x:Nat × Str):List Value:=[.int .i64 (x.1:Nat),S x.2]
def rdkV (vp vc vk:Value) (tn ct:Int) (D:Dk):List Value:=[vp,vc,.int .i64 (D.armed:Nat),vk,.int .i64 tn,.int .i64 ct,.bool D.dead,.int .i64 (D.ops:Nat)]
def RDisk (n0:Nat) (w:World) (b bp:Nat) (D:Dk) (K:Fl):Prop:=
  n0≤b∧n0≤bp∧DkOk D∧∃ cp tl vc vk,Box w b 64 (rdkV (.slice (some ⟨bp,0,none⟩) D.pl.length cp) vc vk K.torn K.cut D)∧BlsAt (fun k=>n0≤k) w vk K.keep∧Box w bp 9 (D.pl.map S++tl)∧
    (D.pl.length≤cp∧cp≤9223372036854775807)∧Own w n0 94 2 vc D.ca.length (D.ca.map rwV).flatten
section
variable {n0 b bp:Nat} {w w':World} {D:Dk} {K:Fl}
theorem RDisk.keep {R:Nat→Prop} (h:RDisk n0 w b bp D K) (g:Gr R w w') (hR:∀ k,R k→n0≤k) (hT:∀ k T cs,R k→Box w k T cs→rkTy T=false) (hbp:¬ R bp):RDisk n0 w' b bp D K:=by
  obtain ⟨h1,h2,h3,cp,tl,vc,vk,h4,h5,h6,h7,h8⟩:=h;have hx:∀ {k:Nat} {T:TypeId} {cs:List Value},Box w k T cs→rkTy T=true→¬ R k:=fun hb ht hr=>by
    have:=hT _ _ _ hr hb;rw [ht] at this;cases this
  refine ⟨h1,h2,h3,cp,tl,vc,vk,h4.carryR g (hx h4 kr_),h5.carryR g hR,h6.carryR g hbp,h7,Own.carryR h8 g fun j hj=>?_⟩;rcases Own.open h8 with ⟨rfl,-⟩ | ⟨b',cap,tl',rfl,-,-,-,hb⟩
  · cases hj
  · cases hj;exact hx hb kr_
theorem RDisk.bel (h:RDisk n0 w b bp D K) (g:Bel w w'):RDisk n0 w' b bp D K:=h.keep g (fun _ f=>f.elim) (fun _ _ _ f=>f.elim) (fun f=>f)
theorem RDisk.carry (h:RDisk n0 w b bp D K) (g:Bel w w'):RDisk n0 w' b bp D K:=h.bel g
theorem RDisk.dg {ty:TypeId→Bool} {n1:Nat} (h:RDisk n0 w b bp D K) (g:Dg ty n1 w w') (hn:n0≤n1) (ht:∀ T,ty T=true→rkTy T=false) (hs:ty 9=false):RDisk n0 w' b bp D K:=by
  obtain ⟨-,-,-,cp,tl,vc,vk,-,-,h6,-⟩:=id h;refine h.keep g (fun k e=>Nat.le_trans hn e.1) (fun k T cs e hb=>?_) (DkB.no_box h6 hs);obtain ⟨-,cs',T',m,e1,e2⟩:=e;unfold Box at hb;rw [hb] at e1;cases e1;exact ht _ e2
end
theorem plS_set {pl:List Str} {tl:List Value} {i:Nat} {s:Str} (h:i<pl.length):(pl.map S++tl).set (0+i) (S s)=(pl.set i s).map S++tl:=by
  rw [Nat.zero_add,List.set_append_left _ _ (by simpa using h),List.map_set]
theorem rw_lens (l:List (Nat × Str)):∀ r∈l.map rwV,r.length=2:=fun r hr=>by
  obtain ⟨x,_,rfl⟩:=List.mem_map.1 hr;rfl
theorem rw_get {l:List (Nat × Str)} {j:Nat} (hj:j<l.length):(l.map rwV).getD j []=rwV (l.getD j default):=by
  rw [List.getD_eq_getElem?_getD,List.getElem?_map,List.getElem?_eq_getElem hj,List.getD_eq_getElem?_getD,List.getElem?_eq_getElem hj];rfl
theorem rw_cell {w:World} {n0 b c:Nat} {T:TypeId} {l:List (Nat × Str)} (h:Own w n0 T 2 (.slice (some ⟨b,0,none⟩) l.length c) l.length (l.map rwV).flatten) {i:Nat} (hi:i<l.length):∀ j,j<2→w.cell? ⟨b,0+i * 2+j,none⟩=(rwV (l.getD i default))[j]? := fun j hj=>by
  rw [← rw_get hi];exact own_rowK h (rw_lens l) (by simpa using hi) j hj
theorem new19 (n:Nat) (h:1≤n∧n≤4096) (w:World):Ret Tryz.prog 6 #[.int .i64 (n:Nat)] w fun v w'=>(∃ b bp,v=.tuple #[.pointer (some ⟨b,0,none⟩),.int .i64 0]∧RDisk w.heap.size w' b bp (newD n) K0)∧Bel w w':=by
  refine ret_of_W Tryz.func6 rfl (Nat.le_of_ble_eq_true rfl) (res2 rfl) ?_;have hB:=Gr.refl (fun _=>False) w;refine W.seq (W.region (L.val (x_as (v:=.pointer _) rfl) rfl ?_));refine L.val (x_as (v:=.int _ _) rfl) rfl ?_;refine L.nil (thn_n (W.seq (W.seq (W.region (L.val (x_mv (v:=.int _ _) rfl) rfl ?_)))));refine L.val (x_lss rfl rfl) rfl ?_;refine L.val (x_mv (v:=.bool _) rfl) rfl ?_;refine' L.group0 2 10 11 11 9 false rfl ?_ ?_ ?_;rotate_left 1
  ·intro g9;have h9:=dlt_f g9;refine L.gyes' (dj:=9) (b:=_) rfl rfl g9 ?_;refine L.val (x_mv (v:=.int _ _) rfl) rfl ?_;refine L.gyes' (dj:=9) (b:=_) rfl rfl g9 ?_;refine L.val (x_gtr rfl rfl) rfl ?_;refine L.nil (thn_n ⟨rfl,rfl,?_,rfl⟩);repeat (first | exact jeq.refl _ _ _ | refine jeq.upd rfl ?_ | refine jeq.jk rfl rfl ?_)
  ·intro g9;refine L.gno (dj:=9) (b:=_) rfl rfl g9 rfl ?_;refine L.gno (dj:=9) (b:=_) rfl rfl g9 rfl ?_;refine L.nil (thn_n ⟨rfl,rfl,?_⟩);repeat (first | exact jeq.refl _ _ _ | refine jeq.upd rfl ?_ | refine jeq.jk rfl rfl ?_)
  intro J9 j9;refine L.val (x_or rfl j9) rfl ?_;refine L.nil (thn_n (W.cond (b:=_) rfl (fun g12=>?_) (fun g12=>?_)))
  ·have h12:=g12;simp only [Bool.or_eq_true,decide_eq_true_eq] at g12;omega
  ·have h12:=g12;refine W.skip (thn_n (W.seq (W.region (L.val (x_build (cells:=[.slice _ _ _,.slice _ _ _,.int _ _,.slice _ _ _,.int _ _,.int _ _,.bool _,.int _ _]) krf4_si64 rfl rfl) rfl ?_))));refine L.box (cs:=rdkV (.slice none 0 0) (.slice none 0 0) (.slice none 0 0) 0 0 (newD n)) rfl rfl (fun w14 bx14 hw hz14=>?_);have hB:=hB.carry hw;have hb14:=bx14.lt;have hs14:=hB.size;refine L.val (x_as (v:=.pointer _) rfl) rfl ?_;refine L.nil (thn_n (W.seq (W.region (L.mk1 (z:=.int .u8 0) 64 Tryz.underlying59 krf4_el5 kr_ rfl rfl rfl om_ rfl (fun w15 bx15 hw hz15=>?_)))));have hB:=hB.carry hw;have bx14:=bx14.carry hw;refine L.val (x_b2s (l:=zeros 64) Tryz.underlying59 Tryz.underlying5 Tryz.underlying9 rfl rfl (zeros_row 64 bx15)) rfl ?_;refine L.val (x_as (v:=S _) rfl) rfl ?_;refine L.nil (thn_n (W.seq (W.seq (W.region (L.val (x_as (v:=.int _ _) rfl) rfl ?_)))));refine L.nil (thn_n (W.block (W.loop (fun m' E w'=>∃ (i:Nat) (vo:Value),m'=n - i∧E 0=.int .i64 (n:Nat)∧E 4=.pointer (some ⟨w.heap.size,0,none⟩)∧E 5=S (zeros 64)∧E 6=.int .i64 (i:Nat)∧(Bel w w')∧(i≤n)∧(Box w' w.heap.size 64 (rdkV vo (.slice none 0 0) (.slice none 0 0) 0 0 (newD n)))∧(Own w' w14.heap.size 9 1 vo i ((List.replicate i (zeros 64)).map S))∧(Ge w14.heap.size w')) (n) ?_ ?_)))
   ·exact ⟨0,.slice none 0 0,by omega,vi_,vi_,vi_,vi_,ao_,ao_,(by exact bx14),(by exact own_nil),(by exact hw.size)⟩
   ·rintro _ E wL17 ⟨i,vo,em,e0,e4,e5,e6,hB,hi,bx14,hO,hge⟩;rw [upd_self e0,upd_self e4,upd_self e5,upd_self e6];refine W.seq (W.seq (W.region ?_));obtain ⟨av,cv,ev,-⟩:=own_shape hO;subst ev;have hql:=fun j hj=>Own.lt hO (j:=j) hj
    refine L.val (x_mv (v:=.int _ _) rfl) rfl ?_;refine L.val (x_mv (v:=.int _ _) rfl) rfl ?_;refine L.val (x_lss rfl rfl) rfl ?_;refine L.nil (thn_n (W.cond (b:=_) rfl (fun g19=>?_) (fun g19=>?_)))
    ·have h19:=of_decide_eq_true g19;refine W.skip (thn_n (W.seq (W.block (W.region (L.val (x_mv (v:=.pointer _) rfl) rfl ?_)))));refine L.val (x_mv (v:=.pointer _) rfl) rfl ?_;refine L.val (x_nil rfl) rfl ?_;refine L.val (x_fa krf4_fo64_0 rfl) rfl ?_;refine L.val (x_ld (v:=.slice _ _ _) krf4_oc22 rfl (bx14.cell0 rfl)) rfl ?_;refine L.val (x_mv (v:=S _) rfl) rfl ?_;refine L.bs (sz:=1) (cells:=[S (zeros 64)]) Tryz.underlying22 krf4_el9 rfl rfl rfl rfl (fun w28 bx28 hw hz28=>?_);have hB:=hB.carry hw;have bx14:=bx14.carry hw;have hO:=hO.carry hw;have hge:=hge.carry hw;have hge2:w14.heap.size≤_:=hge;refine L.appendN (m:=1) Tryz.underlying22 krf4_el9 rfl rfl rfl hO rfl (holdsN_box bx28) (by simp [Value.oneCell',S]) om_ om_ (fun v29 w29 hO29 hg hob29=>?_);have hB:=hB.step hg (fun k hk e=>by have:=(Own.lt hO e).1;omega);have bx14:=bx14.carryR hg (fun e=>by have:=(Own.lt hO e).1;omega);have hge:=hge.carryR hg;obtain ⟨a29,c29,e29,-⟩:=own_shape hO29;subst e29;have hO2:Own w29 w14.heap.size 9 1 (.slice a29 (i+1) c29) (i+1) ((List.replicate (i+1) (zeros 64)).map S):=by
       rw [List.replicate_succ',List.map_append];exact hO29
     have hq2:=fun j hj=>Own.lt hO2 (j:=j) hj
     refine L.val (x_nil rfl) rfl ?_;refine L.val (x_fa krf4_fo64_0 rfl) rfl ?_;refine L.set (v:=.slice _ _ _) krf4_sz22 rfl rfl rfl bx14 rfl (fun wl31 bx14 hw hzl31=>?_);have hsz:=hB.size;have hB:=hB.set hw om_;have hge:=hge.carryR hw;have hO2:=Own.carryR hO2 hw (fun j hj e=>by have:=(hq2 j hj).1;have e:j=_:=e;omega);refine L.nil (blk_n (thn_n (W.region (L.val (x_mv (v:=.int _ _) rfl) rfl ?_))));refine L.val (x_add rfl rfl (wr64 om_)) rfl ?_;refine L.val (x_as (v:=.int _ _) rfl) rfl ?_;refine L.nil (thn_n ⟨rfl,?_⟩);refine ⟨_,?_,i+1,_,rfl,vi_,vi_,vi_,vi_,ao_,ao_,(by exact bx14),(by exact hO2),(by exact hge)⟩;omega
    ·have h19:=dlt_f g19;refine W.exit (thn_x (thn_x (blk_hit ?_)));refine thn_n (W.seq (W.region (L.val (x_mv (v:=.pointer _) rfl) rfl ?_)));refine L.val (x_as (v:=.pointer _) rfl) rfl ?_;refine L.val (x_as (v:=.int _ _) rfl) rfl ?_;refine L.nil (thn_n (W.ret (fin_mk (.inr rfl) ?_)));have hin:i=n:=by omega
     subst hin;have e1:(newD i).pl.length=i:=by simp [newD]
     obtain ⟨q,hq⟩:∃ q,q+1=i:=⟨i - 1,by omega⟩;subst hq;obtain ⟨b2,c2,e2⟩:=own_form hO;rw [e2] at hO bx14;rcases Own.open hO with ⟨e3,-⟩ | ⟨b3,c3,tl,e3,hb3,hc3,hc4,hbx⟩
     · cases e3
     · cases e3;exact ⟨⟨_,b2,rfl,Nat.le_refl _,by omega,newD_ok h,c2,tl,.slice none 0 0,.slice none 0 0,by rw [e1];exact bx14,⟨none,0,rfl,Nat.le_refl _,by omega,by simp [K0],fun e=>absurd rfl e⟩,hbx,⟨by rw [e1];exact hc3,hc4⟩,own_nil⟩,hB⟩
theorem half21 (n0 b bp:Nat) (D:Dk) (K:Fl) (w:World) (h:RDisk n0 w b bp D K) (h6:6≤D.pl.length):Ret Tryz.prog 36 #[.pointer (some ⟨b,0,none⟩)] w fun v w'=>v=.int .i64 (hlf D.pl.length:Nat)∧w'=w:=by
  obtain ⟨h1,h2,h3,cp,tl,vc,vk,hb,h5,h6',h7,h8⟩:=h;refine ret_of_W Tryz.func36 rfl (Nat.le_of_ble_eq_true rfl) (res1 rfl) ?_;refine W.seq (W.region (L.val (x_as (v:=.int _ _) rfl) rfl ?_));refine L.nil (thn_n (W.seq (W.region (L.val (x_mv (v:=.pointer _) rfl) rfl ?_))));refine L.val (x_nil rfl) rfl ?_;refine L.val (x_fa krf4_fo64_0 rfl) rfl ?_;refine L.val (x_ld (v:=.slice _ _ _) krf4_oc22 rfl (hb.cell0 rfl)) rfl ?_;refine L.val (x_len_slice Tryz.underlying22 rfl) rfl ?_;refine L.val (x_sub rfl rfl (wr64 om_)) rfl ?_;refine L.val (x_quo (c:=((hlf D.pl.length:Nat):Int)) rfl rfl (by decide) (by unfold hlf;rw [show ((((D.pl.length:Nat):Int) - 2).tdiv 2)=(((D.pl.length - 2) / 2:Nat):Int) by rw [Int.tdiv_eq_ediv_of_nonneg om_];omega];exact wr64 (by have:=h3.small;omega))) rfl ?_;refine L.val (x_as (v:=.int _ _) rfl) rfl ?_;refine L.nil (thn_n (W.ret (fin_mk (.inr rfl) ?_)));exact ⟨rfl,rfl⟩
end Go.Gx
