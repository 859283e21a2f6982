/- A disk, as it lies in memory. Conditions: none. -/
import Derived.Test.YtdklfpoofgagmaaGreatQaWal3
import Derived.Test.YtdklfpoofgagmaaGreatQaMore
namespace Go.Gx
open Go.Proofs
theorem kdsk1_en57:Go.Proofs.Enters Tryz.prog 57:=Go.Proofs.enters_of Tryz.func57 kr_ rfl
theorem kdsk1_fo90_0:fieldOff Tryz.prog 90 0=some 0:=by kernel_rfl
theorem kdsk1_fo90_5:fieldOff Tryz.prog 90 5=some 7:=by kernel_rfl
theorem kdsk1_oc4:oneCellT Tryz.prog 4=true:=by kernel_rfl
theorem kdsk1_oc87:oneCellT Tryz.prog 87=true:=by kernel_rfl
def dkTy (T:TypeId):Bool:=T == 90 || T == 92 || T == 111
def lgTy (T:TypeId):Bool:=dkTy T || T == 134
def DkB (ty:TypeId→Bool) (n0:Nat) (w:World) (k:Nat):Prop:=n0≤k∧∃ cs T m,w.heap[k]? = some (.cells cs T m)∧ty T=true
def Dg (ty:TypeId→Bool) (n0:Nat) (w w':World):Prop:=Gr (DkB ty n0 w) w w'
section
variable {ty:TypeId→Bool} {n0 b:Nat} {w w' w'':World} {T:TypeId} {cs:List Value}
theorem Dg.same (h:Dg ty n0 w w') {k:Nat} (hk:k<w.heap.size) (hn:¬ DkB ty n0 w k):w'.heap[k]? = w.heap[k]? ∧ ¬ DkB ty n0 w' k:=by
  have e:=h.block k hk hn;exact ⟨e,fun ⟨h1,cs,T,m,h2,h3⟩=>hn ⟨h1,cs,T,m,by rw [← e];exact h2,h3⟩⟩
theorem Dg.refl (ty:TypeId→Bool) (n0:Nat) (w:World):Dg ty n0 w w:=Gr.refl _ _
theorem DkB.mono {ty':TypeId→Bool} {k:Nat} (h:DkB ty n0 w k) (ht:∀ T,ty T=true→ty' T=true):DkB ty' n0 w k:=by
  obtain ⟨h1,cs,T,m,h2,h3⟩:=h;exact ⟨h1,cs,T,m,h2,ht T h3⟩
theorem Dg.mono {ty':TypeId→Bool} (h:Dg ty n0 w w') (ht:∀ T,ty T=true→ty' T=true):Dg ty' n0 w w':=Gr.mono h (fun _ _ e=>DkB.mono e ht)
theorem Dg.trans (h:Dg ty n0 w w') (h2:Dg ty n0 w' w''):Dg ty n0 w w'':=
  ⟨h2.os.trans h.os,h2.tape.trans h.tape,h2.output.trans h.output,Nat.le_trans h.size h2.size,fun k hk hn=>by
    obtain ⟨e,hn'⟩:=h.same hk hn;exact (h2.block k (Nat.lt_of_lt_of_le hk h.size) hn').trans e⟩
theorem Dg.of_bel (g:Bel w w'):Dg ty n0 w w':=g.mono (fun _ _ f=>f.elim)
theorem Dg.bel {w0:World} (h:Bel w0 w) (g:Dg ty w0.heap.size w w'):Bel w0 w':=Gr.step h g (fun i hi e=>by have:=e.1;omega)
theorem DkB.no_box (h:Box w b T cs) (hT:ty T=false):¬ DkB ty n0 w b:=fun ⟨_,cs',T',m,e,h3⟩=>by
  unfold Box at h;rw [h] at e;cases e;rw [hT] at h3;cases h3
theorem DkB.box (h:Box w b T cs) (hT:ty T=true) (hb:n0≤b):DkB ty n0 w b:=⟨hb,_,_,_,h,hT⟩
theorem Box.dg (h:Box w b T cs) (g:Dg ty n0 w w') (hT:ty T=false):Box w' b T cs:=h.carryR g (DkB.no_box h hT)
theorem DkB.no_own {base k sz:Nat} {v:Value} {xs:List Value} (h:Own w base T sz v k xs) (hT:ty T=false):∀ j,some j=v.ownBlock→¬ DkB ty n0 w j:=fun j hj=>by
  rcases Own.open h with ⟨rfl,-⟩ | ⟨b,cap,tl,rfl,-,-,-,hb⟩
  · cases hj
  · cases hj;exact DkB.no_box hb hT
theorem DkB.own {base k sz:Nat} {v:Value} {xs:List Value} (h:Own w base T sz v k xs) (hT:ty T=true) (hb:n0≤base):∀ j,some j=v.ownBlock→DkB ty n0 w j:=fun j hj=>by
  rcases Own.open h with ⟨rfl,-⟩ | ⟨b,cap,tl,rfl,hbb,-,-,hbx⟩
  · cases hj
  · cases hj;exact DkB.box hbx hT (Nat.le_trans hb hbb)
theorem Own.dg {base k sz:Nat} {v:Value} {xs:List Value} (h:Own w base T sz v k xs) (g:Dg ty n0 w w') (hT:ty T=false):Own w' base T sz v k xs:=h.carryR g (DkB.no_own h hT)
theorem StrsAt.dg {v:Value} {l:List Str} (h:StrsAt (DkB ty n0 w) w v l) (g:Dg ty n0 w w'):StrsAt (DkB ty n0 w') w' v l:=by
  obtain ⟨p,cap,rfl,h1,h2,h3,h4,h5⟩:=h;refine ⟨p,cap,rfl,h1,h2,h3,h4,fun hne=>?_⟩;obtain ⟨b,o,rfl,hA,hc⟩:=h5 hne;have hlt:b<w.heap.size:=World.block_lt_of_cell? w _ (hc 0 (List.length_pos_iff.2 hne));exact ⟨b,o,rfl,(g.same hlt hA).2,fun i hi=>g.cell (hc i hi) hA⟩
end
structure Dk where
  pl:List Str
  ca:List (Nat × Str)
  armed:Nat
  ops:Nat
  dead:Bool
def waV (x:Nat × Str):List Value:=.int .i64 (x.1:Nat) :: x.2.map B8
def plV (l:List Str):List Value:=(l.map fun s=>s.map B8).flatten
structure DkOk (D:Dk):Prop where
  pos:0<D.pl.length
  small:D.pl.length≤4096
  sec:∀ s∈D.pl,s.length=64
  cac:∀ x∈D.ca,x.1<D.pl.length∧x.2.length=64
  few:D.ca.length≤100000∧D.ops≤1000000000
def dkV (vp vc vk:Value) (tn ct:Int) (D:Dk):List Value:=[vp,vc,vk,.int .i64 tn,.int .i64 ct,.int .i64 (D.armed:Nat),.int .i64 (D.ops:Nat),.bool D.dead]
def DiskAt (n0:Nat) (w:World) (b:Nat) (D:Dk):Prop:=
  n0≤b∧DkOk D∧∃ bp vc vk tn ct,n0≤bp∧Box w b 90 (dkV (.slice (some ⟨bp,0,none⟩) D.pl.length D.pl.length) vc vk tn ct D)∧vk.oneCell'=true∧Box w bp 92 (plV D.pl)∧
    Own w n0 111 65 vc D.ca.length (D.ca.map waV).flatten
section
variable {n0 b:Nat} {w w':World} {D:Dk}
theorem DiskAt.bel (h:DiskAt n0 w b D) (g:Bel w w'):DiskAt n0 w' b D:=by
  obtain ⟨h1,h2,bp,vc,vk,tn,ct,h3,h4,h5,h6,h7⟩:=h;exact ⟨h1,h2,bp,vc,vk,tn,ct,h3,h4.carry g,h5,h6.carry g,Own.carry h7 g⟩
theorem DiskAt.carryR {R:Nat→Prop} (h:DiskAt n0 w b D) (g:Gr R w w') (hR:∀ k,R k→∃ T cs,Box w k T cs∧T≠90∧T≠92∧T≠111):DiskAt n0 w' b D:=by
  obtain ⟨h1,h2,bp,vc,vk,tn,ct,h3,h4,h5,h6,h7⟩:=h;have hx:∀ {k:Nat} {T:TypeId} {cs:List Value},Box w k T cs→(T=90∨T=92∨T=111)→¬ R k:=fun {k T cs} hb hT hr=>by
    obtain ⟨T',cs',hb',n1,n2,n3⟩:=hR k hr;unfold Box at hb hb';rw [hb] at hb';cases hb';rcases hT with h | h | h
    · exact n1 h
    · exact n2 h
    · exact n3 h
  refine ⟨h1,h2,bp,vc,vk,tn,ct,h3,h4.carryR g (hx h4 (.inl rfl)),h5,h6.carryR g (hx h6 (.inr (.inl rfl))),Own.carryR h7 g fun j hj=>?_⟩;rcases Own.open h7 with ⟨rfl,-⟩ | ⟨b',cap,tl,rfl,-,-,-,hb⟩
  · cases hj
  · cases hj;exact hx hb (.inr (.inr rfl))
end
theorem none_d (n0 b:Nat) (D:Dk) (w:World) (h:DiskAt n0 w b D):Ret Tryz.prog 57 #[.pointer (some ⟨b,0,none⟩)] w fun v w'=>v=.bool false∧w'=w:=by
  obtain ⟨h1,h2,bp,vc,vk,tn,ct,h3,hb,h5,h6,h7⟩:=h;have hp:=h2.pos;refine ret_of_W Tryz.func57 rfl (Nat.le_of_ble_eq_true rfl) (res1 rfl) ?_;refine W.seq (W.region (L.val (x_as (v:=.bool _) rfl) rfl ?_));refine L.nil (thn_n (W.seq (W.region (L.val (x_mv (v:=.pointer _) rfl) rfl ?_))));refine L.val (x_eqp0 Tryz.underlying35 rfl rfl) rfl ?_;refine L.val (x_mv (v:=.bool _) rfl) rfl ?_;refine L.splitat (dj:=5) (b:=_) rfl (fun g5=>?_) (fun g5=>?_)
  ·have h5:=g5;cases g5
  ·have h5:=g5;refine L.gyes' (dj:=5) (b:=_) rfl rfl g5 ?_;refine L.val (x_mv (v:=.pointer _) rfl) rfl ?_;refine L.gyes' (dj:=5) (b:=_) rfl rfl g5 ?_;refine L.val (x_nil rfl) rfl ?_;refine L.gyes' (dj:=5) (b:=_) rfl rfl g5 ?_;refine L.val (x_fa kdsk1_fo90_0 rfl) rfl ?_;refine L.gyes' (dj:=5) (b:=_) rfl rfl g5 ?_;refine L.val (x_ld (v:=.slice _ _ _) kdsk1_oc87 rfl (hb.cell0 rfl)) rfl ?_;refine L.gyes' (dj:=5) (b:=_) rfl rfl g5 ?_;refine L.val (x_len_slice Tryz.underlying87 rfl) rfl ?_;refine L.gyes' (dj:=5) (b:=_) rfl rfl g5 ?_;refine L.val (x_eql rfl rfl) rfl ?_;refine L.val (x_pick_f (v:=.bool _) (congrArg Value.bool g5) rfl) rfl ?_;refine L.val (x_as (v:=.bool _) rfl) rfl ?_;refine L.nil (thn_n (W.ret (fin_mk (.inr rfl) ?_)));refine ⟨?_,rfl⟩;show Value.bool (decide _)=_;rw [decide_eq_false om_]
theorem sectors_d (n0 b:Nat) (D:Dk) (w:World) (h:DiskAt n0 w b D):Ret Tryz.prog 83 #[.pointer (some ⟨b,0,none⟩)] w fun v w'=>v=.int .i64 (D.pl.length:Nat)∧w'=w:=by
  obtain ⟨h1,h2,bp,vc,vk,tn,ct,h3,hb,h5,h6,h7⟩:=id h;refine ret_of_W Tryz.func83 rfl (Nat.le_of_ble_eq_true rfl) (res1 rfl) ?_;refine W.seq (W.region (L.val (x_as (v:=.int _ _) rfl) rfl ?_));refine L.nil (thn_n (W.seq (W.seq (W.region (L.val (x_mv (v:=.pointer _) rfl) rfl ?_)))));refine L.ret (x_call kdsk1_en57 rfl) rfl (none_d n0 b D _ h) ?_;rintro _ w4 ⟨rfl,hq⟩;rw [hq];refine L.nil (thn_n (W.cond (b:=_) rfl (fun g4=>?_) (fun g4=>?_)))
  ·have h4:=g4;cases g4
  ·have h4:=g4;refine W.skip (thn_n (W.seq (W.region (L.val (x_mv (v:=.pointer _) rfl) rfl ?_))));refine L.val (x_nil rfl) rfl ?_;refine L.val (x_fa kdsk1_fo90_0 rfl) rfl ?_;refine L.val (x_ld (v:=.slice _ _ _) kdsk1_oc87 rfl (hb.cell0 rfl)) rfl ?_;refine L.val (x_len_slice Tryz.underlying87 rfl) rfl ?_;refine L.val (x_as (v:=.int _ _) rfl) rfl ?_;refine L.nil (thn_n (W.ret (fin_mk (.inr rfl) ?_)));exact ⟨rfl,rfl⟩
theorem dead_d (n0 b:Nat) (D:Dk) (w:World) (h:DiskAt n0 w b D):Ret Tryz.prog 84 #[.pointer (some ⟨b,0,none⟩)] w fun v w'=>v=.bool D.dead∧w'=w:=by
  obtain ⟨h1,h2,bp,vc,vk,tn,ct,h3,hb,h5,h6,h7⟩:=id h;refine ret_of_W Tryz.func84 rfl (Nat.le_of_ble_eq_true rfl) (res1 rfl) ?_;refine W.seq (W.region (L.val (x_as (v:=.bool _) rfl) rfl ?_));refine L.nil (thn_n (W.seq (W.region (L.val (x_mv (v:=.pointer _) rfl) rfl ?_))));refine L.ret (x_call kdsk1_en57 rfl) rfl (none_d n0 b D _ h) ?_;rintro _ w4 ⟨rfl,hq⟩;rw [hq];refine L.val (x_not rfl) rfl ?_;refine L.val (x_mv (v:=.bool _) rfl) rfl ?_;refine L.splitat (dj:=6) (b:=_) rfl (fun g6=>?_) (fun g6=>?_)
  ·have h6:=(not_t g6);refine L.gyes' (dj:=6) (b:=_) rfl rfl g6 ?_;refine L.val (x_mv (v:=.pointer _) rfl) rfl ?_;refine L.gyes' (dj:=6) (b:=_) rfl rfl g6 ?_;refine L.val (x_nil rfl) rfl ?_;refine L.gyes' (dj:=6) (b:=_) rfl rfl g6 ?_;refine L.val (x_fa kdsk1_fo90_5 rfl) rfl ?_;refine L.gyes' (dj:=6) (b:=_) rfl rfl g6 ?_;refine L.val (x_ld (v:=.bool _) kdsk1_oc4 rfl (hb.cell0 rfl)) rfl ?_;refine L.val (x_pick_t (v:=.bool _) (congrArg Value.bool g6) rfl) rfl ?_;refine L.val (x_as (v:=.bool _) rfl) rfl ?_;refine L.nil (thn_n (W.ret (fin_mk (.inr rfl) ?_)));exact ⟨rfl,rfl⟩
  ·have h6:=(not_f g6);cases g6
def readyD (D:Dk) (i:Int):Int:=if D.dead then 190 else if 0≤i∧i<(D.pl.length:Nat) then 0 else 191
theorem ready_d (n0 b:Nat) (D:Dk) (i:Int) (w:World) (h:DiskAt n0 w b D):Ret Tryz.prog 51 #[.pointer (some ⟨b,0,none⟩),.int .i64 i] w fun v w'=>v=.int .i64 (readyD D i)∧w'=w:=by
  obtain ⟨h1,h2,bp,vc,vk,tn,ct,h3,hb,h5,h6,h7⟩:=id h;unfold readyD;refine ret_of_W Tryz.func51 rfl (Nat.le_of_ble_eq_true rfl) (res1 rfl) ?_;refine W.seq (W.region (L.val (x_as (v:=.int _ _) rfl) rfl ?_));refine L.nil (thn_n (W.seq (W.block (W.seq (W.region (L.val (x_mv (v:=.pointer _) rfl) rfl ?_))))));refine L.ret (x_call kdsk1_en57 rfl) rfl (none_d n0 b D _ h) ?_;rintro _ w7 ⟨rfl,hq⟩;rw [hq];refine L.val (x_as (v:=.bool _) rfl) rfl ?_;refine L.nil (thn_n (W.cond (b:=_) rfl (fun g7=>?_) (fun g7=>?_)))
  ·have h7:=g7;cases g7
  ·have h7:=g7;refine W.seq (W.region (L.val (x_mv (v:=.pointer _) rfl) rfl ?_));refine L.val (x_nil rfl) rfl ?_;refine L.val (x_fa kdsk1_fo90_5 rfl) rfl ?_;refine L.val (x_ld (v:=.bool _) kdsk1_oc4 rfl (hb.cell0 rfl)) rfl ?_;refine L.val (x_as (v:=.bool _) rfl) rfl ?_;refine L.nil (thn_n (W.cond (b:=_) rfl (fun g12=>?_) (fun g12=>?_)))
   ·have h12:=g12;rw [if_pos g12];refine W.seq (W.region (L.val (x_as (v:=.int _ _) rfl) rfl ?_));refine L.nil (thn_n (W.ret (blk_r (thn_r (fin_mk (.inr rfl) ?_)))));exact ⟨rfl,rfl⟩
   ·have h12:=g12;rw [if_neg (by rw [g12];decide)];refine W.seq (W.region (L.val (x_mv (v:=.int _ _) rfl) rfl ?_));refine L.val (x_lss rfl rfl) rfl ?_;refine L.val (x_mv (v:=.bool _) rfl) rfl ?_;refine' L.group0 7 17 23 23 16 false rfl ?_ ?_ ?_;rotate_left 1
    ·intro g16;have h16:=dlt_f g16;refine L.gyes' (dj:=16) (b:=_) rfl rfl g16 ?_;refine L.val (x_mv (v:=.int _ _) rfl) rfl ?_;refine L.gyes' (dj:=16) (b:=_) rfl rfl g16 ?_;refine L.val (x_mv (v:=.pointer _) rfl) rfl ?_;refine L.gyes' (dj:=16) (b:=_) rfl rfl g16 ?_;refine L.val (x_nil rfl) rfl ?_;refine L.gyes' (dj:=16) (b:=_) rfl rfl g16 ?_;refine L.val (x_fa kdsk1_fo90_0 rfl) rfl ?_;refine L.gyes' (dj:=16) (b:=_) rfl rfl g16 ?_;refine L.val (x_ld (v:=.slice _ _ _) kdsk1_oc87 rfl (hb.cell0 rfl)) rfl ?_;refine L.gyes' (dj:=16) (b:=_) rfl rfl g16 ?_;refine L.val (x_len_slice Tryz.underlying87 rfl) rfl ?_;refine L.gyes' (dj:=16) (b:=_) rfl rfl g16 ?_;refine L.val (x_geq rfl rfl) rfl ?_;refine L.nil (thn_n ⟨rfl,rfl,?_,rfl⟩);repeat (first | exact jeq.refl _ _ _ | refine jeq.upd rfl ?_ | refine jeq.jk rfl rfl ?_)
    ·intro g16;(iterate 7 refine L.gno (dj:=16) (b:=_) rfl rfl g16 rfl ?_);refine L.nil (thn_n ⟨rfl,rfl,?_⟩);repeat (first | exact jeq.refl _ _ _ | refine jeq.upd rfl ?_ | refine jeq.jk rfl rfl ?_)
    intro J16 j16;refine L.val (x_or rfl j16) rfl ?_;refine L.val (x_as (v:=.bool _) rfl) rfl ?_;refine L.nil (thn_n (W.cond (b:=_) rfl (fun g24=>?_) (fun g24=>?_)))
    ·have h24:=g24;have hno:¬ (0≤i∧i<(D.pl.length:Nat)):=by simp only [Bool.or_eq_true,decide_eq_true_eq] at g24;omega
     rw [if_neg hno];refine W.seq (W.region (L.val (x_as (v:=.int _ _) rfl) rfl ?_));refine L.nil (thn_n (W.ret (blk_r (thn_r (fin_mk (.inr rfl) ?_)))));exact ⟨rfl,rfl⟩
    ·have h24:=g24;have hyes:0≤i∧i<(D.pl.length:Nat):=by simp only [Bool.or_eq_false_iff,decide_eq_false_iff_not] at g24;omega
     rw [if_pos hyes];refine W.skip (blk_n (thn_n (W.seq (W.region (L.val (x_as (v:=.int _ _) rfl) rfl ?_)))));refine L.nil (thn_n (W.ret (fin_mk (.inr rfl) ?_)));exact ⟨rfl,rfl⟩
end Go.Gx
namespace Go.Gx
open Go.Proofs
section
variable {P:Program} {n:Nat} {Q:Post} {D:List Deferred} {E:Env} {w:World}
theorem L.setPart {ops:Array Oper} {r:List Oper} {x y:Operand} {s t:TypeId} {p:String} {af:Array Edge} {b o k:Nat} {T:TypeId} {cs new:List Value} (hs:aggT P s k=true)
    (hx:ev E x=.pointer (some ⟨b,o,none⟩)) (hy:ev E y=.agg new.toArray) (hb:Box w b T cs) (hl:o+k≤cs.length) (hn:new.length=k) (h1:∀ v∈new,v.oneCell'=true)
    (kk:∀ w1,Box w1 b T (cs.take o++new++cs.drop (o+k))→Gr (· = b) w w1→w1.heap.size=w.heap.size→L P n ops Q r D E w1):L P n ops Q (⟨none,.store s x y,t,p,af,none⟩ :: r) D E w:=by
  unfold aggT at hs;simp only [Bool.and_eq_true,beq_iff_eq] at hs;have hst:=run_storeCells_at P b o T new 0 cs.toArray w hb (by simpa [hn] using hl) h1;have hrun:(storeVar s ⟨b,o,none⟩ (.agg new.toArray)).run P w=.ok () (w.setRow b (cs.take o++new++cs.drop (o+k)).toArray):=by
    cases hq:P.info? s with
    | none=>rw [hq] at hs;simp at hs
    | some i=>
      have hi:i.size=k:=by rw [hq] at hs;simpa using hs.2
      simp only [Nat.add_zero,hn] at hst;simp [storeVar,sizeOf,typeInfo,hq,Value.cells,hi,hn,hst]
  refine L.skip (w':=w.setRow b (cs.take o++new++cs.drop (o+k)).toArray) ?_ (kk _ (setRow_heap w b cs.toArray _ T (0,0) hb) ⟨rfl,rfl,rfl,by simp [World.setRow],fun k _ hk=>setRow_other w b k _ hk⟩ (by simp [World.setRow]));unfold Xs;simp only [execOp,hx,hy,Instr.storeAt,Instr.sureAddr,Sem.run_bind,Sem.run_pure,Result.andThen_ok,hrun]
end
end Go.Gx
namespace Go.Gx
open Go.Proofs
theorem madeCells_rep (sz c:Nat) (x:Value):madeCells (List.replicate sz x).toArray (c * sz)=(List.replicate (c * sz) x).toArray:=by
  apply Array.ext';simp only [madeCells];apply List.ext_getElem
  · simp
  · intro i h1 h2;have h3:i<c * sz:=by simpa using h2
    have hs:0<sz:=by rcases Nat.eq_zero_or_pos sz with h | h;(rw [h,Nat.mul_zero] at h3;omega);exact h
    simp [Nat.mod_lt i hs]
theorem L.mkZ {P:Program} {n:Nat} {Q:Post} {D:List Deferred} {E:Env} {w:World} {ops:Array Oper} {r:List Oper} {d:Nat} {x:Operand} {s e t:TypeId} {p:String} {af:Array Edge} {v:Value} {sz:Nat} (c:Nat) (hu:P.underlying s=some (.slice e)) (he:elT P e sz=true)
    (hz:((P.info? e).bind (·.zero)).map (fun z=>z.cells)=some (List.replicate sz v).toArray) (hx:ev E x=.int .i64 (c:Nat)) (hc:c≤400000000000) (hd:Nat.blt d n=true)
    (kk:∀ w1,Box w1 w.heap.size e (List.replicate (c * sz) v)→Bel w w1→w1.heap.size=w.heap.size+1→L P n ops Q r D (upd E d (.slice (some ⟨w.heap.size,0,none⟩) c c)) w1):
    L P n ops Q (⟨some d,.makeSlice s x x,t,p,af,none⟩ :: r) D E w:=by
  obtain ⟨inf,z,hinf,hz',hs,hzs,hpos,hby⟩:=elT_spec he;have hzc:z.cells=(List.replicate sz v).toArray:=by simpa [hinf,hz'] using hz
  have hrun:=run_make (P:=P) w s e inf z hu hinf hz' .i64 .i64 (c:Nat) (c:Nat) om_ om_ (by have:(inf.bytes:Int) * (c:Int)≤200 * (c:Int):=Int.mul_le_mul_of_nonneg_right om_ om_;omega) om_;have hmade:madeCells z.cells (((c:Nat):Int).toNat * inf.size)=(List.replicate (c * sz) v).toArray:=by
    rw [hs,hzc,Int.toNat_natCast,madeCells_rep]
  rw [hmade] at hrun;refine L.val (v:=.slice (some ⟨w.heap.size,0,none⟩) c c) (w':=w.alloc (.cells (List.replicate (c * sz) v).toArray e)) ?_ hd (kk _ (box_alloc _ _ _) (bel_alloc _ _) (by simp));unfold X;simp only [execOp,Sem.run_bind,hx,hrun];simp [Result.andThen]
def newD (n:Nat):Dk:=⟨List.replicate n (zeros 64),[],0,0,false⟩
theorem plV_new (n:Nat):plV (List.replicate n (zeros 64))=List.replicate (n * 64) (.int .u8 0):=by
  unfold plV;induction n with
  | zero=>rfl
  | succ n ih=>
    have:(zeros 64).map B8=List.replicate 64 (.int .u8 0):=by unfold zeros;rw [List.map_replicate];rfl
    rw [List.replicate_succ,List.map_cons,List.flatten_cons,ih,this,List.replicate_append_replicate,Nat.succ_mul,Nat.add_comm]
theorem newD_ok {n:Nat} (h:1≤n∧n≤4096):DkOk (newD n):=by
  refine ⟨by simp [newD];omega,by simp [newD];omega,fun s hs=>?_,fun x hx=>(by cases hx),by simp [newD]⟩;simp only [newD,List.mem_replicate] at hs;rw [hs.2,zeros_len]
theorem waV_len {x:Nat × Str} (h:x.2.length=64):(waV x).length=65:=by simp [waV,h]
theorem waV_one (x:Nat × Str):∀ v∈waV x,v.oneCell'=true:=fun v hv=>by
  rcases List.mem_cons.1 hv with rfl | hv
  · rfl
  · exact B8_one _ v hv
theorem fill0 {pl:List (Nat × Nat)} {zs:List Value} {z v:Value} (h:v.cells=#[v]):fillS ((0,1) :: pl) (z :: zs) [(0,v)]=some (v :: zs):=by simp [fillS,h]
theorem box_ne {w:World} {b c:Nat} {T U:TypeId} {cs ds:List Value} (h:Box w b T cs) (h2:Box w c U ds) (hne:Nat.beq T U=false):b≠c:=fun e=>by
  subst e;unfold Box at h h2;rw [h] at h2;simp only [Option.some.injEq,Obj.cells.injEq] at h2;rw [h2.2.1] at hne;simp at hne
def wrD (D:Dk) (i:Nat) (s:Str):Dk:={ D with ca:=D.ca++[(i,s)],ops:=D.ops+1 }
end Go.Gx
namespace Go.Gx
open Go.Proofs
def apD (pl:List Str) (l:List (Nat × Str)):List Str:=l.foldl (fun pl x=>pl.set x.1 x.2) pl
def flD (D:Dk):Dk:={ D with pl:=apD D.pl D.ca,ca:=[],ops:=D.ops+1 }
theorem apD_len (l:List (Nat × Str)):∀ pl:List Str,(apD pl l).length=pl.length:=by
  induction l with
  | nil=>intro pl;rfl
  | cons x l ih=>intro pl;exact (ih _).trans List.length_set
theorem apD_sec {l:List (Nat × Str)}:∀ {pl:List Str},(∀ s∈pl,s.length=64)→(∀ x∈l,x.2.length=64)→∀ s∈apD pl l,s.length=64:=by
  induction l with
  | nil=>intro pl h _;exact h
  | cons x l ih=>
    intro pl h hl;refine ih (pl:=pl.set x.1 x.2) (fun s hs=>?_) (fun y hy=>hl y (List.mem_cons_of_mem _ hy));rcases List.mem_or_eq_of_mem_set hs with hs | rfl
    · exact h s hs
    · exact hl x (by simp)
theorem apD_take {pl:List Str} {l:List (Nat × Str)} {j:Nat} (hj:j<l.length):apD pl (l.take (j+1))=(apD pl (l.take j)).set (l.getD j default).1 (l.getD j default).2:=by
  unfold apD;rw [take_snoc (d:=default) hj,List.foldl_append];rfl
theorem plV_lens {pl:List Str} (h:∀ s∈pl,s.length=64):∀ r∈pl.map (fun s=>s.map B8),r.length=64:=fun r hr=>by
  obtain ⟨s,hs,rfl⟩:=List.mem_map.1 hr;rw [List.length_map,h s hs]
theorem plV_len {pl:List Str} (h:∀ s∈pl,s.length=64):(plV pl).length=pl.length * 64:=by
  unfold plV;rw [flat_len (plV_lens h),List.length_map]
theorem plV_set {pl:List Str} {i:Nat} {s:Str} (h:∀ s∈pl,s.length=64) (hi:i<pl.length):(plV pl).take (0+i * 64)++s.map B8++(plV pl).drop (0+i * 64+64)=plV (pl.set i s):=by
  have h1:=flatk_take (plV_lens h) i;have h2:=flatk_take (plV_lens h) (i+1);unfold plV;rw [Nat.zero_add,show i * 64+64=(i+1) * 64 by omega,← h1.1,← h2.2,List.set_eq_take_append_cons_drop,if_pos hi,List.map_append,List.flatten_append,List.map_cons,List.flatten_cons,List.map_take,List.map_drop,List.append_assoc]
theorem rowcK {k:Nat} {rows:List (List Value)} {tl:List Value} {i j:Nat} {x:Value} (hk:∀ r∈rows,r.length=k) (hi:i<rows.length) (hj:j<k) (hx:(rows.getD i [])[j]? = some x):(rows.flatten++tl)[0+i * k+j]? = some x:=by
  have hf:=flatk hk hj hi;have hlt:i * k+j<rows.flatten.length:=by
    rw [flat_len hk];have h1:=Nat.mul_le_mul_right k (Nat.succ_le_of_lt hi);rw [Nat.succ_mul] at h1;omega
  rw [Nat.zero_add,List.getElem?_append_left hlt,hf,hx]
theorem own_rowK {w:World} {base b n c k i:Nat} {e:TypeId} {rows:List (List Value)} (h:Own w base e k (.slice (some ⟨b,0,none⟩) n c) n rows.flatten) (hk:∀ r∈rows,r.length=k) (hi:i<rows.length):∀ j,j<k→w.cell? ⟨b,0+i * k+j,none⟩=(rows.getD i [])[j]? := fun j hj=>by
  rcases Own.open h with ⟨e1,-⟩ | ⟨b',cap,tl,e1,-,-,-,hb⟩
  · cases e1
  · cases e1;have hr:(rows.getD i []).length=k:=hk _ (by rw [List.getD_eq_getElem?_getD,List.getElem?_eq_getElem hi];exact List.getElem_mem hi);rw [List.getElem?_eq_getElem om_];exact hb.cell (rowcK hk hi hj (List.getElem?_eq_getElem om_))
theorem ca_lens {l:List (Nat × Str)} (h:∀ x∈l,x.2.length=64):∀ r∈l.map waV,r.length=65:=fun r hr=>by
  obtain ⟨x,hx,rfl⟩:=List.mem_map.1 hr;exact waV_len (h x hx)
theorem ca_get {l:List (Nat × Str)} {j:Nat} (hj:j<l.length):(l.map waV).getD j []=waV (l.getD j default):=by
  rw [List.getD_eq_getElem?_getD,List.getD_eq_getElem?_getD,List.getElem?_map,List.getElem?_eq_getElem hj];rfl
end Go.Gx
namespace Go.Gx
open Go.Proofs
theorem kdsk4_ag111:aggT Tryz.prog 111 65=true:=by kernel_rfl
theorem kdsk4_en112:Go.Proofs.Enters Tryz.prog 112:=Go.Proofs.enters_of Tryz.func112 kr_ rfl
theorem kdsk4_en128:Go.Proofs.Enters Tryz.prog 128:=Go.Proofs.enters_of Tryz.func128 kr_ rfl
theorem kdsk4_en51:Go.Proofs.Enters Tryz.prog 51:=Go.Proofs.enters_of Tryz.func51 kr_ rfl
theorem kdsk4_fo111_0:fieldOff Tryz.prog 111 0=some 0:=by kernel_rfl
theorem kdsk4_fo111_1:fieldOff Tryz.prog 111 1=some 1:=by kernel_rfl
theorem kdsk4_fo90_0:fieldOff Tryz.prog 90 0=some 0:=by kernel_rfl
theorem kdsk4_fo90_1:fieldOff Tryz.prog 90 1=some 1:=by kernel_rfl
theorem kdsk4_mixed:Tryz.prog.follows .mixedOrders=true:=by kernel_rfl
theorem kdsk4_oc3:oneCellT Tryz.prog 3=true:=by kernel_rfl
theorem kdsk4_oc36:oneCellT Tryz.prog 36=true:=by kernel_rfl
theorem kdsk4_oc87:oneCellT Tryz.prog 87=true:=by kernel_rfl
theorem kdsk4_oc88:oneCellT Tryz.prog 88=true:=by kernel_rfl
theorem kdsk4_oc9:oneCellT Tryz.prog 9=true:=by kernel_rfl
theorem kdsk4_sz111:(Tryz.prog.info? 111).map (·.size)=some 65:=by kernel_rfl
theorem kdsk4_sz36:(Tryz.prog.info? 36).map (·.size)=some 1:=by kernel_rfl
theorem kdsk4_sz5:(Tryz.prog.info? 5).map (·.size)=some 1:=by kernel_rfl
theorem kdsk4_sz9:(Tryz.prog.info? 9).map (·.size)=some 1:=by kernel_rfl
theorem kdsk4_sz92:(Tryz.prog.info? 92).map (·.size)=some 64:=by kernel_rfl
theorem kdsk4_zr111:(Tryz.prog.info? 111).bind (·.zero)=some (Value.agg [Value.int .i64 0,Value.int .u8 0,Value.int .u8 0,Value.int .u8 0,Value.int .u8 0,Value.int .u8 0,Value.int .u8 0,Value.int .u8 0,Value.int .u8 0,Value.int .u8 0,Value.int .u8 0,Value.int .u8 0,Value.int .u8 0,Value.int .u8 0,Value.int .u8 0,Value.int .u8 0,Value.int .u8 0,Value.int .u8 0,Value.int .u8 0,Value.int .u8 0,Value.int .u8 0,Value.int .u8 0,Value.int .u8 0,Value.int .u8 0,Value.int .u8 0,Value.int .u8 0,Value.int .u8 0,Value.int .u8 0,Value.int .u8 0,Value.int .u8 0,Value.int .u8 0,Value.int .u8 0,Value.int .u8 0,Value.int .u8 0,Value.int .u8 0,Value.int .u8 0,Value.int .u8 0,Value.int .u8 0,Value.int .u8 0,Value.int .u8 0,Value.int .u8 0,Value.int .u8 0,Value.int .u8 0,Value.int .u8 0,Value.int .u8 0,Value.int .u8 0,Value.int .u8 0,Value.int .u8 0,Value.int .u8 0,Value.int .u8 0,Value.int .u8 0,Value.int .u8 0,Value.int .u8 0,Value.int .u8 0,Value.int .u8 0,Value.int .u8 0,Value.int .u8 0,Value.int .u8 0,Value.int .u8 0,Value.int .u8 0,Value.int .u8 0,Value.int .u8 0,Value.int .u8 0,Value.int .u8 0,Value.int .u8 0].toArray):=by kernel_rfl
theorem kdsk4_zr36:(Tryz.prog.info? 36).bind (·.zero)=some (Value.int .i64 0):=by kernel_rfl
theorem kdsk4_zr9:(Tryz.prog.info? 9).bind (·.zero)=some (S []):=by kernel_rfl
def WaC (_:Nat→Prop) (_:World) (cs:List Value) (x:Nat × Str):Prop:=cs=waV x∧x.2.length=64
instance car_wa:Car WaC 65 where
  pos:=by omega
  len:=fun h=>by rw [h.1];exact waV_len h.2
  one:=fun h=>by rw [h.1];exact waV_one _
  move:=fun _ h=>h
def fx (x:Nat × Str):Nat × Str:=(x.1,(x.2++zeros 64).take 64)
theorem fx_len (x:Nat × Str):(fx x).2.length=64:=by simp [fx,zeros_len]
theorem fx_id {x:Nat × Str} (h:x.2.length=64):fx x=x:=by
  unfold fx;rw [List.take_append_of_le_length om_,List.take_of_length_le om_]
theorem rows_pureW {α : Type} [Inhabited α] {C:Thing α} {A:Nat→Prop} {w:World} {f:α → List Value}:∀ (l:List α),(∀ x∈l,C A w (f x) x)→RowsC C A w (l.map f) l:=fun l h=>
  ⟨by simp,fun i hi=>by
    have:=h (l.getD i default) (by rw [List.getD_eq_getElem?_getD,List.getElem?_eq_getElem hi];exact List.getElem_mem hi);simpa [List.getD_eq_getElem?_getD,hi] using this⟩
def encVW (x:Nat × (Nat × Str)):Array Value:=#[.int .i64 (x.1:Nat),.agg (waV (fx x.2)).toArray]
def bkW (vs:List (Nat × Str)):List (Nat × (Nat × Str)):=(List.range vs.length).reverse.map fun i=>(i,vs.getD i default)
theorem bk_lenW (vs:List (Nat × Str)):(bkW vs).length=vs.length:=by simp [bkW]
theorem bk_atW {vs:List (Nat × Str)} {k:Nat} (h:k<vs.length):(bkW vs)[k]? = some (vs.length - 1 - k,vs.getD (vs.length - 1 - k) default):=by
  unfold bkW;rw [List.getElem?_map,List.getElem?_reverse (by simpa using h),List.length_range,List.getElem?_range om_];rfl
theorem bk_sndW (vs:List (Nat × Str)):(bkW vs).map (·.2)=vs.reverse:=by
  apply List.ext_getElem?;intro k;rw [List.getElem?_map];by_cases h:k<vs.length
  · rw [bk_atW h,List.getElem?_reverse h,List.getD_eq_getElem?_getD,List.getElem?_eq_getElem om_];rfl
  · rw [List.getElem?_eq_none (by rw [bk_lenW];omega),List.getElem?_eq_none (by simp;omega)];rfl
theorem bk_takeW {vs:List (Nat × Str)} {k:Nat} (h:k<vs.length):(bkW vs).take k++[(vs.length - 1 - k,vs.getD (vs.length - 1 - k) default)]=(bkW vs).take (k+1):=by
  rw [List.take_add_one,bk_atW h];rfl
theorem back_okW (A:Nat→Prop) (l Bs n₀ : Nat) (v:Value) (vs:List (Nat × Str)) (hA:∀ k,n₀ ≤ k→A k) (hBn:Bs<n₀) (J Jx:List (Nat × (Nat × Str))→World→Prop)
    (hY:∀ pre x W,J pre W→pre.length<vs.length→YieldAt Fence.wide 0 Tryz.prog l (encVW x) W fun e W'=>
      (e=.returned (.bool true)∧J (pre++[x]) W'∧KpB n₀ W W')∨(e=.returned (.bool false)∧Jx (pre++[x]) W'))
    (w:World) (hBs:w.cell? ⟨Bs,0,none⟩=some v) (hs:RecsAt WaC 65 A w v vs) (h0:J [] w):
    Ret Tryz.prog 128 #[.func (.yield l) #[] #[],.pointer (some ⟨Bs,0,none⟩)] w fun _ W'=>(∃ xs,xs=bkW vs∧J xs W')∨(∃ pre,(∃ k,pre=(bkW vs).take k)∧Jx pre W'):=by
  obtain ⟨p,cap,row,rfl,h1,h2,h3,hR⟩:=hs;have hlen:=bk_lenW vs;refine ret_of_W Tryz.func128 rfl (Nat.le_of_ble_eq_true rfl) (res0 rfl) ?_;refine W.seq (W.region (L.val (x_ld (v:=.slice _ _ _) kdsk4_oc88 rfl hBs) rfl ?_));refine L.val (x_len_slice Tryz.underlying88 rfl) rfl ?_;refine L.val (x_sub rfl rfl (wr64 om_)) rfl ?_;refine L.val (x_as (v:=.int _ _) rfl) rfl ?_;refine L.nil (thn_n (W.block (W.loop (fun m' E w'=>∃ (k:Nat),m'=vs.length - k∧E 0=.func (.yield l) #[] #[]∧E 1=.pointer (some ⟨Bs,0,none⟩)∧E 3=.int .i64 ((vs.length:Nat) - 1 - (k:Nat))∧(k≤vs.length)∧(J ((bkW vs).take k) w')∧(RecRow WaC 65 A w' p row vs)∧(w'.cell? ⟨Bs,0,none⟩=some (.slice p vs.length cap))) (vs.length) ?_ ?_)))
  ·exact ⟨0,by omega,vi_,vi_,vi_,ao_,(by simpa using h0),ao_,ao_⟩
  ·rintro _ E wL7 ⟨k,em,e0,e1,e3,hk,hJ,hR,hBs⟩;rw [upd_self e0,upd_self e1,upd_self e3];refine W.seq (W.seq (W.region (L.val (x_mv (v:=.int _ _) rfl) rfl ?_)));refine L.val (x_geq rfl rfl) rfl ?_;refine L.nil (thn_n (W.cond (b:=_) rfl (fun g8=>?_) (fun g8=>?_)))
   ·have h8:=of_decide_eq_true g8;have hlt:k<vs.length:=by omega
    obtain ⟨b,o,rfl,hAb,hc⟩:=hR.elem (i:=vs.length - 1 - k) om_;have hver:=(hR.each (vs.length - 1 - k) om_).1;have hver2:=(hR.each (vs.length - 1 - k) om_).2;rw [hver,← fx_id hver2] at hc;refine W.skip (thn_n (W.seq (W.block (W.seq (W.wide (m:=1) (WI.region ?_))))));refine LI.val (fun _=>trivial) (fun _ h=>by cases h) (x_mv (v:=.func _ _ _) rfl) rfl ?_;refine LI.val (fun _=>trivial) (fun _ h=>by cases h) (x_mv (v:=.int _ _) rfl) rfl ?_;refine LI.val (fun _=>trivial) (fun _ h=>by cases h) (x_ld (v:=.slice _ _ _) kdsk4_oc88 rfl hBs) rfl ?_;refine LI.val (fun _=>trivial) (fun _ h=>by cases h) (x_mv (v:=.int _ _) rfl) rfl ?_;refine LI.val (fun _=>trivial) (fun _ h=>by cases h) (x_ia (j:=vs.length - 1 - k) Tryz.underlying88 kdsk4_sz111 rfl rfl om_ om_) rfl ?_;refine LI.val (fun _=>trivial) (fun _ h=>by cases h) (x_ldn (vs:=waV (fx (vs.getD (vs.length - 1 - k) default))) kdsk4_ag111 rfl (waV_len (fx_len _)) hc) rfl ?_;refine LI.yieldN (vs:=(encVW (vs.length - 1 - k,vs.getD (vs.length - 1 - k) default)).toList) (R:=fun e W'=>∃ z,e=.returned (.bool z)∧(z=true→J ((bkW vs).take k++[(vs.length - 1 - k,vs.getD (vs.length - 1 - k) default)]) W'∧KpB n₀ wL7 W')∧(z=false→Jx ((bkW vs).take k++[(vs.length - 1 - k,vs.getD (vs.length - 1 - k) default)]) W')) (fun _=>trivial) rfl rfl ?_ rfl ((hY ((bkW vs).take k) (vs.length - 1 - k,vs.getD (vs.length - 1 - k) default) wL7 hJ (by rw [List.length_take];omega)).mono ?_) (fun e w' ⟨z,h,_⟩=>⟨_,h⟩) ?_
    · show [Value.int .i64 ((vs.length:Nat) - 1 - (k:Nat)),_]=[Value.int .i64 ((vs.length - 1 - k:Nat):Int),_];rw [show ((vs.length - 1 - k:Nat):Int)=(vs.length:Nat) - 1 - (k:Nat) by omega];rfl
    · rintro e W' (⟨rfl,a1,a2⟩ | ⟨rfl,a1⟩)
      · exact ⟨true,rfl,fun _=>⟨a1,a2⟩,fun h=>by cases h⟩
      · exact ⟨false,rfl,fun h=>(by cases h),fun _=>a1⟩
    rintro u w13 ⟨z,hz,r1,r2⟩;cases hz;refine LI.val (fun _=>trivial) (fun _ h=>by cases h) (x_not rfl) rfl ?_;refine LI.nil ?_;refine thn_n (W.cond (b:=_) rfl (fun g18=>?_) (fun g18=>?_))
    ·have h18:=(not_t g18);refine W.ret (blk_r (thn_r (thn_r (blk_r (fin_mk (.inr rfl) ?_)))));exact .inr ⟨_,⟨k+1,bk_takeW hlt⟩,r2 (by simpa using g18)⟩
    ·have h18:=(not_f g18);have h18:=g18;have hg:=(r1 (by simpa using h18)).2.1;have hR:=hR.carryR (gr_of_below hg) hA;have hBs:=(gr_of_below hg).cell hBs (by show ¬ n₀ ≤ Bs;omega);refine W.skip (blk_n (thn_n (W.region (L.val (x_mv (v:=.int _ _) rfl) rfl ?_))));refine L.val (x_sub rfl rfl (wr64 om_)) rfl ?_;refine L.val (x_as (v:=.int _ _) rfl) rfl ?_;refine L.nil (thn_n ⟨rfl,?_⟩);refine ⟨_,?_,k+1,rfl,vi_,vi_,vi_,ao_,(by rw [← bk_takeW hlt];exact (r1 (by simpa using h18)).1),ao_,ao_⟩;omega
   ·have h8:=dle_f g8;refine W.exit (thn_x (thn_x (blk_hit ?_)));refine fin_mk (.inl rfl) ?_;exact .inl ⟨_,rfl,by rw [show k=vs.length by omega,← hlen,List.take_length] at hJ;exact hJ⟩
theorem backward_okW (p:Option Addr) (n cap:Nat) (w:World):Ret Tryz.prog 112 #[.slice p n cap] w fun r w'=>r=.func (.func 128) #[] #[.pointer (some ⟨w.heap.size,0,none⟩)]∧Box w' w.heap.size 88 [.slice p n cap]∧Bel w w':=by
  refine ret_of_W Tryz.func112 rfl (Nat.le_of_ble_eq_true rfl) (res1 rfl) ?_;have hB:=Gr.refl (fun _=>False) w;refine W.seq (W.region (L.box (cs:=[.slice p n cap]) rfl rfl (fun w1 bx1 hw hz1=>?_)));have hB:=hB.carry hw;refine L.val (x_as (v:=_) rfl) rfl ?_;refine L.nil (thn_n (W.seq (W.region (L.val (x_mkfn rfl rfl) rfl ?_))));refine L.val (x_as (v:=_) rfl) rfl ?_;refine L.nil (thn_n (W.ret (fin_mk (.inr rfl) ?_)));exact ⟨rfl,bx1,hB⟩
theorem back_seqW (A:Nat→Prop) (Bs n₀ : Nat) (v:Value) (vs:List (Nat × Str)) (w:World) (hA:∀ k,n₀ ≤ k→A k) (hBn:Bs<n₀) (hBs:Bs<w.heap.size) (hc:w.cell? ⟨Bs,0,none⟩=some v) (hs:RecsAt WaC 65 A w v vs) (hAw:∀ k,w.heap.size≤k→A k):
    SeqStopsK Fence.wide 1 Tryz.prog 128 #[.pointer (some ⟨Bs,0,none⟩)] encVW (KpB n₀) (fun xs=>xs=bkW vs) (fun pre=>∃ k,pre=(bkW vs).take k) vs.length w:=by
  intro l J Jx w1 hW _ _ hY h0;have hs1:=hs.carryR (gr_of_below hW) hAw;have hc1:=(hW.cell (p:=⟨Bs,0,none⟩) hBs).trans hc;rw [show (#[Value.func (.yield l) #[] #[]]++#[Value.pointer (some ⟨Bs,0,none⟩)]:Array Value)=#[.func (.yield l) #[] #[],.pointer (some ⟨Bs,0,none⟩)] from rfl];refine callsIn_wide.2 (Calls.mono (back_okW A l Bs n₀ v vs hA hBn J Jx hY w1 hc1 hs1 h0) ?_);rintro e w2 ⟨u,rfl,h⟩;exact ⟨⟨u,rfl⟩,h⟩
def rdD (D:Dk) (i:Nat):Str:=match D.ca.reverse.find? (fun y=>y.1 == i) with
  | some x=>x.2
  | none=>D.pl.getD i []
theorem find_prefixW {α : Type} {p:α → Bool} {pre l:List α} {x:α} (hpre:∀ y∈pre,p y=false) (hx:p x=true) (h:∃ k,pre++[x]=l.take k):l.find? p=some x:=by
  obtain ⟨k,hk⟩:=h;have e:l=(pre++[x])++l.drop k:=by rw [hk,List.take_append_drop]
  rw [e,List.append_assoc,List.find?_append,List.find?_eq_none.2 (fun y hy=>by simp [hpre y hy])];simp [hx]
theorem plV_cell {w:World} {bp i:Nat} {pl:List Str} (h:Box w bp 92 (plV pl)) (hs:∀ s∈pl,s.length=64) (hi:i<pl.length):∀ m,m<64→w.cell? ⟨bp,0+i * 64+m,none⟩=((pl.getD i []).map B8)[m]? := fun m hm=>by
  have hg:(pl.map fun s=>s.map B8).getD i []=(pl.getD i []).map B8:=by
    rw [List.getD_eq_getElem?_getD,List.getD_eq_getElem?_getD,List.getElem?_map,List.getElem?_eq_getElem hi];rfl
  have hl:((pl.getD i []).map B8).length=64:=by
    rw [List.length_map];exact hs _ (by rw [List.getD_eq_getElem?_getD,List.getElem?_eq_getElem hi];exact List.getElem_mem hi)
  rw [List.getElem?_eq_getElem om_];have:=rowcK (tl:=[]) (plV_lens hs) (i:=i) (j:=m) (by rw [List.length_map];exact hi) hm (by rw [hg];exact List.getElem?_eq_getElem om_);rw [List.append_nil] at this;exact h.cell this
theorem read_d (n0 b:Nat) (D:Dk) (i:Nat) (w:World) (h:DiskAt n0 w b D) (hd:D.dead=false) (hi:i<D.pl.length):Ret Tryz.prog 85 #[.pointer (some ⟨b,0,none⟩),.int .i64 (i:Nat)] w fun v w'=>v=.tuple #[S (rdD D i),.int .i64 0]∧Bel w w':=by
  obtain ⟨h1,h2,bp,vc,vk,tn,ct,h3,hb,h5,hp,hc⟩:=id h;obtain ⟨ac,cc,rfl,hcc⟩:=own_shape hc;have hr:readyD D (i:Nat)=0:=by unfold readyD;rw [hd,if_neg (by decide),if_pos om_]
  have hrec:RecsAt WaC 65 (fun k=>w.heap.size≤k) w (.slice ac D.ca.length cc) D.ca:=
    (rows_pureW (C:=WaC) (A:=fun _=>False) (w:=w) (f:=waV) D.ca fun x hx=>⟨rfl,(h2.cac x hx).2⟩).doneB hc (by have:=h2.few;omega) (fun _ f=>f.elim) (fun _ _ f=>f) |>.mono (fun _ hb h=>absurd h om_)
  refine ret_of_W_marksR Tryz.func85 rfl (Nat.le_of_ble_eq_true rfl) ?_;have hB:=Gr.refl (fun _=>False) w;have hb0:=hb;have hp0:=hp;have hbw:=hb.lt;have hpw:=hp.lt;refine W.seq (W.region (L.box (cs:=[.int .i64 (i:Nat)]) rfl rfl (fun w3 bx3 hw hz3=>?_)));have hB:=hB.carry hw;have hb:=hb.carry hw;have hp:=hp.carry hw;have hrec:=hrec.carry hw;refine L.alloc (cs:=[S []]) kdsk4_zr9 rfl rfl (fun w4 bx4 hw hz4=>?_);have hB:=hB.carry hw;have hb:=hb.carry hw;have hp:=hp.carry hw;have hrec:=hrec.carry hw;have bx3:=bx3.carry hw;refine L.alloc (cs:=[Value.int .i64 0]) kdsk4_zr36 rfl rfl (fun w5 bx5 hw hz5=>?_);have hB:=hB.carry hw;have hb:=hb.carry hw;have hp:=hp.carry hw;have hrec:=hrec.carry hw;have bx3:=bx3.carry hw;have bx4:=bx4.carry hw;refine L.nil (thn_n (W.seq (W.seq (W.region (L.val (x_mv (v:=.pointer _) rfl) rfl ?_)))));refine L.val (x_ld (v:=.int _ _) kdsk4_oc3 rfl (bx3.cell (i:=0) rfl)) rfl ?_;refine L.ret (x_call kdsk4_en51 rfl) rfl (ready_d n0 b D _ _ (h.bel hB)) ?_;rintro _ w11 ⟨rfl,hq⟩;rw [hq,hr];refine L.val (x_as (v:=.int _ _) rfl) rfl ?_;refine L.nil (thn_n (W.seq (W.region (L.val (x_mv (v:=.int _ _) rfl) rfl ?_))));refine L.val (x_neq rfl rfl) rfl ?_;refine L.nil (thn_n (W.cond (b:=_) rfl (fun g13=>?_) (fun g13=>?_)))
  ·have h13:=dne_t g13;cases g13
  ·have h13:=dne_f g13;refine W.skip (thn_n (W.seq (W.seq (W.region (L.val (x_mv (v:=.pointer _) rfl) rfl ?_)))));refine L.val (x_nil rfl) rfl ?_;refine L.val (x_fa kdsk4_fo90_1 rfl) rfl ?_;refine L.val (x_ld (v:=.slice _ _ _) kdsk4_oc88 rfl (hb.cell0 rfl)) rfl ?_;refine L.ret (x_call kdsk4_en112 rfl) rfl (backward_okW ac D.ca.length cc _) ?_;rintro _ w19 ⟨rfl,bx19,hw⟩;have hB:=hB.carry hw;have hb:=hb.carry hw;have hp:=hp.carry hw;have hrec:=hrec.carry hw;have bx3:=bx3.carry hw;have bx4:=bx4.carry hw;have bx5:=bx5.carry hw;have hsz:=hB.size;have z19:=hw.size;have hrec:=hrec.mono (A':=fun k=>w19.heap.size≤k) (fun b hb h=>absurd h om_);have hbl19:=hb.lt;have hpl19:=hp.lt;refine L.nil (thn_n (W.block ?_));refine W.rangeFx (α := Nat × (Nat × Str)) (n₀ := w19.heap.size) (w0:=w19) (N:=D.ca.length) rfl kdsk4_en128 (back_seqW (fun k=>w19.heap.size≤k) _ w19.heap.size _ D.ca w19 (fun _ h=>h) bx19.lt bx19.lt (bx19.cell (i:=0) rfl) hrec (fun _ h=>h)) (RowKit.Below.refl _ _) (Nat.le_refl _) (fun _=>rfl) rfl
     (fun pre W=>(∀ y∈pre,(y.2.1 == i)=false)∧Box W w.heap.size 3 [.int .i64 (i:Nat)]∧Box W w3.heap.size 9 [S []]∧Box W w4.heap.size 36 [.int .i64 0]∧Bel w W∧w19.heap.size≤W.heap.size)
     (fun c xs W=>c=.ret∧∃ pre x,xs=pre++[x]∧(∀ y∈pre,(y.2.1 == i)=false)∧(x.2.1 == i)=true∧Box W w3.heap.size 9 [S (fx x.2).2]∧Box W w4.heap.size 36 [.int .i64 0]∧Bel w W)
     (fun pre X Y row ⟨a1,a2,a3,a4,a5⟩ hg hr=>⟨a1,a2.from hg (fun r e=>(hr r e).2),a3.from hg (fun r e=>(hr r e).2),a4.from hg (fun r e=>(hr r e).2),a5.1.from hg (fun r e=>by have:=(hr r e).1;omega),Nat.le_trans a5.2 hg.size⟩)
     (fun c pre X Y row ⟨a1,q,x,a2,a3,a4,a5,a6,a7⟩ hg hr=>⟨a1,q,x,a2,a3,a4,a5.from hg (fun r e=>(hr r e).2),a6.from hg (fun r e=>(hr r e).2),a7.from hg (fun r e=>by have:=(hr r e).1;omega)⟩)
     ⟨fun _ hy=>(by cases hy),bx3,bx4,bx5,hB,Nat.le_refl _⟩
     (fun x E' W=>∃ j,E' 3=.pointer (some ⟨w.heap.size,0,none⟩)∧E' 4=.pointer (some ⟨w3.heap.size,0,none⟩)∧E' 5=.pointer (some ⟨w4.heap.size,0,none⟩)∧E' 8=.pointer (some ⟨j,0,none⟩)∧Box W j 111 (waV (fx x.2)))
     (fun x a' s X Y row ⟨j,e1,e2,e3,e4,a5⟩ hg hr=>⟨j,e1,e2,e3,e4,a5.from hg (fun r e=>(hr r e).2)⟩)
     ?_ ?_ ?_ ?_
   ·rintro l pre x W ⟨hq,bx3,bx4,bx5,hB,hle⟩;have hV:=Gr.refl (fun _=>False) W;have hsz:=hB.size;refine WI.reg rfl ?_;refine L.alloc (cs:=[Value.int .i64 0,Value.int .u8 0,Value.int .u8 0,Value.int .u8 0,Value.int .u8 0,Value.int .u8 0,Value.int .u8 0,Value.int .u8 0,Value.int .u8 0,Value.int .u8 0,Value.int .u8 0,Value.int .u8 0,Value.int .u8 0,Value.int .u8 0,Value.int .u8 0,Value.int .u8 0,Value.int .u8 0,Value.int .u8 0,Value.int .u8 0,Value.int .u8 0,Value.int .u8 0,Value.int .u8 0,Value.int .u8 0,Value.int .u8 0,Value.int .u8 0,Value.int .u8 0,Value.int .u8 0,Value.int .u8 0,Value.int .u8 0,Value.int .u8 0,Value.int .u8 0,Value.int .u8 0,Value.int .u8 0,Value.int .u8 0,Value.int .u8 0,Value.int .u8 0,Value.int .u8 0,Value.int .u8 0,Value.int .u8 0,Value.int .u8 0,Value.int .u8 0,Value.int .u8 0,Value.int .u8 0,Value.int .u8 0,Value.int .u8 0,Value.int .u8 0,Value.int .u8 0,Value.int .u8 0,Value.int .u8 0,Value.int .u8 0,Value.int .u8 0,Value.int .u8 0,Value.int .u8 0,Value.int .u8 0,Value.int .u8 0,Value.int .u8 0,Value.int .u8 0,Value.int .u8 0,Value.int .u8 0,Value.int .u8 0,Value.int .u8 0,Value.int .u8 0,Value.int .u8 0,Value.int .u8 0,Value.int .u8 0]) kdsk4_zr111 rfl rfl (fun w8 bx8 hw hz8=>?_);have hB:=hB.carry hw;have bx3:=bx3.carry hw;have bx4:=bx4.carry hw;have bx5:=bx5.carry hw;have hV:=hV.carry hw;refine L.setRow kdsk4_ag111 rfl rfl bx8 rfl (waV_len (fx_len _)) (waV_one _) (fun wl19 bx8 hw hzl19=>?_);have hsz:=hB.size;have hB:=hB.set hw om_;have bx3:=bx3.carryR hw om_;have bx4:=bx4.carryR hw om_;have bx5:=bx5.carryR hw om_;have hV:=hV.set hw om_;refine L.nil ?_;have hvs:=hV.size;exact ⟨rfl,rfl,(kp_of_bel w19.heap.size hV hle).1,(kp_of_bel w19.heap.size hV hle).2,⟨hq,bx3,bx4,bx5,hB,by omega⟩,_,rfl,rfl,rfl,rfl,bx8⟩
   ·rintro l pre x E W ⟨hq,bx3,bx4,bx5,hB,hle⟩ ⟨j,e3,e4,e5,e8,bx8⟩ hlen;rw [upd_self e3,upd_self e4,upd_self e5,upd_self e8];have hW:=Gr.refl (fun k=>k=w3.heap.size∨k=w4.heap.size) W;have bxo4:=bx4;have bxo5:=bx5;have hne:j≠w3.heap.size∧j≠w4.heap.size:=⟨box_ne bx8 bx4 (by decide),box_ne bx8 bx5 (by decide)⟩;refine WI.block ?_;refine WI.seq ?_;refine WI.reg rfl ?_;refine L.val (x_fa kdsk4_fo111_0 rfl) rfl ?_;refine L.val (x_ld (v:=.int _ _) kdsk4_oc3 rfl (bx8.cell0 rfl)) rfl ?_;refine L.val (x_ld (v:=.int _ _) kdsk4_oc3 rfl (bx3.cell (i:=0) rfl)) rfl ?_;refine L.val (x_eql rfl rfl) rfl ?_;refine L.nil (thn_n (WI.cond (b:=_) rfl (fun g25=>?_) (fun g25=>?_)))
    ·have h25:=of_decide_eq_true g25;refine WI.seq ?_;refine WI.reg rfl ?_;refine L.val (x_fa kdsk4_fo111_1 rfl) rfl ?_;refine L.val (x_slArr Tryz.underlying92 kdsk4_sz5 rfl rfl) rfl ?_;refine L.val (x_b2s (l:=(fx x.2).2) Tryz.underlying59 Tryz.underlying5 Tryz.underlying9 rfl (by rw [fx_len]) (fun m hm=>bx8.rowD 1 (k:=64) (by simp [waV,fx_len]) m (by rwa [fx_len] at hm))) rfl ?_;refine L.set (v:=S _) kdsk4_sz9 rfl rfl rfl bx4 rfl (fun wl27 bx4 hw hzl27=>?_);have hsz:=hB.size;have hB:=hB.set hw om_;have bx3:=bx3.carryR hw om_;have bx5:=bx5.carryR hw om_;have bx8:=bx8.carryR hw om_;have hW:=hW.trans (hw.mono (fun k _ e=>by first | exact .inl e | exact .inr e));refine L.set (v:=.int _ _) kdsk4_sz36 rfl rfl rfl bx5 rfl (fun wl28 bx5 hw hzl28=>?_);have hsz:=hB.size;have hB:=hB.set hw om_;have bx3:=bx3.carryR hw om_;have bx4:=bx4.carryR hw om_;have bx8:=bx8.carryR hw om_;have hW:=hW.trans (hw.mono (fun k _ e=>by first | exact .inl e | exact .inr e));refine L.nil (thn_n (WI.ret (blk_r (?_))));have hk:=kf_of_gr w19.heap.size hW (fun k o e ho=>e.elim (fun e=>by subst e;exact bxo4.cells ho) (fun e=>by subst e;exact bxo5.cells ho));exact ⟨hk,rfl,pre,x,rfl,hq,(by have e:((x.2.1:Nat):Int)=(i:Nat):=h25;rw [beq_iff_eq];omega),bx4,bx5,hB⟩
    ·have h25:=of_decide_eq_false g25;refine WI.skip ?_;refine blk_n ?_;have hk:=kp_of_bel w19.heap.size (Gr.refl (fun _=>False) W) hle;refine ⟨hk.1,hk.2,fun y hy=>?_,bx3,bx4,bx5,hB,hle⟩;rcases List.mem_append.1 hy with hy | hy
     · exact hq y hy
     · rw [List.mem_singleton.1 hy,beq_eq_false_iff_ne];intro e;exact h25 (by show ((x.2.1:Nat):Int)=_;rw [e])
   rotate_left 1
   ·rintro Db c pre Wd hD hpk ⟨rfl,q,x,rfl,hq,hx,bx4,bx5,hB⟩ hK;have hf:(bkW D.ca).find? (fun y=>y.2.1 == i)=some x:=find_prefixW hq hx (by obtain ⟨k,hk⟩:=hpk;exact ⟨k,hk⟩);have hf2:D.ca.reverse.find? (fun y=>y.1 == i)=some x.2:=by
      rw [← bk_sndW,List.find?_map];show ((bkW D.ca).find? fun y=>y.2.1 == i).map _=_;rw [hf];rfl
    have hxm:x.2.2.length=64:=(h2.cac x.2 (by have:=List.mem_of_find?_eq_some hf2;simpa using this)).2;have hrd:rdD D i=x.2.2:=by unfold rdD;rw [hf2]
    rw [hrd];rw [fx_id hxm] at bx4;have hne:∀ j,j<w19.heap.size→¬ j=Db:=fun j hj e=>by omega
    refine W.ret (blk_r (thn_r (finMR_mk (.inr rfl) ?_)));exact ⟨Db,rfl,hK,_,resC2 rfl kdsk4_oc9 kdsk4_oc36 rfl rfl (bx4.carryR (gr_putObj _ _ _) (hne _ om_)) (bx5.carryR (gr_putObj _ _ _) (hne _ om_)),rfl,hB.set (gr_putObj _ _ _) om_⟩
   rintro Db xs w8 hD rfl ⟨hq,bx3,bx4,bx5,hB,hle⟩ hK;have hf2:D.ca.reverse.find? (fun y=>y.1 == i)=none:=by
     rw [← bk_sndW,List.find?_map];show ((bkW D.ca).find? fun y=>y.2.1 == i).map _=_;rw [List.find?_eq_none.2 (fun y hy=>by rw [hq y hy];simp)];rfl
   have hrd:rdD D i=D.pl.getD i []:=by unfold rdD;rw [hf2]
   rw [hrd];have hb:=hb0.carry hB;have hp:=hp0.carry hB;have hsi:(D.pl.getD i []).length=64:=h2.sec _ (by rw [List.getD_eq_getElem?_getD,List.getElem?_eq_getElem hi];exact List.getElem_mem hi);refine blk_n (thn_n (W.seq (W.drawD (fun k=>k=w3.heap.size∨k=w4.heap.size) (fun k=>k=w3.heap.size∨k=w4.heap.size) 8 kdsk4_mixed (fun wD29 hw=>?_))));have hb:=hb.carry hw;have bx3:=bx3.carry hw;have bx4:=bx4.carry hw;have bx5:=bx5.carry hw;have hB0:=Gr.refl (fun k=>k=w3.heap.size∨k=w4.heap.size) wD29;have hR0:=Gr.refl (fun k=>k=w3.heap.size∨k=w4.heap.size) wD29;have hD:=hw;have hpD:=hp.carry hw;refine LAD.take0 (i:=0) rfl kr_ kr_ kr_ kr_ (fun w hw=>x_mv (v:=.pointer _) rfl) rfl ?_;refine LAD.take0 (i:=1) rfl kr_ kr_ kr_ kr_ (fun w hw=>x_nil rfl) rfl ?_;refine LAD.take0 (i:=2) rfl kr_ kr_ kr_ kr_ (fun w hw=>x_fa kdsk4_fo90_0 rfl) rfl ?_;refine LAD.take0 (i:=3) rfl kr_ kr_ kr_ kr_ (fun w hw=>x_ld (v:=.slice _ _ _) kdsk4_oc87 rfl (hw.keepR (fun e=>by rcases e with e | e <;> (have e:(_:Nat)=_:=e;(try dsimp only at e);omega)) (hb.cell0 rfl))) rfl ?_;refine LAD.take0 (i:=4) rfl kr_ kr_ kr_ kr_ (fun w hw=>x_ld (v:=.int _ _) kdsk4_oc3 rfl (hw.keepR (fun e=>by rcases e with e | e <;> (have e:(_:Nat)=_:=e;(try dsimp only at e);omega)) (bx3.cell (i:=0) rfl))) rfl ?_;refine LAD.take0 (i:=5) rfl kr_ kr_ kr_ kr_ (fun w hw=>x_ia (j:=i) Tryz.underlying87 kdsk4_sz92 rfl rfl om_ om_) rfl ?_;refine LAD.take0 (i:=6) rfl kr_ kr_ kr_ kr_ (fun w hw=>x_slArr Tryz.underlying92 kdsk4_sz5 rfl rfl) rfl ?_;refine LAD.take0 (i:=7) rfl kr_ kr_ kr_ kr_ (fun w hw=>x_b2s (l:=D.pl.getD i []) Tryz.underlying59 Tryz.underlying5 Tryz.underlying9 rfl (by rw [hsi]) (fun m hm=>plV_cell (hpD.carryR hw (fun e=>by rcases e with e | e <;> omega)) h2.sec hi m (by rwa [hsi] at hm))) rfl ?_;refine LAD.step (rs:=[8]) hR0 (fun _=>hB0) kr_ (by simp) ⟨⟨_,rfl,?_⟩,trivial⟩;refine L.set (v:=S _) kdsk4_sz9 rfl rfl rfl bx4 rfl (fun wl37 bx4 hw hzl37=>?_);have hR0:=hR0.into hw (by first | exact .inl rfl | exact .inr rfl);have bx5:=bx5.carryR hw om_;refine L.nil (thn_n (LAD.step' (rs:=[9]) hR0 kr_ kr_ (by simp) ⟨⟨_,rfl,?_⟩,trivial⟩));refine L.set (v:=.int _ _) kdsk4_sz36 rfl rfl rfl bx5 rfl (fun wl38 bx5 hw hzl38=>?_);have hR0:=hR0.into hw (by first | exact .inl rfl | exact .inr rfl);have bx4:=bx4.carryR hw om_;refine L.nil (thn_n (LAD.done kr_ kr_ hR0 ?_));have hb:=trivial;have bx3:=trivial;have hall:=((Gr.refl (fun k=>k=w3.heap.size∨k=w4.heap.size) w8).carry hD).trans hR0;refine thn_n (W.ret (finMR_mk (.inr rfl) ?_));have hK1:=defk hall hK (fun e=>by rcases e with e | e <;> omega);have hBf:=hB.step hall (fun i hi e=>by rcases e with e | e <;> omega);exact ⟨Db,rfl,hK1,_,resC2 rfl kdsk4_oc9 kdsk4_oc36 rfl rfl (bx4.carryR (gr_putObj _ _ _) (fun e=>by have e:w3.heap.size=Db:=e;omega)) (bx5.carryR (gr_putObj _ _ _) (fun e=>by have e:w4.heap.size=Db:=e;omega)),rfl,hBf.set (gr_putObj _ _ _) om_⟩
end Go.Gx
