/- A disk, as it lies in memory. Conditions: none. -/
import Derived.Test.YtdklfpoofgagmaaGreatQbWal3
import Derived.Test.YtdklfpoofgagmaaGreatQbMapS
namespace Go.Gx
open Go.Proofs
theorem kdsk1_en57:Go.Proofs.Enters Tryz.prog 57:=Go.Proofs.enters_of Tryz.func57 kr_ rfl
theorem kdsk1_fo90_0:fieldOff Tryz.prog 90 0=some 0:=by kernel_rfl
theorem kdsk1_fo90_4:fieldOff Tryz.prog 90 4=some 6:=by kernel_rfl
theorem kdsk1_fo90_5:fieldOff Tryz.prog 90 5=some 7:=by kernel_rfl
theorem kdsk1_oc3:oneCellT Tryz.prog 3=true:=by kernel_rfl
theorem kdsk1_oc4:oneCellT Tryz.prog 4=true:=by kernel_rfl
theorem kdsk1_oc87:oneCellT Tryz.prog 87=true:=by kernel_rfl
def dkTy (T:TypeId):Bool:=T == 90 || T == 92 || T == 111
def lgTy (T:TypeId):Bool:=dkTy T || T == 134
def DkB (ty:TypeId→Bool) (n0:Nat) (w:World) (k:Nat):Prop:=n0≤k∧∃ cs T m,w.heap[k]? = some (.cells cs T m)∧ty T=true
def Dg (ty:TypeId→Bool) (n0:Nat) (w w':World):Prop:=Gr (DkB ty n0 w) w w'
section
variable {ty:TypeId→Bool} {n0 b:Nat} {w w' w'':World} {T:TypeId} {cs:List Value}
theorem Dg.same (h:Dg ty n0 w w') {k:Nat} (hk:k<w.heap.size) (hn:¬ DkB ty n0 w k):w'.heap[k]? = w.heap[k]? ∧ ¬ DkB ty n0 w' k:=by
  have e:=h.block k hk hn;exact ⟨e,fun ⟨h1,cs,T,m,h2,h3⟩=>hn ⟨h1,cs,T,m,by rw [← e];exact h2,h3⟩⟩
theorem Dg.refl (ty:TypeId→Bool) (n0:Nat) (w:World):Dg ty n0 w w:=Gr.refl _ _
theorem DkB.mono {ty':TypeId→Bool} {k:Nat} (h:DkB ty n0 w k) (ht:∀ T,ty T=true→ty' T=true):DkB ty' n0 w k:=by
  obtain ⟨h1,cs,T,m,h2,h3⟩:=h;exact ⟨h1,cs,T,m,h2,ht T h3⟩
theorem Dg.mono {ty':TypeId→Bool} (h:Dg ty n0 w w') (ht:∀ T,ty T=true→ty' T=true):Dg ty' n0 w w':=Gr.mono h (fun _ _ e=>DkB.mono e ht)
theorem Dg.trans (h:Dg ty n0 w w') (h2:Dg ty n0 w' w''):Dg ty n0 w w'':=
  ⟨h2.os.trans h.os,h2.tape.trans h.tape,h2.output.trans h.output,Nat.le_trans h.size h2.size,fun k hk hn=>by
    obtain ⟨e,hn'⟩:=h.same hk hn;exact (h2.block k (Nat.lt_of_lt_of_le hk h.size) hn').trans e⟩
theorem Dg.of_bel (g:Bel w w'):Dg ty n0 w w':=g.mono (fun _ _ f=>f.elim)
theorem Dg.bel {w0:World} (h:Bel w0 w) (g:Dg ty w0.heap.size w w'):Bel w0 w':=Gr.step h g (fun i hi e=>by have:=e.1;omega)
theorem DkB.no_box (h:Box w b T cs) (hT:ty T=false):¬ DkB ty n0 w b:=fun ⟨_,cs',T',m,e,h3⟩=>by
  unfold Box at h;rw [h] at e;cases e;rw [hT] at h3;cases h3
theorem DkB.box (h:Box w b T cs) (hT:ty T=true) (hb:n0≤b):DkB ty n0 w b:=⟨hb,_,_,_,h,hT⟩
theorem Box.dg (h:Box w b T cs) (g:Dg ty n0 w w') (hT:ty T=false):Box w' b T cs:=h.carryR g (DkB.no_box h hT)
theorem DkB.no_own {base k sz:Nat} {v:Value} {xs:List Value} (h:Own w base T sz v k xs) (hT:ty T=false):∀ j,some j=v.ownBlock→¬ DkB ty n0 w j:=fun j hj=>by
  rcases Own.open h with ⟨rfl,-⟩ | ⟨b,cap,tl,rfl,-,-,-,hb⟩
  · cases hj
  · cases hj;exact DkB.no_box hb hT
theorem DkB.own {base k sz:Nat} {v:Value} {xs:List Value} (h:Own w base T sz v k xs) (hT:ty T=true) (hb:n0≤base):∀ j,some j=v.ownBlock→DkB ty n0 w j:=fun j hj=>by
  rcases Own.open h with ⟨rfl,-⟩ | ⟨b,cap,tl,rfl,hbb,-,-,hbx⟩
  · cases hj
  · cases hj;exact DkB.box hbx hT (Nat.le_trans hb hbb)
theorem Own.dg {base k sz:Nat} {v:Value} {xs:List Value} (h:Own w base T sz v k xs) (g:Dg ty n0 w w') (hT:ty T=false):Own w' base T sz v k xs:=h.carryR g (DkB.no_own h hT)
theorem StrsAt.dg {v:Value} {l:List Str} (h:StrsAt (DkB ty n0 w) w v l) (g:Dg ty n0 w w'):StrsAt (DkB ty n0 w') w' v l:=by
  obtain ⟨p,cap,rfl,h1,h2,h3,h4,h5⟩:=h;refine ⟨p,cap,rfl,h1,h2,h3,h4,fun hne=>?_⟩;obtain ⟨b,o,rfl,hA,hc⟩:=h5 hne;have hlt:b<w.heap.size:=World.block_lt_of_cell? w _ (hc 0 (List.length_pos_iff.2 hne));exact ⟨b,o,rfl,(g.same hlt hA).2,fun i hi=>g.cell (hc i hi) hA⟩
end
structure Dk where
  pl:List Str
  ca:List (Nat × Str)
  armed:Nat
  ops:Nat
  dead:Bool
def waV (x:Nat × Str):List Value:=.int .i64 (x.1:Nat) :: x.2.map B8
def plV (l:List Str):List Value:=(l.map fun s=>s.map B8).flatten
structure DkOk (D:Dk):Prop where
  pos:0<D.pl.length
  small:D.pl.length≤4096
  sec:∀ s∈D.pl,s.length=64
  cac:∀ x∈D.ca,x.1<D.pl.length∧x.2.length=64
  few:D.ca.length≤100000∧D.ops≤1000000000
def dkV (vp vc vk:Value) (tn ct:Int) (D:Dk):List Value:=[vp,vc,vk,.int .i64 tn,.int .i64 ct,.int .i64 (D.armed:Nat),.int .i64 (D.ops:Nat),.bool D.dead]
def DiskAt (n0:Nat) (w:World) (b:Nat) (D:Dk):Prop:=
  n0≤b∧DkOk D∧∃ bp vc vk tn ct,n0≤bp∧Box w b 90 (dkV (.slice (some ⟨bp,0,none⟩) D.pl.length D.pl.length) vc vk tn ct D)∧vk.oneCell'=true∧Box w bp 92 (plV D.pl)∧
    Own w n0 111 65 vc D.ca.length (D.ca.map waV).flatten
section
variable {n0 b:Nat} {w w':World} {D:Dk}
theorem DiskAt.bel (h:DiskAt n0 w b D) (g:Bel w w'):DiskAt n0 w' b D:=by
  obtain ⟨h1,h2,bp,vc,vk,tn,ct,h3,h4,h5,h6,h7⟩:=h;exact ⟨h1,h2,bp,vc,vk,tn,ct,h3,h4.carry g,h5,h6.carry g,Own.carry h7 g⟩
theorem DiskAt.carryR {R:Nat→Prop} (h:DiskAt n0 w b D) (g:Gr R w w') (hR:∀ k,R k→∃ T cs,Box w k T cs∧T≠90∧T≠92∧T≠111):DiskAt n0 w' b D:=by
  obtain ⟨h1,h2,bp,vc,vk,tn,ct,h3,h4,h5,h6,h7⟩:=h;have hx:∀ {k:Nat} {T:TypeId} {cs:List Value},Box w k T cs→(T=90∨T=92∨T=111)→¬ R k:=fun {k T cs} hb hT hr=>by
    obtain ⟨T',cs',hb',n1,n2,n3⟩:=hR k hr;unfold Box at hb hb';rw [hb] at hb';cases hb';rcases hT with h | h | h
    · exact n1 h
    · exact n2 h
    · exact n3 h
  refine ⟨h1,h2,bp,vc,vk,tn,ct,h3,h4.carryR g (hx h4 (.inl rfl)),h5,h6.carryR g (hx h6 (.inr (.inl rfl))),Own.carryR h7 g fun j hj=>?_⟩;rcases Own.open h7 with ⟨rfl,-⟩ | ⟨b',cap,tl,rfl,-,-,-,hb⟩
  · cases hj
  · cases hj;exact hx hb (.inr (.inr rfl))
end
theorem none_d (n0 b:Nat) (D:Dk) (w:World) (h:DiskAt n0 w b D):Ret Tryz.prog 57 #[.pointer (some ⟨b,0,none⟩)] w fun v w'=>v=.bool false∧w'=w:=by
  obtain ⟨h1,h2,bp,vc,vk,tn,ct,h3,hb,h5,h6,h7⟩:=h;have hp:=h2.pos;refine ret_of_W Tryz.func57 rfl (Nat.le_of_ble_eq_true rfl) (res1 rfl) ?_;refine W.seq (W.region (L.val (x_as (v:=.bool _) rfl) rfl ?_));refine L.nil (thn_n (W.seq (W.region (L.val (x_mv (v:=.pointer _) rfl) rfl ?_))));refine L.val (x_eqp0 Tryz.underlying35 rfl rfl) rfl ?_;refine L.val (x_mv (v:=.bool _) rfl) rfl ?_;refine L.splitat (dj:=5) (b:=_) rfl (fun g5=>?_) (fun g5=>?_)
  ·have h5:=g5;cases g5
  ·have h5:=g5;refine L.gyes' (dj:=5) (b:=_) rfl rfl g5 ?_;refine L.val (x_mv (v:=.pointer _) rfl) rfl ?_;refine L.gyes' (dj:=5) (b:=_) rfl rfl g5 ?_;refine L.val (x_nil rfl) rfl ?_;refine L.gyes' (dj:=5) (b:=_) rfl rfl g5 ?_;refine L.val (x_fa kdsk1_fo90_0 rfl) rfl ?_;refine L.gyes' (dj:=5) (b:=_) rfl rfl g5 ?_;refine L.val (x_ld (v:=.slice _ _ _) kdsk1_oc87 rfl (hb.cell0 rfl)) rfl ?_;refine L.gyes' (dj:=5) (b:=_) rfl rfl g5 ?_;refine L.val (x_len_slice Tryz.underlying87 rfl) rfl ?_;refine L.gyes' (dj:=5) (b:=_) rfl rfl g5 ?_;refine L.val (x_eql rfl rfl) rfl ?_;refine L.val (x_pick_f (v:=.bool _) (congrArg Value.bool g5) rfl) rfl ?_;refine L.val (x_as (v:=.bool _) rfl) rfl ?_;refine L.nil (thn_n (W.ret (fin_mk (.inr rfl) ?_)));refine ⟨?_,rfl⟩;show Value.bool (decide _)=_;rw [decide_eq_false om_]
theorem sectors_d (n0 b:Nat) (D:Dk) (w:World) (h:DiskAt n0 w b D):Ret Tryz.prog 83 #[.pointer (some ⟨b,0,none⟩)] w fun v w'=>v=.int .i64 (D.pl.length:Nat)∧w'=w:=by
  obtain ⟨h1,h2,bp,vc,vk,tn,ct,h3,hb,h5,h6,h7⟩:=id h;refine ret_of_W Tryz.func83 rfl (Nat.le_of_ble_eq_true rfl) (res1 rfl) ?_;refine W.seq (W.region (L.val (x_as (v:=.int _ _) rfl) rfl ?_));refine L.nil (thn_n (W.seq (W.seq (W.region (L.val (x_mv (v:=.pointer _) rfl) rfl ?_)))));refine L.ret (x_call kdsk1_en57 rfl) rfl (none_d n0 b D _ h) ?_;rintro _ w4 ⟨rfl,hq⟩;rw [hq];refine L.nil (thn_n (W.cond (b:=_) rfl (fun g4=>?_) (fun g4=>?_)))
  ·have h4:=g4;cases g4
  ·have h4:=g4;refine W.skip (thn_n (W.seq (W.region (L.val (x_mv (v:=.pointer _) rfl) rfl ?_))));refine L.val (x_nil rfl) rfl ?_;refine L.val (x_fa kdsk1_fo90_0 rfl) rfl ?_;refine L.val (x_ld (v:=.slice _ _ _) kdsk1_oc87 rfl (hb.cell0 rfl)) rfl ?_;refine L.val (x_len_slice Tryz.underlying87 rfl) rfl ?_;refine L.val (x_as (v:=.int _ _) rfl) rfl ?_;refine L.nil (thn_n (W.ret (fin_mk (.inr rfl) ?_)));exact ⟨rfl,rfl⟩
theorem dead_d (n0 b:Nat) (D:Dk) (w:World) (h:DiskAt n0 w b D):Ret Tryz.prog 84 #[.pointer (some ⟨b,0,none⟩)] w fun v w'=>v=.bool D.dead∧w'=w:=by
  obtain ⟨h1,h2,bp,vc,vk,tn,ct,h3,hb,h5,h6,h7⟩:=id h;refine ret_of_W Tryz.func84 rfl (Nat.le_of_ble_eq_true rfl) (res1 rfl) ?_;refine W.seq (W.region (L.val (x_as (v:=.bool _) rfl) rfl ?_));refine L.nil (thn_n (W.seq (W.region (L.val (x_mv (v:=.pointer _) rfl) rfl ?_))));refine L.ret (x_call kdsk1_en57 rfl) rfl (none_d n0 b D _ h) ?_;rintro _ w4 ⟨rfl,hq⟩;rw [hq];refine L.val (x_not rfl) rfl ?_;refine L.val (x_mv (v:=.bool _) rfl) rfl ?_;refine L.splitat (dj:=6) (b:=_) rfl (fun g6=>?_) (fun g6=>?_)
  ·have h6:=(not_t g6);refine L.gyes' (dj:=6) (b:=_) rfl rfl g6 ?_;refine L.val (x_mv (v:=.pointer _) rfl) rfl ?_;refine L.gyes' (dj:=6) (b:=_) rfl rfl g6 ?_;refine L.val (x_nil rfl) rfl ?_;refine L.gyes' (dj:=6) (b:=_) rfl rfl g6 ?_;refine L.val (x_fa kdsk1_fo90_5 rfl) rfl ?_;refine L.gyes' (dj:=6) (b:=_) rfl rfl g6 ?_;refine L.val (x_ld (v:=.bool _) kdsk1_oc4 rfl (hb.cell0 rfl)) rfl ?_;refine L.val (x_pick_t (v:=.bool _) (congrArg Value.bool g6) rfl) rfl ?_;refine L.val (x_as (v:=.bool _) rfl) rfl ?_;refine L.nil (thn_n (W.ret (fin_mk (.inr rfl) ?_)));exact ⟨rfl,rfl⟩
  ·have h6:=(not_f g6);cases g6
theorem ops_d (n0 b:Nat) (D:Dk) (w:World) (h:DiskAt n0 w b D):Ret Tryz.prog 26 #[.pointer (some ⟨b,0,none⟩)] w fun v w'=>v=.int .i64 (D.ops:Nat)∧w'=w:=by
  obtain ⟨h1,h2,bp,vc,vk,tn,ct,h3,hb,h5,h6,h7⟩:=id h;refine ret_of_W Tryz.func26 rfl (Nat.le_of_ble_eq_true rfl) (res1 rfl) ?_;refine W.seq (W.region (L.val (x_as (v:=.int _ _) rfl) rfl ?_));refine L.nil (thn_n (W.seq (W.seq (W.region (L.val (x_mv (v:=.pointer _) rfl) rfl ?_)))));refine L.ret (x_call kdsk1_en57 rfl) rfl (none_d n0 b D _ h) ?_;rintro _ w4 ⟨rfl,hq⟩;rw [hq];refine L.nil (thn_n (W.cond (b:=_) rfl (fun g4=>?_) (fun g4=>?_)))
  ·have h4:=g4;cases g4
  ·have h4:=g4;refine W.skip (thn_n (W.seq (W.region (L.val (x_mv (v:=.pointer _) rfl) rfl ?_))));refine L.val (x_nil rfl) rfl ?_;refine L.val (x_fa kdsk1_fo90_4 rfl) rfl ?_;refine L.val (x_ld (v:=.int _ _) kdsk1_oc3 rfl (hb.cell0 rfl)) rfl ?_;refine L.val (x_as (v:=.int _ _) rfl) rfl ?_;refine L.nil (thn_n (W.ret (fin_mk (.inr rfl) ?_)));exact ⟨rfl,rfl⟩
def readyD (D:Dk) (i:Int):Int:=if D.dead then 190 else if 0≤i∧i<(D.pl.length:Nat) then 0 else 191
theorem ready_d (n0 b:Nat) (D:Dk) (i:Int) (w:World) (h:DiskAt n0 w b D):Ret Tryz.prog 51 #[.pointer (some ⟨b,0,none⟩),.int .i64 i] w fun v w'=>v=.int .i64 (readyD D i)∧w'=w:=by
  obtain ⟨h1,h2,bp,vc,vk,tn,ct,h3,hb,h5,h6,h7⟩:=id h;unfold readyD;refine ret_of_W Tryz.func51 rfl (Nat.le_of_ble_eq_true rfl) (res1 rfl) ?_;refine W.seq (W.region (L.val (x_as (v:=.int _ _) rfl) rfl ?_));refine L.nil (thn_n (W.seq (W.block (W.seq (W.region (L.val (x_mv (v:=.pointer _) rfl) rfl ?_))))));refine L.ret (x_call kdsk1_en57 rfl) rfl (none_d n0 b D _ h) ?_;rintro _ w7 ⟨rfl,hq⟩;rw [hq];refine L.val (x_as (v:=.bool _) rfl) rfl ?_;refine L.nil (thn_n (W.cond (b:=_) rfl (fun g7=>?_) (fun g7=>?_)))
  ·have h7:=g7;cases g7
  ·have h7:=g7;refine W.seq (W.region (L.val (x_mv (v:=.pointer _) rfl) rfl ?_));refine L.val (x_nil rfl) rfl ?_;refine L.val (x_fa kdsk1_fo90_5 rfl) rfl ?_;refine L.val (x_ld (v:=.bool _) kdsk1_oc4 rfl (hb.cell0 rfl)) rfl ?_;refine L.val (x_as (v:=.bool _) rfl) rfl ?_;refine L.nil (thn_n (W.cond (b:=_) rfl (fun g12=>?_) (fun g12=>?_)))
   ·have h12:=g12;rw [if_pos g12];refine W.seq (W.region (L.val (x_as (v:=.int _ _) rfl) rfl ?_));refine L.nil (thn_n (W.ret (blk_r (thn_r (fin_mk (.inr rfl) ?_)))));exact ⟨rfl,rfl⟩
   ·have h12:=g12;rw [if_neg (by rw [g12];decide)];refine W.seq (W.region (L.val (x_mv (v:=.int _ _) rfl) rfl ?_));refine L.val (x_lss rfl rfl) rfl ?_;refine L.val (x_mv (v:=.bool _) rfl) rfl ?_;refine' L.group0 7 17 23 23 16 false rfl ?_ ?_ ?_;rotate_left 1
    ·intro g16;have h16:=dlt_f g16;refine L.gyes' (dj:=16) (b:=_) rfl rfl g16 ?_;refine L.val (x_mv (v:=.int _ _) rfl) rfl ?_;refine L.gyes' (dj:=16) (b:=_) rfl rfl g16 ?_;refine L.val (x_mv (v:=.pointer _) rfl) rfl ?_;refine L.gyes' (dj:=16) (b:=_) rfl rfl g16 ?_;refine L.val (x_nil rfl) rfl ?_;refine L.gyes' (dj:=16) (b:=_) rfl rfl g16 ?_;refine L.val (x_fa kdsk1_fo90_0 rfl) rfl ?_;refine L.gyes' (dj:=16) (b:=_) rfl rfl g16 ?_;refine L.val (x_ld (v:=.slice _ _ _) kdsk1_oc87 rfl (hb.cell0 rfl)) rfl ?_;refine L.gyes' (dj:=16) (b:=_) rfl rfl g16 ?_;refine L.val (x_len_slice Tryz.underlying87 rfl) rfl ?_;refine L.gyes' (dj:=16) (b:=_) rfl rfl g16 ?_;refine L.val (x_geq rfl rfl) rfl ?_;refine L.nil (thn_n ⟨rfl,rfl,?_,rfl⟩);repeat (first | exact jeq.refl _ _ _ | refine jeq.upd rfl ?_ | refine jeq.jk rfl rfl ?_)
    ·intro g16;(iterate 7 refine L.gno (dj:=16) (b:=_) rfl rfl g16 rfl ?_);refine L.nil (thn_n ⟨rfl,rfl,?_⟩);repeat (first | exact jeq.refl _ _ _ | refine jeq.upd rfl ?_ | refine jeq.jk rfl rfl ?_)
    intro J16 j16;refine L.val (x_or rfl j16) rfl ?_;refine L.val (x_as (v:=.bool _) rfl) rfl ?_;refine L.nil (thn_n (W.cond (b:=_) rfl (fun g24=>?_) (fun g24=>?_)))
    ·have h24:=g24;have hno:¬ (0≤i∧i<(D.pl.length:Nat)):=by simp only [Bool.or_eq_true,decide_eq_true_eq] at g24;omega
     rw [if_neg hno];refine W.seq (W.region (L.val (x_as (v:=.int _ _) rfl) rfl ?_));refine L.nil (thn_n (W.ret (blk_r (thn_r (fin_mk (.inr rfl) ?_)))));exact ⟨rfl,rfl⟩
    ·have h24:=g24;have hyes:0≤i∧i<(D.pl.length:Nat):=by simp only [Bool.or_eq_false_iff,decide_eq_false_iff_not] at g24;omega
     rw [if_pos hyes];refine W.skip (blk_n (thn_n (W.seq (W.region (L.val (x_as (v:=.int _ _) rfl) rfl ?_)))));refine L.nil (thn_n (W.ret (fin_mk (.inr rfl) ?_)));exact ⟨rfl,rfl⟩
end Go.Gx
namespace Go.Gx
open Go.Proofs
section
variable {P:Program} {n:Nat} {Q:Post} {D:List Deferred} {E:Env} {w:World}
theorem L.setPart {ops:Array Oper} {r:List Oper} {x y:Operand} {s t:TypeId} {p:String} {af:Array Edge} {b o k:Nat} {T:TypeId} {cs new:List Value} (hs:aggT P s k=true)
    (hx:ev E x=.pointer (some ⟨b,o,none⟩)) (hy:ev E y=.agg new.toArray) (hb:Box w b T cs) (hl:o+k≤cs.length) (hn:new.length=k) (h1:∀ v∈new,v.oneCell'=true)
    (kk:∀ w1,Box w1 b T (cs.take o++new++cs.drop (o+k))→Gr (· = b) w w1→w1.heap.size=w.heap.size→L P n ops Q r D E w1):L P n ops Q (⟨none,.store s x y,t,p,af,none⟩ :: r) D E w:=by
  unfold aggT at hs;simp only [Bool.and_eq_true,beq_iff_eq] at hs;have hst:=run_storeCells_at P b o T new 0 cs.toArray w hb (by simpa [hn] using hl) h1;have hrun:(storeVar s ⟨b,o,none⟩ (.agg new.toArray)).run P w=.ok () (w.setRow b (cs.take o++new++cs.drop (o+k)).toArray):=by
    cases hq:P.info? s with
    | none=>rw [hq] at hs;simp at hs
    | some i=>
      have hi:i.size=k:=by rw [hq] at hs;simpa using hs.2
      simp only [Nat.add_zero,hn] at hst;simp [storeVar,sizeOf,typeInfo,hq,Value.cells,hi,hn,hst]
  refine L.skip (w':=w.setRow b (cs.take o++new++cs.drop (o+k)).toArray) ?_ (kk _ (setRow_heap w b cs.toArray _ T (0,0) hb) ⟨rfl,rfl,rfl,by simp [World.setRow],fun k _ hk=>setRow_other w b k _ hk⟩ (by simp [World.setRow]));unfold Xs;simp only [execOp,hx,hy,Instr.storeAt,Instr.sureAddr,Sem.run_bind,Sem.run_pure,Result.andThen_ok,hrun]
end
end Go.Gx
namespace Go.Gx
open Go.Proofs
theorem madeCells_rep (sz c:Nat) (x:Value):madeCells (List.replicate sz x).toArray (c * sz)=(List.replicate (c * sz) x).toArray:=by
  apply Array.ext';simp only [madeCells];apply List.ext_getElem
  · simp
  · intro i h1 h2;have h3:i<c * sz:=by simpa using h2
    have hs:0<sz:=by rcases Nat.eq_zero_or_pos sz with h | h;(rw [h,Nat.mul_zero] at h3;omega);exact h
    simp [Nat.mod_lt i hs]
theorem L.mkZ {P:Program} {n:Nat} {Q:Post} {D:List Deferred} {E:Env} {w:World} {ops:Array Oper} {r:List Oper} {d:Nat} {x:Operand} {s e t:TypeId} {p:String} {af:Array Edge} {v:Value} {sz:Nat} (c:Nat) (hu:P.underlying s=some (.slice e)) (he:elT P e sz=true)
    (hz:((P.info? e).bind (·.zero)).map (fun z=>z.cells)=some (List.replicate sz v).toArray) (hx:ev E x=.int .i64 (c:Nat)) (hc:c≤400000000000) (hd:Nat.blt d n=true)
    (kk:∀ w1,Box w1 w.heap.size e (List.replicate (c * sz) v)→Bel w w1→w1.heap.size=w.heap.size+1→L P n ops Q r D (upd E d (.slice (some ⟨w.heap.size,0,none⟩) c c)) w1):
    L P n ops Q (⟨some d,.makeSlice s x x,t,p,af,none⟩ :: r) D E w:=by
  obtain ⟨inf,z,hinf,hz',hs,hzs,hpos,hby⟩:=elT_spec he;have hzc:z.cells=(List.replicate sz v).toArray:=by simpa [hinf,hz'] using hz
  have hrun:=run_make (P:=P) w s e inf z hu hinf hz' .i64 .i64 (c:Nat) (c:Nat) om_ om_ (by have:(inf.bytes:Int) * (c:Int)≤200 * (c:Int):=Int.mul_le_mul_of_nonneg_right om_ om_;omega) om_;have hmade:madeCells z.cells (((c:Nat):Int).toNat * inf.size)=(List.replicate (c * sz) v).toArray:=by
    rw [hs,hzc,Int.toNat_natCast,madeCells_rep]
  rw [hmade] at hrun;refine L.val (v:=.slice (some ⟨w.heap.size,0,none⟩) c c) (w':=w.alloc (.cells (List.replicate (c * sz) v).toArray e)) ?_ hd (kk _ (box_alloc _ _ _) (bel_alloc _ _) (by simp));unfold X;simp only [execOp,Sem.run_bind,hx,hrun];simp [Result.andThen]
def newD (n:Nat):Dk:=⟨List.replicate n (zeros 64),[],0,0,false⟩
theorem plV_new (n:Nat):plV (List.replicate n (zeros 64))=List.replicate (n * 64) (.int .u8 0):=by
  unfold plV;induction n with
  | zero=>rfl
  | succ n ih=>
    have:(zeros 64).map B8=List.replicate 64 (.int .u8 0):=by unfold zeros;rw [List.map_replicate];rfl
    rw [List.replicate_succ,List.map_cons,List.flatten_cons,ih,this,List.replicate_append_replicate,Nat.succ_mul,Nat.add_comm]
theorem newD_ok {n:Nat} (h:1≤n∧n≤4096):DkOk (newD n):=by
  refine ⟨by simp [newD];omega,by simp [newD];omega,fun s hs=>?_,fun x hx=>(by cases hx),by simp [newD]⟩;simp only [newD,List.mem_replicate] at hs;rw [hs.2,zeros_len]
theorem waV_len {x:Nat × Str} (h:x.2.length=64):(waV x).length=65:=by simp [waV,h]
theorem waV_one (x:Nat × Str):∀ v∈waV x,v.oneCell'=true:=fun v hv=>by
  rcases List.mem_cons.1 hv with rfl | hv
  · rfl
  · exact B8_one _ v hv
theorem fill0 {pl:List (Nat × Nat)} {zs:List Value} {z v:Value} (h:v.cells=#[v]):fillS ((0,1) :: pl) (z :: zs) [(0,v)]=some (v :: zs):=by simp [fillS,h]
theorem box_ne {w:World} {b c:Nat} {T U:TypeId} {cs ds:List Value} (h:Box w b T cs) (h2:Box w c U ds) (hne:Nat.beq T U=false):b≠c:=fun e=>by
  subst e;unfold Box at h h2;rw [h] at h2;simp only [Option.some.injEq,Obj.cells.injEq] at h2;rw [h2.2.1] at hne;simp at hne
def wrD (D:Dk) (i:Nat) (s:Str):Dk:={ D with ca:=D.ca++[(i,s)],ops:=D.ops+1 }
end Go.Gx
namespace Go.Gx
open Go.Proofs
def apD (pl:List Str) (l:List (Nat × Str)):List Str:=l.foldl (fun pl x=>pl.set x.1 x.2) pl
def flD (D:Dk):Dk:={ D with pl:=apD D.pl D.ca,ca:=[],ops:=D.ops+1 }
theorem apD_len (l:List (Nat × Str)):∀ pl:List Str,(apD pl l).length=pl.length:=by
  induction l with
  | nil=>intro pl;rfl
  | cons x l ih=>intro pl;exact (ih _).trans List.length_set
theorem apD_sec {l:List (Nat × Str)}:∀ {pl:List Str},(∀ s∈pl,s.length=64)→(∀ x∈l,x.2.length=64)→∀ s∈apD pl l,s.length=64:=by
  induction l with
  | nil=>intro pl h _;exact h
  | cons x l ih=>
    intro pl h hl;refine ih (pl:=pl.set x.1 x.2) (fun s hs=>?_) (fun y hy=>hl y (List.mem_cons_of_mem _ hy));rcases List.mem_or_eq_of_mem_set hs with hs | rfl
    · exact h s hs
    · exact hl x (by simp)
theorem apD_take {pl:List Str} {l:List (Nat × Str)} {j:Nat} (hj:j<l.length):apD pl (l.take (j+1))=(apD pl (l.take j)).set (l.getD j default).1 (l.getD j default).2:=by
  unfold apD;rw [take_snoc (d:=default) hj,List.foldl_append];rfl
theorem plV_lens {pl:List Str} (h:∀ s∈pl,s.length=64):∀ r∈pl.map (fun s=>s.map B8),r.length=64:=fun r hr=>by
  obtain ⟨s,hs,rfl⟩:=List.mem_map.1 hr;rw [List.length_map,h s hs]
theorem plV_len {pl:List Str} (h:∀ s∈pl,s.length=64):(plV pl).length=pl.length * 64:=by
  unfold plV;rw [flat_len (plV_lens h),List.length_map]
theorem plV_set {pl:List Str} {i:Nat} {s:Str} (h:∀ s∈pl,s.length=64) (hi:i<pl.length):(plV pl).take (0+i * 64)++s.map B8++(plV pl).drop (0+i * 64+64)=plV (pl.set i s):=by
  have h1:=flatk_take (plV_lens h) i;have h2:=flatk_take (plV_lens h) (i+1);unfold plV;rw [Nat.zero_add,show i * 64+64=(i+1) * 64 by omega,← h1.1,← h2.2,List.set_eq_take_append_cons_drop,if_pos hi,List.map_append,List.flatten_append,List.map_cons,List.flatten_cons,List.map_take,List.map_drop,List.append_assoc]
theorem rowcK {k:Nat} {rows:List (List Value)} {tl:List Value} {i j:Nat} {x:Value} (hk:∀ r∈rows,r.length=k) (hi:i<rows.length) (hj:j<k) (hx:(rows.getD i [])[j]? = some x):(rows.flatten++tl)[0+i * k+j]? = some x:=by
  have hf:=flatk hk hj hi;have hlt:i * k+j<rows.flatten.length:=by
    rw [flat_len hk];have h1:=Nat.mul_le_mul_right k (Nat.succ_le_of_lt hi);rw [Nat.succ_mul] at h1;omega
  rw [Nat.zero_add,List.getElem?_append_left hlt,hf,hx]
theorem own_rowK {w:World} {base b n c k i:Nat} {e:TypeId} {rows:List (List Value)} (h:Own w base e k (.slice (some ⟨b,0,none⟩) n c) n rows.flatten) (hk:∀ r∈rows,r.length=k) (hi:i<rows.length):∀ j,j<k→w.cell? ⟨b,0+i * k+j,none⟩=(rows.getD i [])[j]? := fun j hj=>by
  rcases Own.open h with ⟨e1,-⟩ | ⟨b',cap,tl,e1,-,-,-,hb⟩
  · cases e1
  · cases e1;have hr:(rows.getD i []).length=k:=hk _ (by rw [List.getD_eq_getElem?_getD,List.getElem?_eq_getElem hi];exact List.getElem_mem hi);rw [List.getElem?_eq_getElem om_];exact hb.cell (rowcK hk hi hj (List.getElem?_eq_getElem om_))
theorem ca_lens {l:List (Nat × Str)} (h:∀ x∈l,x.2.length=64):∀ r∈l.map waV,r.length=65:=fun r hr=>by
  obtain ⟨x,hx,rfl⟩:=List.mem_map.1 hr;exact waV_len (h x hx)
theorem ca_get {l:List (Nat × Str)} {j:Nat} (hj:j<l.length):(l.map waV).getD j []=waV (l.getD j default):=by
  rw [List.getD_eq_getElem?_getD,List.getD_eq_getElem?_getD,List.getElem?_map,List.getElem?_eq_getElem hj];rfl
end Go.Gx
