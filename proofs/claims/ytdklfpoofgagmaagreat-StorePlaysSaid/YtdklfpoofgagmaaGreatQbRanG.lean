/- Ranges over functions: what a round keeps is named by the caller. Conditions: none. -/
import Derived.Test.YtdklfpoofgagmaaGreatQbRowG
import Derived.Test.YtdklfpoofgagmaaGreatQbOct4
import Derived.Test.YtdklfpoofgagmaaGreatQbDrawD
namespace Go.Gx
variable {P:Program} {n m:Nat} {Q:Post} {D:List Deferred} {E:Env} {w:World} {F:Fence}
def rndK {α : Type} (B:Nat) (Kp:World→World→Prop) (I:List α → World→Prop) (Ix:Code→List α → World→Prop) (xs:List α) (W:World):Post:=fun e _ _ W'=>match e with
  | .normal=>KeepsFrom B W W'∧Kp W W'∧I xs W'
  | .ret=>KeepsFrom B W W'∧Ix .ret xs W'
  | .exit id=>KeepsFrom B W W'∧Ix (.exit id) xs W'
  | _=>False
theorem W.rangeFk {α : Type} (Kp:World→World→Prop) (hKt:∀ {A B C:World},Kp A B→Kp B C→Kp A C) {g:Operand} {ps:Array Tmp} {assign body:Code} {gf:Nat} {lb:Array Value} {encs:α → Array Value} {N:Nat} {So Sp:List α → Prop} {w0:World}
    (hg:ev E g=.func (.func gf) #[] lb) (eg:Go.Proofs.Enters P gf) (hseq:SeqStopsK Fence.wide 1 P gf lb encs Kp So Sp N w0) (hb0:RowKit.Below w0.heap.size w0 w) (hKb:∀ (W:World) (l:Nat) (o o':Obj),w.heap.size≤l→W.heap[l]? = some o→o.isCells=false→o.isWalk=false→Kp W (W.putObj l o'))
    (hps:∀ x,(encs x).size=ps.size) (hpn:ps.toList.all (fun p=>Nat.blt p n)=true)
    (I:List α → World→Prop) (Ix:Code→List α → World→Prop) (hI:OwnFrom w.heap.size I) (hIx:∀ c,OwnFrom w.heap.size (Ix c)) (h0:I [] w)
    (Ax:α → Env→World→Prop) (hAx:∀ x a',OwnFrom w.heap.size (fun (_:Unit) W=>Ax x a' W))
    (hassign:∀ (l:Nat) (pre:List α) (x:α) (W:World),I pre W→WI (Fence.wide.inRound l) 0 P n assign (fun e D' E' W'=>e=.normal∧D'=[]∧KeepsFrom w.heap.size W W'∧Kp W W'∧I pre W'∧Ax x E' W') [] (updN E (ps.toList.zip (encs x).toList)) W)
    (hbody:∀ (l:Nat) (pre:List α) (x:α) (E':Env) (W:World),I pre W→Ax x E' W→pre.length<N→WI (Fence.wide.inRound l) 0 P n body (rndK w.heap.size Kp I Ix (pre++[x]) W) [] E' W)
    (hdone:∀ (Db:Nat) (xs:List α) (w':World),w.heap.size≤Db→So xs→I xs w'→w'.heap[Db]? = some (.deferred (some []))→Q .normal ({ target:=.collected Db,args:=#[] } :: D) E w')
    (hstop:∀ (Db:Nat) (c:Code) (pre:List α) (w':World),w.heap.size≤Db→Sp pre→Ix c pre w'→w'.heap[Db]? = some (.deferred (some []))→W P n c Q ({ target:=.collected Db,args:=#[] } :: D) E w'):
    W P n (.rangeFunc g ps assign body) Q D E w:=by
  refine W.wide (m:=2) ?_;intro a ha;have h1:Fr [] n ({ tmps:=a.tmps,defers:=[] }:Act) E:=⟨rfl,ha.size,ha.get⟩;refine wpIn_rangeFunc_ownH rfl (by decide) (by rw [ha.eval];exact hg) trivial eg hseq hKt hKb hb0 hps I Ix hI hIx h0
    (fun x a' W=>∃ E',Fr [] n a' E'∧Ax x E' W) (fun x a' s X Y row hs hg hr=>?_) ?_ ?_ ?_ ?_
  · obtain ⟨E',h1,h2⟩:=hs;exact ⟨E',h1,hAx x E' () X Y row h2 hg hr⟩
  · intro l pre x W' K hi hK;have hz:(ps.zip (encs x)).foldl (fun t (p,v)=>t.setIfInBounds p v) a.tmps=(ps.toList.zip (encs x).toList).foldl (fun t x=>t.setIfInBounds x.1 x.2) a.tmps:=by
      rw [← Array.foldl_toList,Array.toList_zip]
    have hall:(ps.toList.zip (encs x).toList).all (fun x=>Nat.blt x.1 n)=true:=by
      rw [List.all_eq_true] at hpn ⊢;intro y hy;obtain ⟨p,v⟩:=y;exact hpn p (List.of_mem_zip hy).1
    have hfr:=fr_updN (tmps:=a.tmps) (l:=ps.toList.zip (encs x).toList) h1 hall;rw [hz];refine wpIn_mono (hassign l pre x W' hi _ hfr) ?_;rintro e a' w'' ⟨_,E',hE,rfl,hD,k1,k2,k3,k4⟩;rw [hD] at hE;exact hK a' w'' k1 k2 k3 ⟨E',hE,k4⟩
  · rintro l pre x a' W' _ _ hi ⟨E',hE,hA⟩ hlen;refine wpIn_mono (hbody l pre x E' W' hi hA hlen a' hE) ?_;rintro e a3 w3 ⟨h1,E3,hE3,hq⟩;cases e <;> simp only [rndK,ownPostG] at hq ⊢ <;> exact hq
  · intro Db xs w' hD hS hi hK;exact lift_mk (by simp) ⟨by rw [← ha.defers],ha.size,ha.get⟩ (hdone Db xs w' hD hS hi hK)
  · intro Db c pre w' hD hS hi hK;exact wpIn_wide.2 (hstop Db c pre w' hD hS hi hK _ ⟨by rw [← ha.defers],ha.size,ha.get⟩)
def KpG (R:Nat→Prop) (A B:World):Prop:=Gr R A B∧KeepsWalks A B
theorem KpG.trans {R:Nat→Prop} {A B C:World} (h:KpG R A B) (k:KpG R B C):KpG R A C:=⟨h.1.trans k.1,h.2.trans k.2⟩
theorem KpG.put {R:Nat→Prop} {w:World} (hR:∀ k,w.heap.size≤k→R k) (W:World) (l:Nat) (o o':Obj) (hl:w.heap.size≤l) (h:W.heap[l]? = some o) (_:o.isCells=false) (hw:o.isWalk=false):KpG R W (W.putObj l o'):=
  ⟨(gr_putObj W l o').mono (fun k _ e=>by have e:k=l:=e;rw [e];exact hR l hl),KeepsWalks.putObj _ h hw⟩
theorem kpg_of {R:Nat→Prop} {w':World} (B:Nat) (h:Gr R w w') (hc:∀ k o,R k→w.heap[k]? = some o→o.isCells=true):KeepsFrom B w w'∧KeepsWalks w w':=⟨(keeps_of_gr h hc).from B,(keeps_of_gr h hc).walks⟩
end Go.Gx
namespace Go.Gx
open Go.Proofs
theorem koct6_el9:elT Tryz.prog 9 1=true:=by kernel_rfl
theorem koct6_en117:Go.Proofs.Enters Tryz.prog 117:=Go.Proofs.enters_of Tryz.func117 kr_ rfl
theorem koct6_en133:Go.Proofs.Enters Tryz.prog 133:=Go.Proofs.enters_of Tryz.func133 kr_ rfl
theorem koct6_mixed:Tryz.prog.follows .mixedOrders=true:=by kernel_rfl
theorem koct6_oc22:oneCellT Tryz.prog 22=true:=by kernel_rfl
theorem koct6_oc3:oneCellT Tryz.prog 3=true:=by kernel_rfl
theorem koct6_sz22:(Tryz.prog.info? 22).map (·.size)=some 1:=by kernel_rfl
theorem koct6_sz3:(Tryz.prog.info? 3).map (·.size)=some 1:=by kernel_rfl
theorem koct6_zr22:(Tryz.prog.info? 22).bind (·.zero)=some (Value.slice none 0 0):=by kernel_rfl
theorem koct6_zr3:(Tryz.prog.info? 3).bind (·.zero)=some (Value.int .i64 0):=by kernel_rfl
theorem frames_ok (s:Str) (w:World):Ret Tryz.prog 117 #[S s] w fun r w'=>r=.func (.func 133) #[] #[.pointer (some ⟨w.heap.size,0,none⟩)]∧Box w' w.heap.size 9 [S s]∧Bel w w':=by
  refine ret_of_W Tryz.func117 rfl (Nat.le_of_ble_eq_true rfl) (res1 rfl) ?_;have hB:=Gr.refl (fun _=>False) w;refine W.seq (W.region (L.box (cs:=[S s]) rfl rfl (fun w1 bx1 hw hz1=>?_)));have hB:=hB.carry hw;refine L.val (x_as (v:=_) rfl) rfl ?_;refine L.nil (thn_n (W.seq (W.region (L.val (x_mkfn rfl rfl) rfl ?_))));refine L.val (x_as (v:=_) rfl) rfl ?_;refine L.nil (thn_n (W.ret (fin_mk (.inr rfl) ?_)));exact ⟨rfl,bx1,hB⟩
theorem frames_seq (R:Nat→Prop) (Bs:Nat) (s:Str) (hs:s.length≤1000000000) (w:World) (hR:¬ R Bs) (hBs:Bs<w.heap.size) (hc:w.cell? ⟨Bs,0,none⟩=some (S s)):
    SeqStopsK Fence.wide 1 Tryz.prog 133 #[.pointer (some ⟨Bs,0,none⟩)] encFr (KpG R) (fun xs=>xs=frames s) (fun _=>True) (frames s).length w:=by
  intro l J Jx w1 hW hJ _ hY h0;have hc1:=(hW.cell (p:=⟨Bs,0,none⟩) hBs).trans hc;rw [show (#[Value.func (.yield l) #[] #[]]++#[Value.pointer (some ⟨Bs,0,none⟩)]:Array Value)=#[.func (.yield l) #[] #[],.pointer (some ⟨Bs,0,none⟩)] from rfl];refine callsIn_wide.2 (Calls.mono (frames_seq_ok (KpG R) l Bs s hs (fun W W' h hv=>h.1.cell hv hR) J Jx hY (fun pre W W' h g=>hJ pre W W' none h ⟨g.os,g.tape,g.output,g.size,fun k hk _=>g.block k hk (fun f=>f)⟩ (fun r e=>by cases e)) w1 hc1 h0) ?_);rintro e w2 ⟨u,rfl,h⟩;exact ⟨⟨u,rfl⟩,h⟩
theorem takeF_body {s:Str} {k:Nat}:(takeF s k).1.length≤20000:=by
  unfold takeF;split
  · simp
  · split
    · simp
    · split
      · simp
      · split
        · simp
        · show (takeText s k).1.length≤_;omega
theorem scanF_body {s:Str}:∀ {f k:Nat} {x:Str × Nat},x∈scanF f s k→x.1.length≤20000
  | 0,_,_,h=>by cases h
  | f+1,k,x,h=>by
    rw [scanF] at h;split at h
    · cases h
    · rcases List.mem_cons.1 h with rfl | h
      · exact takeF_body
      · exact scanF_body h
def scanS (s:Str):List Str × Nat:=((frames s).map (·.1),((frames s).getLast?.map (·.2)).getD 0)
theorem scan_ok (s:Str) (hs:s.length≤1000000000) (w:World):Ret Tryz.prog 91 #[S s] w fun r w'=>(∃ u,r=.tuple #[u,.int .i64 ((scanS s).2:Nat)]∧StrsAt (fun k=>k<w.heap.size) w' u (scanS s).1∧∃ base,Own w' base 9 1 u (scanS s).1.length ((scanS s).1.map S))∧Bel w w':=by
  refine ret_of_W_marks Tryz.func91 rfl (Nat.le_of_ble_eq_true rfl) (res2 rfl) ?_;have hB:=Gr.refl (fun _=>False) w;refine W.seq (W.region (L.val (x_as (v:=.slice _ _ _) rfl) rfl ?_));refine L.val (x_as (v:=.int _ _) rfl) rfl ?_;refine L.nil (thn_n (W.seq (W.region (L.alloc (cs:=[Value.slice none 0 0]) koct6_zr22 rfl rfl (fun w4 bx4 hw hz4=>?_)))));have hB:=hB.carry hw;refine L.nil (thn_n (W.seq (W.region (L.alloc (cs:=[Value.int .i64 0]) koct6_zr3 rfl rfl (fun w5 bx5 hw hz5=>?_)))));have hB:=hB.carry hw;have bx4:=bx4.carry hw;refine L.set (v:=.int _ _) koct6_sz3 rfl rfl rfl bx5 rfl (fun wl5 bx5 hw hzl5=>?_);have hsz:=hB.size;have hB:=hB.set hw om_;have bx4:=bx4.carryR hw om_;refine L.nil (thn_n (W.seq (W.seq (W.region (L.val (x_mv (v:=S _) rfl) rfl ?_)))));refine L.ret (x_call koct6_en117 rfl) rfl (frames_ok s _) ?_;rintro _ w9 ⟨rfl,bx9,hw⟩;have hB:=hB.carry hw;have bx4:=bx4.carry hw;have bx5:=bx5.carry hw;have hsz:=hB.size;have z9:=hw.size;have hl9:=bx9.lt;have hl4:=bx4.lt;have hl5:=bx5.lt;refine L.nil (thn_n (W.block ?_));refine W.rangeFk (α := Str × Nat) (KpG (fun k=>w.heap.size≤k∧k≠wl5.heap.size)) (fun h k=>h.trans k) (w0:=w9) (N:=(frames s).length) rfl koct6_en133 (frames_seq _ _ s hs w9 (fun h=>h.2 rfl) hl9 (bx9.cell (i:=0) rfl)) (RowKit.Below.refl _ _) (KpG.put (fun k hk=>⟨by omega,by omega⟩)) (fun _=>rfl) rfl
    (fun pre W=>∃ v,Box W w.heap.size 22 [v]∧Own W (wl5.heap.size+1) 9 1 v pre.length (pre.map fun x=>S x.1)∧Box W w4.heap.size 3 [.int .i64 (((pre.getLast?.map (·.2)).getD 0:Nat):Int)]∧Bel w W∧w9.heap.size≤W.heap.size)
    (fun _ _ _=>False)
    ?_ (fun c pre X Y row h=>h.elim) ⟨_,bx4,own_nil,bx5,hB,Nat.le_refl _⟩
    (fun x E' W=>E' 4=.pointer (some ⟨w.heap.size,0,none⟩)∧E' 5=.pointer (some ⟨w4.heap.size,0,none⟩)∧E' 6=S x.1∧E' 7=.int .i64 (x.2:Nat))
    (fun x a' s X Y row h hg hr=>h)
    ?_ ?_ ?_ ?_
  · rintro pre X Y row ⟨v,a1,a2,a3,a4,a5⟩ hg hr;refine ⟨v,a1.from hg (fun r e=>(hr r e).2),a2.carryR (gr_of_grown hg) (fun j hj e=>?_),a3.from hg (fun r e=>(hr r e).2),a4.from hg (fun r e=>by have:=(hr r e).1;omega),Nat.le_trans a5 hg.size⟩;obtain ⟨_,o,ho,hn⟩:=hr _ e.symm;rw [Own.cells a2 hj ho] at hn;cases hn
  ·rintro l pre x W ⟨v,bx4,hO,bx5,hB,hle⟩;have hV:=Gr.refl (fun _=>False) W;refine WI.seq ?_;refine WI.reg rfl ?_;refine L.val (x_as (v:=S _) rfl) rfl ?_;refine L.nil (thn_n (WI.reg rfl ?_));refine L.val (x_as (v:=.int _ _) rfl) rfl ?_;refine L.nil ?_;have hk:=kpg_of w9.heap.size hV (fun _ _ f _=>f.elim);exact ⟨rfl,rfl,hk.1,⟨hV.mono (fun _ _ f=>f.elim),hk.2⟩,⟨v,bx4,hO,bx5,hB,hle⟩,rfl,rfl,rfl,rfl⟩
  ·rintro l pre x E W ⟨v,bx4,hO,bx5,hB,hle⟩ ⟨e4,e5,e6,e7⟩ hlen;rw [upd_self e4,upd_self e5,upd_self e6,upd_self e7];obtain ⟨av,cv,ev,-⟩:=own_shape hO;subst ev;have hflen:(frames s).length≤s.length:=by have:=scanF_len (f:=s.length+1) (s:=s) (k:=0) om_;unfold frames;omega
   have hq:∀ j,some j=(Value.slice av pre.length cv).ownBlock→wl5.heap.size+1≤j∧j<W.heap.size:=fun j hj=>Own.lt hO hj
   have hcO:∀ j,some j=(Value.slice av pre.length cv).ownBlock→∀ o,W.heap[j]? = some o→o.isCells=true:=fun j hj o ho=>Own.cells hO hj ho
   have hG:=Gr.refl (fun k=>k=w.heap.size∨k=w4.heap.size∨some k=(Value.slice av pre.length cv).ownBlock) W;have bxo4:=bx4;have bxo5:=bx5;have hsW:=hB.size;refine WI.block ?_;refine WI.reg rfl ?_;refine L.val (x_ld (v:=.slice _ _ _) koct6_oc22 rfl (bx4.cell (i:=0) rfl)) rfl ?_;refine L.val (x_mv (v:=S _) rfl) rfl ?_;refine L.bs (sz:=1) (cells:=[S x.1]) Tryz.underlying22 koct6_el9 rfl rfl rfl rfl (fun w14 bx14 hw hz14=>?_);have hB:=hB.carry hw;have bx4:=bx4.carry hw;have bx5:=bx5.carry hw;have hO:=hO.carry hw;have hG:=hG.carry hw;refine L.appendN (m:=1) Tryz.underlying22 koct6_el9 rfl rfl rfl hO rfl (holdsN_box bx14) (by simp [Value.oneCell',S]) om_ om_ (fun v15 w15 hO15 hg hob15=>?_);have hB:=hB.step hg (fun i hi e=>by have:=hq i e;omega);have bx4:=bx4.carryR hg (fun e=>by have:=hq _ e;omega);have bx5:=bx5.carryR hg (fun e=>by have:=hq _ e;omega);have hG:=hG.trans (hg.mono (fun k _ e=>.inr (.inr e)));have hq15:∀ j,some j=v15.ownBlock→wl5.heap.size+1≤j:=fun j hj=>by
     rcases hob15 with e | e
     · rw [e] at hj;exact (hq j hj).1
     · rw [e] at hj;cases hj;omega
   obtain ⟨a15,c15,e15,-⟩:=own_shape hO15;subst e15;refine L.val (x_mv (v:=.int _ _) rfl) rfl ?_;refine L.set (v:=.slice _ _ _) koct6_sz22 rfl rfl rfl bx4 rfl (fun wl15 bx4 hw hzl15=>?_);have hsz:=hB.size;have hB:=hB.set hw om_;have bx5:=bx5.carryR hw om_;have hG:=hG.trans (hw.mono (fun k _ e=>by first | exact .inl e | exact .inr (.inl e)));have hO15:=Own.carryR hO15 hw (fun j hj e=>by have e:j=w.heap.size:=e;have:=hq15 j hj;omega);refine L.set (v:=.int _ _) koct6_sz3 rfl rfl rfl bx5 rfl (fun wl16 bx5 hw hzl16=>?_);have hsz:=hB.size;have hB:=hB.set hw om_;have bx4:=bx4.carryR hw om_;have hG:=hG.trans (hw.mono (fun k _ e=>by first | exact .inl e | exact .inr (.inl e)));have hO15:=Own.carryR hO15 hw (fun j hj e=>by have e:j=w4.heap.size:=e;have:=hq15 j hj;omega);refine L.nil (blk_n ?_);have hk:=kpg_of w9.heap.size hG (fun k o e ho=>by
     rcases e with rfl | rfl | e
     · exact bxo4.cells ho
     · exact bxo5.cells ho
     · exact hcO k e o ho)
   refine ⟨hk.1,⟨hG.mono (fun k _ e=>?_),hk.2⟩,_,bx4,?_,?_,hB,?_⟩
   · rcases e with rfl | rfl | e
     · exact ⟨by omega,by omega⟩
     · exact ⟨by omega,by omega⟩
     · have:=hq k e;exact ⟨by omega,by omega⟩
   · have e1:(pre++[x]).length=pre.length+1:=by simp
     rw [e1,List.map_append];exact hO15
   · rw [List.getLast?_concat];exact bx5
   · have:=hG.size;omega
  rotate_left 1
  ·rintro Db c pre Wd hD hpk h;exact h.elim
  rintro Db xs w8 hD rfl ⟨v,bx4,hO,bx5,hB,hle⟩ hK;obtain ⟨av,cv,ev,-⟩:=own_shape hO;subst ev;refine blk_n (thn_n (W.seq (W.drawB koct6_mixed kr_ ?_)));refine LQ.val (fun w hw=>x_ld (v:=.slice _ _ _) koct6_oc22 rfl (hw.keep (bx4.cell (i:=0) rfl))) rfl ?_;refine LQ.val (fun w hw=>x_ld (v:=.int _ _) koct6_oc3 rfl (hw.keep (bx5.cell (i:=0) rfl))) rfl ?_;refine LQ.val (fun w hw=>x_as (v:=.slice _ _ _) rfl) rfl ?_;refine LQ.val (fun w hw=>x_as (v:=.int _ _) rfl) rfl ?_;refine LQ.nil ?_;intro w17 hw;have hB:=hB.carry hw;have bx4:=bx4.carry hw;have bx5:=bx5.carry hw;have hO:=hO.carry hw;refine thn_n (W.ret (finM_mk (.inr rfl) ?_));have hK:=defk hw hK (fun f=>f);have hlD:Db<w.heap.size→False:=fun h=>by omega
  refine ⟨Db,rfl,hK,⟨_,rfl,?_⟩,hB.set (gr_putObj _ _ _) om_⟩;have hO:=Own.carryR hO (gr_putObj _ Db (.deferred none)) (fun j hj e=>by have e:j=Db:=e;subst e;have:=Own.cells hO hj hK;cases this);have e1:(frames s).map (fun x=>S x.1)=(scanS s).1.map S:=by unfold scanS;rw [List.map_map];rfl
  rw [e1] at hO;have e2:(frames s).length=(scanS s).1.length:=by unfold scanS;simp
  rw [e2] at hO ⊢;have hfl:(frames s).length≤s.length:=by have:=scanF_len (f:=s.length+1) (s:=s) (k:=0) om_;unfold frames;omega
  exact ⟨strs_done hO (by rw [← e2];omega) (fun x hx=>by
    obtain ⟨y,hy,rfl⟩:=List.mem_map.1 hx;have:=scanF_body hy;omega) (fun j hj=>by omega),_,hO⟩
end Go.Gx
namespace Go.Gx
open Go.Proofs
theorem kwal1_el5:elT Tryz.prog 5 1=true:=by kernel_rfl
theorem kwal1_oc5:oneCellT Tryz.prog 5=true:=by kernel_rfl
theorem kwal1_sz5:(Tryz.prog.info? 5).map (·.size)=some 1:=by kernel_rfl
theorem wnumber_ok (n k:Nat) (hn:n<18446744073709551616) (hk:1≤k∧k≤8) (w:World):Ret Tryz.prog 126 #[.int .u64 (n:Nat),.int .i64 (k:Nat)] w fun v w'=>v=S (beN k n)∧Bel w w':=by
  refine ret_of_W Tryz.func126 rfl (Nat.le_of_ble_eq_true rfl) (res1 rfl) ?_;have hB:=Gr.refl (fun _=>False) w;refine W.seq (W.region (L.val (x_as (v:=S _) rfl) rfl ?_));refine L.nil (thn_n (W.seq (W.region (L.val (x_mv (v:=.int _ _) rfl) rfl ?_))));refine L.mk1 (z:=.int .u8 0) k Tryz.underlying59 kwal1_el5 kr_ rfl rfl rfl om_ rfl (fun w8 bx8 hw hz8=>?_);have hB:=hB.carry hw;refine L.val (x_as (v:=.slice _ _ _) rfl) rfl ?_;refine L.nil (thn_n (W.seq (W.seq (W.region (L.val (x_mv (v:=.slice _ _ _) rfl) rfl ?_)))));refine L.val (x_len_slice Tryz.underlying59 rfl) rfl ?_;refine L.val (x_mv (v:=.int _ _) rfl) rfl ?_;refine L.nil (thn_n (W.block (W.loop (fun m' E w'=>∃ (j:Nat),m'=k - j∧E 0=.int .u64 (n:Nat)∧E 1=.int .i64 (k:Nat)∧E 5=.slice (some ⟨w.heap.size,0,none⟩) k k∧E 10=.int .i64 (k:Nat)∧E 11=.int .i64 (j:Nat)∧(j≤k)∧(Bel w w')∧(Box w' w.heap.size 5 (((beN k n).take j).map B8++List.replicate (k - j) (.int .u8 0)))) (k) ?_ ?_)))
  ·exact ⟨0,by omega,vi_,vi_,vi_,vi_,vi_,ao_,ao_,(by simpa using bx8)⟩
  ·rintro _ E wL12 ⟨j,em,e0,e1,e5,e10,e11,hj,hB,bx⟩;rw [upd_self e0,upd_self e1,upd_self e5,upd_self e10,upd_self e11];refine W.seq (W.region (L.val (x_lss rfl rfl) rfl ?_));refine L.nil (thn_n (W.seq (W.cond (b:=_) rfl (fun g12=>?_) (fun g12=>?_))))
   ·have h12:=of_decide_eq_true g12;have hlt:j<k:=by omega
    have eS:(8 * ((k:Int) - 1 - (j:Nat))).toNat=8 * (k - 1 - j):=by omega
    have hsk:=hB.size;refine W.skip (thn_n (W.seq (W.block (W.seq (W.region (L.val (x_mv (v:=.int _ _) rfl) rfl ?_))))));refine L.val (x_as (v:=.int _ _) rfl) rfl ?_;refine L.nil (thn_n (W.region (L.val (x_mv (v:=.slice _ _ _) rfl) rfl ?_)));(iterate 3 refine L.val (x_mv (v:=.int _ _) rfl) rfl ?_);refine L.val (x_sub rfl rfl (wr64 om_)) rfl ?_;refine L.val (x_mv (v:=.int _ _) rfl) rfl ?_;refine L.val (x_sub rfl rfl (wr64 om_)) rfl ?_;refine L.val (x_mul rfl rfl (wr64 om_)) rfl ?_;refine L.val (x_conv (k':=.u64) (by rw [Tryz.underlying3];rfl) Tryz.underlying186 rfl (wru64 om_)) rfl ?_;refine L.val (x_shr rfl rfl om_ (by show _≤((64:Nat):Int);omega)) rfl ?_;refine L.val (x_convB (by rw [Tryz.underlying80];rfl) Tryz.underlying5 rfl) rfl ?_;refine L.val (x_ia1 (j:=j) Tryz.underlying59 kwal1_sz5 rfl rfl om_ om_) rfl ?_;refine L.set (v:=B8 (lowB ((n:Int) / 2 ^ (8 * ((k:Int) - 1 - (j:Nat))).toNat))) (i:=0+j) kwal1_sz5 rfl rfl rfl bx (by rw [Nat.blt_eq];simp [beN_len];omega) (fun wl23 bxN hw hzl23=>?_);have hB:=hB.set hw om_;have bx2:Box wl23 w.heap.size 5 (((beN k n).take (j+1)).map B8++List.replicate (k - (j+1)) (.int .u8 0)):=by
      have e1:(((beN k n).take j).map B8++List.replicate (k - j) (Value.int .u8 0)).set (0+j) (B8 (lowB ((n:Int) / 2 ^ (8 * ((k:Int) - 1 - (j:Nat))).toNat)))=((beN k n).take (j+1)).map B8++List.replicate (k - (j+1)) (.int .u8 0):=by
        rw [beN_take hlt,← eS,Nat.zero_add,show k - j=k - (j+1)+1 by omega,List.replicate_succ,List.set_append,if_neg (by simp [beN_len];omega)];have:j - (((beN k n).take j).map B8).length=0:=by simp [beN_len];omega
        rw [this,List.set_cons_zero,List.map_append,List.append_assoc];rfl
      rw [← e1];exact bxN
    refine L.nil (blk_n (thn_n (W.region (L.val (x_add rfl rfl (wr64 om_)) rfl ?_))));refine L.val (x_mv (v:=.int _ _) rfl) rfl ?_;refine L.nil (thn_n ⟨rfl,?_⟩);refine ⟨_,?_,j+1,rfl,vi_,vi_,vi_,vi_,vi_,ao_,ao_,(by exact bx2)⟩;omega
   ·have h12:=dlt_f g12;have hjk:j=k:=by omega
    subst hjk;rw [Nat.sub_self,List.replicate_zero,List.append_nil,List.take_of_length_le (by rw [beN_len];exact Nat.le_refl _)] at bx;refine W.exit (thn_x (thn_x (blk_hit ?_)));refine thn_n (W.seq (W.region (L.val (x_mv (v:=.slice _ _ _) rfl) rfl ?_)));refine L.val (x_b2s (l:=beN j n) Tryz.underlying59 Tryz.underlying5 Tryz.underlying9 rfl (by rw [beN_len]) (fun i hi=>bx.row (k:=j) (by simp [beN_len]) i (by rwa [beN_len] at hi))) rfl ?_;refine L.val (x_as (v:=S _) rfl) rfl ?_;refine L.nil (thn_n (W.ret (fin_mk (.inr rfl) ?_)));exact ⟨rfl,hB⟩
theorem beV_take {s:Str} {j:Nat} (hj:j<s.length):beV (s.take (j+1))=beV (s.take j) * 256+(s.getD j 0).toNat:=by
  rw [take_snoc (d:=0) hj,beV_snoc]
theorem wvalue_ok (s:Str) (hs:s.length≤8) (w:World):Ret Tryz.prog 113 #[S s] w fun v w'=>v=.int .u64 (beV s:Nat)∧w'=w:=by
  refine ret_of_W Tryz.func113 rfl (Nat.le_of_ble_eq_true rfl) (res1 rfl) ?_;refine W.seq (W.region (L.val (x_as (v:=.int _ _) rfl) rfl ?_));refine L.nil (thn_n (W.seq (W.region (L.val (x_as (v:=.int _ _) rfl) rfl ?_))));refine L.nil (thn_n (W.seq (W.seq (W.region (L.val (x_mv (v:=S _) rfl) rfl ?_)))));refine L.val (x_len_str Tryz.underlying9 rfl) rfl ?_;refine L.val (x_mv (v:=.int _ _) rfl) rfl ?_;refine L.nil (thn_n (W.block (W.loop (fun m' E w'=>∃ (j:Nat),m'=s.length - j∧E 0=S s∧E 3=.int .u64 (beV (s.take j):Nat)∧E 6=.int .i64 (s.length:Nat)∧E 7=.int .i64 (j:Nat)∧(j≤s.length)∧(w'=w)) (s.length) ?_ ?_)))
  ·exact ⟨0,by omega,by first | rfl | exact vi om_ | exact vs (by first | assumption | (rw [hst];done) | (rw [hst];simp only [List.append_assoc])),by first | rfl | exact vi om_ | exact vs (by first | assumption | (rw [hst];done) | (rw [hst];simp only [List.append_assoc])),by first | rfl | exact vi om_ | exact vs (by first | assumption | (rw [hst];done) | (rw [hst];simp only [List.append_assoc])),by first | rfl | exact vi om_ | exact vs (by first | assumption | (rw [hst];done) | (rw [hst];simp only [List.append_assoc])),ao_,ao_⟩
  ·rintro _ E wL8 ⟨j,em,e0,e3,e6,e7,hj,hw0⟩;rw [upd_self e0,upd_self e3,upd_self e6,upd_self e7];refine W.seq (W.region (L.val (x_lss rfl rfl) rfl ?_));refine L.nil (thn_n (W.seq (W.cond (b:=_) rfl (fun g8=>?_) (fun g8=>?_))))
   ·have h8:=of_decide_eq_true g8;have hlt:j<s.length:=by omega
    have hb8:=b8_lt (s.getD j 0);have hst:=beV_take hlt;have hn7:beV (s.take j)<72057594037927936:=by
      have h1:beV (s.take j)<256 ^ 7:=Nat.lt_of_lt_of_le (beV_lt _) (Nat.pow_le_pow_right om_ (by rw [List.length_take];omega));have h3:(256:Nat) ^ 7=72057594037927936:=by decide
      rw [h3] at h1;exact h1
    refine W.skip (thn_n (W.seq (W.block (W.seq (W.region (L.val (x_mv (v:=.int _ _) rfl) rfl ?_))))));refine L.val (x_as (v:=.int _ _) rfl) rfl ?_;refine L.nil (thn_n (W.region (L.val (x_mv (v:=.int _ _) rfl) rfl ?_)));refine L.val (x_shl8 rfl rfl hn7) rfl ?_;refine L.val (x_mv (v:=S _) rfl) rfl ?_;refine L.val (x_mv (v:=.int _ _) rfl) rfl ?_;refine L.val (x_ixs (j:=j) Tryz.underlying9 rfl rfl om_ om_) rfl ?_;refine L.val (x_conv (k':=.u64) (by rw [Tryz.underlying5];rfl) Tryz.underlying80 rfl (wru64 om_)) rfl ?_;refine L.val (x_orB (n:=beV (s.take j)) (b:=(s.getD j 0).toNat) rfl rfl hn7 om_) rfl ?_;rw [← hst];refine L.val (x_as (v:=.int _ _) rfl) rfl ?_;refine L.nil (blk_n (thn_n (W.region (L.val (x_add rfl rfl (wr64 om_)) rfl ?_))));refine L.val (x_mv (v:=.int _ _) rfl) rfl ?_;refine L.nil (thn_n ⟨rfl,?_⟩);refine ⟨_,?_,j+1,rfl,by first | rfl | exact vi om_ | exact vs (by first | assumption | (rw [hst];done) | (rw [hst];simp only [List.append_assoc])),by first | rfl | exact vi om_ | exact vs (by first | assumption | (rw [hst];done) | (rw [hst];simp only [List.append_assoc])),by first | rfl | exact vi om_ | exact vs (by first | assumption | (rw [hst];done) | (rw [hst];simp only [List.append_assoc])),by first | rfl | exact vi om_ | exact vs (by first | assumption | (rw [hst];done) | (rw [hst];simp only [List.append_assoc])),ao_,ao_⟩;omega
   ·have h8:=dlt_f g8;refine W.exit (thn_x (thn_x (blk_hit ?_)));refine thn_n (W.seq (W.region (L.val (x_mv (v:=.int _ _) rfl) rfl ?_)));refine L.val (x_as (v:=.int _ _) rfl) rfl ?_;refine L.nil (thn_n (W.ret (fin_mk (.inr rfl) ?_)));have:j=s.length:=by omega
    subst this;rw [List.take_length];exact ⟨rfl,hw0⟩
def turnB (b:UInt8):UInt8:=UInt8.ofNat (255 - b.toNat)
theorem turn_bits:∀ b:Fin 256,bits .xor .u8 IntKind.u8.max (b.val:Int)=((255 - b.val:Nat):Int):=by decide +kernel
theorem turn_val (b:UInt8):Value.int .u8 (bits .xor .u8 IntKind.u8.max (b.toNat:Nat))=B8 (turnB b):=by
  have hb:=b.toNat_lt;have h:=turn_bits ⟨b.toNat,hb⟩;unfold B8 turnB;rw [show (bits .xor .u8 IntKind.u8.max ((b.toNat:Nat):Int))=((255 - b.toNat:Nat):Int) from h,UInt8.toNat_ofNat'];congr 2;exact (Nat.mod_eq_of_lt om_).symm
def turnS (s:Str):Str:=s.map turnB
theorem turned_ok (s:Str) (h1:1≤s.length) (hs:s.length≤1000) (w:World):Ret Tryz.prog 114 #[S s] w fun v w'=>v=S (turnS s)∧Bel w w':=by
  refine ret_of_W Tryz.func114 rfl (Nat.le_of_ble_eq_true rfl) (res1 rfl) ?_;have hB:=Gr.refl (fun _=>False) w;refine W.seq (W.region (L.val (x_as (v:=S _) rfl) rfl ?_));refine L.nil (thn_n (W.seq (W.region (L.val (x_mv (v:=S _) rfl) rfl ?_))));refine L.s2b Tryz.underlying9 Tryz.underlying59 Tryz.underlying5 rfl rfl (fun w6 cap tl bx6 hw hz6 hcap=>?_);have hB:=hB.carry hw;refine L.val (x_as (v:=.slice _ _ _) rfl) rfl ?_;refine L.nil (thn_n (W.seq (W.seq (W.region (L.val (x_mv (v:=.slice _ _ _) rfl) rfl ?_)))));refine L.val (x_len_slice Tryz.underlying59 rfl) rfl ?_;refine L.val (x_mv (v:=.int _ _) rfl) rfl ?_;refine L.nil (thn_n (W.block (W.loop (fun m' E w'=>∃ (j:Nat),m'=s.length - j∧E 3=.slice (some ⟨w.heap.size,0,none⟩) s.length cap∧E 8=.int .i64 (s.length:Nat)∧E 9=.int .i64 (j:Nat)∧(j≤s.length)∧(Bel w w')∧(BoxM w' w.heap.size 5 ((turnS (s.take j)++s.drop j).map B8++tl))) (s.length) ?_ ?_)))
  ·exact ⟨0,by omega,vi_,vi_,vi_,ao_,ao_,(by simpa [turnS] using bx6)⟩
  ·rintro _ E wL10 ⟨j,em,e3,e8,e9,hj,hB,bx⟩;rw [upd_self e3,upd_self e8,upd_self e9];refine W.seq (W.region (L.val (x_lss rfl rfl) rfl ?_));refine L.nil (thn_n (W.seq (W.cond (b:=_) rfl (fun g10=>?_) (fun g10=>?_))))
   ·have h10:=of_decide_eq_true g10;have hlt:j<s.length:=by omega
    have hsk:=hB.size;have hlen:(turnS (s.take j)).length=j:=by simp [turnS];omega
    have hget:((turnS (s.take j)++s.drop j).map B8++tl)[j]? = some (B8 (s.getD j 0)):=by
      rw [List.getElem?_append_left (by simp [hlen];omega),List.getElem?_map,List.getElem?_append_right om_,hlen,Nat.sub_self,List.getElem?_drop,Nat.add_zero,List.getElem?_eq_getElem hlt,List.getD_eq_getElem?_getD,List.getElem?_eq_getElem hlt];rfl
    refine W.skip (thn_n (W.seq (W.block (W.seq (W.region (L.val (x_mv (v:=.int _ _) rfl) rfl ?_))))));refine L.val (x_as (v:=.int _ _) rfl) rfl ?_;refine L.nil (thn_n (W.region (L.val (x_mv (v:=.slice _ _ _) rfl) rfl ?_)));refine L.val (x_mv (v:=.int _ _) rfl) rfl ?_;refine L.val (x_mv (v:=.slice _ _ _) rfl) rfl ?_;refine L.val (x_mv (v:=.int _ _) rfl) rfl ?_;refine L.val (x_ia1 (j:=j) Tryz.underlying59 kwal1_sz5 rfl rfl om_ om_) rfl ?_;refine L.val (x_ld (v:=.int _ _) kwal1_oc5 rfl (bx.cell0 hget)) rfl ?_;refine L.val (x_cpl rfl rfl) rfl ?_;refine L.val (x_ia1 (j:=j) Tryz.underlying59 kwal1_sz5 rfl rfl om_ om_) rfl ?_;refine L.setM (v:=B8 (turnB (s.getD j 0))) (i:=0+j) kwal1_sz5 rfl (turn_val _) rfl bx (by simp [hlen];omega) (fun wl19 bxN hw hzl19=>?_);have hB:=hB.set hw om_;have bx2:BoxM wl19 w.heap.size 5 ((turnS (s.take (j+1))++s.drop (j+1)).map B8++tl):=by
      have e1:((turnS (s.take j)++s.drop j).map B8++tl).set (0+j) (B8 (turnB (s.getD j 0)))=(turnS (s.take (j+1))++s.drop (j+1)).map B8++tl:=by
        rw [Nat.zero_add,List.set_append,if_pos (by simp [hlen];omega),← List.map_set,List.set_append,if_neg om_,hlen,Nat.sub_self,drop_cons hlt,List.set_cons_zero,take_snoc (d:=0) hlt];simp [turnS]
      rw [← e1];exact bxN
    refine L.nil (blk_n (thn_n (W.region (L.val (x_add rfl rfl (wr64 om_)) rfl ?_))));refine L.val (x_mv (v:=.int _ _) rfl) rfl ?_;refine L.nil (thn_n ⟨rfl,?_⟩);refine ⟨_,?_,j+1,rfl,vi_,vi_,vi_,ao_,ao_,(by exact bx2)⟩;omega
   ·have h10:=dlt_f g10;have hjk:j=s.length:=by omega
    subst hjk;rw [List.take_length,List.drop_length,List.append_nil] at bx;refine W.exit (thn_x (thn_x (blk_hit ?_)));refine thn_n (W.seq (W.region (L.val (x_mv (v:=.slice _ _ _) rfl) rfl ?_)));refine L.val (x_b2s (l:=turnS s) Tryz.underlying59 Tryz.underlying5 Tryz.underlying9 rfl (by simp [turnS]) (fun i hi=>by rw [List.getElem?_eq_getElem (by simpa using hi)];exact bx.cell0 (by rw [List.getElem?_append_left (by simpa using hi),List.getElem?_eq_getElem (by simpa using hi)]))) rfl ?_;refine L.val (x_as (v:=S _) rfl) rfl ?_;refine L.nil (thn_n (W.ret (fin_mk (.inr rfl) ?_)));exact ⟨rfl,hB⟩
end Go.Gx
namespace Go.Gx
open Go.Proofs
theorem kwal2_en114:Go.Proofs.Enters Tryz.prog 114:=Go.Proofs.enters_of Tryz.func114 kr_ rfl
theorem kwal2_en126:Go.Proofs.Enters Tryz.prog 126:=Go.Proofs.enters_of Tryz.func126 kr_ rfl
theorem kwal2_en87:Go.Proofs.Enters Tryz.prog 87:=Go.Proofs.enters_of Tryz.func87 kr_ rfl
theorem kwal2_fo132_0:fieldOff Tryz.prog 132 0=some 0:=by kernel_rfl
theorem kwal2_fo132_1:fieldOff Tryz.prog 132 1=some 1:=by kernel_rfl
theorem kwal2_fo132_2:fieldOff Tryz.prog 132 2=some 2:=by kernel_rfl
theorem kwal2_fo132_3:fieldOff Tryz.prog 132 3=some 3:=by kernel_rfl
theorem kwal2_mixed:Tryz.prog.follows .mixedOrders=true:=by kernel_rfl
theorem kwal2_oc3:oneCellT Tryz.prog 3=true:=by kernel_rfl
theorem kwal2_oc80:oneCellT Tryz.prog 80=true:=by kernel_rfl
structure Pt where
  ep:Nat
  half:Nat
  tail:Nat
  cnt:Nat
deriving DecidableEq
def ptV (p:Pt):List Value:=[.int .u64 (p.ep:Nat),.int .i64 (p.half:Nat),.int .i64 (p.tail:Nat),.int .i64 (p.cnt:Nat)]
theorem ptV_one (p:Pt):∀ v∈ptV p,v.oneCell'=true:=fun v hv=>by
  simp only [ptV,List.mem_cons,List.not_mem_nil,or_false] at hv;rcases hv with rfl | rfl | rfl | rfl <;> rfl
def PtOk (p:Pt):Prop:=p.ep<18446744073709551616∧p.half<4294967296∧p.tail<4294967296∧p.cnt<4294967296
def ptS (p:Pt):Str:=beN 8 p.ep++beN 1 p.half++beN 4 p.tail++beN 4 p.cnt
def hdrS (p:Pt):Str:=ptS p++turnS (ptS p)++zeros 30
theorem ptS_len (p:Pt):(ptS p).length=17:=by simp [ptS,beN_len]
theorem header_ok (p:Pt) (hp:PtOk p) (w:World):Ret Tryz.prog 109 #[.agg (ptV p).toArray] w fun v w'=>v=S (hdrS p)∧Bel w w':=by
  obtain ⟨h1,h2,h3,h4⟩:=hp;have hl:=ptS_len p;refine ret_of_W Tryz.func109 rfl (Nat.le_of_ble_eq_true rfl) (res1 rfl) ?_;have hB:=Gr.refl (fun _=>False) w;refine W.seq (W.region (L.box (cs:=ptV p) rfl rfl (fun w1 bx1 hw hz1=>?_)));have hB:=hB.carry hw;refine L.val (x_as (v:=S _) rfl) rfl ?_;refine L.nil (thn_n (W.cut (fun D' E' w'=>D'=[]∧E' 3=S (ptS p)∧Bel w w') ?_ ?_))
  ·refine W.drawF 19 kwal2_mixed (fun wF4 hB0=>?_);refine LAC.takeN (i:=0) rfl kr_ kr_ kr_ kr_ (fun w hw=>x_fa kwal2_fo132_0 rfl) rfl ?_;refine LAC.takeN (i:=1) rfl kr_ kr_ kr_ kr_ (fun w hw=>x_ld (v:=.int _ _) kwal2_oc80 rfl (hw.keep (bx1.cell0 rfl))) rfl ?_;refine LAC.takeN (i:=3) rfl kr_ kr_ kr_ kr_ (fun w hw=>x_fa kwal2_fo132_1 rfl) rfl ?_;refine LAC.takeN (i:=4) rfl kr_ kr_ kr_ kr_ (fun w hw=>x_ld (v:=.int _ _) kwal2_oc3 rfl (hw.keep (bx1.cell0 rfl))) rfl ?_;refine LAC.takeN (i:=5) rfl kr_ kr_ kr_ kr_ (fun w hw=>x_conv (k':=.u64) (by rw [Tryz.underlying3];rfl) Tryz.underlying80 rfl (wru64 om_)) rfl ?_;refine LAC.takeN (i:=8) rfl kr_ kr_ kr_ kr_ (fun w hw=>x_fa kwal2_fo132_2 rfl) rfl ?_;refine LAC.takeN (i:=9) rfl kr_ kr_ kr_ kr_ (fun w hw=>x_ld (v:=.int _ _) kwal2_oc3 rfl (hw.keep (bx1.cell0 rfl))) rfl ?_;refine LAC.takeN (i:=10) rfl kr_ kr_ kr_ kr_ (fun w hw=>x_conv (k':=.u64) (by rw [Tryz.underlying3];rfl) Tryz.underlying80 rfl (wru64 om_)) rfl ?_;refine LAC.takeN (i:=13) rfl kr_ kr_ kr_ kr_ (fun w hw=>x_fa kwal2_fo132_3 rfl) rfl ?_;refine LAC.takeN (i:=14) rfl kr_ kr_ kr_ kr_ (fun w hw=>x_ld (v:=.int _ _) kwal2_oc3 rfl (hw.keep (bx1.cell0 rfl))) rfl ?_;refine LAC.takeN (i:=15) rfl kr_ kr_ kr_ kr_ (fun w hw=>x_conv (k':=.u64) (by rw [Tryz.underlying3];rfl) Tryz.underlying80 rfl (wru64 om_)) rfl ?_;refine LAC.step (rs:=[2]) (fun _=>hB0) kr_ (by simp) ⟨⟨_,rfl,?_⟩,trivial⟩;refine L.ret (x_call kwal2_en126 rfl) rfl (wnumber_ok p.ep 8 h1 om_ _) ?_;rintro _ w6 ⟨rfl,hw⟩;have hB0:=hB0.carry hw;refine L.nil (thn_n (LAC.step (rs:=[6]) (fun _=>hB0) kr_ (by simp) ⟨⟨_,rfl,?_⟩,trivial⟩));refine L.ret (x_call kwal2_en126 rfl) rfl (wnumber_ok p.half 1 om_ om_ _) ?_;rintro _ w10 ⟨rfl,hw⟩;have hB0:=hB0.carry hw;refine L.nil (thn_n (LAC.takeN (i:=7) rfl kr_ kr_ kr_ kr_ (fun w hw=>x_cat rfl rfl (by simp [beN_len])) rfl ?_));refine LAC.step (rs:=[11]) (fun _=>hB0) kr_ (by simp) ⟨⟨_,rfl,?_⟩,trivial⟩;refine L.ret (x_call kwal2_en126 rfl) rfl (wnumber_ok p.tail 4 om_ om_ _) ?_;rintro _ w15 ⟨rfl,hw⟩;have hB0:=hB0.carry hw;refine L.nil (thn_n (LAC.takeN (i:=12) rfl kr_ kr_ kr_ kr_ (fun w hw=>x_cat rfl rfl (by simp [beN_len])) rfl ?_));refine LAC.step (rs:=[16]) (fun _=>hB0) kr_ (by simp) ⟨⟨_,rfl,?_⟩,trivial⟩;refine L.ret (x_call kwal2_en126 rfl) rfl (wnumber_ok p.cnt 4 om_ om_ _) ?_;rintro _ w20 ⟨rfl,hw⟩;have hB0:=hB0.carry hw;refine L.nil (thn_n (LAC.takeN (i:=17) rfl kr_ kr_ kr_ kr_ (fun w hw=>x_cat rfl rfl (by simp [beN_len])) rfl ?_));refine LAC.takeN (i:=18) rfl kr_ kr_ kr_ kr_ (fun w hw=>x_as (v:=S _) rfl) rfl ?_;refine LAC.doneF kr_ hB0 ?_;have hB:=hB.carry hB0;have bx1:=bx1.carry hB0;refine thn_n ?_;exact ⟨rfl,rfl,hB⟩
  ·rintro D E w22 ⟨rfl,e3,hB⟩;rw [upd_self e3];refine W.seq (W.region (L.val (x_mv (v:=S _) rfl) rfl ?_));refine L.val (x_mv (v:=S _) rfl) rfl ?_;refine L.ret (x_call kwal2_en114 rfl) rfl (turned_ok _ om_ om_ _) ?_;rintro _ w24 ⟨rfl,hw⟩;have hB:=hB.carry hw;refine L.val (x_cat rfl rfl (by simp [turnS,hl])) rfl ?_;refine L.ret (x_call kwal2_en87 rfl) rfl (padded_ok _ (by simp [turnS,hl]) _) ?_;rintro _ w26 ⟨rfl,hw⟩;have hB:=hB.carry hw;refine L.val (x_as (v:=S _) rfl) rfl ?_;refine L.nil (thn_n (W.ret (fin_mk (.inr rfl) ?_)));refine ⟨?_,hB⟩;unfold hdrS;have e:64 - (ptS p++turnS (ptS p)).length=30:=by simp [turnS,hl]
   rw [e];rfl
theorem left_ok (p:Pt) (room:Nat) (hr:room≤1000000∧p.tail≤4294967296) (w:World):Ret Tryz.prog 77 #[.agg (ptV p).toArray,.int .i64 (room:Nat)] w fun v w'=>v=.int .i64 ((room:Nat) - (p.tail:Nat))∧Bel w w':=by
  refine ret_of_W Tryz.func77 rfl (Nat.le_of_ble_eq_true rfl) (res1 rfl) ?_;have hB:=Gr.refl (fun _=>False) w;refine W.seq (W.region (L.box (cs:=ptV p) rfl rfl (fun w2 bx2 hw hz2=>?_)));have hB:=hB.carry hw;refine L.val (x_as (v:=.int _ _) rfl) rfl ?_;refine L.nil (thn_n (W.seq (W.region (L.val (x_mv (v:=.int _ _) rfl) rfl ?_))));refine L.val (x_fa kwal2_fo132_2 rfl) rfl ?_;refine L.val (x_ld (v:=.int _ _) kwal2_oc3 rfl (bx2.cell0 rfl)) rfl ?_;refine L.val (x_sub rfl rfl (wr64 om_)) rfl ?_;refine L.val (x_as (v:=.int _ _) rfl) rfl ?_;refine L.nil (thn_n (W.ret (fin_mk (.inr rfl) ?_)));exact ⟨rfl,hB⟩
end Go.Gx
namespace Go.Gx
variable {P:Program} {ops:Array Oper} {C0 C1:World→Prop}
section
variable {n st:Nat} {K:List Deferred→Env→World→Prop} {D:List Deferred} {E:Env} {w:World}
theorem LAD.takeY {fuel:Nat} {listed:Array Bool} {i d:Nat} {o:Oper} {v:Value}
    (ho:ops[i]? = some o) (hod:o.dst=some d) (hs:Region.noSelect ops=true) (hf:Region.free .any ops listed i=true) (hr:(Region.ready .any ops listed).contains i=true) (hne:Nat.beq st i=false)
    (hx:∀ a,Fr D n a E→YF P ops C0 o v a) (hd:Nat.blt d n=true) (k:LAD P n ops C0 C1 st K fuel (listed.setIfInBounds i true) D (upd E d v) w):LAD P n ops C0 C1 st K (fuel+1) listed D E w:=by
  intro a ha;refine wpAnyD.take0 ho (Region.noSelect_spec hs) ?_ (fun h=>by subst h;simp at hne) fuel listed a w (Region.free_spec ho hf) (by simpa using hr) (hx a ha) ?_
  · rintro c a w ⟨_,E,_,h,_⟩;cases h
  · rw [hod];exact k _ (ha.put v hd)
theorem LAD.takeG {fuel:Nat} {listed:Array Bool} {i d j dj:Nat} {op:Op} {t:TypeId} {p:String} {af:Array Edge} {v:Value} {want b:Bool}
    (ho:ops[i]? = some ⟨some d,op,t,p,af,some (j,want)⟩) (hs:Region.noSelect ops=true) (hf:Region.free .any ops listed i=true) (hr:(Region.ready .any ops listed).contains i=true) (hne:Nat.beq st i=false)
    (hj:(ops[j]?).bind (·.dst)=some dj) (hE:E dj=.bool b) (hb:b=want)
    (hx:∀ w,C0 w→X P op t E w v w) (hd:Nat.blt d n=true) (k:LAD P n ops C0 C1 st K fuel (listed.setIfInBounds i true) D (upd E d v) w):LAD P n ops C0 C1 st K (fuel+1) listed D E w:=
  LAD.takeY ho rfl hs hf hr hne (fun a ha=>.inl ⟨wanted_yes rfl hj ha (hb ▸ hE),fun w hw=>by
    have:=hx w hw;unfold X at this;rw [execOp_bare,ha.eval];exact this⟩) hd k
theorem LAD.takeU {fuel:Nat} {listed:Array Bool} {i d j dj:Nat} {op:Op} {t:TypeId} {p:String} {af:Array Edge} {want b:Bool}
    (ho:ops[i]? = some ⟨some d,op,t,p,af,some (j,want)⟩) (hs:Region.noSelect ops=true) (hf:Region.free .any ops listed i=true) (hr:(Region.ready .any ops listed).contains i=true) (hne:Nat.beq st i=false)
    (hj:(ops[j]?).bind (·.dst)=some dj) (hE:E dj=.bool b) (hb:b=!want)
    (hd:Nat.blt d n=true) (k:LAD P n ops C0 C1 st K fuel (listed.setIfInBounds i true) D (upd E d undef) w):LAD P n ops C0 C1 st K (fuel+1) listed D E w:=
  LAD.takeY ho rfl hs hf hr hne (fun _ ha=>.inr ⟨wanted_no rfl hj ha hE hb,rfl⟩) hd k
theorem LAD.takeUU {fuel:Nat} {listed:Array Bool} {i d j dj:Nat} {op:Op} {t:TypeId} {p:String} {af:Array Edge} {want:Bool}
    (ho:ops[i]? = some ⟨some d,op,t,p,af,some (j,want)⟩) (hs:Region.noSelect ops=true) (hf:Region.free .any ops listed i=true) (hr:(Region.ready .any ops listed).contains i=true) (hne:Nat.beq st i=false)
    (hj:(ops[j]?).bind (·.dst)=some dj) (hE:E dj=undef)
    (hd:Nat.blt d n=true) (k:LAD P n ops C0 C1 st K fuel (listed.setIfInBounds i true) D (upd E d undef) w):LAD P n ops C0 C1 st K (fuel+1) listed D E w:=
  LAD.takeY ho rfl hs hf hr hne (fun _ ha=>.inr ⟨wanted_undef rfl hj ha hE,rfl⟩) hd k
theorem LAD.split {fuel:Nat} {listed:Array Bool} {dj:Nat} {b:Bool} (_hE:E dj=.bool b) (ht:b=true→LAD P n ops C0 C1 st K fuel listed D E w) (hf:b=false→LAD P n ops C0 C1 st K fuel listed D E w):LAD P n ops C0 C1 st K fuel listed D E w:=by
  cases b
  · exact hf rfl
  · exact ht rfl
end
end Go.Gx
