/- Disks read. Conditions: none. -/
import Derived.Test.YtdklfpoofgagmaaGreatQbDsk1
import Derived.Test.YtdklfpoofgagmaaGreatQbDrawD
namespace Go.Gx
open Go.Proofs
theorem kdsk4_ag111:aggT Tryz.prog 111 65=true:=by kernel_rfl
theorem kdsk4_en112:Go.Proofs.Enters Tryz.prog 112:=Go.Proofs.enters_of Tryz.func112 kr_ rfl
theorem kdsk4_en128:Go.Proofs.Enters Tryz.prog 128:=Go.Proofs.enters_of Tryz.func128 kr_ rfl
theorem kdsk4_en51:Go.Proofs.Enters Tryz.prog 51:=Go.Proofs.enters_of Tryz.func51 kr_ rfl
theorem kdsk4_fo111_0:fieldOff Tryz.prog 111 0=some 0:=by kernel_rfl
theorem kdsk4_fo111_1:fieldOff Tryz.prog 111 1=some 1:=by kernel_rfl
theorem kdsk4_fo90_0:fieldOff Tryz.prog 90 0=some 0:=by kernel_rfl
theorem kdsk4_fo90_1:fieldOff Tryz.prog 90 1=some 1:=by kernel_rfl
theorem kdsk4_mixed:Tryz.prog.follows .mixedOrders=true:=by kernel_rfl
theorem kdsk4_oc3:oneCellT Tryz.prog 3=true:=by kernel_rfl
theorem kdsk4_oc36:oneCellT Tryz.prog 36=true:=by kernel_rfl
theorem kdsk4_oc87:oneCellT Tryz.prog 87=true:=by kernel_rfl
theorem kdsk4_oc88:oneCellT Tryz.prog 88=true:=by kernel_rfl
theorem kdsk4_oc9:oneCellT Tryz.prog 9=true:=by kernel_rfl
theorem kdsk4_sz111:(Tryz.prog.info? 111).map (·.size)=some 65:=by kernel_rfl
theorem kdsk4_sz36:(Tryz.prog.info? 36).map (·.size)=some 1:=by kernel_rfl
theorem kdsk4_sz5:(Tryz.prog.info? 5).map (·.size)=some 1:=by kernel_rfl
theorem kdsk4_sz9:(Tryz.prog.info? 9).map (·.size)=some 1:=by kernel_rfl
theorem kdsk4_sz92:(Tryz.prog.info? 92).map (·.size)=some 64:=by kernel_rfl
theorem kdsk4_zr111:(Tryz.prog.info? 111).bind (·.zero)=some (Value.agg [Value.int .i64 0,Value.int .u8 0,Value.int .u8 0,Value.int .u8 0,Value.int .u8 0,Value.int .u8 0,Value.int .u8 0,Value.int .u8 0,Value.int .u8 0,Value.int .u8 0,Value.int .u8 0,Value.int .u8 0,Value.int .u8 0,Value.int .u8 0,Value.int .u8 0,Value.int .u8 0,Value.int .u8 0,Value.int .u8 0,Value.int .u8 0,Value.int .u8 0,Value.int .u8 0,Value.int .u8 0,Value.int .u8 0,Value.int .u8 0,Value.int .u8 0,Value.int .u8 0,Value.int .u8 0,Value.int .u8 0,Value.int .u8 0,Value.int .u8 0,Value.int .u8 0,Value.int .u8 0,Value.int .u8 0,Value.int .u8 0,Value.int .u8 0,Value.int .u8 0,Value.int .u8 0,Value.int .u8 0,Value.int .u8 0,Value.int .u8 0,Value.int .u8 0,Value.int .u8 0,Value.int .u8 0,Value.int .u8 0,Value.int .u8 0,Value.int .u8 0,Value.int .u8 0,Value.int .u8 0,Value.int .u8 0,Value.int .u8 0,Value.int .u8 0,Value.int .u8 0,Value.int .u8 0,Value.int .u8 0,Value.int .u8 0,Value.int .u8 0,Value.int .u8 0,Value.int .u8 0,Value.int .u8 0,Value.int .u8 0,Value.int .u8 0,Value.int .u8 0,Value.int .u8 0,Value.int .u8 0,Value.int .u8 0].toArray):=by kernel_rfl
theorem kdsk4_zr36:(Tryz.prog.info? 36).bind (·.zero)=some (Value.int .i64 0):=by kernel_rfl
theorem kdsk4_zr9:(Tryz.prog.info? 9).bind (·.zero)=some (S []):=by kernel_rfl
def WaC (_:Nat→Prop) (_:World) (cs:List Value) (x:Nat × Str):Prop:=cs=waV x∧x.2.length=64
instance car_wa:Car WaC 65 where
  pos:=by omega
  len:=fun h=>by rw [h.1];exact waV_len h.2
  one:=fun h=>by rw [h.1];exact waV_one _
  move:=fun _ h=>h
def fx (x:Nat × Str):Nat × Str:=(x.1,(x.2++zeros 64).take 64)
theorem fx_len (x:Nat × Str):(fx x).2.length=64:=by simp [fx,zeros_len]
theorem fx_id {x:Nat × Str} (h:x.2.length=64):fx x=x:=by
  unfold fx;rw [List.take_append_of_le_length om_,List.take_of_length_le om_]
theorem rows_pureW {α : Type} [Inhabited α] {C:Thing α} {A:Nat→Prop} {w:World} {f:α → List Value}:∀ (l:List α),(∀ x∈l,C A w (f x) x)→RowsC C A w (l.map f) l:=fun l h=>
  ⟨by simp,fun i hi=>by
    have:=h (l.getD i default) (by rw [List.getD_eq_getElem?_getD,List.getElem?_eq_getElem hi];exact List.getElem_mem hi);simpa [List.getD_eq_getElem?_getD,hi] using this⟩
def encVW (x:Nat × (Nat × Str)):Array Value:=#[.int .i64 (x.1:Nat),.agg (waV (fx x.2)).toArray]
def bkW (vs:List (Nat × Str)):List (Nat × (Nat × Str)):=(List.range vs.length).reverse.map fun i=>(i,vs.getD i default)
theorem bk_lenW (vs:List (Nat × Str)):(bkW vs).length=vs.length:=by simp [bkW]
theorem bk_atW {vs:List (Nat × Str)} {k:Nat} (h:k<vs.length):(bkW vs)[k]? = some (vs.length - 1 - k,vs.getD (vs.length - 1 - k) default):=by
  unfold bkW;rw [List.getElem?_map,List.getElem?_reverse (by simpa using h),List.length_range,List.getElem?_range om_];rfl
theorem bk_sndW (vs:List (Nat × Str)):(bkW vs).map (·.2)=vs.reverse:=by
  apply List.ext_getElem?;intro k;rw [List.getElem?_map];by_cases h:k<vs.length
  · rw [bk_atW h,List.getElem?_reverse h,List.getD_eq_getElem?_getD,List.getElem?_eq_getElem om_];rfl
  · rw [List.getElem?_eq_none (by rw [bk_lenW];omega),List.getElem?_eq_none (by simp;omega)];rfl
theorem bk_takeW {vs:List (Nat × Str)} {k:Nat} (h:k<vs.length):(bkW vs).take k++[(vs.length - 1 - k,vs.getD (vs.length - 1 - k) default)]=(bkW vs).take (k+1):=by
  rw [List.take_add_one,bk_atW h];rfl
theorem back_okW (A:Nat→Prop) (l Bs n₀ : Nat) (v:Value) (vs:List (Nat × Str)) (hA:∀ k,n₀ ≤ k→A k) (hBn:Bs<n₀) (J Jx:List (Nat × (Nat × Str))→World→Prop)
    (hY:∀ pre x W,J pre W→pre.length<vs.length→YieldAt Fence.wide 0 Tryz.prog l (encVW x) W fun e W'=>
      (e=.returned (.bool true)∧J (pre++[x]) W'∧KpB n₀ W W')∨(e=.returned (.bool false)∧Jx (pre++[x]) W'))
    (w:World) (hBs:w.cell? ⟨Bs,0,none⟩=some v) (hs:RecsAt WaC 65 A w v vs) (h0:J [] w):
    Ret Tryz.prog 128 #[.func (.yield l) #[] #[],.pointer (some ⟨Bs,0,none⟩)] w fun _ W'=>(∃ xs,xs=bkW vs∧J xs W')∨(∃ pre,(∃ k,pre=(bkW vs).take k)∧Jx pre W'):=by
  obtain ⟨p,cap,row,rfl,h1,h2,h3,hR⟩:=hs;have hlen:=bk_lenW vs;refine ret_of_W Tryz.func128 rfl (Nat.le_of_ble_eq_true rfl) (res0 rfl) ?_;refine W.seq (W.region (L.val (x_ld (v:=.slice _ _ _) kdsk4_oc88 rfl hBs) rfl ?_));refine L.val (x_len_slice Tryz.underlying88 rfl) rfl ?_;refine L.val (x_sub rfl rfl (wr64 om_)) rfl ?_;refine L.val (x_as (v:=.int _ _) rfl) rfl ?_;refine L.nil (thn_n (W.block (W.loop (fun m' E w'=>∃ (k:Nat),m'=vs.length - k∧E 0=.func (.yield l) #[] #[]∧E 1=.pointer (some ⟨Bs,0,none⟩)∧E 3=.int .i64 ((vs.length:Nat) - 1 - (k:Nat))∧(k≤vs.length)∧(J ((bkW vs).take k) w')∧(RecRow WaC 65 A w' p row vs)∧(w'.cell? ⟨Bs,0,none⟩=some (.slice p vs.length cap))) (vs.length) ?_ ?_)))
  ·exact ⟨0,by omega,vi_,vi_,vi_,ao_,(by simpa using h0),ao_,ao_⟩
  ·rintro _ E wL7 ⟨k,em,e0,e1,e3,hk,hJ,hR,hBs⟩;rw [upd_self e0,upd_self e1,upd_self e3];refine W.seq (W.seq (W.region (L.val (x_mv (v:=.int _ _) rfl) rfl ?_)));refine L.val (x_geq rfl rfl) rfl ?_;refine L.nil (thn_n (W.cond (b:=_) rfl (fun g8=>?_) (fun g8=>?_)))
   ·have h8:=of_decide_eq_true g8;have hlt:k<vs.length:=by omega
    obtain ⟨b,o,rfl,hAb,hc⟩:=hR.elem (i:=vs.length - 1 - k) om_;have hver:=(hR.each (vs.length - 1 - k) om_).1;have hver2:=(hR.each (vs.length - 1 - k) om_).2;rw [hver,← fx_id hver2] at hc;refine W.skip (thn_n (W.seq (W.block (W.seq (W.wide (m:=1) (WI.region ?_))))));refine LI.val (fun _=>trivial) (fun _ h=>by cases h) (x_mv (v:=.func _ _ _) rfl) rfl ?_;refine LI.val (fun _=>trivial) (fun _ h=>by cases h) (x_mv (v:=.int _ _) rfl) rfl ?_;refine LI.val (fun _=>trivial) (fun _ h=>by cases h) (x_ld (v:=.slice _ _ _) kdsk4_oc88 rfl hBs) rfl ?_;refine LI.val (fun _=>trivial) (fun _ h=>by cases h) (x_mv (v:=.int _ _) rfl) rfl ?_;refine LI.val (fun _=>trivial) (fun _ h=>by cases h) (x_ia (j:=vs.length - 1 - k) Tryz.underlying88 kdsk4_sz111 rfl rfl om_ om_) rfl ?_;refine LI.val (fun _=>trivial) (fun _ h=>by cases h) (x_ldn (vs:=waV (fx (vs.getD (vs.length - 1 - k) default))) kdsk4_ag111 rfl (waV_len (fx_len _)) hc) rfl ?_;refine LI.yieldN (vs:=(encVW (vs.length - 1 - k,vs.getD (vs.length - 1 - k) default)).toList) (R:=fun e W'=>∃ z,e=.returned (.bool z)∧(z=true→J ((bkW vs).take k++[(vs.length - 1 - k,vs.getD (vs.length - 1 - k) default)]) W'∧KpB n₀ wL7 W')∧(z=false→Jx ((bkW vs).take k++[(vs.length - 1 - k,vs.getD (vs.length - 1 - k) default)]) W')) (fun _=>trivial) rfl rfl ?_ rfl ((hY ((bkW vs).take k) (vs.length - 1 - k,vs.getD (vs.length - 1 - k) default) wL7 hJ (by rw [List.length_take];omega)).mono ?_) (fun e w' ⟨z,h,_⟩=>⟨_,h⟩) ?_
    · show [Value.int .i64 ((vs.length:Nat) - 1 - (k:Nat)),_]=[Value.int .i64 ((vs.length - 1 - k:Nat):Int),_];rw [show ((vs.length - 1 - k:Nat):Int)=(vs.length:Nat) - 1 - (k:Nat) by omega];rfl
    · rintro e W' (⟨rfl,a1,a2⟩ | ⟨rfl,a1⟩)
      · exact ⟨true,rfl,fun _=>⟨a1,a2⟩,fun h=>by cases h⟩
      · exact ⟨false,rfl,fun h=>(by cases h),fun _=>a1⟩
    rintro u w13 ⟨z,hz,r1,r2⟩;cases hz;refine LI.val (fun _=>trivial) (fun _ h=>by cases h) (x_not rfl) rfl ?_;refine LI.nil ?_;refine thn_n (W.cond (b:=_) rfl (fun g18=>?_) (fun g18=>?_))
    ·have h18:=(not_t g18);refine W.ret (blk_r (thn_r (thn_r (blk_r (fin_mk (.inr rfl) ?_)))));exact .inr ⟨_,⟨k+1,bk_takeW hlt⟩,r2 (by simpa using g18)⟩
    ·have h18:=(not_f g18);have h18:=g18;have hg:=(r1 (by simpa using h18)).2.1;have hR:=hR.carryR (gr_of_below hg) hA;have hBs:=(gr_of_below hg).cell hBs (by show ¬ n₀ ≤ Bs;omega);refine W.skip (blk_n (thn_n (W.region (L.val (x_mv (v:=.int _ _) rfl) rfl ?_))));refine L.val (x_sub rfl rfl (wr64 om_)) rfl ?_;refine L.val (x_as (v:=.int _ _) rfl) rfl ?_;refine L.nil (thn_n ⟨rfl,?_⟩);refine ⟨_,?_,k+1,rfl,vi_,vi_,vi_,ao_,(by rw [← bk_takeW hlt];exact (r1 (by simpa using h18)).1),ao_,ao_⟩;omega
   ·have h8:=dle_f g8;refine W.exit (thn_x (thn_x (blk_hit ?_)));refine fin_mk (.inl rfl) ?_;exact .inl ⟨_,rfl,by rw [show k=vs.length by omega,← hlen,List.take_length] at hJ;exact hJ⟩
theorem backward_okW (p:Option Addr) (n cap:Nat) (w:World):Ret Tryz.prog 112 #[.slice p n cap] w fun r w'=>r=.func (.func 128) #[] #[.pointer (some ⟨w.heap.size,0,none⟩)]∧Box w' w.heap.size 88 [.slice p n cap]∧Bel w w':=by
  refine ret_of_W Tryz.func112 rfl (Nat.le_of_ble_eq_true rfl) (res1 rfl) ?_;have hB:=Gr.refl (fun _=>False) w;refine W.seq (W.region (L.box (cs:=[.slice p n cap]) rfl rfl (fun w1 bx1 hw hz1=>?_)));have hB:=hB.carry hw;refine L.val (x_as (v:=_) rfl) rfl ?_;refine L.nil (thn_n (W.seq (W.region (L.val (x_mkfn rfl rfl) rfl ?_))));refine L.val (x_as (v:=_) rfl) rfl ?_;refine L.nil (thn_n (W.ret (fin_mk (.inr rfl) ?_)));exact ⟨rfl,bx1,hB⟩
theorem back_seqW (A:Nat→Prop) (Bs n₀ : Nat) (v:Value) (vs:List (Nat × Str)) (w:World) (hA:∀ k,n₀ ≤ k→A k) (hBn:Bs<n₀) (hBs:Bs<w.heap.size) (hc:w.cell? ⟨Bs,0,none⟩=some v) (hs:RecsAt WaC 65 A w v vs) (hAw:∀ k,w.heap.size≤k→A k):
    SeqStopsK Fence.wide 1 Tryz.prog 128 #[.pointer (some ⟨Bs,0,none⟩)] encVW (KpB n₀) (fun xs=>xs=bkW vs) (fun pre=>∃ k,pre=(bkW vs).take k) vs.length w:=by
  intro l J Jx w1 hW _ _ hY h0;have hs1:=hs.carryR (gr_of_below hW) hAw;have hc1:=(hW.cell (p:=⟨Bs,0,none⟩) hBs).trans hc;rw [show (#[Value.func (.yield l) #[] #[]]++#[Value.pointer (some ⟨Bs,0,none⟩)]:Array Value)=#[.func (.yield l) #[] #[],.pointer (some ⟨Bs,0,none⟩)] from rfl];refine callsIn_wide.2 (Calls.mono (back_okW A l Bs n₀ v vs hA hBn J Jx hY w1 hc1 hs1 h0) ?_);rintro e w2 ⟨u,rfl,h⟩;exact ⟨⟨u,rfl⟩,h⟩
def rdD (D:Dk) (i:Nat):Str:=match D.ca.reverse.find? (fun y=>y.1 == i) with
  | some x=>x.2
  | none=>D.pl.getD i []
theorem find_prefixW {α : Type} {p:α → Bool} {pre l:List α} {x:α} (hpre:∀ y∈pre,p y=false) (hx:p x=true) (h:∃ k,pre++[x]=l.take k):l.find? p=some x:=by
  obtain ⟨k,hk⟩:=h;have e:l=(pre++[x])++l.drop k:=by rw [hk,List.take_append_drop]
  rw [e,List.append_assoc,List.find?_append,List.find?_eq_none.2 (fun y hy=>by simp [hpre y hy])];simp [hx]
theorem plV_cell {w:World} {bp i:Nat} {pl:List Str} (h:Box w bp 92 (plV pl)) (hs:∀ s∈pl,s.length=64) (hi:i<pl.length):∀ m,m<64→w.cell? ⟨bp,0+i * 64+m,none⟩=((pl.getD i []).map B8)[m]? := fun m hm=>by
  have hg:(pl.map fun s=>s.map B8).getD i []=(pl.getD i []).map B8:=by
    rw [List.getD_eq_getElem?_getD,List.getD_eq_getElem?_getD,List.getElem?_map,List.getElem?_eq_getElem hi];rfl
  have hl:((pl.getD i []).map B8).length=64:=by
    rw [List.length_map];exact hs _ (by rw [List.getD_eq_getElem?_getD,List.getElem?_eq_getElem hi];exact List.getElem_mem hi)
  rw [List.getElem?_eq_getElem om_];have:=rowcK (tl:=[]) (plV_lens hs) (i:=i) (j:=m) (by rw [List.length_map];exact hi) hm (by rw [hg];exact List.getElem?_eq_getElem om_);rw [List.append_nil] at this;exact h.cell this
theorem read_d (n0 b:Nat) (D:Dk) (i:Nat) (w:World) (h:DiskAt n0 w b D) (hd:D.dead=false) (hi:i<D.pl.length):Ret Tryz.prog 85 #[.pointer (some ⟨b,0,none⟩),.int .i64 (i:Nat)] w fun v w'=>v=.tuple #[S (rdD D i),.int .i64 0]∧Bel w w':=by
  obtain ⟨h1,h2,bp,vc,vk,tn,ct,h3,hb,h5,hp,hc⟩:=id h;obtain ⟨ac,cc,rfl,hcc⟩:=own_shape hc;have hr:readyD D (i:Nat)=0:=by unfold readyD;rw [hd,if_neg (by decide),if_pos om_]
  have hrec:RecsAt WaC 65 (fun k=>w.heap.size≤k) w (.slice ac D.ca.length cc) D.ca:=
    (rows_pureW (C:=WaC) (A:=fun _=>False) (w:=w) (f:=waV) D.ca fun x hx=>⟨rfl,(h2.cac x hx).2⟩).doneB hc (by have:=h2.few;omega) (fun _ f=>f.elim) (fun _ _ f=>f) |>.mono (fun _ hb h=>absurd h om_)
  refine ret_of_W_marksR Tryz.func85 rfl (Nat.le_of_ble_eq_true rfl) ?_;have hB:=Gr.refl (fun _=>False) w;have hb0:=hb;have hp0:=hp;have hbw:=hb.lt;have hpw:=hp.lt;refine W.seq (W.region (L.box (cs:=[.int .i64 (i:Nat)]) rfl rfl (fun w3 bx3 hw hz3=>?_)));have hB:=hB.carry hw;have hb:=hb.carry hw;have hp:=hp.carry hw;have hrec:=hrec.carry hw;refine L.alloc (cs:=[S []]) kdsk4_zr9 rfl rfl (fun w4 bx4 hw hz4=>?_);have hB:=hB.carry hw;have hb:=hb.carry hw;have hp:=hp.carry hw;have hrec:=hrec.carry hw;have bx3:=bx3.carry hw;refine L.alloc (cs:=[Value.int .i64 0]) kdsk4_zr36 rfl rfl (fun w5 bx5 hw hz5=>?_);have hB:=hB.carry hw;have hb:=hb.carry hw;have hp:=hp.carry hw;have hrec:=hrec.carry hw;have bx3:=bx3.carry hw;have bx4:=bx4.carry hw;refine L.nil (thn_n (W.seq (W.seq (W.region (L.val (x_mv (v:=.pointer _) rfl) rfl ?_)))));refine L.val (x_ld (v:=.int _ _) kdsk4_oc3 rfl (bx3.cell (i:=0) rfl)) rfl ?_;refine L.ret (x_call kdsk4_en51 rfl) rfl (ready_d n0 b D _ _ (h.bel hB)) ?_;rintro _ w11 ⟨rfl,hq⟩;rw [hq,hr];refine L.val (x_as (v:=.int _ _) rfl) rfl ?_;refine L.nil (thn_n (W.seq (W.region (L.val (x_mv (v:=.int _ _) rfl) rfl ?_))));refine L.val (x_neq rfl rfl) rfl ?_;refine L.nil (thn_n (W.cond (b:=_) rfl (fun g13=>?_) (fun g13=>?_)))
  ·have h13:=dne_t g13;cases g13
  ·have h13:=dne_f g13;refine W.skip (thn_n (W.seq (W.seq (W.region (L.val (x_mv (v:=.pointer _) rfl) rfl ?_)))));refine L.val (x_nil rfl) rfl ?_;refine L.val (x_fa kdsk4_fo90_1 rfl) rfl ?_;refine L.val (x_ld (v:=.slice _ _ _) kdsk4_oc88 rfl (hb.cell0 rfl)) rfl ?_;refine L.ret (x_call kdsk4_en112 rfl) rfl (backward_okW ac D.ca.length cc _) ?_;rintro _ w19 ⟨rfl,bx19,hw⟩;have hB:=hB.carry hw;have hb:=hb.carry hw;have hp:=hp.carry hw;have hrec:=hrec.carry hw;have bx3:=bx3.carry hw;have bx4:=bx4.carry hw;have bx5:=bx5.carry hw;have hsz:=hB.size;have z19:=hw.size;have hrec:=hrec.mono (A':=fun k=>w19.heap.size≤k) (fun b hb h=>absurd h om_);have hbl19:=hb.lt;have hpl19:=hp.lt;refine L.nil (thn_n (W.block ?_));refine W.rangeFx (α := Nat × (Nat × Str)) (n₀ := w19.heap.size) (w0:=w19) (N:=D.ca.length) rfl kdsk4_en128 (back_seqW (fun k=>w19.heap.size≤k) _ w19.heap.size _ D.ca w19 (fun _ h=>h) bx19.lt bx19.lt (bx19.cell (i:=0) rfl) hrec (fun _ h=>h)) (RowKit.Below.refl _ _) (Nat.le_refl _) (fun _=>rfl) rfl
     (fun pre W=>(∀ y∈pre,(y.2.1 == i)=false)∧Box W w.heap.size 3 [.int .i64 (i:Nat)]∧Box W w3.heap.size 9 [S []]∧Box W w4.heap.size 36 [.int .i64 0]∧Bel w W∧w19.heap.size≤W.heap.size)
     (fun c xs W=>c=.ret∧∃ pre x,xs=pre++[x]∧(∀ y∈pre,(y.2.1 == i)=false)∧(x.2.1 == i)=true∧Box W w3.heap.size 9 [S (fx x.2).2]∧Box W w4.heap.size 36 [.int .i64 0]∧Bel w W)
     (fun pre X Y row ⟨a1,a2,a3,a4,a5⟩ hg hr=>⟨a1,a2.from hg (fun r e=>(hr r e).2),a3.from hg (fun r e=>(hr r e).2),a4.from hg (fun r e=>(hr r e).2),a5.1.from hg (fun r e=>by have:=(hr r e).1;omega),Nat.le_trans a5.2 hg.size⟩)
     (fun c pre X Y row ⟨a1,q,x,a2,a3,a4,a5,a6,a7⟩ hg hr=>⟨a1,q,x,a2,a3,a4,a5.from hg (fun r e=>(hr r e).2),a6.from hg (fun r e=>(hr r e).2),a7.from hg (fun r e=>by have:=(hr r e).1;omega)⟩)
     ⟨fun _ hy=>(by cases hy),bx3,bx4,bx5,hB,Nat.le_refl _⟩
     (fun x E' W=>∃ j,E' 3=.pointer (some ⟨w.heap.size,0,none⟩)∧E' 4=.pointer (some ⟨w3.heap.size,0,none⟩)∧E' 5=.pointer (some ⟨w4.heap.size,0,none⟩)∧E' 8=.pointer (some ⟨j,0,none⟩)∧Box W j 111 (waV (fx x.2)))
     (fun x a' s X Y row ⟨j,e1,e2,e3,e4,a5⟩ hg hr=>⟨j,e1,e2,e3,e4,a5.from hg (fun r e=>(hr r e).2)⟩)
     ?_ ?_ ?_ ?_
   ·rintro l pre x W ⟨hq,bx3,bx4,bx5,hB,hle⟩;have hV:=Gr.refl (fun _=>False) W;have hsz:=hB.size;refine WI.reg rfl ?_;refine L.alloc (cs:=[Value.int .i64 0,Value.int .u8 0,Value.int .u8 0,Value.int .u8 0,Value.int .u8 0,Value.int .u8 0,Value.int .u8 0,Value.int .u8 0,Value.int .u8 0,Value.int .u8 0,Value.int .u8 0,Value.int .u8 0,Value.int .u8 0,Value.int .u8 0,Value.int .u8 0,Value.int .u8 0,Value.int .u8 0,Value.int .u8 0,Value.int .u8 0,Value.int .u8 0,Value.int .u8 0,Value.int .u8 0,Value.int .u8 0,Value.int .u8 0,Value.int .u8 0,Value.int .u8 0,Value.int .u8 0,Value.int .u8 0,Value.int .u8 0,Value.int .u8 0,Value.int .u8 0,Value.int .u8 0,Value.int .u8 0,Value.int .u8 0,Value.int .u8 0,Value.int .u8 0,Value.int .u8 0,Value.int .u8 0,Value.int .u8 0,Value.int .u8 0,Value.int .u8 0,Value.int .u8 0,Value.int .u8 0,Value.int .u8 0,Value.int .u8 0,Value.int .u8 0,Value.int .u8 0,Value.int .u8 0,Value.int .u8 0,Value.int .u8 0,Value.int .u8 0,Value.int .u8 0,Value.int .u8 0,Value.int .u8 0,Value.int .u8 0,Value.int .u8 0,Value.int .u8 0,Value.int .u8 0,Value.int .u8 0,Value.int .u8 0,Value.int .u8 0,Value.int .u8 0,Value.int .u8 0,Value.int .u8 0,Value.int .u8 0]) kdsk4_zr111 rfl rfl (fun w8 bx8 hw hz8=>?_);have hB:=hB.carry hw;have bx3:=bx3.carry hw;have bx4:=bx4.carry hw;have bx5:=bx5.carry hw;have hV:=hV.carry hw;refine L.setRow kdsk4_ag111 rfl rfl bx8 rfl (waV_len (fx_len _)) (waV_one _) (fun wl19 bx8 hw hzl19=>?_);have hsz:=hB.size;have hB:=hB.set hw om_;have bx3:=bx3.carryR hw om_;have bx4:=bx4.carryR hw om_;have bx5:=bx5.carryR hw om_;have hV:=hV.set hw om_;refine L.nil ?_;have hvs:=hV.size;exact ⟨rfl,rfl,(kp_of_bel w19.heap.size hV hle).1,(kp_of_bel w19.heap.size hV hle).2,⟨hq,bx3,bx4,bx5,hB,by omega⟩,_,rfl,rfl,rfl,rfl,bx8⟩
   ·rintro l pre x E W ⟨hq,bx3,bx4,bx5,hB,hle⟩ ⟨j,e3,e4,e5,e8,bx8⟩ hlen;rw [upd_self e3,upd_self e4,upd_self e5,upd_self e8];have hW:=Gr.refl (fun k=>k=w3.heap.size∨k=w4.heap.size) W;have bxo4:=bx4;have bxo5:=bx5;have hne:j≠w3.heap.size∧j≠w4.heap.size:=⟨box_ne bx8 bx4 (by decide),box_ne bx8 bx5 (by decide)⟩;refine WI.block ?_;refine WI.seq ?_;refine WI.reg rfl ?_;refine L.val (x_fa kdsk4_fo111_0 rfl) rfl ?_;refine L.val (x_ld (v:=.int _ _) kdsk4_oc3 rfl (bx8.cell0 rfl)) rfl ?_;refine L.val (x_ld (v:=.int _ _) kdsk4_oc3 rfl (bx3.cell (i:=0) rfl)) rfl ?_;refine L.val (x_eql rfl rfl) rfl ?_;refine L.nil (thn_n (WI.cond (b:=_) rfl (fun g25=>?_) (fun g25=>?_)))
    ·have h25:=of_decide_eq_true g25;refine WI.seq ?_;refine WI.reg rfl ?_;refine L.val (x_fa kdsk4_fo111_1 rfl) rfl ?_;refine L.val (x_slArr Tryz.underlying92 kdsk4_sz5 rfl rfl) rfl ?_;refine L.val (x_b2s (l:=(fx x.2).2) Tryz.underlying59 Tryz.underlying5 Tryz.underlying9 rfl (by rw [fx_len]) (fun m hm=>bx8.rowD 1 (k:=64) (by simp [waV,fx_len]) m (by rwa [fx_len] at hm))) rfl ?_;refine L.set (v:=S _) kdsk4_sz9 rfl rfl rfl bx4 rfl (fun wl27 bx4 hw hzl27=>?_);have hsz:=hB.size;have hB:=hB.set hw om_;have bx3:=bx3.carryR hw om_;have bx5:=bx5.carryR hw om_;have bx8:=bx8.carryR hw om_;have hW:=hW.trans (hw.mono (fun k _ e=>by first | exact .inl e | exact .inr e));refine L.set (v:=.int _ _) kdsk4_sz36 rfl rfl rfl bx5 rfl (fun wl28 bx5 hw hzl28=>?_);have hsz:=hB.size;have hB:=hB.set hw om_;have bx3:=bx3.carryR hw om_;have bx4:=bx4.carryR hw om_;have bx8:=bx8.carryR hw om_;have hW:=hW.trans (hw.mono (fun k _ e=>by first | exact .inl e | exact .inr e));refine L.nil (thn_n (WI.ret (blk_r (?_))));have hk:=kf_of_gr w19.heap.size hW (fun k o e ho=>e.elim (fun e=>by subst e;exact bxo4.cells ho) (fun e=>by subst e;exact bxo5.cells ho));exact ⟨hk,rfl,pre,x,rfl,hq,(by have e:((x.2.1:Nat):Int)=(i:Nat):=h25;rw [beq_iff_eq];omega),bx4,bx5,hB⟩
    ·have h25:=of_decide_eq_false g25;refine WI.skip ?_;refine blk_n ?_;have hk:=kp_of_bel w19.heap.size (Gr.refl (fun _=>False) W) hle;refine ⟨hk.1,hk.2,fun y hy=>?_,bx3,bx4,bx5,hB,hle⟩;rcases List.mem_append.1 hy with hy | hy
     · exact hq y hy
     · rw [List.mem_singleton.1 hy,beq_eq_false_iff_ne];intro e;exact h25 (by show ((x.2.1:Nat):Int)=_;rw [e])
   rotate_left 1
   ·rintro Db c pre Wd hD hpk ⟨rfl,q,x,rfl,hq,hx,bx4,bx5,hB⟩ hK;have hf:(bkW D.ca).find? (fun y=>y.2.1 == i)=some x:=find_prefixW hq hx (by obtain ⟨k,hk⟩:=hpk;exact ⟨k,hk⟩);have hf2:D.ca.reverse.find? (fun y=>y.1 == i)=some x.2:=by
      rw [← bk_sndW,List.find?_map];show ((bkW D.ca).find? fun y=>y.2.1 == i).map _=_;rw [hf];rfl
    have hxm:x.2.2.length=64:=(h2.cac x.2 (by have:=List.mem_of_find?_eq_some hf2;simpa using this)).2;have hrd:rdD D i=x.2.2:=by unfold rdD;rw [hf2]
    rw [hrd];rw [fx_id hxm] at bx4;have hne:∀ j,j<w19.heap.size→¬ j=Db:=fun j hj e=>by omega
    refine W.ret (blk_r (thn_r (finMR_mk (.inr rfl) ?_)));exact ⟨Db,rfl,hK,_,resC2 rfl kdsk4_oc9 kdsk4_oc36 rfl rfl (bx4.carryR (gr_putObj _ _ _) (hne _ om_)) (bx5.carryR (gr_putObj _ _ _) (hne _ om_)),rfl,hB.set (gr_putObj _ _ _) om_⟩
   rintro Db xs w8 hD rfl ⟨hq,bx3,bx4,bx5,hB,hle⟩ hK;have hf2:D.ca.reverse.find? (fun y=>y.1 == i)=none:=by
     rw [← bk_sndW,List.find?_map];show ((bkW D.ca).find? fun y=>y.2.1 == i).map _=_;rw [List.find?_eq_none.2 (fun y hy=>by rw [hq y hy];simp)];rfl
   have hrd:rdD D i=D.pl.getD i []:=by unfold rdD;rw [hf2]
   rw [hrd];have hb:=hb0.carry hB;have hp:=hp0.carry hB;have hsi:(D.pl.getD i []).length=64:=h2.sec _ (by rw [List.getD_eq_getElem?_getD,List.getElem?_eq_getElem hi];exact List.getElem_mem hi);refine blk_n (thn_n (W.seq (W.drawD (fun k=>k=w3.heap.size∨k=w4.heap.size) (fun k=>k=w3.heap.size∨k=w4.heap.size) 8 kdsk4_mixed (fun wD29 hw=>?_))));have hb:=hb.carry hw;have bx3:=bx3.carry hw;have bx4:=bx4.carry hw;have bx5:=bx5.carry hw;have hB0:=Gr.refl (fun k=>k=w3.heap.size∨k=w4.heap.size) wD29;have hR0:=Gr.refl (fun k=>k=w3.heap.size∨k=w4.heap.size) wD29;have hD:=hw;have hpD:=hp.carry hw;refine LAD.take0 (i:=0) rfl kr_ kr_ kr_ kr_ (fun w hw=>x_mv (v:=.pointer _) rfl) rfl ?_;refine LAD.take0 (i:=1) rfl kr_ kr_ kr_ kr_ (fun w hw=>x_nil rfl) rfl ?_;refine LAD.take0 (i:=2) rfl kr_ kr_ kr_ kr_ (fun w hw=>x_fa kdsk4_fo90_0 rfl) rfl ?_;refine LAD.take0 (i:=3) rfl kr_ kr_ kr_ kr_ (fun w hw=>x_ld (v:=.slice _ _ _) kdsk4_oc87 rfl (hw.keepR (fun e=>by rcases e with e | e <;> (have e:(_:Nat)=_:=e;(try dsimp only at e);omega)) (hb.cell0 rfl))) rfl ?_;refine LAD.take0 (i:=4) rfl kr_ kr_ kr_ kr_ (fun w hw=>x_ld (v:=.int _ _) kdsk4_oc3 rfl (hw.keepR (fun e=>by rcases e with e | e <;> (have e:(_:Nat)=_:=e;(try dsimp only at e);omega)) (bx3.cell (i:=0) rfl))) rfl ?_;refine LAD.take0 (i:=5) rfl kr_ kr_ kr_ kr_ (fun w hw=>x_ia (j:=i) Tryz.underlying87 kdsk4_sz92 rfl rfl om_ om_) rfl ?_;refine LAD.take0 (i:=6) rfl kr_ kr_ kr_ kr_ (fun w hw=>x_slArr Tryz.underlying92 kdsk4_sz5 rfl rfl) rfl ?_;refine LAD.take0 (i:=7) rfl kr_ kr_ kr_ kr_ (fun w hw=>x_b2s (l:=D.pl.getD i []) Tryz.underlying59 Tryz.underlying5 Tryz.underlying9 rfl (by rw [hsi]) (fun m hm=>plV_cell (hpD.carryR hw (fun e=>by rcases e with e | e <;> omega)) h2.sec hi m (by rwa [hsi] at hm))) rfl ?_;refine LAD.step (rs:=[8]) hR0 (fun _=>hB0) kr_ (by simp) ⟨⟨_,rfl,?_⟩,trivial⟩;refine L.set (v:=S _) kdsk4_sz9 rfl rfl rfl bx4 rfl (fun wl37 bx4 hw hzl37=>?_);have hR0:=hR0.into hw (by first | exact .inl rfl | exact .inr rfl);have bx5:=bx5.carryR hw om_;refine L.nil (thn_n (LAD.step' (rs:=[9]) hR0 kr_ kr_ (by simp) ⟨⟨_,rfl,?_⟩,trivial⟩));refine L.set (v:=.int _ _) kdsk4_sz36 rfl rfl rfl bx5 rfl (fun wl38 bx5 hw hzl38=>?_);have hR0:=hR0.into hw (by first | exact .inl rfl | exact .inr rfl);have bx4:=bx4.carryR hw om_;refine L.nil (thn_n (LAD.done kr_ kr_ hR0 ?_));have hb:=trivial;have bx3:=trivial;have hall:=((Gr.refl (fun k=>k=w3.heap.size∨k=w4.heap.size) w8).carry hD).trans hR0;refine thn_n (W.ret (finMR_mk (.inr rfl) ?_));have hK1:=defk hall hK (fun e=>by rcases e with e | e <;> omega);have hBf:=hB.step hall (fun i hi e=>by rcases e with e | e <;> omega);exact ⟨Db,rfl,hK1,_,resC2 rfl kdsk4_oc9 kdsk4_oc36 rfl rfl (bx4.carryR (gr_putObj _ _ _) (fun e=>by have e:w3.heap.size=Db:=e;omega)) (bx5.carryR (gr_putObj _ _ _) (fun e=>by have e:w4.heap.size=Db:=e;omega)),rfl,hBf.set (gr_putObj _ _ _) om_⟩
end Go.Gx
namespace Go.Gx
open Go.Proofs
theorem kwal4_en83:Go.Proofs.Enters Tryz.prog 83:=Go.Proofs.enters_of Tryz.func83 kr_ rfl
theorem kwal4_en84:Go.Proofs.Enters Tryz.prog 84:=Go.Proofs.enters_of Tryz.func84 kr_ rfl
theorem kwal4_fo134_1:fieldOff Tryz.prog 134 1=some 4:=by kernel_rfl
theorem kwal4_fo134_2:fieldOff Tryz.prog 134 2=some 5:=by kernel_rfl
theorem kwal4_oc35:oneCellT Tryz.prog 35=true:=by kernel_rfl
theorem kwal4_oc4:oneCellT Tryz.prog 4=true:=by kernel_rfl
def logV (p:Pt) (b:Nat) (br:Bool):List Value:=ptV p++[.pointer (some ⟨b,0,none⟩),.bool br]
def LogAt (n0:Nat) (w:World) (bl b:Nat) (p:Pt):Prop:=n0≤bl∧Box w bl 134 (logV p b false)
theorem LogAt.bel {n0 bl b:Nat} {w w':World} {p:Pt} (h:LogAt n0 w bl b p) (g:Bel w w'):LogAt n0 w' bl b p:=⟨h.1,h.2.carry g⟩
theorem log_pt {w:World} {bl:Nat} {T:TypeId} {p:Pt} {rest:List Value} (h:Box w bl T (ptV p++rest)):∀ j,j<4→w.cell? ⟨bl,0+0+j,none⟩=(ptV p)[j]? := fun j hj=>by
  have hl:(ptV p).length=4:=rfl;have e:(ptV p)[j]? = some ((ptV p)[j]'om_):=List.getElem?_eq_getElem om_;rw [e];simp only [Nat.zero_add];exact h.cell (by first | rw [List.getElem?_append_left om_,e] | rw [Nat.zero_add,Nat.zero_add,List.getElem?_append_left om_,e])
def hlf (n:Nat):Nat:=(n - 2) / 2
def roomN (n:Nat):Nat:=hlf n * 64
theorem room_w (n0 b:Nat) (D:Dk) (w:World) (h:DiskAt n0 w b D) (h6:6≤D.pl.length):Ret Tryz.prog 78 #[.pointer (some ⟨b,0,none⟩)] w fun v w'=>v=.int .i64 (roomN D.pl.length:Nat)∧w'=w:=by
  have hs:=h.2.1.small;refine ret_of_W Tryz.func78 rfl (Nat.le_of_ble_eq_true rfl) (res1 rfl) ?_;refine W.seq (W.region (L.val (x_as (v:=.int _ _) rfl) rfl ?_));refine L.nil (thn_n (W.seq (W.region (L.val (x_mv (v:=.pointer _) rfl) rfl ?_))));refine L.ret (x_call kwal4_en83 rfl) rfl (sectors_d n0 b D _ h) ?_;rintro _ w4 ⟨rfl,hq⟩;rw [hq];refine L.val (x_sub rfl rfl (wr64 om_)) rfl ?_;refine L.val (x_quo rfl rfl (by decide) (wq64 om_ (by decide))) rfl ?_;refine L.val (x_mul rfl rfl (wr64 om_)) rfl ?_;refine L.val (x_as (v:=.int _ _) rfl) rfl ?_;refine L.nil (thn_n (W.ret (fin_mk (.inr rfl) ?_)));refine ⟨?_,rfl⟩;unfold roomN hlf;show Value.int .i64 _=_;congr 1;omega
def stN (n half:Nat):Nat:=2+half * hlf n
theorem stN_le {n half:Nat} (h6:6≤n) (hh:half≤1):stN n half+hlf n≤n:=by
  unfold stN;have h1:half * hlf n≤1 * hlf n:=Nat.mul_le_mul_right _ hh;have h2:2+2 * hlf n≤n:=by unfold hlf;omega
  omega
theorem start_w (n0 b:Nat) (D:Dk) (half:Nat) (w:World) (h:DiskAt n0 w b D) (h6:6≤D.pl.length) (hh:half≤1):Ret Tryz.prog 88 #[.pointer (some ⟨b,0,none⟩),.int .i64 (half:Nat)] w fun v w'=>v=.int .i64 (stN D.pl.length half:Nat)∧w'=w:=by
  unfold stN;have hs:=h.2.1.small;have hm:(half:Int) * ((((D.pl.length:Nat):Int) - 2) / 2)=((half * hlf D.pl.length:Nat):Int):=by
    have:(((D.pl.length:Nat):Int) - 2) / 2=((hlf D.pl.length:Nat):Int):=by unfold hlf;omega
    rw [this];rfl
  have hb:half * hlf D.pl.length≤4096:=by
    have h1:half * hlf D.pl.length≤1 * hlf D.pl.length:=Nat.mul_le_mul_right _ hh;have h2:hlf D.pl.length≤4096:=by unfold hlf;omega
    omega
  generalize half * hlf D.pl.length=z at hm hb ⊢;refine ret_of_W Tryz.func88 rfl (Nat.le_of_ble_eq_true rfl) (res1 rfl) ?_;refine W.seq (W.region (L.val (x_as (v:=.int _ _) rfl) rfl ?_));refine L.nil (thn_n (W.seq (W.region (L.val (x_mv (v:=.int _ _) rfl) rfl ?_))));refine L.val (x_mv (v:=.pointer _) rfl) rfl ?_;refine L.ret (x_call kwal4_en83 rfl) rfl (sectors_d n0 b D _ h) ?_;rintro _ w7 ⟨rfl,hq⟩;rw [hq];refine L.val (x_sub rfl rfl (wr64 om_)) rfl ?_;refine L.val (x_quo rfl rfl (by decide) (wq64 om_ (by decide))) rfl ?_;refine L.val (x_mul rfl rfl ((congrArg IntKind.i64.wrap hm).trans (wr64 om_))) rfl ?_;refine L.val (x_add rfl rfl (wr64 om_)) rfl ?_;refine L.val (x_as (v:=.int _ _) rfl) rfl ?_;refine L.nil (thn_n (W.ret (fin_mk (.inr rfl) ?_)));refine ⟨?_,rfl⟩;show Value.int .i64 _=_;congr 1
theorem alive_w (n0 bl b:Nat) (D:Dk) (p:Pt) (w:World) (h:DiskAt n0 w b D) (hl:LogAt n0 w bl b p) (hd:D.dead=false):Ret Tryz.prog 75 #[.pointer (some ⟨bl,0,none⟩)] w fun v w'=>v=.int .i64 0∧w'=w:=by
  have hb:=hl.2;refine ret_of_W Tryz.func75 rfl (Nat.le_of_ble_eq_true rfl) (res1 rfl) ?_;refine W.seq (W.region (L.val (x_as (v:=.int _ _) rfl) rfl ?_));refine L.nil (thn_n (W.seq (W.block (W.seq (W.region (L.val (x_mv (v:=.pointer _) rfl) rfl ?_))))));refine L.val (x_eqp0 Tryz.underlying98 rfl rfl) rfl ?_;refine L.val (x_mv (v:=.bool _) rfl) rfl ?_;refine L.splitat (dj:=6) (b:=_) rfl (fun g6=>?_) (fun g6=>?_)
  ·have h6:=g6;cases g6
  ·have h6:=g6;refine L.gyes' (dj:=6) (b:=_) rfl rfl g6 ?_;refine L.val (x_mv (v:=.pointer _) rfl) rfl ?_;refine L.gyes' (dj:=6) (b:=_) rfl rfl g6 ?_;refine L.val (x_nil rfl) rfl ?_;refine L.gyes' (dj:=6) (b:=_) rfl rfl g6 ?_;refine L.val (x_fa kwal4_fo134_1 rfl) rfl ?_;refine L.gyes' (dj:=6) (b:=_) rfl rfl g6 ?_;refine L.val (x_ld (v:=.pointer _) kwal4_oc35 rfl (hb.cell0 rfl)) rfl ?_;refine L.gyes' (dj:=6) (b:=_) rfl rfl g6 ?_;refine L.val (x_eqp0 Tryz.underlying35 rfl rfl) rfl ?_;refine L.val (x_pick_f (v:=.bool _) (congrArg Value.bool g6) rfl) rfl ?_;refine L.val (x_as (v:=.bool _) rfl) rfl ?_;refine L.nil (thn_n (W.cond (b:=_) rfl (fun g11=>?_) (fun g11=>?_)))
   ·have h11:=g11;cases g11
   ·have h11:=g11;refine W.seq (W.region (L.val (x_mv (v:=.pointer _) rfl) rfl ?_));refine L.val (x_nil rfl) rfl ?_;refine L.val (x_fa kwal4_fo134_2 rfl) rfl ?_;refine L.val (x_ld (v:=.bool _) kwal4_oc4 rfl (hb.cell0 rfl)) rfl ?_;refine L.val (x_mv (v:=.bool _) rfl) rfl ?_;refine L.splitat (dj:=18) (b:=_) rfl (fun g18=>?_) (fun g18=>?_)
    ·have h18:=g18;cases g18
    ·have h18:=g18;refine L.gyes' (dj:=18) (b:=_) rfl rfl g18 ?_;refine L.val (x_mv (v:=.pointer _) rfl) rfl ?_;refine L.gyes' (dj:=18) (b:=_) rfl rfl g18 ?_;refine L.val (x_nil rfl) rfl ?_;refine L.gyes' (dj:=18) (b:=_) rfl rfl g18 ?_;refine L.val (x_fa kwal4_fo134_1 rfl) rfl ?_;refine L.gyes' (dj:=18) (b:=_) rfl rfl g18 ?_;refine L.val (x_ld (v:=.pointer _) kwal4_oc35 rfl (hb.cell0 rfl)) rfl ?_;refine L.gyes' (dj:=18) (b:=_) rfl rfl g18 ?_;refine L.ret (x_call kwal4_en84 rfl) rfl (dead_d n0 b D _ h) ?_;rintro _ w23 ⟨rfl,hq⟩;rw [hq];refine L.val (x_pick_f (v:=.bool _) (congrArg Value.bool g18) rfl) rfl ?_;refine L.val (x_as (v:=.bool _) rfl) rfl ?_;refine L.nil (thn_n (W.cond (b:=_) rfl (fun g23=>?_) (fun g23=>?_)))
     ·have h23:=g23;rw [hd] at g23;cases g23
     ·have h23:=g23;refine W.skip (blk_n (thn_n (W.seq (W.region (L.val (x_as (v:=.int _ _) rfl) rfl ?_)))));refine L.nil (thn_n (W.ret (fin_mk (.inr rfl) ?_)));exact ⟨rfl,rfl⟩
theorem alive_nil (w:World):Ret Tryz.prog 75 #[.pointer none] w fun v w'=>v=.int .i64 1∧w'=w:=by
  refine ret_of_W Tryz.func75 rfl (Nat.le_of_ble_eq_true rfl) (res1 rfl) ?_;refine W.seq (W.region (L.val (x_as (v:=.int _ _) rfl) rfl ?_));refine L.nil (thn_n (W.seq (W.block (W.seq (W.region (L.val (x_mv (v:=.pointer _) rfl) rfl ?_))))));refine L.val (x_eqp0 Tryz.underlying98 rfl rfl) rfl ?_;refine L.val (x_mv (v:=.bool _) rfl) rfl ?_;refine L.splitat (dj:=6) (b:=_) rfl (fun g6=>?_) (fun g6=>?_)
  ·have h6:=g6;(iterate 5 refine L.gno (dj:=6) (b:=_) rfl rfl g6 rfl ?_);refine L.val (x_pick_t (v:=.bool _) (congrArg Value.bool g6) rfl) rfl ?_;refine L.val (x_as (v:=.bool _) rfl) rfl ?_;refine L.nil (thn_n (W.cond (b:=true) rfl (fun _=>?_) (fun h=>nomatch h)));refine W.seq (W.region (L.val (x_as (v:=.int _ _) rfl) rfl ?_));refine L.nil (thn_n (W.ret (blk_r (thn_r (fin_mk (.inr rfl) ?_)))));exact ⟨rfl,rfl⟩
  ·have h6:=g6;cases g6
def zeroLog:List Value:=[.int .u64 0,.int .i64 0,.int .i64 0,.int .i64 0,.pointer none,.bool false]
end Go.Gx
namespace Go.Gx
open Go.Proofs
theorem lg_of_dk:∀ T,dkTy T=true→lgTy T=true:=fun T h=>by unfold lgTy;rw [h];rfl
theorem LogAt.dg {n0 n1 bl b:Nat} {w w':World} {p:Pt} (h:LogAt n0 w bl b p) (g:Dg dkTy n1 w w'):LogAt n0 w' bl b p:=⟨h.1,h.2.dg g rfl⟩
theorem DiskAt.log {n0 bl b b':Nat} {w w':World} {p:Pt} {D:Dk} (h:DiskAt n0 w b' D) (hl:LogAt n0 w bl b p) (g:Gr (fun k=>k=bl) w w'):DiskAt n0 w' b' D:=
  h.carryR g (fun k e=>⟨_,_,e ▸ hl.2,by decide,by decide,by decide⟩)
theorem Dg.log {n0 bl b:Nat} {w w':World} {p:Pt} (hl:LogAt n0 w bl b p) (g:Gr (fun k=>k=bl) w w'):Dg lgTy n0 w w':=
  Gr.mono g (fun k _ e=>by have e:k=bl:=e;rw [e];exact DkB.box hl.2 kr_ hl.1)
end Go.Gx
namespace Go.Gx
variable {P:Program} {ops:Array Oper} {Q:Exit→Act→World→Prop} {C0 C1:World→Prop}
def lastN:Nat→List Nat→Nat
  | a,[]=>a
  | _,b :: r=>lastN b r
def linkB (ops:Array Oper):Nat→List Nat→Bool
  | _,[]=>true
  | a,b :: r=>((ops[a]?).map (fun o=>o.after.any fun e=>Region.binds .any e && Nat.beq e.on b)).getD false && linkB ops b r
def closeB (listed:Array Bool):Nat→List Nat→Bool
  | _,[]=>true
  | a,b :: r=>(!listed.getD a false || listed.getD b false) && closeB listed b r
theorem closeB.last {listed:Array Bool}:∀ (p:List Nat) (a:Nat),closeB listed a p=true→listed.getD a false=true→listed.getD (lastN a p) false=true
  | [],_,_,h=>h
  | b :: r,a,h,h1=>by
    simp only [closeB,Bool.and_eq_true,Bool.or_eq_true,Bool.not_eq_true'] at h;refine closeB.last r b h.2 ?_;rcases h.1 with h2 | h2
    · rw [h1] at h2;cases h2
    · exact h2
theorem closeB.step {listed:Array Bool} {j:Nat} (hj:j∈Region.ready .any ops listed):∀ (p:List Nat) (a:Nat),linkB ops a p=true→closeB listed a p=true→closeB (listed.setIfInBounds j true) a p=true
  | [],_,_,_=>rfl
  | b :: r,a,hl,h=>by
    simp only [linkB,closeB,Bool.and_eq_true,Bool.or_eq_true,Bool.not_eq_true'] at hl h ⊢;refine ⟨?_,closeB.step hj r b hl.2 h.2⟩;obtain ⟨hjun,oj,hoj,hall⟩:=mem_ready.1 hj;have mono:∀ k,listed.getD k false=true→(listed.setIfInBounds j true).getD k false=true:=fun k hk=>by
      by_cases e:j=k
      · subst e;rw [unlisted hjun] at hk;cases hk
      · rw [getD_set_ne false e];exact hk
    by_cases e:j=a
    · subst e;refine .inr (mono b ?_);rw [hoj] at hl;simp only [Option.map_some,Option.getD_some] at hl;obtain ⟨e,he,hb⟩:=Array.any_eq_true'.1 hl.1;simp only [Bool.and_eq_true] at hb;have:=hall e he hb.1
      rwa [Nat.eq_of_beq_eq_true hb.2] at this
    · rcases h.1 with h1 | h1
      · exact .inl (by rw [getD_set_ne false e];exact h1)
      · exact .inr (mono b h1)
theorem wpAnyD.takeP {i st:Nat} {oi:Oper} {v:Value} {p:List Nat} (hi:ops[i]? = some oi) (hsel:∀ (j:Nat) (o:Oper) cs b,ops[j]? = some o→o.op≠.select cs b)
    (hQ:∀ c a w,Q (.panic c) (a.put oi.dst v) w→Q (.panic c) a w) (hlk:linkB ops st p=true) (hla:lastN st p=i) (hne:st≠i):
    ∀ (fuel:Nat) (listed:Array Bool) (a:Act) (w:World),
      closeB listed st p=true→
      (∀ j oj,ops[j]? = some oj→j≠i→listed.getD j true=false→(∀ e∈oj.after,Region.binds .any e=true→e.on≠i)→oi.apart ops oj=true)→
      i∈Region.ready .any ops listed→YF P ops C1 oi v a→
      wpAnyD P ops C0 C1 st Q fuel (listed.setIfInBounds i true) (a.put oi.dst v) w→wpAnyD P ops C0 C1 st Q (fuel+1) listed a w:=by
  intro fuel;induction fuel with
  | zero=>
    intro listed a w hcl _ hr hy H;have hun:=(mem_ready.1 hr).1;have hst0:listed.getD st false=false:=by
      cases hh:listed.getD st false
      · rfl
      · have:=closeB.last p st hcl hh;rw [hla,unlisted hun] at this;cases this
    have hC:C1 w:=H.2.1 (by rw [getD_set_ne false hne.symm];exact hst0);refine ⟨H.1,fun _=>hC,fun h=>(by rw [h] at hr;cases hr),fun j hj=>?_⟩;by_cases hji:j=i
    · subst hji;exact hy.take hi hC H
    · have:=ready_mono hj hji;rw [H.2.2.1] at this;cases this
  | succ fuel ih=>
    intro listed a w hcl hfree hr hy H;have hun:=(mem_ready.1 hr).1;have hst0:listed.getD st false=false:=by
      cases hh:listed.getD st false
      · rfl
      · have:=closeB.last p st hcl hh;rw [hla,unlisted hun] at this;cases this
    have hC:C1 w:=H.2.1 (by rw [getD_set_ne false hne.symm];exact hst0);refine ⟨H.1,fun _=>hC,fun h=>(by rw [h] at hr;cases hr),fun j hj=>?_⟩;by_cases hji:j=i
    · subst hji;exact hy.take hi hC H
    · have h1:=H.2.2.2 j (ready_mono hj hji);obtain ⟨hjun,oj,hoj,hall⟩:=mem_ready.1 hj;have hnot:∀ e∈oj.after,Region.binds .any e=true→e.on≠i:=fun e he hb heq=>by
        have h1:=hall e he hb;rw [heq,unlisted hun] at h1;cases h1
      have h2:=wpOp_lateF hoj (hfree j oj hoj hji hjun hnot) (fun cs b=>hsel i oi cs b hi) (fun cs b=>hsel j oj cs b hoj) hQ hy h1;refine wpOp_mono (fun a' w' h3=>ih (listed.setIfInBounds j true) a' w' (closeB.step hj p st hlk hcl) (fun k ok hk hki hu hno=>?_) (ready_mono hr (Ne.symm hji)) h3.1 ?_) h2
      · refine hfree k ok hk hki ?_ hno;by_cases hjk:j=k
        · subst hjk;exact hjun
        · rw [getD_set_ne true hjk] at hu;exact hu
      · rw [Array.setIfInBounds_comm _ _ hji];exact h3.2
section
variable {n st:Nat} {K:List Deferred→Env→World→Prop} {D:List Deferred} {E:Env} {w:World}
theorem LAD.takeP {fuel:Nat} {listed:Array Bool} {i d:Nat} {op:Op} {t:TypeId} {q:String} {af:Array Edge} {v:Value} (p:List Nat)
    (ho:ops[i]? = some ⟨some d,op,t,q,af,none⟩) (hs:Region.noSelect ops=true) (hf:Region.free .any ops listed i=true) (hr:(Region.ready .any ops listed).contains i=true) (hne:Nat.beq st i=false)
    (hlk:(linkB ops st p && Nat.beq (lastN st p) i)=true) (hl:closeB listed st p=true)
    (hx:∀ w,C1 w→X P op t E w v w) (hd:Nat.blt d n=true) (k:LAD P n ops C0 C1 st K fuel (listed.setIfInBounds i true) D (upd E d v) w):LAD P n ops C0 C1 st K (fuel+1) listed D E w:=by
  intro a ha;simp only [Bool.and_eq_true] at hlk;refine wpAnyD.takeP ho (Region.noSelect_spec hs) ?_ hlk.1 (Nat.eq_of_beq_eq_true hlk.2) (fun h=>by subst h;simp at hne) fuel listed a w hl (Region.free_spec ho hf) (by simpa using hr)
    (.inl ⟨by simp [Region.wanted],fun w hw=>?_⟩) (k _ (ha.put v hd))
  · rintro c a w ⟨_,E,_,h,_⟩;cases h
  · have:=hx w hw;unfold X at this;rw [execOp_bare,ha.eval];exact this
end
end Go.Gx
namespace Go.Gx
open Go.Proofs
theorem DiskAt.carry {n0 b:Nat} {w w':World} {D:Dk} (h:DiskAt n0 w b D) (g:Bel w w'):DiskAt n0 w' b D:=h.bel g
theorem LogAt.carry {n0 bl b:Nat} {w w':World} {p:Pt} (h:LogAt n0 w bl b p) (g:Bel w w'):LogAt n0 w' bl b p:=h.bel g
theorem Dg.carry {ty:TypeId→Bool} {n0:Nat} {w w' w'':World} (h:Dg ty n0 w w') (g:Bel w' w''):Dg ty n0 w w'':=h.trans (Dg.of_bel g)
def pad (s:Str):Str:=s++zeros (64 - s.length)
theorem pad_len {s:Str} (h:s.length≤64):(pad s).length=64:=by unfold pad;rw [List.length_append,zeros_len];omega
def ckS (all:Str) (j:Nat):Str:=pad ((all.drop (64 * j)).take 64)
theorem ckS_len (all:Str) (j:Nat):(ckS all j).length=64:=pad_len (by rw [List.length_take];omega)
def wrC (D:Dk) (st:Nat) (all:Str) (j:Nat):Dk:={ D with ca:=D.ca++(List.range j).map (fun k=>(st+k,ckS all k)),ops:=D.ops+j }
def allS (D:Dk) (p:Pt) (at':Nat) (s:Str):Str:=if at' % 64=0 then s else (rdD D (stN D.pl.length p.half+at' / 64)).take (at' % 64)++s
def wrs (D:Dk) (p:Pt) (at':Nat) (s:Str):Dk:=
  wrC D (stN D.pl.length p.half+at' / 64) (allS D p at' s) (if s=[] then 0 else ((allS D p at' s).length+63) / 64)
def comD (D:Dk) (p:Pt) (at':Nat) (s:Str):Dk:=flD (wrD (flD (wrD (wrs D p at' s) (p.ep % 2) (zeros 64))) (p.ep % 2) (hdrS p))
theorem rdD_len {D:Dk} (h:DkOk D) {i:Nat} (hi:i<D.pl.length):(rdD D i).length=64:=by
  unfold rdD;cases hq:D.ca.reverse.find? (fun y=>y.1 == i) with
  | none=>exact h.sec _ (by rw [List.getD_eq_getElem?_getD,List.getElem?_eq_getElem hi];exact List.getElem_mem hi)
  | some x=>exact (h.cac x (by have:=List.mem_of_find?_eq_some hq;simpa using this)).2
theorem allS_len {D:Dk} (h:DkOk D) {p:Pt} {at':Nat} {s:Str} (h6:6≤D.pl.length) (hh:p.half≤1) (hr:at'≤roomN D.pl.length):(allS D p at' s).length=at' % 64+s.length:=by
  unfold allS;have:=stN_le h6 hh;unfold roomN at hr;split
  · omega
  · rw [List.length_append,List.length_take,rdD_len h om_];omega
theorem hdrS_len (p:Pt):(hdrS p).length=64:=by simp [hdrS,turnS,ptS_len,zeros_len]
end Go.Gx
namespace Go.Gx
open Go.Proofs
theorem kwal7_en75:Go.Proofs.Enters Tryz.prog 75:=Go.Proofs.enters_of Tryz.func75 kr_ rfl
def need (l:List Str):Nat:=(l.map fun s=>min s.length 30000+13).sum
theorem makeS_le (l:List Str):(makeS l).1.length≤need l:=by
  unfold makeS;split
  · exact Nat.zero_le _
  · rename_i h
    exact flat_frm (by simpa using h)
theorem len_need (l:List Str):l.length≤need l:=by
  induction l with
  | nil=>exact Nat.zero_le _
  | cons x l ih=>simp only [need,List.map_cons,List.sum_cons,List.length_cons] at ih ⊢;omega
def appP (q:Pt) (l:List Str):Pt:=⟨q.ep+1,q.half,q.tail+(makeS l).1.length,q.cnt+l.length⟩
def appA (D:Dk) (q:Pt) (l:List Str):Int × Dk × Pt:=
  if (makeS l).2=0∧l≠[] then (if roomN D.pl.length<q.tail+(makeS l).1.length then (210,D,q) else (0,comD D (appP q l) q.tail (makeS l).1,appP q l)) else ((makeS l).2,D,q)
structure QOk (D:Dk) (q:Pt):Prop where
  h6:6≤D.pl.length
  arm:D.armed=0
  live:D.dead=false
  ca:D.ca=[]
  ops:D.ops<900000000
  half:q.half≤1
  tail:q.tail≤roomN D.pl.length
  ep:q.ep<1000000000
  cnt:q.cnt<2000000000
theorem roomN_le {n:Nat} (h:n≤4096):roomN n≤1000000:=by unfold roomN hlf;omega
theorem append_nil (v:Value) (w:World):Ret Tryz.prog 41 #[.pointer none,v] w fun v w'=>v=.int .i64 1∧w'=w:=by
  refine ret_of_W Tryz.func41 rfl (Nat.le_of_ble_eq_true rfl) (res1 rfl) ?_;refine W.seq (W.region (L.val (x_as (v:=.int _ _) rfl) rfl ?_));refine L.nil (thn_n (W.seq (W.seq (W.region (L.val (x_mv (v:=.pointer _) rfl) rfl ?_)))));refine L.ret (x_call kwal7_en75 rfl) rfl (alive_nil _) ?_;rintro _ w9 ⟨rfl,hq9⟩;rw [hq9];refine L.val (x_as (v:=.int _ _) rfl) rfl ?_;refine L.nil (thn_n (W.seq (W.region (L.val (x_mv (v:=.int _ _) rfl) rfl ?_))));refine L.val (x_neq rfl rfl) rfl ?_;refine L.nil (thn_n (W.cond (b:=_) rfl (fun g11=>?_) (fun g11=>?_)))
  ·have h11:=dne_t g11;refine W.seq (W.region (L.val (x_mv (v:=.int _ _) rfl) rfl ?_));refine L.val (x_as (v:=.int _ _) rfl) rfl ?_;refine L.nil (thn_n (W.ret (thn_r (fin_mk (.inr rfl) ?_))));exact ⟨rfl,rfl⟩
  ·have h11:=dne_f g11;cases g11
end Go.Gx
