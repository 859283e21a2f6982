/- The parts and levels of an expression, counted by the program and by the document. Conditions: none. -/
import Derived.Shelf.Sort.Plain
import Derived.Shelf.Slices.In.SortNone
import Derived.Test.YtfbcfdhhgdmgkaaGreatDoorProg
import Derived.Test.YtfbcfdhhgdmgkaaGreatDoorDbLex
import Derived.Test.YtfbcfdhhgdmgkaaGreatDoorDbSeq
namespace Go.Gx
open Go.Proofs
theorem ktm1_ag26:aggT Tryz.prog 26 9=true:=by kernel_rfl
theorem ktm1_en19:Go.Proofs.Enters Tryz.prog 19:=Go.Proofs.enters_of Tryz.func19 kr_ rfl
theorem ktm1_fo26_7:fieldOff Tryz.prog 26 7=some 7:=by kernel_rfl
theorem ktm1_oc24:oneCellT Tryz.prog 24=true:=by kernel_rfl
theorem ktm1_sz26:(Tryz.prog.info? 26).map (·.size)=some 9:=by kernel_rfl
theorem ktm1_zr26:(Tryz.prog.info? 26).bind (·.zero)=some (Value.agg [Value.int .i64 0,S [],S [],Value.int .i64 0,Value.slice none 0 0,Value.slice none 0 0,Value.slice none 0 0,Value.slice none 0 0,Value.int .i64 0].toArray):=by kernel_rfl
theorem tcount_ok:∀ (N:Nat) (s:Tm),SizeOf.sizeOf s<N→∀ (A0:Nat→Prop) (cs:List Value) (m:Int) (w:World),0≤m→m≤1000000→TmC A0 w cs s→
    Ret Tryz.prog 19 #[.agg cs.toArray,.int .i64 m] w fun v w'=>(∃ b:Nat,v=.tuple #[.int .i64 (min (s.size:Int) (m+1)),.int .i64 b]∧(b:Int)≤min (s.size:Int) (m+1)∧((s.size:Int)≤m→b=s.deep))∧Bel w w':=by
  intro N;induction N with
  | zero=>intro s h;omega
  | succ N ih=>
    intro s hN A0 cs m w hm0 hm1 hs0;obtain ⟨A,hs,hU⟩:∃ A:Nat→Prop,TmC A w cs s∧(∀ k,w.heap.size≤k→A k):=⟨_,Car.up hs0,fun _=>.inr⟩;clear hs0;obtain ⟨vn,vv,vh,vp,rfl,hn,hv,hsh,hp,hof,hnm,hi⟩:=hs.inv;obtain ⟨p,cap,row,rfl,p1,p2,p3,hr⟩:=hp;have hsz:=s.size_eq;have ht0:tsizeL (s.parts.take 0)=0:=by rw [List.take_zero,tsizeL]
    have hdp:=s.deep_eq;refine ret_of_W Tryz.func19 rfl (Nat.le_of_ble_eq_true rfl) (res2 rfl) ?_;have hB:=Gr.refl (fun _=>False) w;refine W.seq (W.region (L.box (cs:=_) rfl rfl (fun w2 bx2 hw hz2=>?_)));have hB:=hB.carry hw;have hr:=hr.carry hw;refine L.val (x_as (v:=.int _ _) rfl) rfl ?_;refine L.val (x_as (v:=.int _ _) rfl) rfl ?_;refine L.nil (thn_n (W.seq (W.region (L.val (x_as (v:=.int _ _) rfl) rfl ?_))));refine L.val (x_as (v:=.int _ _) rfl) rfl ?_;refine L.nil (thn_n (W.seq (W.seq (W.region (L.val (x_fa ktm1_fo26_7 rfl) rfl ?_)))));refine L.val (x_ld (v:=.slice _ _ _) ktm1_oc24 rfl (bx2.cell0 rfl)) rfl ?_;refine L.val (x_len_slice Tryz.underlying24 rfl) rfl ?_;refine L.val (x_mv (v:=.int _ _) rfl) rfl ?_;refine L.nil (thn_n (W.block (W.loop (fun m' E w'=>∃ (k d:Nat),m'=s.parts.length - k∧E 1=.int .i64 m∧E 6=.int .i64 (min (1+tsizeL (s.parts.take k):Nat) (m+1))∧E 7=.int .i64 (d:Nat)∧E 13=.slice p s.parts.length cap∧E 14=.int .i64 (s.parts.length:Nat)∧E 15=.int .i64 (k:Nat)∧(Bel w w')∧(RecRow TmC 9 A w' p row s.parts)∧(k≤s.parts.length)∧(((1+tsizeL (s.parts.take k):Nat):Int)≤m→d=tdeepL (s.parts.take k))∧((d:Int)+1≤min ((1+tsizeL (s.parts.take k):Nat):Int) (m+1))) (s.parts.length) ?_ ?_)))
    ·exact ⟨0,0,by omega,vi_,vi_,vi_,vi_,vi_,vi_,ao_,ao_,ao_,(by intro _;rfl),(by show ((0:Nat):Int)+1≤min (1:Int) (m+1);omega)⟩
    ·rintro _ E wL16 ⟨k,d,em,e1,e6,e7,e13,e14,e15,hB,hr,hk,hd,hd1⟩;rw [upd_self e1,upd_self e6,upd_self e7,upd_self e13,upd_self e14,upd_self e15];refine W.seq (W.region (L.val (x_lss rfl rfl) rfl ?_));refine L.nil (thn_n (W.seq (W.cond (b:=_) rfl (fun g16=>?_) (fun g16=>?_))))
     ·have h16:=of_decide_eq_true g16;have hlt:k<s.parts.length:=by omega
      obtain ⟨b,o,rfl,-,hc⟩:=hr.elem hlt;have hts:=tsizeL_take hlt;have hsl:=tsizeL_le (l:=s.parts) (k:=k+1);have hdt:=tdeepL_take hlt;have hdl:=tdeepL_le (s.parts.take k);have hs16:=hB.size;refine W.skip (thn_n (W.seq (W.block (W.seq (W.region (L.val (x_ia (j:=k) Tryz.underlying24 ktm1_sz26 rfl rfl om_ om_) rfl ?_))))));refine L.val (x_ldn (vs:=row k) ktm1_ag26 rfl (hr.len k hlt) hc) rfl ?_;refine L.alloc (cs:=[Value.int .i64 0,S [],S [],Value.int .i64 0,Value.slice none 0 0,Value.slice none 0 0,Value.slice none 0 0,Value.slice none 0 0,Value.int .i64 0]) ktm1_zr26 rfl rfl (fun w9 bx9 hw hz9=>?_);have hB:=hB.carry hw;have hr:=hr.carry hw;refine L.setRow ktm1_ag26 rfl rfl bx9 rfl (hr.len k hlt) (Car.one (hr.each k hlt)) (fun wl14 bx9 hw hzl14=>?_);have hsz:=hB.size;have hB:=hB.set hw om_;have hr:=hr.carryR hw (fun k e=>hU k (by have:k=_:=e;omega));refine L.nil (thn_n (W.seq (W.seq (W.region (L.val (x_mv (v:=.int _ _) rfl) rfl ?_)))));refine L.val (x_mv (v:=.int _ _) rfl) rfl ?_;refine L.val (x_gtr rfl rfl) rfl ?_;refine L.nil (thn_n (W.cond (b:=_) rfl (fun g21=>?_) (fun g21=>?_)))
      ·have h21:=of_decide_eq_true g21;have hmin:min (s.size:Int) (m+1)=min ((1+tsizeL (s.parts.take k):Nat):Int) (m+1):=by omega
       refine W.exit (thn_x (blk_miss rfl (thn_x (thn_x (blk_hit ?_)))));refine thn_n (W.seq (W.region (L.val (x_mv (v:=.int _ _) rfl) rfl ?_)));refine L.val (x_mv (v:=.int _ _) rfl) rfl ?_;refine L.val (x_add rfl rfl (wr64 om_)) rfl ?_;refine L.val (x_as (v:=.int _ _) rfl) rfl ?_;refine L.val (x_as (v:=.int _ _) rfl) rfl ?_;refine L.nil (thn_n (W.ret (fin_mk (.inr rfl) ?_)));refine ⟨⟨d+1,by rw [hmin];rfl,by omega,by omega⟩,hB⟩
      ·have h21:=dlt_f g21;refine W.skip (thn_n (W.seq (W.region (L.val (x_ldn (vs:=row k) ktm1_ag26 rfl (hr.len k hlt) (bx9.row (hr.len k hlt))) rfl ?_))));refine L.val (x_mv (v:=.int _ _) rfl) rfl ?_;refine L.val (x_mv (v:=.int _ _) rfl) rfl ?_;refine L.val (x_sub rfl rfl (wr64 om_)) rfl ?_;refine L.ret (x_call ktm1_en19 rfl) rfl (ih _ (by have:=Tm.part_lt hlt;omega) A _ _ _ om_ om_ (hr.each k hlt)) ?_;rintro _ w27 ⟨⟨b27,rfl,hb1,hb2⟩,hw⟩;have hB:=hB.carry hw;have hr:=hr.carry hw;have bx9:=bx9.carry hw;refine L.val (x_mv (v:=_) rfl) rfl ?_;refine L.val (x_ext (v:=.int _ _) rfl rfl) rfl ?_;refine L.val (x_ext (v:=.int _ _) rfl rfl) rfl ?_;refine L.val (x_as (v:=.int _ _) rfl) rfl ?_;refine L.val (x_as (v:=.int _ _) rfl) rfl ?_;refine L.nil (thn_n (W.region (L.val (x_mv (v:=.int _ _) rfl) rfl ?_)));refine L.val (x_mv (v:=.int _ _) rfl) rfl ?_;refine L.val (x_add rfl rfl (wr64 om_)) rfl ?_;refine L.val (x_mv (v:=.int _ _) rfl) rfl ?_;refine L.val (x_mv (v:=.int _ _) rfl) rfl ?_;refine L.val (x_max rfl rfl) rfl ?_;refine L.val (x_as (v:=.int _ _) rfl) rfl ?_;refine L.val (x_as (v:=.int _ _) rfl) rfl ?_;refine L.nil (blk_n (thn_n (W.region (L.val (x_add rfl rfl (wr64 om_)) rfl ?_))));refine L.val (x_mv (v:=.int _ _) rfl) rfl ?_;refine L.nil (thn_n ⟨rfl,?_⟩);refine ⟨_,?_,k+1,max d b27,rfl,vi_,vi_,vi_,vi_,vi_,vi_,ao_,ao_,ao_,(by intro hh;have q1:=hd om_;have q2:=hb2 om_;rw [hdt,← q1,← q2]),om_⟩;omega
     ·have h16:=dlt_f g16;have hkk:k=s.parts.length:=by omega
      have hmin:min (s.size:Int) (m+1)=min ((1+tsizeL (s.parts.take k):Nat):Int) (m+1):=by rw [hkk,List.take_length];omega
      have hdd:s.deep=1+tdeepL (s.parts.take k):=by rw [hkk,List.take_length];omega
      refine W.exit (thn_x (thn_x (blk_hit ?_)));refine thn_n (W.seq (W.region (L.val (x_mv (v:=.int _ _) rfl) rfl ?_)));refine L.val (x_mv (v:=.int _ _) rfl) rfl ?_;refine L.val (x_add rfl rfl (wr64 om_)) rfl ?_;refine L.val (x_as (v:=.int _ _) rfl) rfl ?_;refine L.val (x_as (v:=.int _ _) rfl) rfl ?_;refine L.nil (thn_n (W.ret (fin_mk (.inr rfl) ?_)));refine ⟨⟨d+1,by rw [hmin];rfl,by omega,by omega⟩,hB⟩
theorem tsize_ok (A0:Nat→Prop) (s:Tm) (cs:List Value) (w:World) (hs:TmC A0 w cs s):
    Ret Tryz.prog 10 #[.agg cs.toArray] w fun v w'=>v=.int .i64 (min (s.size:Int) 4097)∧Bel w w':=by
  have hlen:=hs.len;refine ret_of_W Tryz.func10 rfl (Nat.le_of_ble_eq_true rfl) (res1 rfl) ?_;have hB:=Gr.refl (fun _=>False) w;refine W.seq (W.region (L.box (cs:=cs) rfl rfl (fun w1 bx1 hw hz1=>?_)));have hB:=hB.carry hw;have hs:=hs.carry hw;refine L.val (x_as (v:=.int _ _) rfl) rfl ?_;refine L.nil (thn_n (W.seq (W.region (L.val (x_ldn (vs:=cs) ktm1_ag26 rfl hlen (bx1.row hlen)) rfl ?_))));refine L.ret (x_call ktm1_en19 rfl) rfl (tcount_ok _ s (Nat.lt_succ_self _) A0 _ 4096 _ om_ om_ hs) ?_;rintro _ w7 ⟨⟨b7,rfl,hb1,hb2⟩,hw⟩;have hB:=hB.carry hw;have hs:=hs.carry hw;have bx1:=bx1.carry hw;refine L.val (x_mv (v:=_) rfl) rfl ?_;refine L.val (x_ext (v:=.int _ _) rfl rfl) rfl ?_;refine L.val (x_ext (v:=.int _ _) rfl rfl) rfl ?_;refine L.val (x_as (v:=.int _ _) rfl) rfl ?_;refine L.val (x_as (v:=.int _ _) rfl) rfl ?_;refine L.nil (thn_n (W.seq (W.region (L.val (x_mv (v:=.int _ _) rfl) rfl ?_))));refine L.val (x_min rfl rfl) rfl ?_;refine L.val (x_as (v:=.int _ _) rfl) rfl ?_;refine L.nil (thn_n (W.ret (fin_mk (.inr rfl) ?_)));exact ⟨vi om_,hB⟩
end Go.Gx
namespace Go.Gx
open Go.Proofs
theorem ktm2_en102:Go.Proofs.Enters Tryz.prog 102:=Go.Proofs.enters_of Tryz.func102 kr_ rfl
theorem ktm2_en79:Go.Proofs.Enters Tryz.prog 79:=Go.Proofs.enters_of Tryz.func79 kr_ rfl
theorem ktm2_en80:Go.Proofs.Enters Tryz.prog 80:=Go.Proofs.enters_of Tryz.func80 kr_ rfl
theorem ktm2_oc64:oneCellT Tryz.prog 64=true:=by kernel_rfl
theorem ktm2_oc9:oneCellT Tryz.prog 9=true:=by kernel_rfl
theorem ktm2_sz9:(Tryz.prog.info? 9).map (·.size)=some 1:=by kernel_rfl
theorem any_no {α : Type} {p:α → Bool} {l:List α} {k:Nat} {d:α} (hk:k<l.length) (h:(l.take k).any p=false) (hp:p (l.getD k d)=false):(l.take (k+1)).any p=false:=by
  rw [List.take_succ_eq_append_getElem hk,List.any_append,h];rw [List.getD_eq_getElem?_getD,List.getElem?_eq_getElem hk] at hp;have hp:p l[k]=false:=hp;simp [hp]
theorem any_yes {α : Type} {p:α → Bool} {l:List α} {k:Nat} {d:α} (hk:k<l.length) (hp:p (l.getD k d)=true):l.any p=true:=by
  rw [List.getD_eq_getElem?_getD,List.getElem?_eq_getElem hk] at hp;exact List.any_eq_true.2 ⟨_,List.getElem_mem hk,hp⟩
theorem not_any {α : Type} (p:α → Bool) (l:List α):(!l.any fun x=>!p x)=l.all p:=by
  induction l with
  | nil=>rfl
  | cons x l ih=>rw [List.any_cons,List.all_cons,← ih];cases p x <;> simp
def CallsP (gf:Nat) (cap:List Value) (p:Bool) (xs:List Value) (w:World):Prop:=∀ w1,Bel w w1→Ret Tryz.prog gf (xs++cap).toArray w1 fun r w2=>r=.bool p∧Bel w1 w2
theorem CallsP.carry {gf:Nat} {cap:List Value} {p:Bool} {xs:List Value} {w w':World} (h:CallsP gf cap p xs w) (g:Bel w w'):CallsP gf cap p xs w':=fun w1 h1=>h w1 (g.trans h1)
theorem idxS_ok (gf:Nat) (cap:List Value) (p:Str→Bool) (eg:Go.Proofs.Enters Tryz.prog gf) (A:Nat→Prop) (v:Value) (l:List Str) (w:World) (h:StrsAt A w v l) (hg:∀ i,i<l.length→CallsP gf cap (p (l.getD i [])) [S (l.getD i [])] w):
    Ret Tryz.prog 102 #[v,.func (.func gf) #[] cap.toArray] w fun r w'=>(∃ i:Int,r=.int .i64 i∧(decide ((0:Int)≤i))=l.any p)∧Bel w w':=by
  obtain ⟨q,c,rfl,-,-,l3,-⟩:=id h;refine ret_of_W Tryz.func102 rfl (Nat.le_of_ble_eq_true rfl) (res1 rfl) ?_;have hB:=Gr.refl (fun _=>False) w;refine W.seq (W.region (L.val (x_as (v:=.int _ _) rfl) rfl ?_));refine L.nil (thn_n (W.seq (W.seq (W.region (L.val (x_mv (v:=.slice _ _ _) rfl) rfl ?_)))));refine L.val (x_len_slice Tryz.underlying22 rfl) rfl ?_;refine L.val (x_mv (v:=.int _ _) rfl) rfl ?_;refine L.nil (thn_n (W.block (W.loop (fun m' E w'=>∃ (k:Nat),m'=l.length - k∧E 0=.slice q l.length c∧E 1=.func (.func gf) #[] cap.toArray∧E 7=.int .i64 (l.length:Nat)∧E 8=.int .i64 (k:Nat)∧(Bel w w')∧(StrsAt A w' (.slice q l.length c) l)∧(k≤l.length)∧((l.take k).any p=false)) (l.length) ?_ ?_)))
  ·exact ⟨0,by omega,vi_,vi_,vi_,vi_,ao_,ao_,ao_,(by rfl)⟩
  ·rintro _ E wL9 ⟨k,em,e0,e1,e7,e8,hB,h,hk,ha⟩;rw [upd_self e0,upd_self e1,upd_self e7,upd_self e8];refine W.seq (W.region (L.val (x_lss rfl rfl) rfl ?_));refine L.nil (thn_n (W.seq (W.cond (b:=_) rfl (fun g9=>?_) (fun g9=>?_))))
   ·have h9:=of_decide_eq_true g9;have hlt:k<l.length:=by omega
    obtain ⟨b,o,rfl,hc⟩:=h.elem hlt;refine W.skip (thn_n (W.seq (W.block (W.seq (W.region (L.val (x_mv (v:=.int _ _) rfl) rfl ?_))))));refine L.val (x_as (v:=.int _ _) rfl) rfl ?_;refine L.nil (thn_n (W.seq (W.region (L.val (x_mv (v:=.func _ _ _) rfl) rfl ?_))));refine L.val (x_mv (v:=.slice _ _ _) rfl) rfl ?_;refine L.val (x_mv (v:=.int _ _) rfl) rfl ?_;refine L.val (x_ia1 (j:=k) Tryz.underlying22 ktm2_sz9 rfl rfl om_ om_) rfl ?_;refine L.val (x_ld (v:=S _) ktm2_oc9 rfl hc) rfl ?_;refine L.ret (x_callv eg rfl rfl) rfl ((hg k hlt _ hB)) ?_;rintro _ w16 ⟨rfl,hw⟩;have hB:=hB.carry hw;have h:=h.carry hw;refine L.nil (thn_n (W.cond (b:=_) rfl (fun g16=>?_) (fun g16=>?_)))
    ·have h16:=g16;refine W.seq (W.region (L.val (x_mv (v:=.int _ _) rfl) rfl ?_));refine L.val (x_as (v:=.int _ _) rfl) rfl ?_;refine L.nil (thn_n (W.ret (blk_r (thn_r (thn_r (blk_r (thn_r (fin_mk (.inr rfl) ?_))))))));exact ⟨⟨k,rfl,by rw [any_yes hlt h16];exact decide_eq_true om_⟩,hB⟩
    ·have h16:=g16;refine W.skip (blk_n (thn_n (W.region (L.val (x_add rfl rfl (wr64 om_)) rfl ?_))));refine L.val (x_mv (v:=.int _ _) rfl) rfl ?_;refine L.nil (thn_n ⟨rfl,?_⟩);refine ⟨_,?_,k+1,rfl,vi_,vi_,vi_,vi_,ao_,ao_,ao_,(by exact any_no hlt ha h16)⟩;omega
   ·have h9:=dlt_f g9;refine W.exit (thn_x (thn_x (blk_hit ?_)));refine thn_n (W.seq (W.region (L.val (x_as (v:=.int _ _) rfl) rfl ?_)));refine L.nil (thn_n (W.ret (fin_mk (.inr rfl) ?_)));rw [List.take_of_length_le om_] at ha;exact ⟨⟨-1,rfl,by rw [ha];rfl⟩,hB⟩
theorem hasS_ok (gf:Nat) (cap:List Value) (p:Str→Bool) (eg:Go.Proofs.Enters Tryz.prog gf) (A:Nat→Prop) (v:Value) (l:List Str) (w:World) (h:StrsAt A w v l) (hg:∀ i,i<l.length→CallsP gf cap (p (l.getD i [])) [S (l.getD i [])] w):
    Ret Tryz.prog 79 #[v,.func (.func gf) #[] cap.toArray] w fun r w'=>r=.bool (l.any p)∧Bel w w':=by
  obtain ⟨q,c,rfl,-,-,l3,-⟩:=id h;refine ret_of_W Tryz.func79 rfl (Nat.le_of_ble_eq_true rfl) (res1 rfl) ?_;have hB:=Gr.refl (fun _=>False) w;refine W.seq (W.region (L.val (x_as (v:=.bool _) rfl) rfl ?_));refine L.nil (thn_n (W.seq (W.region (L.val (x_mv (v:=.slice _ _ _) rfl) rfl ?_))));refine L.val (x_mv (v:=.func _ _ _) rfl) rfl ?_;refine L.ret (x_call ktm2_en102 rfl) rfl (idxS_ok gf cap p eg A _ l _ h (fun i hi=>(hg i hi).carry hB)) ?_;rintro _ w7 ⟨⟨i7,rfl,hi7⟩,hw⟩;have hB:=hB.carry hw;have h:=h.carry hw;refine L.val (x_geq rfl rfl) rfl ?_;refine L.val (x_as (v:=.bool _) rfl) rfl ?_;refine L.nil (thn_n (W.ret (fin_mk (.inr rfl) ?_)));exact ⟨vb hi7,hB⟩
theorem notS_ok (b gf:Nat) (cap:List Value) (p:Bool) (eg:Go.Proofs.Enters Tryz.prog gf) (x:Str) (w:World) (hb:Box w b 64 [.func (.func gf) #[] cap.toArray]) (hg:CallsP gf cap p [S x] w):
    Ret Tryz.prog 80 #[S x,.pointer (some ⟨b,0,none⟩)] w fun r w'=>r=.bool (!p)∧Bel w w':=by
  refine ret_of_W Tryz.func80 rfl (Nat.le_of_ble_eq_true rfl) (res1 rfl) ?_;have hB:=Gr.refl (fun _=>False) w;refine W.seq (W.region (L.val (x_as (v:=.bool _) rfl) rfl ?_));refine L.nil (thn_n (W.seq (W.region (L.val (x_ld (v:=_) ktm2_oc64 rfl (hb.cell (i:=0) rfl)) rfl ?_))));refine L.val (x_mv (v:=S _) rfl) rfl ?_;refine L.ret (x_callv eg rfl rfl) rfl ((hg _ hB)) ?_;rintro _ w6 ⟨rfl,hw⟩;have hB:=hB.carry hw;refine L.val (x_not rfl) rfl ?_;refine L.val (x_as (v:=.bool _) rfl) rfl ?_;refine L.nil (thn_n (W.ret (fin_mk (.inr rfl) ?_)));exact ⟨rfl,hB⟩
theorem eachS_ok (gf:Nat) (cap:List Value) (p:Str→Bool) (eg:Go.Proofs.Enters Tryz.prog gf) (A:Nat→Prop) (v:Value) (l:List Str) (w:World) (h:StrsAt A w v l) (hg:∀ i,i<l.length→CallsP gf cap (p (l.getD i [])) [S (l.getD i [])] w):
    Ret Tryz.prog 53 #[v,.func (.func gf) #[] cap.toArray] w fun r w'=>r=.bool (l.all p)∧Bel w w':=by
  obtain ⟨q,c,rfl,-,-,l3,-⟩:=id h;refine ret_of_W Tryz.func53 rfl (Nat.le_of_ble_eq_true rfl) (res1 rfl) ?_;have hB:=Gr.refl (fun _=>False) w;refine W.seq (W.region (L.box (cs:=[.func (.func gf) #[] cap.toArray]) rfl rfl (fun w3 bx3 hw hz3=>?_)));have hB:=hB.carry hw;have h:=h.carry hw;refine L.val (x_as (v:=.bool _) rfl) rfl ?_;refine L.nil (thn_n (W.seq (W.region (L.val (x_mv (v:=.slice _ _ _) rfl) rfl ?_))));refine L.val (x_mkfn rfl rfl) rfl ?_;refine L.ret (x_call ktm2_en79 rfl) rfl (hasS_ok 80 [.pointer (some ⟨w.heap.size,0,none⟩)] (fun x=>!p x) ktm2_en80 A _ l _ h (fun i hi w1 h1=>notS_ok _ gf cap _ eg _ _ (bx3.carry h1) ((hg i hi).carry (hB.trans h1)))) ?_;rintro _ w7 ⟨rfl,hw⟩;have hB:=hB.carry hw;have h:=h.carry hw;have bx3:=bx3.carry hw;refine L.val (x_not rfl) rfl ?_;refine L.val (x_as (v:=.bool _) rfl) rfl ?_;refine L.nil (thn_n (W.ret (fin_mk (.inr rfl) ?_)));exact ⟨vb (not_any p l),hB⟩
end Go.Gx
namespace Go.Gx
open Go.Proofs
theorem ktm3_ag26:aggT Tryz.prog 26 9=true:=by kernel_rfl
theorem ktm3_ag45:aggT Tryz.prog 45 5=true:=by kernel_rfl
theorem ktm3_en33:Go.Proofs.Enters Tryz.prog 33:=Go.Proofs.enters_of Tryz.func33 kr_ rfl
theorem ktm3_en34:Go.Proofs.Enters Tryz.prog 34:=Go.Proofs.enters_of Tryz.func34 kr_ rfl
theorem ktm3_en61:Go.Proofs.Enters Tryz.prog 61:=Go.Proofs.enters_of Tryz.func61 kr_ rfl
theorem ktm3_en68:Go.Proofs.Enters Tryz.prog 68:=Go.Proofs.enters_of Tryz.func68 kr_ rfl
theorem ktm3_en69:Go.Proofs.Enters Tryz.prog 69:=Go.Proofs.enters_of Tryz.func69 kr_ rfl
theorem ktm3_en93:Go.Proofs.Enters Tryz.prog 93:=Go.Proofs.enters_of Tryz.func93 kr_ rfl
theorem ktm3_oc32:oneCellT Tryz.prog 32=true:=by kernel_rfl
theorem ktm3_oc63:oneCellT Tryz.prog 63=true:=by kernel_rfl
theorem ktm3_sz26:(Tryz.prog.info? 26).map (·.size)=some 9:=by kernel_rfl
theorem ktm3_sz45:(Tryz.prog.info? 45).map (·.size)=some 5:=by kernel_rfl
def CallsT (gf:Nat) (cap:List Value) (p:Bool) (A:Nat→Prop) (x:Tm) (w:World):Prop:=∀ w1 cs,Bel w w1→TmC A w1 cs x→Ret Tryz.prog gf ([Value.agg cs.toArray]++cap).toArray w1 fun r w2=>r=.bool p∧Bel w1 w2
theorem CallsT.carry {gf:Nat} {cap:List Value} {p:Bool} {A:Nat→Prop} {x:Tm} {w w':World} (h:CallsT gf cap p A x w) (g:Bel w w'):CallsT gf cap p A x w':=fun w1 cs h1=>h w1 cs (g.trans h1)
theorem idxT_ok (gf:Nat) (cap:List Value) (p:Tm→Bool) (eg:Go.Proofs.Enters Tryz.prog gf) (A:Nat→Prop) (v:Value) (l:List Tm) (w:World) (h:RecsAt TmC 9 A w v l) (hg:∀ i,i<l.length→CallsT gf cap (p (l.getD i default)) A (l.getD i default) w):
    Ret Tryz.prog 61 #[v,.func (.func gf) #[] cap.toArray] w fun r w'=>(∃ i:Int,r=.int .i64 i∧(decide ((0:Int)≤i))=l.any p)∧Bel w w':=by
  obtain ⟨q,c,row,rfl,-,-,l3,hr⟩:=h;refine ret_of_W Tryz.func61 rfl (Nat.le_of_ble_eq_true rfl) (res1 rfl) ?_;have hB:=Gr.refl (fun _=>False) w;refine W.seq (W.region (L.val (x_as (v:=.int _ _) rfl) rfl ?_));refine L.nil (thn_n (W.seq (W.seq (W.region (L.val (x_mv (v:=.slice _ _ _) rfl) rfl ?_)))));refine L.val (x_len_slice Tryz.underlying24 rfl) rfl ?_;refine L.val (x_mv (v:=.int _ _) rfl) rfl ?_;refine L.nil (thn_n (W.block (W.loop (fun m' E w'=>∃ (k:Nat),m'=l.length - k∧E 0=.slice q l.length c∧E 1=.func (.func gf) #[] cap.toArray∧E 7=.int .i64 (l.length:Nat)∧E 8=.int .i64 (k:Nat)∧(Bel w w')∧(RecRow TmC 9 A w' q row l)∧(k≤l.length)∧((l.take k).any p=false)) (l.length) ?_ ?_)))
  ·exact ⟨0,by omega,vi_,vi_,vi_,vi_,ao_,ao_,ao_,(by rfl)⟩
  ·rintro _ E wL9 ⟨k,em,e0,e1,e7,e8,hB,hr,hk,ha⟩;rw [upd_self e0,upd_self e1,upd_self e7,upd_self e8];refine W.seq (W.region (L.val (x_lss rfl rfl) rfl ?_));refine L.nil (thn_n (W.seq (W.cond (b:=_) rfl (fun g9=>?_) (fun g9=>?_))))
   ·have h9:=of_decide_eq_true g9;have hlt:k<l.length:=by omega
    obtain ⟨b,o,rfl,-,hc⟩:=hr.elem hlt;refine W.skip (thn_n (W.seq (W.block (W.seq (W.region (L.val (x_mv (v:=.int _ _) rfl) rfl ?_))))));refine L.val (x_as (v:=.int _ _) rfl) rfl ?_;refine L.nil (thn_n (W.seq (W.region (L.val (x_mv (v:=.func _ _ _) rfl) rfl ?_))));refine L.val (x_mv (v:=.slice _ _ _) rfl) rfl ?_;refine L.val (x_mv (v:=.int _ _) rfl) rfl ?_;refine L.val (x_ia (j:=k) Tryz.underlying24 ktm3_sz26 rfl rfl om_ om_) rfl ?_;refine L.val (x_ldn (vs:=row k) ktm3_ag26 rfl (hr.len k hlt) hc) rfl ?_;refine L.ret (x_callv eg rfl rfl) rfl ((hg k hlt _ _ hB (hr.each k hlt))) ?_;rintro _ w16 ⟨rfl,hw⟩;have hB:=hB.carry hw;have hr:=hr.carry hw;refine L.nil (thn_n (W.cond (b:=_) rfl (fun g16=>?_) (fun g16=>?_)))
    ·have h16:=g16;refine W.seq (W.region (L.val (x_mv (v:=.int _ _) rfl) rfl ?_));refine L.val (x_as (v:=.int _ _) rfl) rfl ?_;refine L.nil (thn_n (W.ret (blk_r (thn_r (thn_r (blk_r (thn_r (fin_mk (.inr rfl) ?_))))))));exact ⟨⟨k,rfl,by rw [any_yes hlt h16];exact decide_eq_true om_⟩,hB⟩
    ·have h16:=g16;refine W.skip (blk_n (thn_n (W.region (L.val (x_add rfl rfl (wr64 om_)) rfl ?_))));refine L.val (x_mv (v:=.int _ _) rfl) rfl ?_;refine L.nil (thn_n ⟨rfl,?_⟩);refine ⟨_,?_,k+1,rfl,vi_,vi_,vi_,vi_,ao_,ao_,ao_,(by exact any_no hlt ha h16)⟩;omega
   ·have h9:=dlt_f g9;refine W.exit (thn_x (thn_x (blk_hit ?_)));refine thn_n (W.seq (W.region (L.val (x_as (v:=.int _ _) rfl) rfl ?_)));refine L.nil (thn_n (W.ret (fin_mk (.inr rfl) ?_)));rw [List.take_of_length_le om_] at ha;exact ⟨⟨-1,rfl,by rw [ha];rfl⟩,hB⟩
theorem hasT_ok (gf:Nat) (cap:List Value) (p:Tm→Bool) (eg:Go.Proofs.Enters Tryz.prog gf) (A:Nat→Prop) (v:Value) (l:List Tm) (w:World) (h:RecsAt TmC 9 A w v l) (hg:∀ i,i<l.length→CallsT gf cap (p (l.getD i default)) A (l.getD i default) w):
    Ret Tryz.prog 33 #[v,.func (.func gf) #[] cap.toArray] w fun r w'=>r=.bool (l.any p)∧Bel w w':=by
  obtain ⟨q,c,row,rfl,-,-,l3,-⟩:=id h;refine ret_of_W Tryz.func33 rfl (Nat.le_of_ble_eq_true rfl) (res1 rfl) ?_;have hB:=Gr.refl (fun _=>False) w;refine W.seq (W.region (L.val (x_as (v:=.bool _) rfl) rfl ?_));refine L.nil (thn_n (W.seq (W.region (L.val (x_mv (v:=.slice _ _ _) rfl) rfl ?_))));refine L.val (x_mv (v:=.func _ _ _) rfl) rfl ?_;refine L.ret (x_call ktm3_en61 rfl) rfl (idxT_ok gf cap p eg A _ l _ h (fun i hi=>(hg i hi).carry hB)) ?_;rintro _ w7 ⟨⟨i7,rfl,hi7⟩,hw⟩;have hB:=hB.carry hw;have h:=h.carry hw;refine L.val (x_geq rfl rfl) rfl ?_;refine L.val (x_as (v:=.bool _) rfl) rfl ?_;refine L.nil (thn_n (W.ret (fin_mk (.inr rfl) ?_)));exact ⟨vb hi7,hB⟩
theorem notT_ok (b gf:Nat) (cap:List Value) (p:Bool) (eg:Go.Proofs.Enters Tryz.prog gf) (A:Nat→Prop) (x:Tm) (cs:List Value) (w:World) (hx:TmC A w cs x) (hb:Box w b 32 [.func (.func gf) #[] cap.toArray]) (hg:CallsT gf cap p A x w):
    Ret Tryz.prog 34 #[.agg cs.toArray,.pointer (some ⟨b,0,none⟩)] w fun r w'=>r=.bool (!p)∧Bel w w':=by
  have hlen:=hx.len;refine ret_of_W Tryz.func34 rfl (Nat.le_of_ble_eq_true rfl) (res1 rfl) ?_;have hB:=Gr.refl (fun _=>False) w;refine W.seq (W.region (L.box (cs:=cs) rfl rfl (fun w2 bx2 hw hz2=>?_)));have hB:=hB.carry hw;have hx:=hx.carry hw;have hb:=hb.carry hw;refine L.val (x_as (v:=.bool _) rfl) rfl ?_;refine L.nil (thn_n (W.seq (W.region (L.val (x_ld (v:=_) ktm3_oc32 rfl (hb.cell (i:=0) rfl)) rfl ?_))));refine L.val (x_ldn (vs:=cs) ktm3_ag26 rfl hlen (bx2.row hlen)) rfl ?_;refine L.ret (x_callv eg rfl rfl) rfl ((hg _ _ hB hx)) ?_;rintro _ w6 ⟨rfl,hw⟩;have hB:=hB.carry hw;have hx:=hx.carry hw;have hb:=hb.carry hw;have bx2:=bx2.carry hw;refine L.val (x_not rfl) rfl ?_;refine L.val (x_as (v:=.bool _) rfl) rfl ?_;refine L.nil (thn_n (W.ret (fin_mk (.inr rfl) ?_)));exact ⟨rfl,hB⟩
theorem eachT_ok (gf:Nat) (cap:List Value) (p:Tm→Bool) (eg:Go.Proofs.Enters Tryz.prog gf) (A:Nat→Prop) (v:Value) (l:List Tm) (w:World) (h:RecsAt TmC 9 A w v l) (hg:∀ i,i<l.length→CallsT gf cap (p (l.getD i default)) A (l.getD i default) w):
    Ret Tryz.prog 23 #[v,.func (.func gf) #[] cap.toArray] w fun r w'=>r=.bool (l.all p)∧Bel w w':=by
  obtain ⟨q,c,row,rfl,-,-,l3,-⟩:=id h;refine ret_of_W Tryz.func23 rfl (Nat.le_of_ble_eq_true rfl) (res1 rfl) ?_;have hB:=Gr.refl (fun _=>False) w;refine W.seq (W.region (L.box (cs:=[.func (.func gf) #[] cap.toArray]) rfl rfl (fun w3 bx3 hw hz3=>?_)));have hB:=hB.carry hw;have h:=h.carry hw;refine L.val (x_as (v:=.bool _) rfl) rfl ?_;refine L.nil (thn_n (W.seq (W.region (L.val (x_mv (v:=.slice _ _ _) rfl) rfl ?_))));refine L.val (x_mkfn rfl rfl) rfl ?_;refine L.ret (x_call ktm3_en33 rfl) rfl (hasT_ok 34 [.pointer (some ⟨w.heap.size,0,none⟩)] (fun x=>!p x) ktm3_en34 A _ l _ h (fun i hi w1 cs h1 hx=>notT_ok _ gf cap _ eg A _ cs _ hx (bx3.carry h1) ((hg i hi).carry (hB.trans h1)))) ?_;rintro _ w7 ⟨rfl,hw⟩;have hB:=hB.carry hw;have h:=h.carry hw;have bx3:=bx3.carry hw;refine L.val (x_not rfl) rfl ?_;refine L.val (x_as (v:=.bool _) rfl) rfl ?_;refine L.nil (thn_n (W.ret (fin_mk (.inr rfl) ?_)));exact ⟨vb (not_any p l),hB⟩
def CallsH (gf:Nat) (cap:List Value) (p:Bool) (A:Nat→Prop) (x:Sh) (w:World):Prop:=∀ w1 cs,Bel w w1→ShC A w1 cs x→Ret Tryz.prog gf ([Value.agg cs.toArray]++cap).toArray w1 fun r w2=>r=.bool p∧Bel w1 w2
theorem CallsH.carry {gf:Nat} {cap:List Value} {p:Bool} {A:Nat→Prop} {x:Sh} {w w':World} (h:CallsH gf cap p A x w) (g:Bel w w'):CallsH gf cap p A x w':=fun w1 cs h1=>h w1 cs (g.trans h1)
theorem idxH_ok (gf:Nat) (cap:List Value) (p:Sh→Bool) (eg:Go.Proofs.Enters Tryz.prog gf) (A:Nat→Prop) (v:Value) (l:List Sh) (w:World) (h:ShsAt A w v l) (hg:∀ i,i<l.length→CallsH gf cap (p (l.getD i default)) A (l.getD i default) w):
    Ret Tryz.prog 93 #[v,.func (.func gf) #[] cap.toArray] w fun r w'=>(∃ i:Int,r=.int .i64 i∧(decide ((0:Int)≤i))=l.any p)∧Bel w w':=by
  obtain ⟨q,c,row,rfl,-,-,l3,hr⟩:=h;refine ret_of_W Tryz.func93 rfl (Nat.le_of_ble_eq_true rfl) (res1 rfl) ?_;have hB:=Gr.refl (fun _=>False) w;refine W.seq (W.region (L.val (x_as (v:=.int _ _) rfl) rfl ?_));refine L.nil (thn_n (W.seq (W.seq (W.region (L.val (x_mv (v:=.slice _ _ _) rfl) rfl ?_)))));refine L.val (x_len_slice Tryz.underlying23 rfl) rfl ?_;refine L.val (x_mv (v:=.int _ _) rfl) rfl ?_;refine L.nil (thn_n (W.block (W.loop (fun m' E w'=>∃ (k:Nat),m'=l.length - k∧E 0=.slice q l.length c∧E 1=.func (.func gf) #[] cap.toArray∧E 7=.int .i64 (l.length:Nat)∧E 8=.int .i64 (k:Nat)∧(Bel w w')∧(ShRow A w' q row l)∧(k≤l.length)∧((l.take k).any p=false)) (l.length) ?_ ?_)))
  ·exact ⟨0,by omega,vi_,vi_,vi_,vi_,ao_,ao_,ao_,(by rfl)⟩
  ·rintro _ E wL9 ⟨k,em,e0,e1,e7,e8,hB,hr,hk,ha⟩;rw [upd_self e0,upd_self e1,upd_self e7,upd_self e8];refine W.seq (W.region (L.val (x_lss rfl rfl) rfl ?_));refine L.nil (thn_n (W.seq (W.cond (b:=_) rfl (fun g9=>?_) (fun g9=>?_))))
   ·have h9:=of_decide_eq_true g9;have hlt:k<l.length:=by omega
    obtain ⟨b,o,rfl,hc⟩:=hr.elem hlt;refine W.skip (thn_n (W.seq (W.block (W.seq (W.region (L.val (x_mv (v:=.int _ _) rfl) rfl ?_))))));refine L.val (x_as (v:=.int _ _) rfl) rfl ?_;refine L.nil (thn_n (W.seq (W.region (L.val (x_mv (v:=.func _ _ _) rfl) rfl ?_))));refine L.val (x_mv (v:=.slice _ _ _) rfl) rfl ?_;refine L.val (x_mv (v:=.int _ _) rfl) rfl ?_;refine L.val (x_ia (j:=k) Tryz.underlying23 ktm3_sz45 rfl rfl om_ om_) rfl ?_;refine L.val (x_ldn (vs:=row k) ktm3_ag45 rfl (hr.five k hlt) hc) rfl ?_;refine L.ret (x_callv eg rfl rfl) rfl ((hg k hlt _ _ hB (hr.each k hlt))) ?_;rintro _ w16 ⟨rfl,hw⟩;have hB:=hB.carry hw;have hr:=hr.carry hw;refine L.nil (thn_n (W.cond (b:=_) rfl (fun g16=>?_) (fun g16=>?_)))
    ·have h16:=g16;refine W.seq (W.region (L.val (x_mv (v:=.int _ _) rfl) rfl ?_));refine L.val (x_as (v:=.int _ _) rfl) rfl ?_;refine L.nil (thn_n (W.ret (blk_r (thn_r (thn_r (blk_r (thn_r (fin_mk (.inr rfl) ?_))))))));exact ⟨⟨k,rfl,by rw [any_yes hlt h16];exact decide_eq_true om_⟩,hB⟩
    ·have h16:=g16;refine W.skip (blk_n (thn_n (W.region (L.val (x_add rfl rfl (wr64 om_)) rfl ?_))));refine L.val (x_mv (v:=.int _ _) rfl) rfl ?_;refine L.nil (thn_n ⟨rfl,?_⟩);refine ⟨_,?_,k+1,rfl,vi_,vi_,vi_,vi_,ao_,ao_,ao_,(by exact any_no hlt ha h16)⟩;omega
   ·have h9:=dlt_f g9;refine W.exit (thn_x (thn_x (blk_hit ?_)));refine thn_n (W.seq (W.region (L.val (x_as (v:=.int _ _) rfl) rfl ?_)));refine L.nil (thn_n (W.ret (fin_mk (.inr rfl) ?_)));rw [List.take_of_length_le om_] at ha;exact ⟨⟨-1,rfl,by rw [ha];rfl⟩,hB⟩
theorem hasH_ok (gf:Nat) (cap:List Value) (p:Sh→Bool) (eg:Go.Proofs.Enters Tryz.prog gf) (A:Nat→Prop) (v:Value) (l:List Sh) (w:World) (h:ShsAt A w v l) (hg:∀ i,i<l.length→CallsH gf cap (p (l.getD i default)) A (l.getD i default) w):
    Ret Tryz.prog 68 #[v,.func (.func gf) #[] cap.toArray] w fun r w'=>r=.bool (l.any p)∧Bel w w':=by
  obtain ⟨q,c,row,rfl,-,-,l3,-⟩:=id h;refine ret_of_W Tryz.func68 rfl (Nat.le_of_ble_eq_true rfl) (res1 rfl) ?_;have hB:=Gr.refl (fun _=>False) w;refine W.seq (W.region (L.val (x_as (v:=.bool _) rfl) rfl ?_));refine L.nil (thn_n (W.seq (W.region (L.val (x_mv (v:=.slice _ _ _) rfl) rfl ?_))));refine L.val (x_mv (v:=.func _ _ _) rfl) rfl ?_;refine L.ret (x_call ktm3_en93 rfl) rfl (idxH_ok gf cap p eg A _ l _ h (fun i hi=>(hg i hi).carry hB)) ?_;rintro _ w7 ⟨⟨i7,rfl,hi7⟩,hw⟩;have hB:=hB.carry hw;have h:=h.carry hw;refine L.val (x_geq rfl rfl) rfl ?_;refine L.val (x_as (v:=.bool _) rfl) rfl ?_;refine L.nil (thn_n (W.ret (fin_mk (.inr rfl) ?_)));exact ⟨vb hi7,hB⟩
theorem notH_ok (b gf:Nat) (cap:List Value) (p:Bool) (eg:Go.Proofs.Enters Tryz.prog gf) (A:Nat→Prop) (x:Sh) (cs:List Value) (w:World) (hx:ShC A w cs x) (hb:Box w b 63 [.func (.func gf) #[] cap.toArray]) (hg:CallsH gf cap p A x w):
    Ret Tryz.prog 69 #[.agg cs.toArray,.pointer (some ⟨b,0,none⟩)] w fun r w'=>r=.bool (!p)∧Bel w w':=by
  have hlen:=hx.len;refine ret_of_W Tryz.func69 rfl (Nat.le_of_ble_eq_true rfl) (res1 rfl) ?_;have hB:=Gr.refl (fun _=>False) w;refine W.seq (W.region (L.box (cs:=cs) rfl rfl (fun w2 bx2 hw hz2=>?_)));have hB:=hB.carry hw;have hx:=hx.carry hw;have hb:=hb.carry hw;refine L.val (x_as (v:=.bool _) rfl) rfl ?_;refine L.nil (thn_n (W.seq (W.region (L.val (x_ld (v:=_) ktm3_oc63 rfl (hb.cell (i:=0) rfl)) rfl ?_))));refine L.val (x_ldn (vs:=cs) ktm3_ag45 rfl hlen (bx2.row hlen)) rfl ?_;refine L.ret (x_callv eg rfl rfl) rfl ((hg _ _ hB hx)) ?_;rintro _ w6 ⟨rfl,hw⟩;have hB:=hB.carry hw;have hx:=hx.carry hw;have hb:=hb.carry hw;have bx2:=bx2.carry hw;refine L.val (x_not rfl) rfl ?_;refine L.val (x_as (v:=.bool _) rfl) rfl ?_;refine L.nil (thn_n (W.ret (fin_mk (.inr rfl) ?_)));exact ⟨rfl,hB⟩
theorem eachH_ok (gf:Nat) (cap:List Value) (p:Sh→Bool) (eg:Go.Proofs.Enters Tryz.prog gf) (A:Nat→Prop) (v:Value) (l:List Sh) (w:World) (h:ShsAt A w v l) (hg:∀ i,i<l.length→CallsH gf cap (p (l.getD i default)) A (l.getD i default) w):
    Ret Tryz.prog 48 #[v,.func (.func gf) #[] cap.toArray] w fun r w'=>r=.bool (l.all p)∧Bel w w':=by
  obtain ⟨q,c,row,rfl,-,-,l3,-⟩:=id h;refine ret_of_W Tryz.func48 rfl (Nat.le_of_ble_eq_true rfl) (res1 rfl) ?_;have hB:=Gr.refl (fun _=>False) w;refine W.seq (W.region (L.box (cs:=[.func (.func gf) #[] cap.toArray]) rfl rfl (fun w3 bx3 hw hz3=>?_)));have hB:=hB.carry hw;have h:=h.carry hw;refine L.val (x_as (v:=.bool _) rfl) rfl ?_;refine L.nil (thn_n (W.seq (W.region (L.val (x_mv (v:=.slice _ _ _) rfl) rfl ?_))));refine L.val (x_mkfn rfl rfl) rfl ?_;refine L.ret (x_call ktm3_en68 rfl) rfl (hasH_ok 69 [.pointer (some ⟨w.heap.size,0,none⟩)] (fun x=>!p x) ktm3_en69 A _ l _ h (fun i hi w1 cs h1 hx=>notH_ok _ gf cap _ eg A _ cs _ hx (bx3.carry h1) ((hg i hi).carry (hB.trans h1)))) ?_;rintro _ w7 ⟨rfl,hw⟩;have hB:=hB.carry hw;have h:=h.carry hw;have bx3:=bx3.carry hw;refine L.val (x_not rfl) rfl ?_;refine L.val (x_as (v:=.bool _) rfl) rfl ?_;refine L.nil (thn_n (W.ret (fin_mk (.inr rfl) ?_)));exact ⟨vb (not_any p l),hB⟩
end Go.Gx
namespace Go.Gx
open Go.Proofs
theorem kcoll_el9:elT Tryz.prog 9 1=true:=by kernel_rfl
theorem kcoll_oc22:oneCellT Tryz.prog 22=true:=by kernel_rfl
theorem kcoll_oc9:oneCellT Tryz.prog 9=true:=by kernel_rfl
theorem kcoll_sz22:(Tryz.prog.info? 22).map (·.size)=some 1:=by kernel_rfl
theorem kcoll_sz9:(Tryz.prog.info? 9).map (·.size)=some 1:=by kernel_rfl
theorem gr_of_below {n₀ : Nat} {a b:World} (h:RowKit.Below n₀ a b):Gr (fun k=>n₀ ≤ k) a b:=⟨h.os,h.tape,h.output,h.size,fun k _ hn=>h.block k om_⟩
theorem vals_ok (A:Nat→Prop) (l Bs n₀ : Nat) (v:Value) (ss:List Str) (hA:∀ k,n₀ ≤ k→A k) (J Jx:List Str→World→Prop)
    (hY:∀ pre x W,J pre W→pre.length<ss.length→YieldAt Fence.wide 0 Tryz.prog l #[S x] W fun e W'=>
      (e=.returned (.bool true)∧J (pre++[x]) W'∧KpB n₀ W W')∨(e=.returned (.bool false)∧Jx (pre++[x]) W'))
    (w:World) (hBs:w.cell? ⟨Bs,0,none⟩=some v) (hs:StrsAt A w v ss) (h0:J [] w):
    Ret Tryz.prog 101 #[.func (.yield l) #[] #[],.pointer (some ⟨Bs,0,none⟩)] w fun _ W'=>(∃ xs,xs=ss∧J xs W')∨(∃ pre:List Str,True∧Jx pre W'):=by
  obtain ⟨p,cap,rfl,h1,h2,h3,hL,hh⟩:=id hs;clear hh;refine ret_of_W Tryz.func101 rfl (Nat.le_of_ble_eq_true rfl) (res0 rfl) ?_;refine W.seq (W.region (L.val (x_ld (v:=.slice _ _ _) kcoll_oc22 rfl hBs) rfl ?_));refine L.val (x_len_slice Tryz.underlying22 rfl) rfl ?_;refine L.val (x_mv (v:=.int _ _) rfl) rfl ?_;refine L.nil (thn_n (W.block (W.loop (fun m' E w'=>∃ (k:Nat),m'=ss.length - k∧E 0=.func (.yield l) #[] #[]∧E 5=.slice p ss.length cap∧E 6=.int .i64 (ss.length:Nat)∧E 7=.int .i64 (k:Nat)∧(k≤ss.length)∧(J (ss.take k) w')∧(StrsAt A w' (.slice p ss.length cap) ss)) (ss.length) ?_ ?_)))
  ·exact ⟨0,by omega,vi_,vi_,vi_,vi_,ao_,(by simpa using h0),ao_⟩
  ·rintro _ E wL8 ⟨k,em,e0,e5,e6,e7,hk,hJ,hs⟩;rw [upd_self e0,upd_self e5,upd_self e6,upd_self e7];refine W.seq (W.region (L.val (x_lss rfl rfl) rfl ?_));refine L.nil (thn_n (W.seq (W.cond (b:=_) rfl (fun g8=>?_) (fun g8=>?_))))
   ·have h8:=of_decide_eq_true g8;have hlt:k<ss.length:=by omega
    have hc:=hs.elem hlt;obtain ⟨b,o,rfl,hc⟩:=hc;refine W.skip (thn_n (W.seq (W.block (W.seq (W.region (L.val (x_ia1  Tryz.underlying22 kcoll_sz9 rfl rfl rfl om_) rfl ?_))))));refine L.val (x_ld (v:=S _) kcoll_oc9 rfl hc) rfl ?_;refine L.val (x_as (v:=S _) rfl) rfl ?_;refine L.nil (thn_n (W.seq (W.wide (m:=1) (WI.region ?_))));refine LI.val (fun _=>trivial) (fun _ h=>by cases h) (x_mv (v:=.func _ _ _) rfl) rfl ?_;refine LI.val (fun _=>trivial) (fun _ h=>by cases h) (x_mv (v:=S _) rfl) rfl ?_;refine LI.yield (R:=fun e W'=>∃ z,e=.returned (.bool z)∧(z=true→J (ss.take k++[ss.getD k []]) W'∧KpB n₀ wL8 W')∧(z=false→Jx (ss.take k++[ss.getD k []]) W')) (fun _=>trivial) rfl rfl rfl rfl ((hY (ss.take k) (ss.getD k []) wL8 hJ (by rw [List.length_take];omega)).mono ?_) (fun e w' ⟨z,h,_⟩=>⟨_,h⟩) ?_
    · rintro e W' (⟨rfl,a1,a2⟩ | ⟨rfl,a1⟩)
      · exact ⟨true,rfl,fun _=>⟨a1,a2⟩,fun h=>by cases h⟩
      · exact ⟨false,rfl,fun h=>(by cases h),fun _=>a1⟩
    rintro u w13 ⟨z,hz,r1,r2⟩;cases hz;refine LI.val (fun _=>trivial) (fun _ h=>by cases h) (x_not rfl) rfl ?_;refine LI.nil ?_;refine thn_n (W.cond (b:=_) rfl (fun g14=>?_) (fun g14=>?_))
    ·have h14:=(not_t g14);refine W.ret (blk_r (thn_r (thn_r (blk_r (fin_mk (.inr rfl) ?_)))));exact .inr ⟨_,trivial,r2 (by simpa using g14)⟩
    ·have h14:=(not_f g14);have h14:=g14;have hs:=hs.carryR (gr_of_below (r1 (by simpa using h14)).2.1) hA;refine W.skip (blk_n (thn_n (W.region (L.val (x_add rfl rfl (wr64 om_)) rfl ?_))));refine L.val (x_mv (v:=.int _ _) rfl) rfl ?_;refine L.nil (thn_n ⟨rfl,?_⟩);refine ⟨_,?_,k+1,rfl,vi_,vi_,vi_,vi_,ao_,(by rw [take_snoc (d:=[]) hlt];exact (r1 (by simpa using h14)).1),ao_⟩;omega
   ·have h8:=dlt_f g8;refine W.exit (thn_x (thn_x (blk_hit ?_)));refine fin_mk (.inl rfl) ?_;exact .inl ⟨ss,rfl,by rw [show k=ss.length by omega,List.take_length] at hJ;exact hJ⟩
theorem vals_seq (A:Nat→Prop) (Bs n₀ : Nat) (v:Value) (ss:List Str) (w:World) (hA:∀ k,n₀ ≤ k→A k) (hBs:Bs<w.heap.size) (hc:w.cell? ⟨Bs,0,none⟩=some v) (hs:StrsAt A w v ss) (hAw:∀ k,w.heap.size≤k→A k):
    SeqStopsK Fence.wide 1 Tryz.prog 101 #[.pointer (some ⟨Bs,0,none⟩)] (fun x:Str=>#[S x]) (KpB n₀) (fun xs=>xs=ss) (fun _=>True) ss.length w:=by
  intro l J Jx w1 hW _ _ hY h0;have hs1:=hs.carryR (gr_of_below hW) hAw;have hc1:=(hW.cell (p:=⟨Bs,0,none⟩) hBs).trans hc;rw [show (#[Value.func (.yield l) #[] #[]]++#[Value.pointer (some ⟨Bs,0,none⟩)]:Array Value)=#[.func (.yield l) #[] #[],.pointer (some ⟨Bs,0,none⟩)] from rfl];refine callsIn_wide.2 (Calls.mono (vals_ok A l Bs n₀ v ss hA J Jx hY w1 hc1 hs1 h0) ?_);rintro e w2 ⟨u,rfl,h⟩;exact ⟨⟨u,rfl⟩,h⟩
theorem seq_ok (gf:Nat) (lb:Array Value) (ss:List Str) (w:World) (eg:Go.Proofs.Enters Tryz.prog gf) (hl:ss.length≤100000000000) {Φ : List Str→Prop} (hΦ : ∀ xs,Φ xs→xs.Perm ss)
    (hseq:SeqStopsK Fence.wide 1 Tryz.prog gf lb (fun x:Str=>#[S x]) (KpB w.heap.size) Φ (fun _=>True) ss.length w):
    Ret Tryz.prog 122 #[.slice none 0 0,.func (.func gf) #[] lb] w fun v w'=>(∃ xs:List Str,xs.Perm ss∧Own w' (w.heap.size+1) 9 1 v xs.length (xs.map S)∧(xs=[]→v=.slice none 0 0))∧Bel w w':=by
  refine ret_of_W_marks Tryz.func122 rfl (Nat.le_of_ble_eq_true rfl) (res1 rfl) ?_;have hB:=Gr.refl (fun _=>False) w;refine W.seq (W.region (L.box (cs:=_) rfl rfl (fun w2 bx2 hw hz2=>?_)));have hB:=hB.carry hw;refine L.val (x_as (v:=_) rfl) rfl ?_;refine L.nil (thn_n (W.seq (W.seq (W.region (L.val (x_mv (v:=_) rfl) rfl ?_)))));refine L.nil (thn_n (W.block ?_));refine W.wide (m:=2) (WI.rangeF (by decide) rfl eg hseq (Bel.below hB) om_
    (fun pre w'=>∃ v,Box w' w.heap.size 22 [v]∧Own w' (w.heap.size+1) 9 1 v pre.length (pre.map S)∧RowKit.Below w.heap.size w w'∧(pre=[]→v=.slice none 0 0)) ?_ ⟨_,bx2,own_nil,Bel.below hB,fun _=>rfl⟩ rfl rfl ?_ ?_)
  · rintro pre a b row ⟨v,h1,h2,h3,h4⟩ hg hr;have hg':=gr_of_grown hg;refine ⟨v,h1.carryR hg' (fun e=>?_),h2.carryR hg' (fun j hj e=>?_),h3.grown hg h3.size (fun k e=>by have:=(hr k e).1;omega),h4⟩
    · have:=(hr _ e.symm).1;omega
    · obtain ⟨_,o,ho,hn⟩:=hr _ e.symm;rw [h2.cells hj ho] at hn;cases hn
  · rintro l pre x w5 ⟨v,h1,h2,h3,-⟩ hlen;refine WI.block (WI.region ?_);refine LI.val (fun _=>trivial) (fun _ h=>by cases h) (x_ld (v:=v) kcoll_oc22 rfl (h1.cell (i:=0) rfl)) rfl ?_;refine LI.val (fun _=>trivial) (fun _ h=>by cases h) (x_mv (v:=S x) rfl) rfl ?_;refine LI.val (fun _=>trivial) (fun _ h=>by cases h) (x_bs (sz:=1) (cells:=[S x]) Tryz.underlying22 kcoll_el9 rfl rfl rfl) rfl ?_;have b5:=bel_alloc w5 (.cells [S x].toArray 9);have h1:=h1.carry b5;have h2:=h2.carry b5;have bx:=box_alloc w5 9 [S x];obtain ⟨v',w6,hrun,a1,a2,a3,a4⟩:=append_run (ty:=22) (a:=⟨w5.heap.size,0,none⟩) (m:=1) 1 (news:=[S x]) Tryz.underlying22 kcoll_el9 h2 rfl bx.news (by simp [Value.oneCell',S]) om_ (by have:=h3.size;simp;omega);refine LI.val (fun _=>trivial) (fun _ h=>by cases h) (x_append rfl rfl hrun) rfl ?_;have hbl:=h1.lt;have hne:∀ j,some j=v.ownBlock→w.heap.size+1≤j:=fun j hj=>(h2.lt hj).1
    have h1:=h1.carryR a2 (fun e=>by have:=hne _ e;omega);refine LI.skip (fun _=>trivial) (fun _ h=>by cases h) (x_st (v:=v') kcoll_sz22 rfl rfl (by rcases a1.open with ⟨rfl,_⟩ | ⟨_,_,_,rfl,_⟩ <;> rfl) (h1.cell (i:=0) rfl) (h1.free 0)) ?_;have g7:Gr (fun k=>w.heap.size≤k) w5 (w6.setCell ⟨w.heap.size,0,none⟩ v'):=((b5.mono fun _ _ f=>f.elim).trans (a2.mono fun k _ hk=>by have:=hne k hk;omega)).trans ((gr_setCell w6 ⟨w.heap.size,0,none⟩ v').mono fun k _ hk=>by have:k=w.heap.size:=hk;omega);have hB7:=below_of_gr g7 h3.size;have ko:=((KeepsOthers.alloc w5 (.cells [S x].toArray 9)).trans (keeps_of_gr a2 fun k o hk ho=>h2.cells hk ho)).trans (KeepsOthers.setCell w6 ⟨w.heap.size,0,none⟩ v');refine LI.nil ⟨rfl,ko,⟨hB7,ko.walks⟩,_,h1.set 0 v',?_,h3.trans hB7,fun h=>by simp at h⟩
    · have:=Own.carryR a1 (gr_setCell w6 ⟨w.heap.size,0,none⟩ v') (fun j hj e=>by have:=(a1.lt hj).1;have e:j=w.heap.size:=e;omega);simpa using this
  rintro Db xs w5 hD hx ⟨v,h1,h2,h3,h4⟩ hK;refine blk_n (thn_n (W.seq (W.region (L.val (x_ld (v:=v) kcoll_oc22 rfl (h1.cell (i:=0) rfl)) rfl ?_))));refine L.val (x_as (v:=_) rfl) rfl ?_;refine L.nil (thn_n (W.ret (finM_mk (.inr rfl) ?_)));exact ⟨Db,rfl,hK,⟨xs,hΦ xs hx,Own.carryR h2 (gr_putObj _ _ _) (fun j hj e=>by have e:j=Db:=e;subst e;have:=h2.cells hj hK;cases this),h4⟩,(bel_of h3).set (gr_putObj _ _ _) om_⟩
end Go.Gx
namespace Go.Proofs
open Go.Shelf
def Tryz.lays190_ren:Go.Shelf.Ren:=⟨fun | 190=>100 | 125=>124 | 258=>123 | 128=>142 | 129=>129 | 302=>133 | 303=>134 | 304=>135 | 305=>136 | 306=>137 | 307=>138 | 308=>139 | 309=>140 | 310=>141 | 333=>146 | 329=>147 | 330=>148 | 334=>149 | 335=>150 | 336=>151 | 344=>152 | n=>n,fun | 31=>22 | 9=>9 | 3=>3 | 46=>109 | 0=>0 | 51=>135 | 53=>116 | 4=>4 | 183=>139 | 182=>138 | 131=>144 | 5=>5 | 218=>148 | 222=>152 | 228=>156 | 229=>42 | n=>n,fun | n=>n⟩
theorem Tryz.lays190:Go.Proofs.Lays.n190 Tryz.prog Tryz.lays190_ren:={
  mixed:=by kernel_rfl
  f125:=Tryz.func124.trans (congrArg some (by kernel_rfl))
  f128:=Tryz.func142.trans (congrArg some (by kernel_rfl))
  f129:=Tryz.func129.trans (congrArg some (by kernel_rfl))
  f190:=Tryz.func100.trans (congrArg some (by kernel_rfl))
  f258:=Tryz.func123.trans (congrArg some (by kernel_rfl))
  f302:=Tryz.func133.trans (congrArg some (by kernel_rfl))
  f303:=Tryz.func134.trans (congrArg some (by kernel_rfl))
  f304:=Tryz.func135.trans (congrArg some (by kernel_rfl))
  f305:=Tryz.func136.trans (congrArg some (by kernel_rfl))
  f306:=Tryz.func137.trans (congrArg some (by kernel_rfl))
  f307:=Tryz.func138.trans (congrArg some (by kernel_rfl))
  f308:=Tryz.func139.trans (congrArg some (by kernel_rfl))
  f309:=Tryz.func140.trans (congrArg some (by kernel_rfl))
  f310:=Tryz.func141.trans (congrArg some (by kernel_rfl))
  f329:=Tryz.func147.trans (congrArg some (by kernel_rfl))
  f330:=Tryz.func148.trans (congrArg some (by kernel_rfl))
  f333:=Tryz.func146.trans (congrArg some (by kernel_rfl))
  f334:=Tryz.func149.trans (congrArg some (by kernel_rfl))
  f335:=Tryz.func150.trans (congrArg some (by kernel_rfl))
  f336:=Tryz.func151.trans (congrArg some (by kernel_rfl))
  f344:=Tryz.func152.trans (congrArg some (by kernel_rfl))
  t0:=Tryz.underlying0
  a0:=Tryz.isAgg0
  z0:=Tryz.sizeOf0
  v0:=Tryz.zeroValue0
  t3:=Tryz.underlying3
  a3:=Tryz.isAgg3
  z3:=Tryz.sizeOf3
  v3:=Tryz.zeroValue3
  t4:=Tryz.underlying4
  a4:=Tryz.isAgg4
  z4:=Tryz.sizeOf4
  v4:=Tryz.zeroValue4
  t5:=Tryz.underlying5
  a5:=Tryz.isAgg5
  z5:=Tryz.sizeOf5
  v5:=Tryz.zeroValue5
  t9:=Tryz.underlying9
  a9:=Tryz.isAgg9
  z9:=Tryz.sizeOf9
  v9:=Tryz.zeroValue9
  t31:=Tryz.underlying22
  a31:=Tryz.isAgg22
  z31:=Tryz.sizeOf22
  v31:=Tryz.zeroValue22
  t46:=Tryz.underlying109
  a46:=Tryz.isAgg109
  z46:=Tryz.sizeOf109
  v46:=Tryz.zeroValue109
  t51:=Tryz.underlying135
  a51:=Tryz.isAgg135
  z51:=Tryz.sizeOf135
  v51:=Tryz.zeroValue135
  t53:=Tryz.underlying116
  a53:=Tryz.isAgg116
  z53:=Tryz.sizeOf116
  v53:=Tryz.zeroValue116
  t131:=Tryz.underlying144
  a131:=Tryz.isAgg144
  z131:=Tryz.sizeOf144
  v131:=Tryz.zeroValue144
  t182:=Tryz.underlying138
  a182:=Tryz.isAgg138
  z182:=Tryz.sizeOf138
  v182:=Tryz.zeroValue138
  t183:=Tryz.underlying139
  a183:=Tryz.isAgg139
  z183:=Tryz.sizeOf139
  v183:=Tryz.zeroValue139
  t218:=Tryz.underlying148
  a218:=Tryz.isAgg148
  z218:=Tryz.sizeOf148
  v218:=Tryz.zeroValue148
  t222:=Tryz.underlying152
  a222:=Tryz.isAgg152
  z222:=Tryz.sizeOf152
  v222:=Tryz.zeroValue152
  t228:=Tryz.underlying156
  a228:=Tryz.isAgg156
  z228:=Tryz.sizeOf156
  v228:=Tryz.zeroValue156
  t229:=Tryz.underlying42
  a229:=Tryz.isAgg42
  z229:=Tryz.sizeOf42
  v229:=Tryz.zeroValue42 }
open Go.Sort Go.RowKit in
theorem Tryz.slices_Sort_string (blk off cap:Nat) (ss:List (List UInt8)) (w:World) (hH:Holds encStr w blk off ss.toArray) (hblk:blk<w.heap.size) (hsz:ss.length<4611686018427387904):
    Calls Tryz.prog 100 #[.slice (some ⟨blk,off,none⟩) ss.length cap] w fun e w'=>
      e=.returned (.tuple #[])∧∃ n os,w'=grow (putRow encStr (Sort.ahead w n) blk off (ss.mergeSort fun x y=>decide (x≤y)).toArray) os:=Any.slices_Sort_string Tryz.lays190 blk off cap ss w hH hblk hsz
open Go.RowKit Go.Sort in
theorem Tryz.slices_Sort_string_none (p:Option Addr) (cap:Nat) (w:World):
    Calls Tryz.prog 100 #[.slice p 0 cap] w fun e w'=>e=.returned (.tuple #[])∧w'=w:=Any.slices_Sort_string_none Tryz.lays190 p cap w
end Go.Proofs
