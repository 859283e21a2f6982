/- The program's own Check, Size, Deep, Closed: what the reference's say. Conditions: none. -/
import Derived.Test.YtcncoaabbedhfaaGreatCcFits
import Derived.Test.YtcncoaabbedhfaaGreatCcSortF
import Derived.Test.YtcncoaabbedhfaaGreatCcOwn
namespace Go.Gx
open Go.Proofs
theorem kcheck_ag41:aggT Tryz.prog 41 5=true:=by kernel_rfl
theorem kcheck_en45:Go.Proofs.Enters Tryz.prog 45:=Go.Proofs.enters_of Tryz.func45 kr_ rfl
theorem kcheck_en69:Go.Proofs.Enters Tryz.prog 69:=Go.Proofs.enters_of Tryz.func69 kr_ rfl
theorem kcheck_en70:Go.Proofs.Enters Tryz.prog 70:=Go.Proofs.enters_of Tryz.func70 kr_ rfl
theorem kcheck_en71:Go.Proofs.Enters Tryz.prog 71:=Go.Proofs.enters_of Tryz.func71 kr_ rfl
theorem kcheck_en84:Go.Proofs.Enters Tryz.prog 84:=Go.Proofs.enters_of Tryz.func84 kr_ rfl
theorem kcheck_fo41_0:fieldOff Tryz.prog 41 0=some 0:=by kernel_rfl
theorem kcheck_fo41_4:fieldOff Tryz.prog 41 4=some 4:=by kernel_rfl
theorem kcheck_oc3:oneCellT Tryz.prog 3=true:=by kernel_rfl
theorem kcheck_oc39:oneCellT Tryz.prog 39=true:=by kernel_rfl
theorem kcheck_sz41:(Tryz.prog.info? 41).map (·.size)=some 5:=by kernel_rfl
theorem kcheck_zr41:(Tryz.prog.info? 41).bind (·.zero)=some (Value.agg [Value.int .i64 0,S [],S [],Value.slice none 0 0,Value.slice none 0 0].toArray):=by kernel_rfl
theorem length_le_size:∀ l:List Sh,l.length≤sizeL l
  | []=>Nat.zero_le _
  | p :: ps=>by
    have:=length_le_size ps;have h:1≤p.size:=by cases p;simp [Sh.size]
    simp only [List.length_cons,sizeL];omega
theorem parts_le (s:Sh):s.parts.length≤s.size:=by
  have:=length_le_size s.parts;rw [Sh.size_eq];omega
theorem cnt_cases (s:Sh):∃ (a b:Int) (c:Bool),cntS s=.tuple #[.int .i64 a,.int .i64 b,.bool c]∧((s.size≤400∧a=s.size∧b=s.deep∧c=true)∨(400<s.size∧a=401∧b=0∧c=false)):=by
  unfold cntS;split
  · exact ⟨_,_,_,rfl,.inl ⟨by assumption,rfl,rfl,rfl⟩⟩
  · exact ⟨_,_,_,rfl,.inr ⟨by omega,rfl,rfl,rfl⟩⟩
theorem all_ok (g:Nat) (pS:Sh→Bool) (M:Nat) (eg:Enters Tryz.prog g) (hg:∀ (A:Nat→Prop) (s:Sh) (cs:List Value) (w:World),ShC A w cs s→s.size≤M→Ret Tryz.prog g #[.agg cs.toArray] w fun v w'=>v=.bool (pS s)∧Bel w w'):
    ∀ (N:Nat) (s:Sh),SizeOf.sizeOf s<N→s.size≤M→∀ (A:Nat→Prop) (cs:List Value) (w:World),ShC A w cs s→
    Ret Tryz.prog 70 #[.agg cs.toArray,.func (.func g) #[] #[]] w fun v w'=>v=.bool (s.allB pS)∧Bel w w':=by
  intro N;induction N with
  | zero=>intro s h;omega
  | succ N ih=>
    intro s hN hM A0 cs w hs0;obtain ⟨A,hs,hU⟩:∃ A:Nat→Prop,ShC A w cs s∧(∀ k,w.heap.size≤k→A k):=⟨_,hs0.up,fun _=>.inr⟩;clear hs0;obtain ⟨vn,vp,rfl,hn,hp,hof,hnm⟩:=hs.inv;obtain ⟨p,cap,row,rfl,p1,p2,p3,hr⟩:=hp;refine ret_of_W Tryz.func70 rfl (Nat.le_of_ble_eq_true rfl) (res1 rfl) ?_;have hB:=Gr.refl (fun _=>False) w;refine W.seq (W.region (L.box (cs:=_) rfl rfl (fun w2 bx2 hw hz2=>?_)));have hB:=hB.carry hw;have hr:=hr.carry hw;have hs:=hs.carry hw;refine L.val (x_as (v:=.bool _) rfl) rfl ?_;refine L.nil (thn_n (W.seq (W.seq (W.region (L.val (x_mv (v:=.func _ _ _) rfl) rfl ?_)))));refine L.val (x_ldn (vs:=_) kcheck_ag41 rfl rfl (bx2.row rfl)) rfl ?_;refine L.ret (x_callv eg rfl rfl) rfl (hg A s _ _ hs hM) ?_;rintro _ w9 ⟨rfl,hw⟩;have hB:=hB.carry hw;have hr:=hr.carry hw;have hs:=hs.carry hw;have bx2:=bx2.carry hw;refine L.val (x_not rfl) rfl ?_;refine L.nil (thn_n (W.cond (b:=_) rfl (fun g10=>?_) (fun g10=>?_)))
    ·have h10:=(not_t g10);refine W.seq (W.region (L.val (x_as (v:=.bool _) rfl) rfl ?_));refine L.nil (thn_n (W.ret (thn_r (fin_mk (.inr rfl) ?_))));exact ⟨vb (by rw [Sh.allB_eq,h10];rfl),hB⟩
    ·have h10:=(not_f g10);refine W.skip (thn_n (W.seq (W.seq (W.region (L.val (x_fa kcheck_fo41_4 rfl) rfl ?_)))));refine L.val (x_ld (v:=.slice _ _ _) kcheck_oc39 rfl (bx2.cell0 rfl)) rfl ?_;refine L.val (x_len_slice Tryz.underlying39 rfl) rfl ?_;refine L.val (x_mv (v:=.int _ _) rfl) rfl ?_;refine L.nil (thn_n (W.block (W.loop (fun m' E w'=>∃ (k:Nat),m'=s.parts.length - k∧E 1=.func (.func g) #[] #[]∧E 12=.slice p s.parts.length cap∧E 13=.int .i64 (s.parts.length:Nat)∧E 14=.int .i64 (k:Nat)∧(Bel w w')∧(ShRow A w' p row s.parts)∧(k≤s.parts.length)∧(allL pS (s.parts.take k)=true)) (s.parts.length) ?_ ?_)))
     ·exact ⟨0,by omega,vi_,vi_,vi_,vi_,ao_,ao_,ao_,(by rfl)⟩
     ·rintro _ E wL15 ⟨k,em,e1,e12,e13,e14,hB,hr,hk,ha⟩;rw [upd_self e1,upd_self e12,upd_self e13,upd_self e14];refine W.seq (W.region (L.val (x_lss rfl rfl) rfl ?_));refine L.nil (thn_n (W.seq (W.cond (b:=_) rfl (fun g15=>?_) (fun g15=>?_))))
      ·have h15:=of_decide_eq_true g15;have hlt:k<s.parts.length:=by omega
       obtain ⟨b,o,rfl,hc⟩:=hr.elem hlt;refine W.skip (thn_n (W.seq (W.block (W.seq (W.region ?_)))));have hsz15:=hB.size;refine L.val (x_ia  Tryz.underlying39 kcheck_sz41 rfl rfl rfl om_) rfl ?_;refine L.val (x_ldn (vs:=row k) kcheck_ag41 rfl (hr.five k hlt) hc) rfl ?_;refine L.alloc (cs:=[Value.int .i64 0,S [],S [],Value.slice none 0 0,Value.slice none 0 0]) kcheck_zr41 rfl rfl (fun w6 bx6 hw hz6=>?_);have hB:=hB.carry hw;have hr:=hr.carry hw;refine L.setRow kcheck_ag41 rfl rfl bx6 rfl (hr.five k hlt) (ShC.one (hr.each k hlt)) (fun wl16 bx6 hw hzl16=>?_);have hsz:=hB.size;have hB:=hB.set hw om_;have hr:=hr.carryR hw (fun k e=>hU k (by have:k=_:=e;omega));refine L.nil (thn_n (W.seq (W.region (L.val (x_ldn (vs:=_) kcheck_ag41 rfl (hr.five k hlt) (bx6.row (hr.five k hlt))) rfl ?_))));refine L.val (x_mv (v:=.func _ _ _) rfl) rfl ?_;refine L.ret (x_call kcheck_en70 rfl) rfl (ih _ (by have:=Sh.part_lt hlt;omega) (by have:=Sh.part_size hlt;omega) A _ _ (hr.each k hlt)) ?_;rintro _ w20 ⟨rfl,hw⟩;have hB:=hB.carry hw;have hr:=hr.carry hw;have bx6:=bx6.carry hw;refine L.val (x_not rfl) rfl ?_;refine L.nil (thn_n (W.cond (b:=_) rfl (fun g21=>?_) (fun g21=>?_)))
       ·have h21:=(not_t g21);refine W.seq (W.region (L.val (x_as (v:=.bool _) rfl) rfl ?_));refine L.nil (thn_n (W.ret (blk_r (thn_r (thn_r (blk_r (thn_r (fin_mk (.inr rfl) ?_))))))));exact ⟨vb (by rw [Sh.allB_eq,allL_miss hlt h21];simp),hB⟩
       ·have h21:=(not_f g21);refine W.skip (blk_n (thn_n (W.region (L.val (x_add rfl rfl (wr64 om_)) rfl ?_))));refine L.val (x_mv (v:=.int _ _) rfl) rfl ?_;refine L.nil (thn_n ⟨rfl,?_⟩);refine ⟨_,?_,k+1,rfl,vi_,vi_,vi_,vi_,ao_,ao_,ao_,(by rw [allL_take hlt,ha,h21];rfl)⟩;omega
      ·have h15:=dlt_f g15;refine W.exit (thn_x (thn_x (blk_hit ?_)));refine thn_n (W.seq (W.region (L.val (x_as (v:=.bool _) rfl) rfl ?_)));refine L.nil (thn_n (W.ret (fin_mk (.inr rfl) ?_)));rw [List.take_of_length_le om_] at ha;exact ⟨vb (by rw [Sh.allB_eq,h10,ha];rfl),hB⟩
theorem notname_ok (A:Nat→Prop) (s:Sh) (cs:List Value) (w:World) (hs:ShC A w cs s):
    Ret Tryz.prog 84 #[.agg cs.toArray] w fun v w'=>v=.bool (notName s)∧Bel w w':=by
  obtain ⟨vn,vp,rfl,hn,hp,hof,hnm⟩:=hs.inv;refine ret_of_W Tryz.func84 rfl (Nat.le_of_ble_eq_true rfl) (res1 rfl) ?_;have hB:=Gr.refl (fun _=>False) w;refine W.seq (W.region (L.box (cs:=_) rfl rfl (fun w1 bx1 hw hz1=>?_)));have hB:=hB.carry hw;refine L.val (x_as (v:=.bool _) rfl) rfl ?_;refine L.nil (thn_n (W.seq (W.region (L.val (x_fa kcheck_fo41_0 rfl) rfl ?_))));refine L.val (x_ld (v:=.int _ _) kcheck_oc3 rfl (bx1.cell0 rfl)) rfl ?_;refine L.val (x_neq rfl rfl) rfl ?_;refine L.val (x_as (v:=.bool _) rfl) rfl ?_;refine L.nil (thn_n (W.ret (fin_mk (.inr rfl) ?_)));exact ⟨vb rfl,hB⟩
theorem checkL (A:Nat→Prop) (s:Sh) (cs:List Value) (w:World) (hs:ShC A w cs s):
    Ret Tryz.prog 45 #[.agg cs.toArray] w fun v w'=>v=.int .i64 (checkS s)∧Bel w w':=by
  have hlen:=hs.len;obtain ⟨cv,hcv⟩:∃ cv,cv=cntS s:=⟨_,rfl⟩;refine ret_of_W Tryz.func45 rfl (Nat.le_of_ble_eq_true rfl) (res1 rfl) ?_;have hB:=Gr.refl (fun _=>False) w;refine W.seq (W.region (L.box (cs:=cs) rfl rfl (fun w1 bx1 hw hz1=>?_)));have hB:=hB.carry hw;have hs:=hs.carry hw;refine L.val (x_as (v:=.int _ _) rfl) rfl ?_;refine L.nil (thn_n (W.seq (W.region (L.val (x_ldn (vs:=cs) kcheck_ag41 rfl hlen (bx1.row hlen)) rfl ?_))));refine L.ret (x_call kcheck_en69 rfl) rfl (count_ok A s _ _ hs) ?_;rintro _ w8 ⟨rfl,hw⟩;have hB:=hB.carry hw;have hs:=hs.carry hw;have bx1:=bx1.carry hw;obtain ⟨a,b,c,hc,hd⟩:=cnt_cases s;rw [hc];refine L.val (x_mv (v:=_) rfl) rfl ?_;refine L.val (x_ext (v:=.int _ _) rfl rfl) rfl ?_;refine L.val (x_ext (v:=.int _ _) rfl rfl) rfl ?_;refine L.val (x_ext (v:=.bool _) rfl rfl) rfl ?_;refine L.val (x_as (v:=.int _ _) rfl) rfl ?_;refine L.val (x_as (v:=.int _ _) rfl) rfl ?_;refine L.val (x_as (v:=.bool _) rfl) rfl ?_;refine L.nil (thn_n (W.seq (W.block (W.seq (W.region (L.val (x_mv (v:=.bool _) rfl) rfl ?_))))));refine L.val (x_not rfl) rfl ?_;refine L.val (x_as (v:=.bool _) rfl) rfl ?_;refine L.nil (thn_n (W.cond (b:=_) rfl (fun g14=>?_) (fun g14=>?_)))
  ·have h14:=(not_t g14);refine W.seq (W.region (L.val (x_as (v:=.int _ _) rfl) rfl ?_));refine L.nil (thn_n (W.ret (blk_r (thn_r (fin_mk (.inr rfl) ?_)))));exact ⟨vi (by rcases hd with h | h;rw [h.2.2.2] at g14;cases g14;unfold checkS;rw [if_pos om_]),hB⟩
  ·have h14:=(not_f g14);refine W.seq (W.region (L.val (x_mv (v:=.int _ _) rfl) rfl ?_));refine L.val (x_gtr rfl rfl) rfl ?_;refine L.val (x_as (v:=.bool _) rfl) rfl ?_;refine L.nil (thn_n (W.cond (b:=_) rfl (fun g17=>?_) (fun g17=>?_)))
   ·have h17:=of_decide_eq_true g17;refine W.seq (W.region (L.val (x_as (v:=.int _ _) rfl) rfl ?_));refine L.nil (thn_n (W.ret (blk_r (thn_r (fin_mk (.inr rfl) ?_)))));exact ⟨vi (by rcases hd with h | h;unfold checkS;rw [if_neg om_,if_pos om_];rw [h.2.2.2] at g14;cases g14),hB⟩
   ·have h17:=dlt_f g17;refine W.seq (W.region (L.val (x_ldn (vs:=cs) kcheck_ag41 rfl hlen (bx1.row hlen)) rfl ?_));refine L.ret (x_call kcheck_en70 rfl) rfl (all_ok 71 fitsS 400 kcheck_en71 (fun A s cs w h hm=>fits_ok A s cs w h (by have:=parts_le s;omega)) _ s (Nat.lt_succ_self _) (by rcases hd with h | h;omega;rw [h.2.2.2] at g14;cases g14) A cs _ hs) ?_;rintro _ w20 ⟨rfl,hw⟩;have hB:=hB.carry hw;have hs:=hs.carry hw;have bx1:=bx1.carry hw;refine L.val (x_not rfl) rfl ?_;refine L.val (x_as (v:=.bool _) rfl) rfl ?_;refine L.nil (thn_n (W.cond (b:=_) rfl (fun g21=>?_) (fun g21=>?_)))
    ·have h21:=(not_t g21);refine W.seq (W.region (L.val (x_as (v:=.int _ _) rfl) rfl ?_));refine L.nil (thn_n (W.ret (blk_r (thn_r (fin_mk (.inr rfl) ?_)))));exact ⟨vi (by rcases hd with h | h;unfold checkS;rw [if_neg om_,if_neg om_,if_pos h21];rw [h.2.2.2] at g14;cases g14),hB⟩
    ·have h21:=(not_f g21);refine W.skip (blk_n (thn_n (W.seq (W.region (L.val (x_as (v:=.int _ _) rfl) rfl ?_)))));refine L.nil (thn_n (W.ret (fin_mk (.inr rfl) ?_)));exact ⟨vi (by rcases hd with h | h;unfold checkS;rw [if_neg om_,if_neg om_,if_neg (by rw [h21];simp)];rw [h.2.2.2] at g14;cases g14),hB⟩
theorem closedL (A:Nat→Prop) (s:Sh) (cs:List Value) (w:World) (hs:ShC A w cs s):
    Ret Tryz.prog 56 #[.agg cs.toArray] w fun v w'=>v=.bool (closedS s)∧Bel w w':=by
  have hlen:=hs.len;refine ret_of_W Tryz.func56 rfl (Nat.le_of_ble_eq_true rfl) (res1 rfl) ?_;have hB:=Gr.refl (fun _=>False) w;refine W.seq (W.region (L.box (cs:=cs) rfl rfl (fun w1 bx1 hw hz1=>?_)));have hB:=hB.carry hw;have hs:=hs.carry hw;refine L.val (x_as (v:=.bool _) rfl) rfl ?_;refine L.nil (thn_n (W.seq (W.region (L.val (x_ldn (vs:=cs) kcheck_ag41 rfl hlen (bx1.row hlen)) rfl ?_))));refine L.ret (x_call kcheck_en45 rfl) rfl (checkL A s _ _ hs) ?_;rintro _ w4 ⟨rfl,hw⟩;have hB:=hB.carry hw;have hs:=hs.carry hw;have bx1:=bx1.carry hw;refine L.val (x_eql rfl rfl) rfl ?_;refine L.val (x_mv (v:=.bool _) rfl) rfl ?_;refine' L.group 2 7 8 8 6 true rfl ?_ ?_ ?_;rotate_left 1
  ·intro g6 hg6;have h6:=of_decide_eq_true g6;refine L.gyes' (dj:=6) (b:=_) rfl rfl g6 ?_;refine L.val (x_ldn (vs:=cs) kcheck_ag41 rfl hlen (bx1.row hlen)) rfl ?_;refine L.gyes' (dj:=6) (b:=_) rfl rfl g6 ?_;refine L.ret (x_call kcheck_en70 rfl) rfl (all_ok 84 notName s.size kcheck_en84 (fun A s cs w h _=>notname_ok A s cs w h) _ s (Nat.lt_succ_self _) (Nat.le_refl _) A cs _ hs) ?_;rintro _ w8 ⟨rfl,hw⟩;have hB:=hB.carry hw;have hs:=hs.carry hw;have bx1:=bx1.carry hw;have hg6:=hg6.carry hw;refine L.nil (thn_n ⟨rfl,?_,?_,fun _=>rfl⟩)
   ·exact hg6
   ·repeat (first | exact jeq.refl _ _ _ | refine jeq.upd rfl ?_ | refine jeq.jk rfl rfl ?_)
  ·intro g6;refine L.gno (dj:=6) (b:=_) rfl rfl g6 rfl ?_;refine L.gno (dj:=6) (b:=_) rfl rfl g6 rfl ?_;refine L.nil (thn_n ⟨rfl,Gr.refl _ _,?_⟩);refine ⟨?_,fun h=>h.elim⟩;repeat (first | exact jeq.refl _ _ _ | refine jeq.upd rfl ?_ | refine jeq.jk rfl rfl ?_)
  intro J6 w6 hw j6;have hB:=hB.carry hw;have hs:=hs.carry hw;have bx1:=bx1.carry hw;refine L.val (x_and rfl j6) rfl ?_;refine L.val (x_as (v:=.bool _) rfl) rfl ?_;refine L.nil (thn_n (W.ret (fin_mk (.inr rfl) ?_)));exact ⟨vb rfl,hB⟩
end Go.Gx
namespace Go.Gx
open Go.Proofs Go.Sort
def insP (x:Str × Sh):List (Str × Sh)→List (Str × Sh)
  | []=>[x]
  | y :: l=>if ltStr y.1 x.1 then y :: insP x l else x :: y :: l
def pairUp (ns:List Str) (qs:List Sh):List (Str × Sh):=(ns.zip qs).foldl (fun a x=>insP x a) []
mutual
def Sh.sort:Sh→Sh | .mk k o n ns ps=>if ns=[] then .mk k o n [] (sortL ps) else .mk k o n ((pairUp ns (sortL ps)).map (·.1)) ((pairUp ns (sortL ps)).map (·.2))
def sortL:List Sh→List Sh | []=>[] | x :: xs=>x.sort :: sortL xs
end
theorem sortL_eq:∀ l,sortL l=l.map Sh.sort
  | []=>rfl
  | x :: xs=>by rw [sortL,sortL_eq xs];rfl
theorem Sh.sort_eq (s:Sh):s.sort=if s.names=[] then .mk s.kind s.of s.name [] (s.parts.map Sh.sort) else .mk s.kind s.of s.name ((pairUp s.names (s.parts.map Sh.sort)).map (·.1)) ((pairUp s.names (s.parts.map Sh.sort)).map (·.2)):=by
  cases s;rw [Sh.sort,sortL_eq];rfl
theorem fits_names {s:Sh} (h:fitsS s=true):s.names=[]∨(s.names.length=s.parts.length∧nodup s.names=true):=by
  unfold fitsS at h;by_cases hn:s.names=[]
  · exact .inl hn
  · right;have hl:(0:Int)<s.names.length:=by have:=List.length_pos_iff.2 hn;omega
    split at h
    · simp [hn] at h
    · split at h
      · cases h
      · split at h
        · unfold namesOk at h;simp only [Bool.and_eq_true,decide_eq_true_eq] at h;exact ⟨by omega,h.1.2⟩
        · first | cases h | (rw [if_pos hl] at h;cases h)
theorem allL_getD {p:Sh→Bool} {l:List Sh} (h:allL p l=true) {i:Nat} (hi:i<l.length):(l.getD i default).allB p=true:=by
  cases hh:(l.getD i default).allB p
  · rw [allL_miss hi hh] at h;cases h
  · rfl
def Ordered (ns:List Str) (n:Nat) (idx:List Nat):Prop:=idx.Perm (List.range n)∧(ns=[]→idx=List.range n)∧(ns≠[]→∀ i j,i<j→j<n→ltStr (ns.getD (idx.getD j 0) []) (ns.getD (idx.getD i 0) [])=false)
theorem Ordered.len {ns:List Str} {n:Nat} {idx:List Nat} (h:Ordered ns n idx):idx.length=n:=by have:=h.1.length_eq;simpa using this
theorem Ordered.lt {ns:List Str} {n:Nat} {idx:List Nat} (h:Ordered ns n idx) {k:Nat} (hk:k<n):idx.getD k 0<n:=by
  have hm:idx.getD k 0∈idx:=by rw [List.getD_eq_getElem?_getD,List.getElem?_eq_getElem (by rw [h.len];exact hk)];exact List.getElem_mem _
  exact List.mem_range.1 (h.1.mem_iff.1 hm)
abbrev encN:Nat→Value:=fun x=>.int .i64 (x:Int)
theorem row_conv {α β : Type} {e1:α → Value} {e2:β → Value} {w:World} {b o:Nat} {T:TypeId} {hd tl:List Value} {d1:Array α} {d2:Array β} (h:Row e1 w b o T hd d1 tl) (he:d1.toList.map e1=d2.toList.map e2):Row e2 w b o T hd d2 tl:=
  ⟨h.1,by rw [← he];exact h.2⟩
theorem row_range {w:World} {b o:Nat} {T:TypeId} {hd tl:List Value} {n:Nat} {c:Array Int} (h:Row (Value.int .i64) w b o T hd c tl) (hn:c.size=n) (hc:∀ j,j<n→c[j]! = (j:Int)):Row encN w b o T hd (List.range n).toArray tl:=by
  refine row_conv h ?_;apply List.ext_getElem
  · simp [hn]
  · intro i h1 h2;have h1:i<c.size:=by simpa using h1
    have:=hc i om_;simp only [getElem!_pos c i h1] at this;simp [this]
theorem fin_row {w:World} {b o:Nat} {T:TypeId} {hd tl:List Value} {m:Nat} (h:Row encN w b o T hd (List.range (m+1)).toArray tl):Row (encF m) w b o T hd (List.finRange (m+1)).toArray tl:=by
  refine row_conv h ?_;apply List.ext_getElem
  · simp
  · intro i h1 h2;simp
theorem extract_all {α : Type} (d:Array α) {n:Nat} (h:d.size=n):d.extract 0 n=d:=by subst h;simp
theorem ordered_of {ns:List Str} {m:Nat} {d:Array (Fin (m+1))} (hne:ns≠[]) (p:PermIn 0 (m+1) (List.finRange (m+1)).toArray d) (hs:SortedIn (ltc (cfF ns m)) 0 (m+1) d):Ordered ns (m+1) (d.toList.map (·.val)):=by
  obtain ⟨h1,-,h3⟩:=p;have hsz:d.size=m+1:=by rw [h1];simp
  rw [extract_all d hsz,extract_all _ (by simp)] at h3;have e2:(List.finRange (m+1)).map (·.val)=List.range (m+1):=by
    apply List.ext_getElem
    · simp
    · intro i h1 h2;simp
  refine ⟨by rw [← e2];exact h3.map _,fun h=>absurd h hne,fun _ i j hij hj=>?_⟩;have:=hs i j om_ hij hj;have this:decide (Lib.compareBytes (ns.getD d[j]!.val []) (ns.getD d[i]!.val [])<0)=false:=this;rw [cb_lt] at this;have ei:∀ i,i<m+1→(d.toList.map (·.val)).getD i 0=d[i]!.val:=fun i hi=>by
    simp [List.getD_eq_getElem?_getD,show i<d.size by omega]
  rw [ei i om_,ei j hj];exact this
def outN (ns:List Str) (idx:List Nat):List Str:=if ns=[] then [] else idx.map (fun x=>ns.getD x [])
def outP (ps:List Sh) (idx:List Nat):List Sh:=idx.map (fun x=>(ps.getD x default).sort)
theorem take_succ' {idx:List Nat} {k:Nat} (hk:k<idx.length):idx.take (k+1)=idx.take k++[idx.getD k 0]:=take_snoc (d:=0) hk
theorem outN_succ {ns:List Str} {idx:List Nat} {k:Nat} (hne:ns≠[]) (hk:k<idx.length):outN ns (idx.take (k+1))=outN ns (idx.take k)++[ns.getD (idx.getD k 0) []]:=by
  unfold outN;rw [if_neg hne,if_neg hne,take_succ' hk,List.map_append];rfl
theorem outN_nil {ns:List Str} {idx:List Nat} (h:ns=[]):outN ns idx=[]:=by unfold outN;rw [if_pos h]
theorem outP_succ {ps:List Sh} {idx:List Nat} {k:Nat} (hk:k<idx.length):outP ps (idx.take (k+1))=outP ps (idx.take k)++[(ps.getD (idx.getD k 0) default).sort]:=by
  unfold outP;rw [take_succ' hk,List.map_append];rfl
theorem outN_len {ns:List Str} {idx:List Nat} {k:Nat}:(outN ns (idx.take k)).length≤idx.length:=by
  unfold outN;split <;> simp;omega
theorem outP_len {ps:List Sh} {idx:List Nat} {k:Nat}:(outP ps (idx.take k)).length≤idx.length:=by
  unfold outP;simp;omega
theorem outN_short {ns:List Str} {idx:List Nat} (h:∀ x∈ns,x.length≤9223372036854775807):∀ x∈outN ns idx,x.length≤9223372036854775807:=by
  unfold outN;split
  · simp
  · intro x hx;obtain ⟨i,-,rfl⟩:=List.mem_map.1 hx;rcases Nat.lt_or_ge i ns.length with hi | hi
    · rw [List.getD_eq_getElem?_getD,List.getElem?_eq_getElem hi];exact h _ (List.getElem_mem _)
    · rw [List.getD_eq_getElem?_getD,List.getElem?_eq_none hi];simp
theorem insP_perm (x:Str × Sh):∀ l,(insP x l).Perm (x :: l)
  | []=>.refl _
  | y :: l=>by
    unfold insP;split
    · exact ((insP_perm x l).cons y).trans (.swap x y l)
    · exact .refl _
theorem foldP_perm:∀ (l acc:List (Str × Sh)),(l.foldl (fun a x=>insP x a) acc).Perm (l++acc)
  | [],acc=>.refl _
  | x :: l,acc=>by
    rw [List.foldl_cons];refine (foldP_perm l _).trans ?_;refine (List.Perm.append_left l (insP_perm x acc)).trans ?_;exact List.perm_middle
abbrev LeP (a b:Str × Sh):Prop:=ltStr b.1 a.1=false
theorem insP_sorted (x:Str × Sh):∀ l:List (Str × Sh),l.Pairwise LeP→(insP x l).Pairwise LeP
  | [],_=>by simp [insP]
  | y :: l,h=>by
    rw [List.pairwise_cons] at h;unfold insP;split
    · next hlt=>
      rw [List.pairwise_cons];refine ⟨fun z hz=>?_,insP_sorted x l h.2⟩;rcases List.mem_cons.1 ((insP_perm x l).mem_iff.1 hz) with rfl | hz
      · show ltStr _ _=false;cases hh:ltStr z.1 y.1
        · rfl
        · have:=swo_ltStr.trans _ _ _ hlt hh;rw [swo_ltStr.irrefl] at this;cases this
      · exact h.1 z hz
    · next hlt=>
      have hlt:ltStr y.1 x.1=false:=by simpa using hlt
      rw [List.pairwise_cons];refine ⟨fun z hz=>?_,List.pairwise_cons.2 h⟩;rcases List.mem_cons.1 hz with rfl | hz
      · exact hlt
      · exact swo_ltStr.ntrans _ _ _ (h.1 z hz) hlt
theorem foldP_sorted:∀ (l acc:List (Str × Sh)),acc.Pairwise LeP→(l.foldl (fun a x=>insP x a) acc).Pairwise LeP
  | [],_,h=>h
  | x :: l,acc,h=>by rw [List.foldl_cons];exact foldP_sorted l _ (insP_sorted x acc h)
theorem eq_of_fst {l:List (Str × Sh)} (h:(l.map (·.1)).Nodup) {a b:Str × Sh} (ha:a∈l) (hb:b∈l) (e:a.1=b.1):a=b:=by
  induction l with
  | nil=>cases ha
  | cons x l ih=>
    rw [List.map_cons,List.nodup_cons] at h;rcases List.mem_cons.1 ha with e1 | ha'
    · rcases List.mem_cons.1 hb with e2 | hb'
      · rw [e1,e2]
      · exact absurd (by rw [← e1,e];exact List.mem_map_of_mem hb') h.1
    · rcases List.mem_cons.1 hb with e2 | hb'
      · exact absurd (by rw [← e2,← e];exact List.mem_map_of_mem ha') h.1
      · exact ih h.2 ha' hb'
theorem sort_of_ordered {s:Sh} {idx:List Nat} (hf:fitsS s=true) (h:Ordered s.names s.parts.length idx):Sh.mk s.kind s.of s.name (outN s.names idx) (outP s.parts idx)=s.sort:=by
  rw [Sh.sort_eq];by_cases hn:s.names=[]
  · rw [if_pos hn,outN_nil hn,h.2.1 hn];congr 1;unfold outP;apply List.ext_getElem
    · simp
    · intro i h1 h2;have:i<s.parts.length:=by simpa using h1
      simp [List.getD_eq_getElem?_getD,this]
  · rw [if_neg hn];obtain ⟨hl,hd⟩:=(fits_names hf).resolve_left hn;obtain ⟨prs,hprs⟩:∃ prs,prs=idx.map (fun x=>(s.names.getD x [],(s.parts.getD x default).sort)):=⟨_,rfl⟩;have hz:(List.range s.parts.length).map (fun x=>(s.names.getD x [],(s.parts.getD x default).sort))=s.names.zip (s.parts.map Sh.sort):=by
      apply List.ext_getElem
      · simp;omega
      · intro i h1 h2;have h3:i<s.parts.length:=by simpa using h1
        simp [List.getD_eq_getElem?_getD,h3,show i<s.names.length by omega]
    have hp:prs.Perm (s.names.zip (s.parts.map Sh.sort)):=by rw [hprs,← hz];exact h.1.map _
    have hfst:(s.names.zip (s.parts.map Sh.sort)).map (·.1)=s.names:=by
      rw [List.map_fst_zip];simp;omega
    have key:prs=pairUp s.names (s.parts.map Sh.sort):=by
      have q:=(foldP_perm (s.names.zip (s.parts.map Sh.sort)) []);rw [List.append_nil] at q;refine List.Perm.eq_of_pairwise (le:=LeP) ?_ ?_ (foldP_sorted _ _ List.Pairwise.nil) (hp.trans q.symm)
      · intro a b ha hb h1 h2;exact eq_of_fst (l:=s.names.zip (s.parts.map Sh.sort)) (by rw [hfst];exact nodup_iff.1 hd) (hp.mem_iff.1 ha) (q.mem_iff.1 hb) (ltStr_anti h2 h1)
      · rw [List.pairwise_iff_getElem];intro i j hi hj hij;have hil:idx.length=s.parts.length:=h.len;have hj':j<s.parts.length:=by rw [hprs] at hj;simp at hj;omega
        have:=h.2.2 hn i j hij hj';show ltStr _ _=false;simp only [hprs,List.getElem_map];simpa [List.getD_eq_getElem?_getD,show i<idx.length by omega,show j<idx.length by omega] using this
    rw [← key,hprs];unfold outN outP;rw [if_neg hn];simp
end Go.Gx
