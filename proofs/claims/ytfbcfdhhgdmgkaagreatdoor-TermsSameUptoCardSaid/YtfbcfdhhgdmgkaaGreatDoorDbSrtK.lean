/- The library's sort of strings, by the kit's contract. Conditions: none. -/
import Derived.Sort.LotD3
import Derived.Test.YtfbcfdhhgdmgkaaGreatDoorDbApp
import Derived.Test.YtfbcfdhhgdmgkaaGreatDoorDbTm1
import Derived.Test.YtfbcfdhhgdmgkaaGreatDoorDbLex
namespace Go.Gx
open Go.Proofs Go.Sort
theorem putCells_row {α : Type} [Inhabited α] {enc:α → Value} {hd tl:List Value} {d d':Array α} (hs:d'.size=d.size):
    putCells enc hd.length d' (hd++d.toList.map enc++tl).toArray=(hd++d'.toList.map enc++tl).toArray:=by
  apply Array.ext
  · simp [putCells,hs]
  · intro i h1 h2;have h2:i<(hd++d'.toList.map enc++tl).length:=by simpa using h2
    simp only [putCells,Array.getElem_mapIdx,List.getElem_toArray];by_cases ha:i<hd.length
    · rw [if_neg om_];rw [List.getElem_append_left (by simp;omega),List.getElem_append_left ha,List.getElem_append_left (by simp;omega),List.getElem_append_left ha]
    · by_cases hb:i<hd.length+d'.size
      · rw [if_pos ⟨by omega,hb⟩,List.getElem_append_left (by simp;omega),List.getElem_append_right om_];simp [getElem!_pos d' (i - hd.length) om_]
      · rw [if_neg om_,List.getElem_append_right (by simp;omega),List.getElem_append_right (by simp;omega)];simp [hs]
theorem row_put {α : Type} [Inhabited α] {enc:α → Value} {w:World} {b o:Nat} {T:TypeId} {hd tl:List Value} {d d':Array α} (h:Row enc w b o T hd d tl) (hs:d'.size=d.size) (n:Nat):Row enc (putRow enc (Sort.ahead w n) b o d') b o T hd d' tl:=by
  obtain ⟨rfl,hb⟩:=h;refine ⟨rfl,?_⟩;have hb':w.heap[b]? = some (.cells (hd++d.toList.map enc++tl).toArray T (0,0)):=hb;show (w.heap.modify b (onCells (putCells enc hd.length d')))[b]? = _;rw [Array.getElem?_modify,if_pos rfl,hb'];simp only [Option.map_some,onCells];rw [putCells_row hs]
theorem gr_put {α : Type} [Inhabited α] {enc:α → Value} {w:World} {b o:Nat} {d':Array α} (n:Nat):Gr (· = b) w (putRow enc (Sort.ahead w n) b o d'):=by
  refine ⟨rfl,rfl,rfl,?_,fun k _ hk=>?_⟩
  · show _≤(w.heap.modify b _).size;simp
  · show (w.heap.modify b _)[k]? = _;rw [Array.getElem?_modify,if_neg (fun e=>hk e.symm)]
theorem bel_grow (w:World) (os:Array Obj):Bel w (grow w os):=
  ⟨rfl,rfl,rfl,by simp [grow],fun k hk _=>by show (w.heap++os)[k]? = _;rw [Array.getElem?_append_left hk]⟩
theorem sort_nil (cap:Nat) (w:World):Ret Tryz.prog 100 #[.slice none 0 cap] w fun v w'=>v=.tuple #[]∧Bel w w':=
  Calls.mono (Tryz.slices_Sort_string_none none cap w) fun _ _ ⟨he,hw⟩=>⟨_,he,rfl,hw ▸ Gr.refl _ _⟩
theorem sort_ok (b o cap n:Nat) (T:TypeId) (hd tl:List Value) (d:Array Str) (w:World) (hR:Row S w b o T hd d tl) (hn:d.size=n) (h1:1≤n) (hc:n≤2000000000000000000):
    Ret Tryz.prog 100 #[.slice (some ⟨b,o,none⟩) n cap] w fun v w'=>v=.tuple #[]∧Gr (· = b) w w'∧∃ d',Row S w' b o T hd d' tl∧PermIn 0 n d d'∧SortedIn ltStr 0 n d':=by
  subst hn;have hk:=Tryz.slices_Sort_string b o cap d.toList w (fun j hj=>by
    have hj:j<d.size:=by simpa using hj
    have e:d.toList.toArray[j]! = d[j]! := by simp
    rw [e];exact ⟨hR.at hj,hR.free _⟩) hR.lt (by simp;omega)
  have e0:d.toList.length=d.size:=by simp
  rw [e0] at hk;refine Calls.mono hk fun e w' ⟨he,m,os,hw⟩=>⟨_,he,rfl,?_⟩
  subst hw;obtain ⟨l,hl⟩:∃ l,l=d.toList.mergeSort fun x y=>decide (x≤y):=⟨_,rfl⟩
  have hp:l.Perm d.toList:=by rw [hl];exact List.mergeSort_perm _ _
  have hlen:l.length=d.size:=by rw [hp.length_eq];simp
  have hsr:l.Pairwise fun x y=>decide (x≤y)=true:=by
    rw [hl];refine List.pairwise_mergeSort (fun a b c h1 h2=>?_) (fun a b=>?_) _
    · simp only [decide_eq_true_eq] at *;exact List.le_trans h1 h2
    · simp only [Bool.or_eq_true,decide_eq_true_eq];exact List.le_total a b
  rw [← hl];refine ⟨(gr_put m).carry (bel_grow _ _),l.toArray,(row_put hR (by simpa using hlen) m).carry (bel_grow _ _),⟨by simpa using hlen,fun i hi=>?_,?_⟩,fun i j _ hij hj=>?_⟩
  · have hi:d.size≤i:=by omega
    rw [getElem!_neg d i om_,getElem!_neg l.toArray i (by simp;omega)]
  · have e1:l.toArray.extract 0 d.size=l.toArray:=by rw [← hlen];simp
    have e2:d.extract 0 d.size=d:=by simp
    rw [e1,e2];simpa using hp
  · have hj':j<l.length:=by omega
    have hi':i<l.length:=by omega
    have hle:=List.pairwise_iff_getElem.1 hsr i j hi' hj' hij;simp only [decide_eq_true_eq] at hle;rw [getElem!_pos l.toArray j (by simpa using hj'),getElem!_pos l.toArray i (by simpa using hi')];simp only [List.getElem_toArray,ltStr,decide_eq_false_iff_not];exact List.not_lt.2 hle
end Go.Gx
namespace Go.Gx
open Go.Proofs Go.Sort
theorem knamed_en100:Go.Proofs.Enters Tryz.prog 100:=Go.Proofs.enters_of Tryz.func100 kr_ rfl
theorem knamed_en122:Go.Proofs.Enters Tryz.prog 122:=Go.Proofs.enters_of Tryz.func122 kr_ rfl
theorem knamed_en99:Go.Proofs.Enters Tryz.prog 99:=Go.Proofs.enters_of Tryz.func99 kr_ rfl
theorem values_ok (p:Option Addr) (n cap:Nat) (w:World):Ret Tryz.prog 77 #[.slice p n cap] w fun r w'=>r=.func (.func 101) #[] #[.pointer (some ⟨w.heap.size,0,none⟩)]∧Box w' w.heap.size 22 [.slice p n cap]∧Bel w w':=by
  refine ret_of_W Tryz.func77 rfl (Nat.le_of_ble_eq_true rfl) (res1 rfl) ?_;have hB:=Gr.refl (fun _=>False) w;refine W.seq (W.region (L.box (cs:=[.slice p n cap]) rfl rfl (fun w1 bx1 hw hz1=>?_)));have hB:=hB.carry hw;refine L.val (x_as (v:=_) rfl) rfl ?_;refine L.nil (thn_n (W.seq (W.region (L.val (x_mkfn rfl rfl) rfl ?_))));refine L.val (x_as (v:=_) rfl) rfl ?_;refine L.nil (thn_n (W.ret (fin_mk (.inr rfl) ?_)));exact ⟨rfl,bx1,hB⟩
theorem collect_ok (gf:Nat) (lb:Array Value) (ss:List Str) (w:World) (eg:Go.Proofs.Enters Tryz.prog gf) (hl:ss.length≤100000000000) {Φ : List Str→Prop} (hΦ : ∀ xs,Φ xs→xs.Perm ss)
    (hseq:SeqStopsK Fence.wide 1 Tryz.prog gf lb (fun x:Str=>#[S x]) (KpB w.heap.size) Φ (fun _=>True) ss.length w):
    Ret Tryz.prog 99 #[.func (.func gf) #[] lb] w fun v w'=>(∃ xs:List Str,xs.Perm ss∧Own w' (w.heap.size+1) 9 1 v xs.length (xs.map S)∧(xs=[]→v=.slice none 0 0))∧Bel w w':=by
  refine ret_of_W Tryz.func99 rfl (Nat.le_of_ble_eq_true rfl) (res1 rfl) ?_;have hB:=Gr.refl (fun _=>False) w;refine W.seq (W.region (L.val (x_as (v:=_) rfl) rfl ?_));refine L.nil (thn_n (W.seq (W.region (L.val (x_mv (v:=.func _ _ _) rfl) rfl ?_))));refine L.ret (x_call knamed_en122 rfl) rfl (seq_ok gf lb ss _ eg hl hΦ hseq) ?_;rintro v w4 ⟨hO,hw⟩;have hB:=hB.carry hw;refine L.val (x_as (v:=_) rfl) rfl ?_;refine L.nil (thn_n (W.ret (fin_mk (.inr rfl) ?_)));exact ⟨hO,hB⟩
def SortedNew (base:Nat) (w:World) (v:Value) (ss:List Str):Prop:=
  (ss=[]∧v=.slice none 0 0)∨∃ b cap tl d,base≤b∧1≤ss.length∧ss.length≤cap∧v=.slice (some ⟨b,0,none⟩) ss.length cap∧Row S w b 0 9 [] d tl∧d.size=ss.length∧PermIn 0 ss.length ss.toArray d∧SortedIn ltStr 0 ss.length d∧cap≤9223372036854775807
theorem permIn_conv {xs ss:List Str} (h:xs.Perm ss) {d:Array Str} (p:PermIn 0 xs.length xs.toArray d):PermIn 0 ss.length ss.toArray d:=by
  obtain ⟨h1,h2,h3⟩:=p;have hl:=h.length_eq;refine ⟨by rw [h1];simpa using hl,fun i hi=>?_,?_⟩
  · have hi:ss.length≤i:=by omega
    rw [h2 i om_];rw [getElem!_neg _ _ (by simp;omega),getElem!_neg _ _ (by simp;omega)]
  · rw [hl] at h3;refine h3.trans ?_;have e1:(xs.toArray.extract 0 ss.length).toList=xs:=by simp [← hl]
    have e2:(ss.toArray.extract 0 ss.length).toList=ss:=by simp
    rw [e1,e2];exact h
theorem sorted_ok (gf:Nat) (lb:Array Value) (ss:List Str) (w:World) (eg:Go.Proofs.Enters Tryz.prog gf) (hl:ss.length≤100000000000) {Φ : List Str→Prop} (hΦ : ∀ xs,Φ xs→xs.Perm ss)
    (hseq:SeqStopsK Fence.wide 1 Tryz.prog gf lb (fun x:Str=>#[S x]) (KpB w.heap.size) Φ (fun _=>True) ss.length w):
    Ret Tryz.prog 76 #[.func (.func gf) #[] lb] w fun v w'=>SortedNew w.heap.size w' v ss∧Bel w w':=by
  refine ret_of_W Tryz.func76 rfl (Nat.le_of_ble_eq_true rfl) (res1 rfl) ?_;have hB:=Gr.refl (fun _=>False) w;refine W.seq (W.region (L.val (x_as (v:=_) rfl) rfl ?_));refine L.nil (thn_n (W.seq (W.region (L.val (x_mv (v:=.func _ _ _) rfl) rfl ?_))));refine L.ret (x_call knamed_en99 rfl) rfl (collect_ok gf lb ss _ eg hl hΦ hseq) ?_;rintro v w5 ⟨⟨xs,hpx,hO,hz0⟩,hw⟩;have hB:=hB.carry hw
  suffices hs:Ret Tryz.prog 100 #[v] w5 (fun r w'=>r=.tuple #[]∧SortedNew w.heap.size w' v ss∧Bel w w') from ?_
  rotate_left 1
  · rcases hO.open with ⟨rfl,hk,-⟩ | ⟨b,cap,tl,rfl,hb,hcap,hcm,hbx⟩
    · exact (sort_nil 0 w5).mono fun r w' ⟨h1,h2⟩=>⟨h1,.inl ⟨List.eq_nil_of_length_eq_zero (hpx.length_eq.symm.trans hk),rfl⟩,hB.carry h2⟩
    · by_cases hz:xs.length=0
      · have:=hz0 (List.eq_nil_of_length_eq_zero hz);cases this
      · have hR:Row S w5 b 0 9 [] xs.toArray tl:=⟨rfl,by simpa using hbx⟩;refine (sort_ok b 0 cap xs.length _ [] tl xs.toArray w5 hR (by simp) om_ (by have:=hpx.length_eq;omega)).mono ?_;rintro r w' ⟨h1,hg,d,hd,p1,p2⟩;have hle:=hpx.length_eq;exact ⟨h1,.inr ⟨b,cap,tl,d,by omega,by omega,by omega,by rw [hle],hd,by rw [p1.1];simpa using hle,permIn_conv hpx p1,by rw [← hle];exact p2,hcm⟩,hB.set hg om_⟩
  refine L.val (x_as (v:=_) rfl) rfl ?_;refine L.nil (thn_n (W.seq (W.region (L.val (x_mv (v:=_) rfl) rfl ?_))));refine L.ret (x_call knamed_en100 rfl) rfl (hs) ?_;rintro _ w7 ⟨rfl,hN,hw⟩;refine L.nil (thn_n (W.seq (W.region (L.val (x_mv (v:=_) rfl) rfl ?_))));refine L.val (x_as (v:=_) rfl) rfl ?_;refine L.nil (thn_n (W.ret (fin_mk (.inr rfl) ?_)));exact ⟨hN,hw⟩
end Go.Gx
namespace Go.Gx
open Go.Proofs Go.Sort
theorem kcompact_en101:Go.Proofs.Enters Tryz.prog 101:=Go.Proofs.enters_of Tryz.func101 kr_ rfl
theorem kcompact_en51:Go.Proofs.Enters Tryz.prog 51:=Go.Proofs.enters_of Tryz.func51 kr_ rfl
theorem kcompact_en76:Go.Proofs.Enters Tryz.prog 76:=Go.Proofs.enters_of Tryz.func76 kr_ rfl
theorem kcompact_en77:Go.Proofs.Enters Tryz.prog 77:=Go.Proofs.enters_of Tryz.func77 kr_ rfl
theorem kcompact_en78:Go.Proofs.Enters Tryz.prog 78:=Go.Proofs.enters_of Tryz.func78 kr_ rfl
theorem kcompact_fo45_3:fieldOff Tryz.prog 45 3=some 3:=by kernel_rfl
theorem kcompact_fo45_4:fieldOff Tryz.prog 45 4=some 4:=by kernel_rfl
theorem kcompact_mixed:Tryz.prog.follows .mixedOrders=true:=by kernel_rfl
theorem kcompact_oc22:oneCellT Tryz.prog 22=true:=by kernel_rfl
theorem kcompact_oc23:oneCellT Tryz.prog 23=true:=by kernel_rfl
theorem kcompact_oc9:oneCellT Tryz.prog 9=true:=by kernel_rfl
theorem kcompact_sz9:(Tryz.prog.info? 9).map (·.size)=some 1:=by kernel_rfl
theorem kcompact_zr9:(Tryz.prog.info? 9).bind (·.zero)=some (S []):=by kernel_rfl
def noadj (d:Array Str) (n:Nat):Prop:=∀ j,1≤j→j<n→d[j]! ≠ d[j - 1]!
theorem compact_nil (cap:Nat) (w:World):Ret Tryz.prog 78 #[.slice none 0 cap] w fun v w'=>v=.slice none 0 cap∧Bel w w':=by
  refine ret_of_W Tryz.func78 rfl (Nat.le_of_ble_eq_true rfl) (res1 rfl) ?_;have hB:=Gr.refl (fun _=>False) w;refine W.seq (W.region (L.val (x_as (v:=.slice _ _ _) rfl) rfl ?_));refine L.nil (thn_n (W.seq (W.seq (W.region (L.val (x_mv (v:=.slice _ _ _) rfl) rfl ?_)))));refine L.val (x_len_slice Tryz.underlying22 rfl) rfl ?_;refine L.val (x_lss rfl rfl) rfl ?_;refine L.nil (thn_n (W.cond (b:=_) rfl (fun g8=>?_) (fun g8=>?_)))
  ·have h8:=of_decide_eq_true g8;refine W.seq (W.region (L.val (x_mv (v:=.slice _ _ _) rfl) rfl ?_));refine L.val (x_as (v:=.slice _ _ _) rfl) rfl ?_;refine L.nil (thn_n (W.ret (thn_r (fin_mk (.inr rfl) ?_))));exact ⟨rfl,hB⟩
  ·have h8:=dlt_f g8;omega
theorem compact_ok (b o cap n:Nat) (T:TypeId) (hd tl:List Value) (d:Array Str) (w:World) (hR:Row S w b o T hd d tl) (hn:d.size=n) (h1:1≤n) (hnc:n≤cap) (hc:n≤4000000000000000000):
    Ret Tryz.prog 78 #[.slice (some ⟨b,o,none⟩) n cap] w fun v w'=>∃ p m c,v=.slice p m c∧(m=n↔noadj d n)∧Gr (· = b) w w':=by
  refine ret_of_W Tryz.func78 rfl (Nat.le_of_ble_eq_true rfl) (res1 rfl) ?_;have hB:=Gr.refl (· = b) w;refine W.seq (W.region (L.val (x_as (v:=.slice _ _ _) rfl) rfl ?_));refine L.nil (thn_n (W.seq (W.seq (W.region (L.val (x_mv (v:=.slice _ _ _) rfl) rfl ?_)))));refine L.val (x_len_slice Tryz.underlying22 rfl) rfl ?_;refine L.val (x_lss rfl rfl) rfl ?_;refine L.nil (thn_n (W.cond (b:=_) rfl (fun g8=>?_) (fun g8=>?_)))
  ·have h8:=of_decide_eq_true g8;refine W.seq (W.region (L.val (x_mv (v:=.slice _ _ _) rfl) rfl ?_));refine L.val (x_as (v:=.slice _ _ _) rfl) rfl ?_;refine L.nil (thn_n (W.ret (thn_r (fin_mk (.inr rfl) ?_))));exact ⟨_,_,_,rfl,⟨fun _ j h2 h3=>by omega,fun _=>rfl⟩,hB⟩
  ·have h8:=dlt_f g8;refine W.skip (thn_n (W.seq (W.seq (W.region (L.val (x_as (v:=.int _ _) rfl) rfl ?_)))));refine L.nil (thn_n (W.block (W.loop (fun m' E w'=>∃ (k:Nat),m'=n - k∧E 0=.slice (some ⟨b,o,none⟩) n cap∧E 3=.int .i64 (k:Nat)∧(Gr (· = b) w w')∧(Row S w' b o T hd d tl)∧(1≤k∧k≤n)∧(noadj d k)) (n - 1) ?_ ?_)))
   ·exact ⟨1,by omega,vi_,vi_,ao_,ao_,om_,(by intro j h2 h3;omega)⟩
   ·rintro _ E wL10 ⟨k,em,e0,e3,hB,hR,hk,hno⟩;rw [upd_self e0,upd_self e3];refine W.seq (W.seq (W.region (L.val (x_mv (v:=.int _ _) rfl) rfl ?_)));refine L.val (x_mv (v:=.slice _ _ _) rfl) rfl ?_;refine L.val (x_len_slice Tryz.underlying22 rfl) rfl ?_;refine L.val (x_lss rfl rfl) rfl ?_;refine L.nil (thn_n (W.cond (b:=_) rfl (fun g13=>?_) (fun g13=>?_)))
    ·have h13:=of_decide_eq_true g13;refine W.skip (thn_n (W.seq (W.block (W.seq (W.drawB kcompact_mixed kr_ ?_)))));refine LQ.val (fun w hw=>x_mv (v:=.slice _ _ _) rfl) rfl ?_;refine LQ.val (fun w hw=>x_mv (v:=.int _ _) rfl) rfl ?_;refine LQ.val (fun w hw=>x_ia1 (j:=k) Tryz.underlying22 kcompact_sz9 rfl rfl om_ om_) rfl ?_;refine LQ.val (fun w hw=>x_ld (v:=S _) kcompact_oc9 rfl (hw.keep (hR.at (i:=k) om_))) rfl ?_;refine LQ.val (fun w hw=>x_mv (v:=.slice _ _ _) rfl) rfl ?_;refine LQ.val (fun w hw=>x_mv (v:=.int _ _) rfl) rfl ?_;refine LQ.val (fun w hw=>x_sub rfl rfl (wr64 om_)) rfl ?_;refine LQ.val (fun w hw=>x_ia1 (j:=k - 1) Tryz.underlying22 kcompact_sz9 rfl rfl om_ om_) rfl ?_;refine LQ.val (fun w hw=>x_ld (v:=S _) kcompact_oc9 rfl (hw.keep (hR.at (i:=k - 1) om_))) rfl ?_;refine LQ.val (fun w hw=>x_eqs rfl rfl) rfl ?_;refine LQ.nil ?_;intro w16 hw;have hB:=hB.carry hw;have hR:=hR.carry hw;refine thn_n (W.cond (b:=_) rfl (fun g25=>?_) (fun g25=>?_))
     ·have h25:=seq_t g25;refine W.seq (W.region (L.val (x_mv (v:=.slice _ _ _) rfl) rfl ?_));refine L.val (x_mv (v:=.int _ _) rfl) rfl ?_;refine L.val (x_slo (j:=k) Tryz.underlying22 kcompact_sz9 rfl rfl rfl om_ om_) rfl ?_;refine L.val (x_as (v:=.slice _ _ _) rfl) rfl ?_;refine L.nil (thn_n (W.seq (W.seq (W.region (L.val (x_as (v:=.int _ _) rfl) rfl ?_)))));refine L.nil (thn_n (W.block (W.loop (fun m' E w'=>∃ (k2 kk:Nat) (q:Array Str),m'=n - k2∧E 0=.slice (some ⟨b,o,none⟩) n cap∧E 3=.int .i64 (kk:Nat)∧E 4=.slice (some ⟨b,o+k * 1,none⟩) (n - k) (cap - k)∧E 5=.int .i64 (k2:Nat)∧(Gr (· = b) w w')∧(Row S w' b o T hd q tl)∧(q.size=n)∧(1≤k2∧k2≤n - k∧kk+1≤k+k2)) (n - 1) ?_ ?_)))
      ·exact ⟨1,k,d,by omega,vi_,vi_,vi_,vi_,ao_,ao_,ao_,om_⟩
      ·rintro _ E wL29 ⟨k2,kk,q,em,e0,e3,e4,e5,hB,hR,hq,hk2⟩;rw [upd_self e0,upd_self e3,upd_self e4,upd_self e5];refine W.seq (W.seq (W.region (L.val (x_mv (v:=.int _ _) rfl) rfl ?_)));refine L.val (x_mv (v:=.slice _ _ _) rfl) rfl ?_;refine L.val (x_len_slice Tryz.underlying22 rfl) rfl ?_;have hnk:((n - k:Nat):Int)=(n:Int) - k:=by omega
       refine L.val (x_lss rfl rfl) rfl ?_;refine L.nil (thn_n (W.cond (b:=_) rfl (fun g32=>?_) (fun g32=>?_)))
       ·have h32:=of_decide_eq_true g32;refine W.skip (thn_n (W.seq (W.block (W.seq (W.drawB kcompact_mixed kr_ ?_)))));refine LQ.val (fun w hw=>x_mv (v:=.slice _ _ _) rfl) rfl ?_;refine LQ.val (fun w hw=>x_mv (v:=.int _ _) rfl) rfl ?_;refine LQ.val (fun w hw=>x_ia1 (j:=k2) Tryz.underlying22 kcompact_sz9 rfl rfl om_ om_) rfl ?_;refine LQ.val (fun w hw=>x_ld (v:=S _) kcompact_oc9 rfl (hw.keep (by have:=hR.at (i:=k+k2) om_;rw [show o+(k+k2)=o+k * 1+k2 by omega] at this;exact this))) rfl ?_;refine LQ.val (fun w hw=>x_mv (v:=.slice _ _ _) rfl) rfl ?_;refine LQ.val (fun w hw=>x_mv (v:=.int _ _) rfl) rfl ?_;refine LQ.val (fun w hw=>x_sub rfl rfl (wr64 om_)) rfl ?_;refine LQ.val (fun w hw=>x_ia1 (j:=k2 - 1) Tryz.underlying22 kcompact_sz9 rfl rfl om_ om_) rfl ?_;refine LQ.val (fun w hw=>x_ld (v:=S _) kcompact_oc9 rfl (hw.keep (by have:=hR.at (i:=k+(k2 - 1)) om_;rw [show o+(k+(k2 - 1))=o+k * 1+(k2 - 1) by omega] at this;exact this))) rfl ?_;refine LQ.val (fun w hw=>x_nes rfl rfl) rfl ?_;refine LQ.nil ?_;intro w35 hw;have hB:=hB.carry hw;have hR:=hR.carry hw;refine thn_n (W.cond (b:=_) rfl (fun g44=>?_) (fun g44=>?_))
        ·have h44:=sne_t g44;refine W.seq (W.region (L.val (x_mv (v:=.slice _ _ _) rfl) rfl ?_));refine L.val (x_mv (v:=.int _ _) rfl) rfl ?_;refine L.val (x_mv (v:=.slice _ _ _) rfl) rfl ?_;refine L.val (x_mv (v:=.int _ _) rfl) rfl ?_;refine L.val (x_ia1 (j:=k2) Tryz.underlying22 kcompact_sz9 rfl rfl om_ om_) rfl ?_;refine L.val (x_ld (v:=S _) kcompact_oc9 rfl (by have:=hR.at (i:=k+k2) om_;rw [show o+(k+k2)=o+k * 1+k2 by omega] at this;exact this)) rfl ?_;refine L.val (x_ia1 (j:=kk) Tryz.underlying22 kcompact_sz9 rfl rfl om_ om_) rfl ?_;refine L.setAt (enc:=S) (j:=kk) kcompact_sz9 rfl rfl rfl hR om_ (fun wl48 hR hsl48 hw hzl48=>?_);have hB:=hB.trans hw;refine L.nil (thn_n (W.region (L.val (x_mv (v:=.int _ _) rfl) rfl ?_)));refine L.val (x_add rfl rfl (wr64 om_)) rfl ?_;refine L.val (x_as (v:=.int _ _) rfl) rfl ?_;refine L.nil (blk_n (thn_n (W.region (L.val (x_mv (v:=.int _ _) rfl) rfl ?_))));refine L.val (x_add rfl rfl (wr64 om_)) rfl ?_;refine L.val (x_as (v:=.int _ _) rfl) rfl ?_;refine L.nil (thn_n ⟨rfl,?_⟩);first
           | (refine ⟨_,?_,k2+1,kk,q,rfl,vi_,vi_,vi_,vi_,ao_,ao_,(by first | exact hq | (rw [Array.size_setIfInBounds];exact hq)),om_⟩;omega)
           | (refine ⟨_,?_,k2+1,kk+1,q.setIfInBounds kk q[k+k2]!,rfl,vi_,vi_,vi_,vi_,ao_,ao_,(by first | exact hq | (rw [Array.size_setIfInBounds];exact hq)),om_⟩;omega)
        ·have h44:=sne_f g44;refine W.skip (blk_n (thn_n (W.region (L.val (x_mv (v:=.int _ _) rfl) rfl ?_))));refine L.val (x_add rfl rfl (wr64 om_)) rfl ?_;refine L.val (x_as (v:=.int _ _) rfl) rfl ?_;refine L.nil (thn_n ⟨rfl,?_⟩);first
           | (refine ⟨_,?_,k2+1,kk,q,rfl,vi_,vi_,vi_,vi_,ao_,ao_,(by first | exact hq | (rw [Array.size_setIfInBounds];exact hq)),om_⟩;omega)
           | (refine ⟨_,?_,k2+1,kk+1,q.setIfInBounds kk q[k+k2]!,rfl,vi_,vi_,vi_,vi_,ao_,ao_,(by first | exact hq | (rw [Array.size_setIfInBounds];exact hq)),om_⟩;omega)
       ·have h32:=dlt_f g32;refine W.exit (thn_x (thn_x (blk_hit ?_)));refine thn_n (W.seq (W.region (L.val (x_mv (v:=.slice _ _ _) rfl) rfl ?_)));refine L.val (x_mv (v:=.int _ _) rfl) rfl ?_;refine L.val (x_slo (j:=kk) Tryz.underlying22 kcompact_sz9 rfl rfl rfl om_ om_) rfl ?_;refine L.clear (z:=S []) Tryz.underlying22 kcompact_zr9 rfl rfl rfl om_ (fun j hj=>?_) (fun j hj=>hR.free _) (fun w58 hw hz58=>?_)
        · have:=hR.at (i:=kk+j) om_;rw [show o+(kk+j)=o+kk * 1+j by omega] at this;rw [this];rfl
        have hB:=hB.trans hw;refine L.nil (thn_n (W.seq (W.region (L.val (x_mv (v:=.slice _ _ _) rfl) rfl ?_))));refine L.val (x_mv (v:=.int _ _) rfl) rfl ?_;refine L.val (x_shi (j:=kk) Tryz.underlying22 kcompact_sz9 rfl rfl rfl om_) rfl ?_;refine L.val (x_as (v:=.slice _ _ _) rfl) rfl ?_;refine L.nil (thn_n (W.ret (blk_r (thn_r (thn_r (blk_r (thn_r (fin_mk (.inr rfl) ?_))))))));refine ⟨_,kk,_,rfl,⟨fun h=>by omega,fun h=>?_⟩,hB⟩;exact absurd h25 (h k om_ om_)
     ·have h25:=seq_f g25;refine W.skip (blk_n (thn_n (W.region (L.val (x_mv (v:=.int _ _) rfl) rfl ?_))));refine L.val (x_add rfl rfl (wr64 om_)) rfl ?_;refine L.val (x_as (v:=.int _ _) rfl) rfl ?_;refine L.nil (thn_n ⟨rfl,?_⟩);refine ⟨_,?_,k+1,rfl,vi_,vi_,ao_,ao_,om_,(by exact fun j h2 h3=>if h4:j<k then hno j h2 h4 else (by rw [show j=k by omega];exact h25))⟩;omega
    ·have h13:=dlt_f g13;refine W.exit (thn_x (thn_x (blk_hit ?_)));refine thn_n (W.seq (W.region (L.val (x_mv (v:=.slice _ _ _) rfl) rfl ?_)));refine L.val (x_as (v:=.slice _ _ _) rfl) rfl ?_;refine L.nil (thn_n (W.ret (fin_mk (.inr rfl) ?_)));exact ⟨_,_,_,rfl,⟨fun _=>by rw [show k=n by omega] at hno;exact hno,fun _=>rfl⟩,hB⟩
theorem ltStr_anti {x y:Str} (h1:ltStr x y=false) (h2:ltStr y x=false):x=y:=by
  unfold ltStr at h1 h2;have h1:=of_decide_eq_false h1;have h2:=of_decide_eq_false h2;exact List.le_antisymm (List.not_lt.1 h2) (List.not_lt.1 h1)
theorem noadj_nodup {d:Array Str} {n:Nat} (hn:d.size=n) (hs:SortedIn ltStr 0 n d):noadj d n↔d.toList.Nodup:=by
  unfold List.Nodup;rw [List.pairwise_iff_getElem];have eg:∀ i (hi:i<d.toList.length),d.toList[i]=d[i]! := fun i hi=>by simp at hi ⊢;simp [hi]
  constructor
  · intro h i j hi hj hij e;rw [eg,eg] at e;simp only [Array.length_toList] at hj;have h3:d[i+1]! = d[i]! := by
      rcases Nat.lt_or_ge (i+1) j with hlt | hge
      · have a1:=hs i (i+1) om_ om_ om_;have a2:=hs (i+1) j om_ hlt om_;rw [← e] at a2;exact ltStr_anti a1 a2
      · rw [show j=i+1 by omega] at e;exact e.symm
    exact h (i+1) om_ om_ (by rw [Nat.add_sub_cancel];exact h3)
  · intro h j h1 h2 e;have:=h (j - 1) j (by simp;omega) (by simp;omega) om_;rw [eg,eg] at this;exact this e.symm
theorem nodup_iff {l:List Str}:nodup l=true↔l.Nodup:=by
  induction l with
  | nil=>simp [nodup]
  | cons x l ih=>simp [nodup,ih]
theorem perm_nodup {d:Array Str} {ss:List Str} (h:PermIn 0 ss.length ss.toArray d):d.toList.Nodup↔ss.Nodup:=by
  obtain ⟨h1,-,h3⟩:=h;have e1:d.extract 0 ss.length=d:=by
    rw [show ss.length=d.size by rw [h1];simp];simp
  rw [e1] at h3;have h3:d.toList.Perm ss:=by simpa using h3
  exact h3.nodup_iff
theorem SortedNew.carry {base:Nat} {w w':World} {v:Value} {ss:List Str} (h:SortedNew base w v ss) (g:Bel w w'):SortedNew base w' v ss:=by
  rcases h with h | ⟨b,cap,tl,d,h1,h2,h3,h4,h5,h6⟩
  · exact .inl h
  · exact .inr ⟨b,cap,tl,d,h1,h2,h3,h4,h5.carry g,h6⟩
theorem compact_new (base:Nat) (w:World) (v:Value) (ss:List Str) (hl:ss.length≤400000) (h:SortedNew base w v ss):Ret Tryz.prog 78 #[v] w fun r w'=>∃ p m c,r=.slice p m c∧(m=ss.length↔ss.Nodup)∧Gr (fun k=>base≤k) w w':=by
  rcases h with ⟨rfl,rfl⟩ | ⟨b,cap,tl,d,h1,h2,h3,rfl,h5,h6,h7,h8⟩
  · exact (compact_nil 0 w).mono fun r w' ⟨a,g⟩=>⟨_,_,_,a,by simp,g.mono fun _ _ f=>f.elim⟩
  · refine (compact_ok b 0 cap ss.length _ [] tl d w h5 h6 h2 h3 om_).mono ?_;rintro r w' ⟨p,m,c,rfl,hm,g⟩;exact ⟨p,m,c,rfl,hm.trans ((noadj_nodup h6 h8.1).trans (perm_nodup h7)),g.mono fun k _ e=>by have e:k=b:=e;omega⟩
theorem named_ok (A:Nat→Prop) (s:Sh) (cs:List Value) (w:World) (hs:ShC A w cs s) (hS:s.parts.length≤400000):
    Ret Tryz.prog 119 #[.agg cs.toArray] w fun v w'=>v=.bool (namesOk s.names s.parts.length)∧Bel w w':=by
  obtain ⟨A1,hs,hU⟩:∃ A1:Nat→Prop,ShC A1 w cs s∧(∀ k,w.heap.size≤k→A1 k):=⟨_,hs.up,fun _=>.inr⟩;obtain ⟨vn,vp,rfl,hn,hp,hof,hnm⟩:=hs.inv;obtain ⟨p,cap,row,rfl,p1,p2,p3,hr⟩:=hp;have hn':=hn;obtain ⟨pn,capn,rfl,n1,n2,n3,hL,-⟩:=hn';have hmem:∀ k,k<s.names.length→s.names.getD k []∈s.names:=fun k hk=>by rw [List.getD_eq_getElem?_getD,List.getElem?_eq_getElem hk];exact List.getElem_mem _
  refine ret_of_W Tryz.func119 rfl (Nat.le_of_ble_eq_true rfl) (res1 rfl) ?_;have hB:=Gr.refl (fun _=>False) w;refine W.seq (W.region (L.box (cs:=_) rfl rfl (fun w1 bx1 hw hz1=>?_)));have hB:=hB.carry hw;have hn:=hn.carry hw;refine L.val (x_as (v:=.bool _) rfl) rfl ?_;refine L.nil (thn_n (W.seq (W.seq (W.region (L.val (x_fa kcompact_fo45_3 rfl) rfl ?_)))));refine L.val (x_ld (v:=.slice _ _ _) kcompact_oc22 rfl (bx1.cell0 rfl)) rfl ?_;refine L.val (x_len_slice Tryz.underlying22 rfl) rfl ?_;refine L.val (x_fa kcompact_fo45_4 rfl) rfl ?_;refine L.val (x_ld (v:=.slice _ _ _) kcompact_oc23 rfl (bx1.cell0 rfl)) rfl ?_;refine L.val (x_len_slice Tryz.underlying23 rfl) rfl ?_;refine L.val (x_neq rfl rfl) rfl ?_;refine L.nil (thn_n (W.cond (b:=_) rfl (fun g12=>?_) (fun g12=>?_)))
  ·have h12:=dne_t g12;refine W.seq (W.region (L.val (x_as (v:=.bool _) rfl) rfl ?_));refine L.nil (thn_n (W.ret (thn_r (fin_mk (.inr rfl) ?_))));exact ⟨vb (by unfold namesOk;rw [show decide ((s.names.length:Int)=(s.parts.length:Int))=false by simpa using h12];simp),hB⟩
  ·have h12:=dne_f g12;refine W.skip (thn_n (W.seq (W.seq (W.region (L.val (x_fa kcompact_fo45_3 rfl) rfl ?_)))));refine L.val (x_ld (v:=.slice _ _ _) kcompact_oc22 rfl (bx1.cell0 rfl)) rfl ?_;refine L.val (x_len_slice Tryz.underlying22 rfl) rfl ?_;refine L.val (x_mv (v:=.int _ _) rfl) rfl ?_;refine L.nil (thn_n (W.block (W.loop (fun m' E w'=>∃ (k:Nat),m'=s.names.length - k∧E 1=.pointer (some ⟨w.heap.size,0,none⟩)∧E 14=.slice pn s.names.length capn∧E 15=.int .i64 (s.names.length:Nat)∧E 16=.int .i64 (k:Nat)∧(Bel w w')∧(StrsAt A1 w' (.slice pn s.names.length capn) s.names)∧(Box w' w.heap.size 45 [.int .i64 s.kind,S s.of,S s.name,.slice pn s.names.length capn,.slice p s.parts.length cap])∧(k≤s.names.length)∧((s.names.take k).all nameS=true)) (s.names.length) ?_ ?_)))
   ·exact ⟨0,by omega,vi_,vi_,vi_,vi_,ao_,ao_,ao_,ao_,(by rfl)⟩
   ·rintro _ E wL17 ⟨k,em,e1,e14,e15,e16,hB,hn,bx1,hk,ha⟩;rw [upd_self e1,upd_self e14,upd_self e15,upd_self e16];refine W.seq (W.region (L.val (x_lss rfl rfl) rfl ?_));refine L.nil (thn_n (W.seq (W.cond (b:=_) rfl (fun g17=>?_) (fun g17=>?_))))
    ·have h17:=of_decide_eq_true g17;have hlt:k<s.names.length:=by omega
     obtain ⟨b,o,rfl,hc⟩:=hn.elem hlt;refine W.skip (thn_n (W.seq (W.block (W.seq (W.region (L.val (x_ia1  Tryz.underlying22 kcompact_sz9 rfl rfl rfl om_) rfl ?_))))));refine L.val (x_ld (v:=S _) kcompact_oc9 rfl hc) rfl ?_;refine L.val (x_as (v:=S _) rfl) rfl ?_;refine L.nil (thn_n (W.seq (W.region (L.val (x_mv (v:=S _) rfl) rfl ?_))));refine L.ret (x_call kcompact_en51 rfl) rfl (nameL _ (hL _ (hmem k hlt)) _) ?_;rintro _ w21 ⟨rfl,hw⟩;have hB:=hB.carry hw;have hn:=hn.carry hw;have bx1:=bx1.carry hw;refine L.val (x_not rfl) rfl ?_;refine L.nil (thn_n (W.cond (b:=_) rfl (fun g22=>?_) (fun g22=>?_)))
     ·have h22:=(not_t g22);refine W.seq (W.region (L.val (x_as (v:=.bool _) rfl) rfl ?_));refine L.nil (thn_n (W.ret (blk_r (thn_r (thn_r (blk_r (thn_r (fin_mk (.inr rfl) ?_))))))));exact ⟨vb (by
        have:s.names.all nameS=false:=by rw [List.all_eq_false];exact ⟨_,hmem k hlt,by rw [h22];simp⟩
        unfold namesOk;rw [this];rfl),hB⟩
     ·have h22:=(not_f g22);refine W.skip (blk_n (thn_n (W.region (L.val (x_add rfl rfl (wr64 om_)) rfl ?_))));refine L.val (x_mv (v:=.int _ _) rfl) rfl ?_;refine L.nil (thn_n ⟨rfl,?_⟩);refine ⟨_,?_,k+1,rfl,vi_,vi_,vi_,vi_,ao_,ao_,ao_,ao_,(by rw [take_snoc (d:=[]) hlt,List.all_append,ha];show (true && (nameS (s.names.getD k []) && true))=true;rw [h22];rfl)⟩;omega
    ·have h17:=dlt_f g17;refine W.exit (thn_x (thn_x (blk_hit ?_)));refine thn_n (W.seq (W.region (L.val (x_fa kcompact_fo45_3 rfl) rfl ?_)));refine L.val (x_ld (v:=.slice _ _ _) kcompact_oc22 rfl (bx1.cell0 rfl)) rfl ?_;refine L.ret (x_call kcompact_en77 rfl) rfl (values_ok _ _ _ _) ?_;rintro _ w26 ⟨rfl,bx26,hw⟩;have hB:=hB.carry hw;have hn:=hn.carry hw;have bx1:=bx1.carry hw;obtain ⟨base,hbase,hbl⟩:∃ base,base=w26.heap.size∧w.heap.size<base:=⟨_,rfl,bx1.lt⟩;refine L.ret (x_call kcompact_en76 rfl) rfl (sorted_ok _ _ s.names _ kcompact_en101 om_ (fun _ h=>List.Perm.of_eq h) (vals_seq A1 _ _ _ s.names _ (fun k hk=>hU k (by have:=hB.size;omega)) bx26.lt (bx26.cell (i:=0) rfl) hn (fun k hk=>hU k (by have:=hB.size;omega)))) ?_;rintro v27 w27 ⟨hN,hw⟩;have hB:=hB.carry hw;have hn:=hn.carry hw;have bx1:=bx1.carry hw;rw [← hbase] at hN;refine L.val (x_as (v:=_) rfl) rfl ?_;refine L.nil (thn_n (W.seq (W.drawS kcompact_mixed ?_)));have hB:=hB.carry (bel_drew _);have bx1:=bx1.carry (bel_drew _);have hN:=hN.carry (bel_drew _);refine LA.take (i:=0) rfl kr_ kr_ kr_ (fun w=>x_mv (v:=_) rfl) rfl ?_;refine LA.take (i:=3) rfl kr_ kr_ kr_ (fun w=>x_fa kcompact_fo45_3 rfl) rfl ?_;refine LA.step (rs:=[1,4]) kr_ (by simp) ⟨⟨_,rfl,?_⟩,⟨_,rfl,?_⟩,trivial⟩
     ·refine L.ret (x_call kcompact_en78 rfl) rfl (compact_new base _ _ s.names om_ hN) ?_;rintro _ w29 ⟨p29,m29,c29,rfl,hm,hg⟩;have hB:=hB.step hg (fun i hi=>by omega);have bx1:=bx1.carryR hg om_;refine L.nil (thn_n (LA.step (rs:=[2,4]) kr_ (by simp) ⟨⟨_,rfl,?_⟩,⟨_,rfl,?_⟩,trivial⟩))
      ·refine L.val (x_len_slice Tryz.underlying22 rfl) rfl ?_;refine L.nil (thn_n (LA.step (rs:=[4]) kr_ (by simp) ⟨⟨_,rfl,?_⟩,trivial⟩));refine L.val (x_ld (v:=.slice _ _ _) kcompact_oc22 rfl (bx1.cell0 rfl)) rfl ?_;refine L.nil (thn_n (LA.step (rs:=[5]) kr_ (by simp) ⟨⟨_,rfl,?_⟩,trivial⟩));refine L.val (x_len_slice Tryz.underlying22 rfl) rfl ?_;refine L.nil (thn_n (LA.take (i:=6) rfl kr_ kr_ kr_ (fun w=>x_eql rfl rfl) rfl ?_));refine LA.take (i:=7) rfl kr_ kr_ kr_ (fun w=>x_as (v:=.bool _) rfl) rfl ?_;refine LA.done kr_ ?_;refine nrm_n (thn_n (W.ret (fin_mk (.inr rfl) ?_)));refine ⟨vb ?_,hB⟩;rw [show k=s.names.length by omega,List.take_length] at ha;unfold namesOk;rw [ha,show decide ((s.names.length:Int)=(s.parts.length:Int))=true by simpa using h12,Bool.and_true,Bool.true_and];rw [Bool.eq_iff_iff,nodup_iff,← hm];simp;omega
      ·refine L.val (x_ld (v:=.slice _ _ _) kcompact_oc22 rfl (bx1.cell0 rfl)) rfl ?_;refine L.nil (thn_n (LA.step (rs:=[2,5]) kr_ (by simp) ⟨⟨_,rfl,?_⟩,⟨_,rfl,?_⟩,trivial⟩))
       ·refine L.val (x_len_slice Tryz.underlying22 rfl) rfl ?_;refine L.nil (thn_n (LA.step (rs:=[5]) kr_ (by simp) ⟨⟨_,rfl,?_⟩,trivial⟩));refine L.val (x_len_slice Tryz.underlying22 rfl) rfl ?_;refine L.nil (thn_n (LA.take (i:=6) rfl kr_ kr_ kr_ (fun w=>x_eql rfl rfl) rfl ?_));refine LA.take (i:=7) rfl kr_ kr_ kr_ (fun w=>x_as (v:=.bool _) rfl) rfl ?_;refine LA.done kr_ ?_;refine nrm_n (thn_n (W.ret (fin_mk (.inr rfl) ?_)));refine ⟨vb ?_,hB⟩;rw [show k=s.names.length by omega,List.take_length] at ha;unfold namesOk;rw [ha,show decide ((s.names.length:Int)=(s.parts.length:Int))=true by simpa using h12,Bool.and_true,Bool.true_and];rw [Bool.eq_iff_iff,nodup_iff,← hm];simp;omega
       ·refine L.val (x_len_slice Tryz.underlying22 rfl) rfl ?_;refine L.nil (thn_n (LA.step (rs:=[2]) kr_ (by simp) ⟨⟨_,rfl,?_⟩,trivial⟩));refine L.val (x_len_slice Tryz.underlying22 rfl) rfl ?_;refine L.nil (thn_n (LA.take (i:=6) rfl kr_ kr_ kr_ (fun w=>x_eql rfl rfl) rfl ?_));refine LA.take (i:=7) rfl kr_ kr_ kr_ (fun w=>x_as (v:=.bool _) rfl) rfl ?_;refine LA.done kr_ ?_;refine nrm_n (thn_n (W.ret (fin_mk (.inr rfl) ?_)));refine ⟨vb ?_,hB⟩;rw [show k=s.names.length by omega,List.take_length] at ha;unfold namesOk;rw [ha,show decide ((s.names.length:Int)=(s.parts.length:Int))=true by simpa using h12,Bool.and_true,Bool.true_and];rw [Bool.eq_iff_iff,nodup_iff,← hm];simp;omega
     ·refine L.val (x_ld (v:=.slice _ _ _) kcompact_oc22 rfl (bx1.cell0 rfl)) rfl ?_;refine L.nil (thn_n (LA.step (rs:=[1,5]) kr_ (by simp) ⟨⟨_,rfl,?_⟩,⟨_,rfl,?_⟩,trivial⟩))
      ·refine L.ret (x_call kcompact_en78 rfl) rfl (compact_new base _ _ s.names om_ hN) ?_;rintro _ w29 ⟨p29,m29,c29,rfl,hm,hg⟩;have hB:=hB.step hg (fun i hi=>by omega);have bx1:=bx1.carryR hg om_;refine L.nil (thn_n (LA.step (rs:=[2,5]) kr_ (by simp) ⟨⟨_,rfl,?_⟩,⟨_,rfl,?_⟩,trivial⟩))
       ·refine L.val (x_len_slice Tryz.underlying22 rfl) rfl ?_;refine L.nil (thn_n (LA.step (rs:=[5]) kr_ (by simp) ⟨⟨_,rfl,?_⟩,trivial⟩));refine L.val (x_len_slice Tryz.underlying22 rfl) rfl ?_;refine L.nil (thn_n (LA.take (i:=6) rfl kr_ kr_ kr_ (fun w=>x_eql rfl rfl) rfl ?_));refine LA.take (i:=7) rfl kr_ kr_ kr_ (fun w=>x_as (v:=.bool _) rfl) rfl ?_;refine LA.done kr_ ?_;refine nrm_n (thn_n (W.ret (fin_mk (.inr rfl) ?_)));refine ⟨vb ?_,hB⟩;rw [show k=s.names.length by omega,List.take_length] at ha;unfold namesOk;rw [ha,show decide ((s.names.length:Int)=(s.parts.length:Int))=true by simpa using h12,Bool.and_true,Bool.true_and];rw [Bool.eq_iff_iff,nodup_iff,← hm];simp;omega
       ·refine L.val (x_len_slice Tryz.underlying22 rfl) rfl ?_;refine L.nil (thn_n (LA.step (rs:=[2]) kr_ (by simp) ⟨⟨_,rfl,?_⟩,trivial⟩));refine L.val (x_len_slice Tryz.underlying22 rfl) rfl ?_;refine L.nil (thn_n (LA.take (i:=6) rfl kr_ kr_ kr_ (fun w=>x_eql rfl rfl) rfl ?_));refine LA.take (i:=7) rfl kr_ kr_ kr_ (fun w=>x_as (v:=.bool _) rfl) rfl ?_;refine LA.done kr_ ?_;refine nrm_n (thn_n (W.ret (fin_mk (.inr rfl) ?_)));refine ⟨vb ?_,hB⟩;rw [show k=s.names.length by omega,List.take_length] at ha;unfold namesOk;rw [ha,show decide ((s.names.length:Int)=(s.parts.length:Int))=true by simpa using h12,Bool.and_true,Bool.true_and];rw [Bool.eq_iff_iff,nodup_iff,← hm];simp;omega
      ·refine L.val (x_len_slice Tryz.underlying22 rfl) rfl ?_;refine L.nil (thn_n (LA.step (rs:=[1]) kr_ (by simp) ⟨⟨_,rfl,?_⟩,trivial⟩));refine L.ret (x_call kcompact_en78 rfl) rfl (compact_new base _ _ s.names om_ hN) ?_;rintro _ w29 ⟨p29,m29,c29,rfl,hm,hg⟩;have hB:=hB.step hg (fun i hi=>by omega);have bx1:=bx1.carryR hg om_;refine L.nil (thn_n (LA.step (rs:=[2]) kr_ (by simp) ⟨⟨_,rfl,?_⟩,trivial⟩));refine L.val (x_len_slice Tryz.underlying22 rfl) rfl ?_;refine L.nil (thn_n (LA.take (i:=6) rfl kr_ kr_ kr_ (fun w=>x_eql rfl rfl) rfl ?_));refine LA.take (i:=7) rfl kr_ kr_ kr_ (fun w=>x_as (v:=.bool _) rfl) rfl ?_;refine LA.done kr_ ?_;refine nrm_n (thn_n (W.ret (fin_mk (.inr rfl) ?_)));refine ⟨vb ?_,hB⟩;rw [show k=s.names.length by omega,List.take_length] at ha;unfold namesOk;rw [ha,show decide ((s.names.length:Int)=(s.parts.length:Int))=true by simpa using h12,Bool.and_true,Bool.true_and];rw [Bool.eq_iff_iff,nodup_iff,← hm];simp;omega
end Go.Gx
namespace Go.Gx
open Go.Proofs
open Classical in
noncomputable def eqS (a b:Sh):Bool:=decide (a=b)
theorem eqS_t {a b:Sh} (h:a=b):eqS a b=true:=by unfold eqS;simpa using h
theorem eqS_iff {a b:Sh}:eqS a b=true↔a=b:=by unfold eqS;simp
theorem Sh.ext {a b:Sh} (h1:a.kind=b.kind) (h2:a.of=b.of) (h3:a.name=b.name) (h4:a.names=b.names) (h5:a.parts=b.parts):a=b:=by
  cases a;cases b;simp only [Sh.kind,Sh.of,Sh.name,Sh.names,Sh.parts] at *;subst h1 h2 h3 h4 h5;rfl
theorem take_eq_snoc {α : Type} {d:α} {l m:List α} {k:Nat} (hl:k<l.length) (hm:k<m.length) (h:l.take k=m.take k) (he:l.getD k d=m.getD k d):l.take (k+1)=m.take (k+1):=by
  rw [List.getD_eq_getElem?_getD,List.getElem?_eq_getElem hl,Option.getD_some,List.getD_eq_getElem?_getD,List.getElem?_eq_getElem hm,Option.getD_some] at he;rw [List.take_succ_eq_append_getElem hl,List.take_succ_eq_append_getElem hm,h,he]
end Go.Gx
