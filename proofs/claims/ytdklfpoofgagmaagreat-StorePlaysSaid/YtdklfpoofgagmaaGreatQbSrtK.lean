/- The library's sort of strings, by the kit's contract. Conditions: none. -/
import Derived.Sort.LotD3
import Derived.Lib.Bytealg
import Derived.WideMake
import Derived.MapKept
import Derived.DeepKeys3
import Derived.Maps.RangeRun
import Derived.Laws.Externs
import Derived.RangeFuncSeq
import Derived.Test.YtdklfpoofgagmaaGreatQbDef
import Derived.Test.YtdklfpoofgagmaaGreatQbRowG
namespace Go.Gx
open Go.Proofs Go.Sort
theorem putCells_row {α : Type} [Inhabited α] {enc:α → Value} {hd tl:List Value} {d d':Array α} (hs:d'.size=d.size):
    putCells enc hd.length d' (hd++d.toList.map enc++tl).toArray=(hd++d'.toList.map enc++tl).toArray:=by
  apply Array.ext
  · simp [putCells,hs]
  · intro i h1 h2;have h2:i<(hd++d'.toList.map enc++tl).length:=by simpa using h2
    simp only [putCells,Array.getElem_mapIdx,List.getElem_toArray];by_cases ha:i<hd.length
    · rw [if_neg om_];rw [List.getElem_append_left (by simp;omega),List.getElem_append_left ha,List.getElem_append_left (by simp;omega),List.getElem_append_left ha]
    · by_cases hb:i<hd.length+d'.size
      · rw [if_pos ⟨by omega,hb⟩,List.getElem_append_left (by simp;omega),List.getElem_append_right om_];simp [getElem!_pos d' (i - hd.length) om_]
      · rw [if_neg om_,List.getElem_append_right (by simp;omega),List.getElem_append_right (by simp;omega)];simp [hs]
theorem row_put {α : Type} [Inhabited α] {enc:α → Value} {w:World} {b o:Nat} {T:TypeId} {hd tl:List Value} {d d':Array α} (h:Row enc w b o T hd d tl) (hs:d'.size=d.size) (n:Nat):Row enc (putRow enc (Sort.ahead w n) b o d') b o T hd d' tl:=by
  obtain ⟨rfl,hb⟩:=h;refine ⟨rfl,?_⟩;have hb':w.heap[b]? = some (.cells (hd++d.toList.map enc++tl).toArray T (0,0)):=hb;show (w.heap.modify b (onCells (putCells enc hd.length d')))[b]? = _;rw [Array.getElem?_modify,if_pos rfl,hb'];simp only [Option.map_some,onCells];rw [putCells_row hs]
theorem gr_put {α : Type} [Inhabited α] {enc:α → Value} {w:World} {b o:Nat} {d':Array α} (n:Nat):Gr (· = b) w (putRow enc (Sort.ahead w n) b o d'):=by
  refine ⟨rfl,rfl,rfl,?_,fun k _ hk=>?_⟩
  · show _≤(w.heap.modify b _).size;simp
  · show (w.heap.modify b _)[k]? = _;rw [Array.getElem?_modify,if_neg (fun e=>hk e.symm)]
theorem bel_grow (w:World) (os:Array Obj):Bel w (grow w os):=
  ⟨rfl,rfl,rfl,by simp [grow],fun k hk _=>by show (w.heap++os)[k]? = _;rw [Array.getElem?_append_left hk]⟩
theorem sort_nil (cap:Nat) (w:World):Ret Tryz.prog 121 #[.slice none 0 cap] w fun v w'=>v=.tuple #[]∧Bel w w':=
  Calls.mono (Tryz.slices_Sort_string_none none cap w) fun _ _ ⟨he,hw⟩=>⟨_,he,rfl,hw ▸ Gr.refl _ _⟩
theorem sort_ok (b o cap n:Nat) (T:TypeId) (hd tl:List Value) (d:Array Str) (w:World) (hR:Row S w b o T hd d tl) (hn:d.size=n) (h1:1≤n) (hc:n≤2000000000000000000):
    Ret Tryz.prog 121 #[.slice (some ⟨b,o,none⟩) n cap] w fun v w'=>v=.tuple #[]∧Gr (· = b) w w'∧∃ d',Row S w' b o T hd d' tl∧PermIn 0 n d d'∧SortedIn ltStr 0 n d':=by
  subst hn;have hk:=Tryz.slices_Sort_string b o cap d.toList w (fun j hj=>by
    have hj:j<d.size:=by simpa using hj
    have e:d.toList.toArray[j]! = d[j]! := by simp
    rw [e];exact ⟨hR.at hj,hR.free _⟩) hR.lt (by simp;omega)
  have e0:d.toList.length=d.size:=by simp
  rw [e0] at hk;refine Calls.mono hk fun e w' ⟨he,m,os,hw⟩=>⟨_,he,rfl,?_⟩
  subst hw;obtain ⟨l,hl⟩:∃ l,l=d.toList.mergeSort fun x y=>decide (x≤y):=⟨_,rfl⟩
  have hp:l.Perm d.toList:=by rw [hl];exact List.mergeSort_perm _ _
  have hlen:l.length=d.size:=by rw [hp.length_eq];simp
  have hsr:l.Pairwise fun x y=>decide (x≤y)=true:=by
    rw [hl];refine List.pairwise_mergeSort (fun a b c h1 h2=>?_) (fun a b=>?_) _
    · simp only [decide_eq_true_eq] at *;exact List.le_trans h1 h2
    · simp only [Bool.or_eq_true,decide_eq_true_eq];exact List.le_total a b
  rw [← hl];refine ⟨(gr_put m).carry (bel_grow _ _),l.toArray,(row_put hR (by simpa using hlen) m).carry (bel_grow _ _),⟨by simpa using hlen,fun i hi=>?_,?_⟩,fun i j _ hij hj=>?_⟩
  · have hi:d.size≤i:=by omega
    rw [getElem!_neg d i om_,getElem!_neg l.toArray i (by simp;omega)]
  · have e1:l.toArray.extract 0 d.size=l.toArray:=by rw [← hlen];simp
    have e2:d.extract 0 d.size=d:=by simp
    rw [e1,e2];simpa using hp
  · have hj':j<l.length:=by omega
    have hi':i<l.length:=by omega
    have hle:=List.pairwise_iff_getElem.1 hsr i j hi' hj' hij;simp only [decide_eq_true_eq] at hle;rw [getElem!_pos l.toArray j (by simpa using hj'),getElem!_pos l.toArray i (by simpa using hi')];simp only [List.getElem_toArray,ltStr,decide_eq_false_iff_not];exact List.not_lt.2 hle
end Go.Gx
namespace Go.Gx
open Go.Proofs Go.Sort
theorem knamed_en120:Go.Proofs.Enters Tryz.prog 120:=Go.Proofs.enters_of Tryz.func120 kr_ rfl
theorem knamed_en121:Go.Proofs.Enters Tryz.prog 121:=Go.Proofs.enters_of Tryz.func121 kr_ rfl
theorem knamed_en136:Go.Proofs.Enters Tryz.prog 136:=Go.Proofs.enters_of Tryz.func136 kr_ rfl
theorem collect_ok (gf:Nat) (lb:Array Value) (ss:List Str) (w:World) (eg:Go.Proofs.Enters Tryz.prog gf) (hl:ss.length≤100000000000) {Φ : List Str→Prop} (hΦ : ∀ xs,Φ xs→xs.Perm ss)
    (hseq:SeqStopsK Fence.wide 1 Tryz.prog gf lb (fun x:Str=>#[S x]) (KpB w.heap.size) Φ (fun _=>True) ss.length w):
    Ret Tryz.prog 120 #[.func (.func gf) #[] lb] w fun v w'=>(∃ xs:List Str,xs.Perm ss∧Own w' (w.heap.size+1) 9 1 v xs.length (xs.map S)∧(xs=[]→v=.slice none 0 0))∧Bel w w':=by
  refine ret_of_W Tryz.func120 rfl (Nat.le_of_ble_eq_true rfl) (res1 rfl) ?_;have hB:=Gr.refl (fun _=>False) w;refine W.seq (W.region (L.val (x_as (v:=_) rfl) rfl ?_));refine L.nil (thn_n (W.seq (W.region (L.val (x_mv (v:=.func _ _ _) rfl) rfl ?_))));refine L.ret (x_call knamed_en136 rfl) rfl (seq_ok gf lb ss _ eg hl hΦ hseq) ?_;rintro v w4 ⟨hO,hw⟩;have hB:=hB.carry hw;refine L.val (x_as (v:=_) rfl) rfl ?_;refine L.nil (thn_n (W.ret (fin_mk (.inr rfl) ?_)));exact ⟨hO,hB⟩
def SortedNew (base:Nat) (w:World) (v:Value) (ss:List Str):Prop:=
  (ss=[]∧v=.slice none 0 0)∨∃ b cap tl d,base≤b∧1≤ss.length∧ss.length≤cap∧v=.slice (some ⟨b,0,none⟩) ss.length cap∧Row S w b 0 9 [] d tl∧d.size=ss.length∧PermIn 0 ss.length ss.toArray d∧SortedIn ltStr 0 ss.length d∧cap≤9223372036854775807
theorem permIn_conv {xs ss:List Str} (h:xs.Perm ss) {d:Array Str} (p:PermIn 0 xs.length xs.toArray d):PermIn 0 ss.length ss.toArray d:=by
  obtain ⟨h1,h2,h3⟩:=p;have hl:=h.length_eq;refine ⟨by rw [h1];simpa using hl,fun i hi=>?_,?_⟩
  · have hi:ss.length≤i:=by omega
    rw [h2 i om_];rw [getElem!_neg _ _ (by simp;omega),getElem!_neg _ _ (by simp;omega)]
  · rw [hl] at h3;refine h3.trans ?_;have e1:(xs.toArray.extract 0 ss.length).toList=xs:=by simp [← hl]
    have e2:(ss.toArray.extract 0 ss.length).toList=ss:=by simp
    rw [e1,e2];exact h
theorem sorted_ok (gf:Nat) (lb:Array Value) (ss:List Str) (w:World) (eg:Go.Proofs.Enters Tryz.prog gf) (hl:ss.length≤100000000000) {Φ : List Str→Prop} (hΦ : ∀ xs,Φ xs→xs.Perm ss)
    (hseq:SeqStopsK Fence.wide 1 Tryz.prog gf lb (fun x:Str=>#[S x]) (KpB w.heap.size) Φ (fun _=>True) ss.length w):
    Ret Tryz.prog 93 #[.func (.func gf) #[] lb] w fun v w'=>SortedNew w.heap.size w' v ss∧Bel w w':=by
  refine ret_of_W Tryz.func93 rfl (Nat.le_of_ble_eq_true rfl) (res1 rfl) ?_;have hB:=Gr.refl (fun _=>False) w;refine W.seq (W.region (L.val (x_as (v:=_) rfl) rfl ?_));refine L.nil (thn_n (W.seq (W.region (L.val (x_mv (v:=.func _ _ _) rfl) rfl ?_))));refine L.ret (x_call knamed_en120 rfl) rfl (collect_ok gf lb ss _ eg hl hΦ hseq) ?_;rintro v w5 ⟨⟨xs,hpx,hO,hz0⟩,hw⟩;have hB:=hB.carry hw
  suffices hs:Ret Tryz.prog 121 #[v] w5 (fun r w'=>r=.tuple #[]∧SortedNew w.heap.size w' v ss∧Bel w w') from ?_
  rotate_left 1
  · rcases hO.open with ⟨rfl,hk,-⟩ | ⟨b,cap,tl,rfl,hb,hcap,hcm,hbx⟩
    · exact (sort_nil 0 w5).mono fun r w' ⟨h1,h2⟩=>⟨h1,.inl ⟨List.eq_nil_of_length_eq_zero (hpx.length_eq.symm.trans hk),rfl⟩,hB.carry h2⟩
    · by_cases hz:xs.length=0
      · have:=hz0 (List.eq_nil_of_length_eq_zero hz);cases this
      · have hR:Row S w5 b 0 9 [] xs.toArray tl:=⟨rfl,by simpa using hbx⟩;refine (sort_ok b 0 cap xs.length _ [] tl xs.toArray w5 hR (by simp) om_ (by have:=hpx.length_eq;omega)).mono ?_;rintro r w' ⟨h1,hg,d,hd,p1,p2⟩;have hle:=hpx.length_eq;exact ⟨h1,.inr ⟨b,cap,tl,d,by omega,by omega,by omega,by rw [hle],hd,by rw [p1.1];simpa using hle,permIn_conv hpx p1,by rw [← hle];exact p2,hcm⟩,hB.set hg om_⟩
  refine L.val (x_as (v:=_) rfl) rfl ?_;refine L.nil (thn_n (W.seq (W.region (L.val (x_mv (v:=_) rfl) rfl ?_))));refine L.ret (x_call knamed_en121 rfl) rfl (hs) ?_;rintro _ w7 ⟨rfl,hN,hw⟩;refine L.nil (thn_n (W.seq (W.region (L.val (x_mv (v:=_) rfl) rfl ?_))));refine L.val (x_as (v:=_) rfl) rfl ?_;refine L.nil (thn_n (W.ret (fin_mk (.inr rfl) ?_)));exact ⟨hN,hw⟩
end Go.Gx
namespace Go.Gx
open Go.Proofs Go.Sort
theorem nodup_iff {l:List Str}:nodup l=true↔l.Nodup:=by
  induction l with
  | nil=>simp [nodup]
  | cons x l ih=>simp [nodup,ih]
theorem SortedNew.carry {base:Nat} {w w':World} {v:Value} {ss:List Str} (h:SortedNew base w v ss) (g:Bel w w'):SortedNew base w' v ss:=by
  rcases h with h | ⟨b,cap,tl,d,h1,h2,h3,h4,h5,h6⟩
  · exact .inl h
  · exact .inr ⟨b,cap,tl,d,h1,h2,h3,h4,h5.carry g,h6⟩
end Go.Gx
namespace Go.Gx
open Go.Proofs
theorem Sh.ext {a b:Sh} (h1:a.kind=b.kind) (h2:a.of=b.of) (h3:a.name=b.name) (h4:a.names=b.names) (h5:a.parts=b.parts):a=b:=by
  cases a;cases b;simp only [Sh.kind,Sh.of,Sh.name,Sh.names,Sh.parts] at *;subst h1 h2 h3 h4 h5;rfl
end Go.Gx
namespace Go.Gx
open Go.Proofs Go.Sort
def Ordered (ns:List Str) (n:Nat) (idx:List Nat):Prop:=idx.Perm (List.range n)∧(ns=[]→idx=List.range n)∧(ns≠[]→∀ i j,i<j→j<n→ltStr (ns.getD (idx.getD j 0) []) (ns.getD (idx.getD i 0) [])=false)
theorem Ordered.len {ns:List Str} {n:Nat} {idx:List Nat} (h:Ordered ns n idx):idx.length=n:=by have:=h.1.length_eq;simpa using this
theorem Ordered.lt {ns:List Str} {n:Nat} {idx:List Nat} (h:Ordered ns n idx) {k:Nat} (hk:k<n):idx.getD k 0<n:=by
  have hm:idx.getD k 0∈idx:=by rw [List.getD_eq_getElem?_getD,List.getElem?_eq_getElem (by rw [h.len];exact hk)];exact List.getElem_mem _
  exact List.mem_range.1 (h.1.mem_iff.1 hm)
end Go.Gx
namespace Go.Gx
open Go.Proofs
variable {P:Program} {n:Nat} {Q:Post} {D:List Deferred} {E:Env} {w:World}
def kvM (e:MapEntry):Value × Value:=(e.key,e.val)
def MapIs (es:Array MapEntry) (clock:Nat) (l:List (Str × Value)):Prop:=es.toList.map kvM=l.map (fun x=>(S x.1,x.2))∧(es.toList.map (·.born)).Nodup∧∀ n∈es.toList.map (·.born),n<clock
def MapAt (w:World) (b:Nat) (l:List (Str × Value)):Prop:=∃ es clock,w.heap[b]? = some (.map es clock)∧MapIs es clock l
theorem MapAt.lt {b:Nat} {l:List (Str × Value)} (h:MapAt w b l):b<w.heap.size:=by
  obtain ⟨es,c,h,-⟩:=h;exact (Array.getElem?_eq_some_iff.1 h).1
theorem MapAt.carryR {R:Nat→Prop} {w':World} {b:Nat} {l:List (Str × Value)} (h:MapAt w b l) (g:Gr R w w') (hn:¬ R b):MapAt w' b l:=by
  have hlt:=h.lt;obtain ⟨es,c,h,hm⟩:=h;exact ⟨es,c,(g.block b hlt hn).trans h,hm⟩
theorem MapAt.carry {w':World} {b:Nat} {l:List (Str × Value)} (h:MapAt w b l) (g:Bel w w'):MapAt w' b l:=h.carryR g fun f=>f
theorem S_inj {a b:Str} (h:S a=S b):a=b:=by
  unfold S at h;injection h with h
  injection h with h
  simpa using congrArg Array.toList h
section
variable {t kt et:TypeId}
theorem born_modify {es:List MapEntry} {i:Nat} {k v:Value}:(es.modify i fun e=>{ e with key:=k,val:=v }).map (·.born)=es.map (·.born):=by
  induction es generalizing i with
  | nil=>simp
  | cons e es ih=>
    cases i with
    | zero=>simp
    | succ i=>simp only [List.modify_succ_cons,List.map_cons,ih]
end
def fieldsF:Nat→List Str→List (Str × Value)
  | _,[]=>[]
  | n,x :: l=>(x,.int .i64 (n:Nat)) :: fieldsF (n+1) l
def FieldsAt (w:World) (b:Nat) (l:List Str):Prop:=MapAt w b (fieldsF 0 l)
theorem FieldsAt.carryR {R:Nat→Prop} {w':World} {b:Nat} {l:List Str} (h:FieldsAt w b l) (g:Gr R w w') (hn:¬ R b):FieldsAt w' b l:=MapAt.carryR h g hn
theorem FieldsAt.carry {w':World} {b:Nat} {l:List Str} (h:FieldsAt w b l) (g:Bel w w'):FieldsAt w' b l:=MapAt.carry h g
theorem FieldsAt.lt {b:Nat} {l:List Str} (h:FieldsAt w b l):b<w.heap.size:=MapAt.lt h
end Go.Gx
namespace Go.Gx
open Go.Proofs
variable {P:Program} {n:Nat} {Q:Post} {D:List Deferred} {E:Env} {w:World}
variable {κ : Type} [DecidableEq κ]
def idxK (x:κ):List (κ × Value)→Nat
  | []=>0
  | y :: l=>if y.1=x then 0 else idxK x l+1
def valK (l:List (κ × Value)) (i:Nat):Value:=(l.map (·.2)).getD i undef
def putK (l:List (κ × Value)) (x:κ) (v:Value):List (κ × Value):=if idxK x l<l.length then l.set (idxK x l) (x,v) else l++[(x,v)]
structure KLaw (P:Program) (kt:TypeId) (K:κ → Value) (V:κ → Prop):Prop where
  check:∀ (e:Bool) (x:κ) (w:World),V x→(Instr.checkKey e 10000 kt (K x)).run P w=.ok () w
  find:∀ (x:κ) (es:List MapEntry) (l:List (κ × Value)) (w:World),V x→(∀ y∈l,V y.1)→(l.map (·.1)).Nodup→es.map kvM=l.map (fun y=>(K y.1,y.2))→
    (Instr.findKey kt (K x) es).run P w=.ok (if idxK x l<l.length then some (idxK x l,valK l (idxK x l)) else none) w
  stays:∀ (x:κ) (w:World),V x→(Instr.keyThatStays (K x) (K x)).run P w=.ok (K x) w
variable {K:κ → Value} {V:κ → Prop}
def MapIsK (K:κ → Value) (V:κ → Prop) (es:Array MapEntry) (clock:Nat) (l:List (κ × Value)):Prop:=
  es.toList.map kvM=l.map (fun x=>(K x.1,x.2))∧(es.toList.map (·.born)).Nodup∧(∀ n∈es.toList.map (·.born),n<clock)∧(∀ y∈l,V y.1)∧(l.map (·.1)).Nodup
def MapAtK (K:κ → Value) (V:κ → Prop) (w:World) (b:Nat) (l:List (κ × Value)):Prop:=∃ es clock,w.heap[b]? = some (.map es clock)∧MapIsK K V es clock l
omit [DecidableEq κ] in
theorem MapAtK.lt {b:Nat} {l:List (κ × Value)} (h:MapAtK K V w b l):b<w.heap.size:=by
  obtain ⟨es,c,h,-⟩:=h;exact (Array.getElem?_eq_some_iff.1 h).1
omit [DecidableEq κ] in
theorem MapAtK.carryR {R:Nat→Prop} {w':World} {b:Nat} {l:List (κ × Value)} (h:MapAtK K V w b l) (g:Gr R w w') (hn:¬ R b):MapAtK K V w' b l:=by
  have hlt:=h.lt;obtain ⟨es,c,h,hm⟩:=h;exact ⟨es,c,(g.block b hlt hn).trans h,hm⟩
omit [DecidableEq κ] in
theorem MapAtK.carry {w':World} {b:Nat} {l:List (κ × Value)} (h:MapAtK K V w b l) (g:Bel w w'):MapAtK K V w' b l:=h.carryR g fun f=>f
theorem idxK_spec {x:κ}:∀ {l:List (κ × Value)},(idxK x l<l.length∧(l[idxK x l]?).map (·.1)=some x∧∀ j,j<idxK x l→(l[j]?).map (·.1)≠some x)∨(idxK x l=l.length∧∀ y∈l,y.1≠x)
  | []=>.inr ⟨rfl,by simp⟩
  | y :: l=>by
    by_cases hy:y.1=x
    · refine .inl ⟨by simp [idxK,hy],by simp [idxK,hy],fun j hj=>?_⟩;rw [idxK,if_pos hy] at hj;omega
    · rcases idxK_spec (x:=x) (l:=l) with ⟨h1,h2,h3⟩ | ⟨h1,h2⟩
      · refine .inl ⟨by simp [idxK,hy,h1],by simpa [idxK,hy] using h2,fun j hj=>?_⟩;cases j with
        | zero=>simpa using hy
        | succ j=>simpa using h3 j (by rw [idxK,if_neg hy] at hj;omega)
      · refine .inr ⟨by simp [idxK,hy,h1],fun z hz=>?_⟩;rcases List.mem_cons.1 hz with rfl | hz
        · exact hy
        · exact h2 z hz
theorem idxK_key {x:κ} {l:List (κ × Value)} (h:idxK x l<l.length):(l[idxK x l]).1=x:=by
  rcases idxK_spec (x:=x) (l:=l) with ⟨h1,h2,-⟩ | ⟨h1,-⟩
  · rw [List.getElem?_eq_getElem h1] at h2;simpa using h2
  · omega
theorem idxK_mem {x:κ} {l:List (κ × Value)}:idxK x l<l.length↔x∈l.map (·.1):=by
  rcases idxK_spec (x:=x) (l:=l) with ⟨h1,h2,-⟩ | ⟨h1,h2⟩
  · refine ⟨fun _=>?_,fun _=>h1⟩;obtain ⟨y,hy,e⟩:=Option.map_eq_some_iff.1 h2;exact List.mem_map.2 ⟨y,List.mem_of_getElem? hy,e⟩
  · refine ⟨fun h=>by omega,fun h=>?_⟩;obtain ⟨y,hy,e⟩:=List.mem_map.1 h;exact absurd e (h2 y hy)
theorem putK_keys {l:List (κ × Value)} {x:κ} {v:Value}:(putK l x v).map (·.1)=if x∈l.map (·.1) then l.map (·.1) else l.map (·.1)++[x]:=by
  unfold putK;by_cases h:idxK x l<l.length
  · rw [if_pos h,if_pos (idxK_mem.1 h)];apply List.ext_getElem?;intro j;rw [List.getElem?_map,List.getElem?_map,List.getElem?_set];by_cases hj:idxK x l=j
    · subst hj;rw [if_pos rfl,if_pos h,List.getElem?_eq_getElem h];simp [idxK_key h]
    · rw [if_neg hj]
  · rw [if_neg h,if_neg (fun e=>h (idxK_mem.2 e))];simp
theorem putK_nodup {l:List (κ × Value)} {x:κ} {v:Value} (h:(l.map (·.1)).Nodup):((putK l x v).map (·.1)).Nodup:=by
  rw [putK_keys];split
  · exact h
  · next hx=>exact List.nodup_append.2 ⟨h,by simp,fun a ha b hb e=>by simp at hb;subst hb;subst e;exact hx ha⟩
theorem putK_valid {l:List (κ × Value)} {x:κ} {v:Value} (h:∀ y∈l,V y.1) (hx:V x):∀ y∈putK l x v,V y.1:=by
  intro y hy;have hk:y.1∈(putK l x v).map (·.1):=List.mem_map_of_mem hy;rw [putK_keys] at hk;split at hk
  · obtain ⟨z,hz,e⟩:=List.mem_map.1 hk;rw [← e];exact h z hz
  · rcases List.mem_append.1 hk with hk | hk
    · obtain ⟨z,hz,e⟩:=List.mem_map.1 hk;rw [← e];exact h z hz
    · simp at hk;rw [hk];exact hx
theorem idxK_congr {y:κ}:∀ {l m:List (κ × Value)},l.map (·.1)=m.map (·.1)→idxK y l=idxK y m
  | [],[],_=>rfl
  | [],_ :: _,h=>by simp at h
  | _ :: _,[],h=>by simp at h
  | a :: l,b :: m,h=>by
    simp only [List.map_cons,List.cons.injEq] at h;rw [idxK,idxK,h.1,idxK_congr h.2]
theorem idxK_snoc {y:κ} {x:κ × Value}:∀ {l:List (κ × Value)},idxK y (l++[x])=if idxK y l<l.length then idxK y l else if x.1=y then l.length else l.length+1
  | []=>by simp [idxK]
  | a :: l=>by
    rw [List.cons_append,idxK,idxK];by_cases h:a.1=y
    · simp [h]
    · rw [if_neg h,if_neg h,idxK_snoc (l:=l)];simp only [List.length_cons];by_cases h2:idxK y l<l.length
      · rw [if_pos h2,if_pos (show idxK y l+1<l.length+1 by omega)]
      · rw [if_neg h2,if_neg (show ¬ idxK y l+1<l.length+1 by omega)];split <;> rfl
omit [DecidableEq κ] in
theorem valK_at {l:List (κ × Value)} {i:Nat} (h:i<l.length):valK l i=l[i].2:=by
  unfold valK;rw [List.getD_eq_getElem?_getD,List.getElem?_map,List.getElem?_eq_getElem h];rfl
def getK (l:List (κ × Value)) (x:κ):Option Value:=if idxK x l<l.length then some (valK l (idxK x l)) else none
theorem getK_put {l:List (κ × Value)} {x y:κ} {v:Value}:getK (putK l x v) y=if y=x then some v else getK l y:=by
  unfold getK putK;by_cases h:idxK x l<l.length
  · rw [if_pos h];have e:idxK y (l.set (idxK x l) (x,v))=idxK y l:=idxK_congr (by
      apply List.ext_getElem?;intro j;rw [List.getElem?_map,List.getElem?_map,List.getElem?_set];by_cases hj:idxK x l=j
      · subst hj;rw [if_pos rfl,if_pos h,List.getElem?_eq_getElem h];simp [idxK_key h]
      · rw [if_neg hj])
    rw [e,List.length_set];by_cases hy:y=x
    · subst hy;rw [if_pos h,if_pos rfl,valK_at (by simpa using h)];simp
    · rw [if_neg hy];by_cases h2:idxK y l<l.length
      · have hne:idxK x l≠idxK y l:=fun e=>hy (by have h3:=idxK_key h2;have h4:=idxK_key h;simp only [e] at h4;rw [← h3,h4])
        rw [if_pos h2,if_pos h2,valK_at (by simpa using h2),valK_at h2];simp [hne]
      · rw [if_neg h2,if_neg h2]
  · rw [if_neg h,idxK_snoc,List.length_append,List.length_singleton];by_cases h2:idxK y l<l.length
    · have hy:y≠x:=fun e=>h (e ▸ h2)
      rw [if_pos h2,if_pos om_,if_neg hy,if_pos h2,valK_at (by simp;omega),valK_at h2,List.getElem_append_left h2]
    · rw [if_neg h2];by_cases hy:y=x
      · subst hy;rw [if_pos rfl,if_pos om_,if_pos rfl,valK_at (by simp)];simp
      · have hy2:¬ (x,v).1=y:=fun e=>hy e.symm
        rw [if_neg hy2,if_neg om_,if_neg hy,if_neg h2]
section
variable {t kt et:TypeId}
theorem x_lookK {m x:Operand} {ty:TypeId} {b:Nat} {l:List (κ × Value)} {k:κ} {z:Value} (hm:P.underlying t=some (.map kt et)) (hk:KLaw P kt K V) (hz:(P.info? et).bind (·.zero)=some z)
    (hx:ev E m=.map (some b)) (hy:ev E x=K k) (hV:V k) (hl:MapAtK K V w b l):X P (.lookup t m x true) ty E w (.tuple #[if idxK k l<l.length then valK l (idxK k l) else z,.bool (decide (idxK k l<l.length))]) w:=by
  obtain ⟨es,c,hb,hes,-,-,hval,hnd⟩:=hl;have hf:=hk.find k es.toList l w hV hval hnd hes;have hzr:∀ w,(zeroValue et).run P w=.ok z w:=fun w=>by
    cases hi:P.info? et with
    | none=>simp [hi] at hz
    | some i=>
      simp [hi] at hz;simp [zeroValue,typeInfo,hi,hz]
  unfold X;by_cases h:idxK k l<l.length
  · rw [if_pos h] at hf;simp [execOp,hx,hy,Instr.lookup,run_underlying hm,MapKept.run_getObj_map hb,hk.check _ k w hV,hf,h,Result.andThen]
  · rw [if_neg h] at hf;simp [execOp,hx,hy,Instr.lookup,run_underlying hm,MapKept.run_getObj_map hb,hk.check _ k w hV,hf,h,hzr,Result.andThen]
omit [DecidableEq κ] in
theorem L.mkmapK {t kt et ty:TypeId} {ops:Array Oper} {r:List Oper} {d:Nat} {p:String} {af:Array Edge} (_hm:P.underlying t=some (.map kt et)) (hd:Nat.blt d n=true)
    (kk:∀ w1,MapAtK K V w1 w.heap.size []→Bel w w1→w1.heap.size=w.heap.size+1→L P n ops Q r D (upd E d (.map (some w.heap.size))) w1):
    L P n ops Q (⟨some d,.makeMap t none,ty,p,af,none⟩ :: r) D E w:=by
  have hX:X P (.makeMap t none) ty E w (.map (some w.heap.size)) (w.alloc (.map #[] 0)):=by
    unfold X;simp [execOp,Instr.makeMap,Result.andThen]
  refine L.val hX hd (kk _ ⟨#[],0,by rw [← World.alloc_eq];simp,rfl,by simp,by simp,by simp,by simp⟩ (gr_of (row:=none) (World.grownBy_alloc w _ none) |>.mono (fun _ _ h=>by cases h)) (by simp))
omit [DecidableEq κ] in
theorem set_kvK {es:List MapEntry} {l:List (κ × Value)} {i:Nat} {x:κ} {v:Value} (h:es.map kvM=l.map fun x=>(K x.1,x.2)):
    (es.modify i fun e=>{ e with key:=K x,val:=v }).map kvM=(l.set i (x,v)).map fun x=>(K x.1,x.2):=by
  induction es generalizing l i with
  | nil=>cases l with
    | nil=>simp
    | cons=>simp at h
  | cons e es ih=>cases l with
    | nil=>simp at h
    | cons y l=>
      simp only [List.map_cons,List.cons.injEq] at h;cases i with
      | zero=>simp [kvM,h.2]
      | succ i=>simp only [List.modify_succ_cons,List.set_cons_succ,List.map_cons,h.1,ih h.2]
theorem L.mapsetK {t kt et ty:TypeId} {ops:Array Oper} {r:List Oper} {m x y:Operand} {p:String} {af:Array Edge} {b:Nat} {l:List (κ × Value)} {k:κ} {v:Value} (hm:P.underlying t=some (.map kt et)) (hk:KLaw P kt K V)
    (hx:ev E m=.map (some b)) (hy:ev E x=K k) (hV:V k) (hv:ev E y=v) (hl:MapAtK K V w b l)
    (kk:∀ w1,MapAtK K V w1 b (putK l k v)→Gr (· = b) w w1→w1.heap.size=w.heap.size→L P n ops Q r D E w1):
    L P n ops Q (⟨none,.mapUpdate t m x y,ty,p,af,none⟩ :: r) D E w:=by
  have hlt:=hl.lt;obtain ⟨es,c,hb,hes,hn,hc,hval,hnd⟩:=hl;have hf:=hk.find k es.toList l w hV hval hnd hes;have hkeep:∀ w o,Gr (· = b) w { w with heap:=w.heap.setIfInBounds b o }:=fun w o=>
    ⟨rfl,rfl,rfl,by simp,fun i _ hi=>by simp [Ne.symm hi]⟩
  by_cases h:idxK k l<l.length
  · rw [if_pos h] at hf;have hkey:((es[idxK k l]?).map (·.key)).getD (K k)=K k:=by
      have hg:=congrArg (fun q:List (Value × Value)=>q[idxK k l]?) hes;simp only [List.getElem?_map] at hg;rw [List.getElem?_eq_getElem h] at hg;have hes2:es[idxK k l]? = es.toList[idxK k l]? := by simp
      rw [hes2];cases hq:es.toList[idxK k l]? with
      | none=>simp
      | some e=>
        rw [hq] at hg;simp only [Option.map_some,Option.some.injEq,kvM,Prod.mk.injEq] at hg;simp only [Option.map_some,Option.getD_some,hg.1,idxK_key h]
    refine L.skip (w':={ w with heap:=w.heap.setIfInBounds b (.map (es.modify (idxK k l) fun e=>{ e with key:=K k,val:=v }) c) }) ?_ (kk _ ⟨es.modify (idxK k l) fun e=>{ e with key:=K k,val:=v },c,by simp [hlt],?_,by rw [Array.toList_modify,born_modify];exact hn,by rw [Array.toList_modify,born_modify];exact hc,putK_valid hval hV,putK_nodup hnd⟩ (hkeep _ _) (by simp))
    · unfold Xs;simp [execOp,hx,hy,hv,Instr.mapUpdate,run_underlying hm,MapKept.run_getObj_map hb,hk.check _ k w hV,hf,hkey,hk.stays k w hV,MapKept.run_setObj_map _ hb,Result.andThen]
    · unfold putK;rw [if_pos h,Array.toList_modify];exact set_kvK hes
  · rw [if_neg h] at hf;refine L.skip (w':={ w with heap:=w.heap.setIfInBounds b (.map (es.push { key:=K k,val:=v,born:=c }) (c+1)) }) ?_ (kk _ ⟨es.push { key:=K k,val:=v,born:=c },c+1,by simp [hlt],?_,?_,?_,putK_valid hval hV,putK_nodup hnd⟩ (hkeep _ _) (by simp))
    · unfold Xs;simp [execOp,hx,hy,hv,Instr.mapUpdate,run_underlying hm,MapKept.run_getObj_map hb,hk.check _ k w hV,hf,MapKept.run_setObj_map _ hb,Result.andThen]
    · unfold putK;rw [if_neg h,Array.toList_push,List.map_append,hes];simp [kvM]
    · rw [Array.toList_push,List.map_append];refine List.nodup_append.2 ⟨hn,by simp,fun x hx y hy e=>?_⟩;have:=hc x hx;simp at hy;omega
    · rw [Array.toList_push,List.map_append];intro x hx;rcases List.mem_append.1 hx with hx | hx
      · have:=hc x hx;omega
      · simp at hx;omega
end
def K2 (x:Str × Str):Value:=.agg #[S x.1,S x.2]
end Go.Gx
namespace Go.Gx
open Go.Proofs
variable {P:Program} {n:Nat} {Q:Post} {D:List Deferred} {E:Env} {w:World}
def unS:Value→Str
  | .string b=>b.data.toList
  | _=>[]
theorem unS_S (x:Str):unS (S x)=x:=by unfold unS S;simp
def decM (e:MapEntry):Str × Value:=(unS e.key,e.val)
theorem map_dec:∀ {es:List MapEntry} {l:List (Str × Value)},es.map kvM=l.map (fun x=>(S x.1,x.2))→es.map decM=l∧∀ e∈es,e.key=S (decM e).1
  | [],[],_=>⟨rfl,fun e h=>by cases h⟩
  | [],_ :: _,h=>by simp at h
  | _ :: _,[],h=>by simp at h
  | e :: es,y :: l,h=>by
    simp only [List.map_cons,List.cons.injEq,kvM,Prod.mk.injEq] at h;obtain ⟨⟨hk,hv⟩,ht⟩:=h;obtain ⟨h1,h2⟩:=map_dec ht;have hd:decM e=y:=by unfold decM;rw [hk,unS_S,hv]
    refine ⟨by rw [List.map_cons,hd,h1],fun z hz=>?_⟩;rcases List.mem_cons.1 hz with rfl | hz
    · rw [hd,hk]
    · exact h2 z hz
def IterAt (w:World) (r b:Nat) (l vis:List (Str × Value)):Prop:=
  ∃ es clock sb,∃ ds:List MapEntry,w.heap[b]? = some (.map es clock)∧MapIs es clock l∧w.heap[r]? = some (.mapIter (some b) clock sb clock)∧sb.toList=ds.map (·.born)∧(∀ d∈ds,d∈es.toList)∧(ds.map (·.born)).Nodup∧ds.map decM=vis
theorem IterAt.lt {r b:Nat} {l vis:List (Str × Value)} (h:IterAt w r b l vis):r<w.heap.size∧b<w.heap.size∧b≠r:=by
  obtain ⟨es,c,sb,ds,h1,-,h2,-⟩:=h;refine ⟨(Array.getElem?_eq_some_iff.1 h2).1,(Array.getElem?_eq_some_iff.1 h1).1,fun e=>?_⟩;rw [e,h2] at h1;cases h1
theorem IterAt.walk {r b:Nat} {l vis:List (Str × Value)} (h:IterAt w r b l vis):∃ o:Obj,w.heap[r]? = some o∧o.isWalk=true:=by
  obtain ⟨es,c,sb,ds,-,-,h2,-⟩:=h;exact ⟨_,h2,rfl⟩
theorem IterAt.carryR {R:Nat→Prop} {w':World} {r b:Nat} {l vis:List (Str × Value)} (h:IterAt w r b l vis) (g:Gr R w w') (h1:¬ R r) (h2:¬ R b):IterAt w' r b l vis:=by
  obtain ⟨hr,hb,-⟩:=h.lt;obtain ⟨es,c,sb,ds,a1,a2,a3,a4⟩:=h;exact ⟨es,c,sb,ds,(g.block b hb h2).trans a1,a2,(g.block r hr h1).trans a3,a4⟩
theorem IterAt.carry {w':World} {r b:Nat} {l vis:List (Str × Value)} (h:IterAt w r b l vis) (g:Bel w w'):IterAt w' r b l vis:=h.carryR g (fun f=>f) (fun f=>f)
theorem IterAt.keep {w':World} {r b:Nat} {l vis:List (Str × Value)} (h:IterAt w r b l vis) (g:KeepsWalks w w'):IterAt w' r b l vis:=by
  obtain ⟨hr,hb,-⟩:=h.lt;obtain ⟨es,c,sb,ds,a1,a2,a3,a4⟩:=h;exact ⟨es,c,sb,ds,g.same b _ a1 rfl,a2,g.same r _ a3 rfl,a4⟩
theorem len_subN {l m:List Nat} (hd:l.Nodup) (hs:∀ x,x∈l→x∈m):l.length≤m.length:=by
  induction l generalizing m with
  | nil=>simp
  | cons x l ih=>
    rw [List.nodup_cons] at hd;have hx:=hs x (by simp);have:=ih (m:=m.erase x) hd.2 fun y hy=>(List.mem_erase_of_ne (fun e=>hd.1 (by rw [← e];exact hy))).2 (hs y (by simp [hy]))
    rw [List.length_erase_of_mem hx] at this;have:=List.length_pos_of_mem hx;simp;omega
theorem born_inj {l:List MapEntry} (h:(l.map (·.born)).Nodup) {a b:MapEntry} (ha:a∈l) (hb:b∈l) (e:a.born=b.born):a=b:=by
  have h1:=find_born a l h ha;have h2:=find_born b l h hb;rw [e,h2] at h1;simpa using h1.symm
theorem L.rangeM {t kt et ty:TypeId} {ops:Array Oper} {r:List Oper} {d:Nat} {x:Operand} {p:String} {af:Array Edge} {b:Nat} {l:List (Str × Value)} (hm:P.underlying t=some (.map kt et)) (hx:ev E x=.map (some b)) (hd:Nat.blt d n=true) (hl:MapAt w b l)
    (kk:∀ w1,IterAt w1 w.heap.size b l []→w.grownBy w1 none→Bel w w1→w1.heap.size=w.heap.size+1→L P n ops Q r D (upd E d (.pointer (some ⟨w.heap.size,0,none⟩))) w1):
    L P n ops Q (⟨some d,.range t x,ty,p,af,none⟩ :: r) D E w:=by
  obtain ⟨es,c,hb,hes⟩:=hl;have hlt:=(Array.getElem?_eq_some_iff.1 hb).1;have hX:X P (.range t x) ty E w (.pointer (some ⟨w.heap.size,0,none⟩)) (w.alloc (.mapIter (some b) c #[] c)):=by
    unfold X;simp [execOp,hx,Instr.range,run_underlying hm,MapKept.run_getObj_map hb,Result.andThen]
  have hg:=World.grownBy_alloc w (.mapIter (some b) c #[] c) none;refine L.val hX hd (kk _ ⟨es,c,#[],[],?_,hes,World.alloc_heap_new w _,rfl,by simp,by simp,rfl⟩ hg ((gr_of hg).mono (fun _ _ h=>by cases h)) (by simp));exact (RowKit.Below.heap_alloc w _ b hlt).trans hb
theorem L.nextM {ty:TypeId} {ops:Array Oper} {r:List Oper} {d:Nat} {x:Operand} {p:String} {af:Array Edge} {rb b:Nat} {l vis:List (Str × Value)} (hx:ev E x=.pointer (some ⟨rb,0,none⟩)) (hd:Nat.blt d n=true) (hI:IterAt w rb b l vis)
    (k0:vis.Perm l→L P n ops Q r D (upd E d (.tuple #[.bool false])) w)
    (k1:∀ kv w1,kv∈l→vis.length<l.length→IterAt w1 rb b l (vis++[kv])→w.grownBy w1 (some rb)→Gr (· = rb) w w1→w1.heap.size=w.heap.size→L P n ops Q r D (upd E d (.tuple #[.bool true,S kv.1,kv.2])) w1):
    L P n ops Q (⟨some d,.next x false,ty,p,af,none⟩ :: r) D E w:=by
  obtain ⟨-,-,hbr⟩:=hI.lt;obtain ⟨es,c,sb,ds,hb,⟨hes,hn,hc⟩,hr,hsb,hsub,hdn,hvis⟩:=hI;obtain ⟨hdec,hkey⟩:=map_dec hes;have hold:∀ x∈es.toList,x.born<c:=fun x hx=>hc _ (List.mem_map_of_mem hx)
  rcases run_next_at (P:=P) w ty rb b c c sb es c hr hb hold (Nat.le_refl _) with ⟨h0,hrun⟩ | ⟨e,he,w1,hw1,hrun⟩
  · refine L.val (v:=.tuple #[.bool false]) (w':=w) (by unfold X;simp [execOp,hx,hrun,Result.andThen]) hd (k0 ?_);have hall:∀ e∈es.toList,e.born∈ds.map (·.born):=fun e he=>by
      refine Decidable.byContradiction fun hno=>?_
      have:e∈(leftOf es sb).toList:=by
        unfold leftOf;simp only [Array.toList_filter,List.mem_filter];refine ⟨he,?_⟩;rw [← hsb] at hno;simpa using hno
      have hp:=List.length_pos_of_mem this;simp at hp;omega
    have hds:ds.Nodup:=List.Pairwise.of_map (·.born) (fun _ _ h e=>h (by rw [e])) hdn;have hesn:es.toList.Nodup:=List.Pairwise.of_map (·.born) (fun _ _ h e=>h (by rw [e])) hn;have hp:ds.Perm es.toList:=(List.perm_ext_iff_of_nodup hds hesn).2 fun e=>⟨hsub e,fun he=>by
      obtain ⟨d',hd',e'⟩:=List.mem_map.1 (hall e he);rw [← born_inj hn (hsub d' hd') he e'];exact hd'⟩
    rw [← hvis,← hdec];exact hp.map _
  · have hel:e∈es.toList∧¬ e.born∈ds.map (·.born):=by
      unfold leftOf at he;simp only [Array.toList_filter,List.mem_filter] at he;refine ⟨he.1,?_⟩;rw [← hsb];simpa using he.2
    have hw1s:w1.heap=w.heap:=by rcases hw1 with rfl | rfl <;> rfl
    have hsize:(Go.ChangeMaps.setBlock w1 rb (.mapIter (some b) c (sb.push e.born) c)).heap.size=w.heap.size:=by simp [Go.ChangeMaps.setBlock,hw1s]
    have hgr:w.grownBy (Go.ChangeMaps.setBlock w1 rb (.mapIter (some b) c (sb.push e.born) c)) (some rb):=by
      refine ⟨?_,?_,?_,by rw [hsize];exact Nat.le_refl _,fun k hk hne=>?_⟩
      · rcases hw1 with rfl | rfl <;> rfl
      · rcases hw1 with rfl | rfl <;> rfl
      · rcases hw1 with rfl | rfl <;> rfl
      · have hne:rb≠k:=fun e=>hne (by rw [e])
        simp [Go.ChangeMaps.setBlock,hw1s,hne]
    have hkv:decM e∈l:=by rw [← hdec];exact List.mem_map_of_mem hel.1
    have hval:(Value.tuple #[.bool true,e.key,e.val])=.tuple #[.bool true,S (decM e).1,(decM e).2]:=by rw [hkey e hel.1];rfl
    have hlen:vis.length<l.length:=by
      have:=len_subN (l:=(ds++[e]).map (·.born)) (m:=es.toList.map (·.born)) (by
        rw [List.map_append];refine List.nodup_append.2 ⟨hdn,by simp,fun x hx y hy e2=>?_⟩;simp at hy;subst e2;exact hel.2 (hy ▸ hx)) (fun x hx=>by
        rw [List.map_append] at hx;rcases List.mem_append.1 hx with hx | hx
        · obtain ⟨d',hd',rfl⟩:=List.mem_map.1 hx;exact List.mem_map_of_mem (hsub d' hd')
        · simp at hx;subst hx;exact List.mem_map_of_mem hel.1)
      rw [← hvis,← hdec];simp at this ⊢;omega
    refine L.val (v:=.tuple #[.bool true,S (decM e).1,(decM e).2]) (w':=Go.ChangeMaps.setBlock w1 rb (.mapIter (some b) c (sb.push e.born) c)) (by unfold X;simp [execOp,hx,hrun,Result.andThen,hval]) hd
      (k1 (decM e) _ hkv hlen ⟨es,c,sb.push e.born,ds++[e],?_,⟨hes,hn,hc⟩,?_,?_,?_,?_,?_⟩ hgr ((gr_of hgr).mono fun k _ h=>by cases h;rfl) hsize)
    · have hne:rb≠b:=fun e=>hbr e.symm
      simp only [Go.ChangeMaps.setBlock,hw1s];rw [Array.getElem?_setIfInBounds_ne hne];exact hb
    · simp only [Go.ChangeMaps.setBlock,hw1s];rw [Array.getElem?_setIfInBounds_self_of_lt (Array.getElem?_eq_some_iff.1 hr).1]
    · rw [Array.toList_push,hsb,List.map_append];rfl
    · intro d' hd';rcases List.mem_append.1 hd' with h | h
      · exact hsub d' h
      · rw [List.mem_singleton.1 h];exact hel.1
    · rw [List.map_append];refine List.nodup_append.2 ⟨hdn,by simp,fun x hx y hy e2=>?_⟩;simp at hy;subst e2;exact hel.2 (hy ▸ hx)
    · rw [List.map_append,hvis];rfl
theorem x_entry {ty:TypeId} {x:Operand} {rb b:Nat} {l vis:List (Str × Value)} {kv:Str × Value} (hx:ev E x=.pointer (some ⟨rb,0,none⟩)) (hI:IterAt w rb b l (vis++[kv])):X P (.entry x) ty E w (.tuple #[S kv.1,kv.2]) w:=by
  obtain ⟨es,c,sb,ds,hb,⟨hes,hn,hc⟩,hr,hsb,hsub,hdn,hvis⟩:=hI;obtain ⟨hdec,hkey⟩:=map_dec hes;obtain ⟨ds',e,rfl⟩:∃ ds' e,ds=ds'++[e]:=by
    rcases List.eq_nil_or_concat ds with h | ⟨l,a,h⟩
    · rw [h] at hvis;simp at hvis
    · exact ⟨l,a,by rw [h];simp⟩
  have hkv:decM e=kv:=by
    rw [List.map_append] at hvis;have:=congrArg List.getLast? hvis;simpa using this
  have he:=hsub e (by simp);obtain ⟨sb',rfl⟩:∃ sb':Array Nat,sb=sb'.push e.born:=by
    refine ⟨sb.pop,?_⟩;apply Array.ext';rw [Array.toList_push,Array.toList_pop,hsb];simp
  have hrun:=run_entry_at (P:=P) w rb b c sb' es c e hr hb he hn;rw [hkey e he,hkv] at hrun;have hv:e.val=kv.2:=by rw [← hkv];rfl
  rw [hv] at hrun;unfold X;simp [execOp,hx,hrun,Result.andThen]
theorem x_extn {f:FuncId} {fn:Func} {e:Array Value→Sem Value} {xs:Array Operand} {ts:Array TypeId} {t:TypeId} {vs:List Value} {v:Value} {w':World} (hf:P.funcs[f]? = some fn) (hname:(fn.name == "runtime.NumGoroutine")=false) (hb:fn.body.isNone=true) (hn:Extern.findNext fn=none) (he:Extern.find fn=some e)
    (hv:xs.toList.map (ev E)=vs) (hr:(e vs.toArray).run P w=.ok v w'):X P (.call ⟨.value (.func f),xs,ts⟩) t E w v w':=by
  unfold X;have hv':xs.map (ev E)=vs.toArray:=by apply Array.ext';simpa using hv
  simp only [execOp,resolve,ev,Deferred.ofValue,hv',Sem.run_bind];have:=run_callFunc_extern (P:=P) hf hname hb hn he (#[]++vs.toArray++#[]) w;simp only [Array.empty_append,Array.append_empty,hr,Result.andThen] at this;simpa [invoke] using this
theorem x_eqlm {x y:Operand} {t u z k e:TypeId} {p:Option Nat} (hu:P.underlying u=some (.map k e)) (hx:ev E x=.map p) (hy:ev E y=.map none):X P (.binOp .eql u x y z) t E w (.bool p.isNone) w:=by
  unfold X;have h0:∀ d:Nat,(Op.equalIn (d+1) u (.map p) (.map none)).run P w=.ok p.isNone w:=fun d=>by cases p <;> simp [Op.equalIn,run_underlying hu]
  have h1:=h0 9999;have h2:(binOp .eql u (.map p) (.map none)).run P w=.ok (.bool p.isNone) w:=by
    simp only [binOp];simp [show Op.equal u (.map p) (.map none)=Op.equalIn (9999+1) u (.map p) (.map none) from rfl,h1]
  simp [execOp,hx,hy,eqGuard,h2]
theorem x_tasm {x:Operand} {t u s k e:TypeId} {v:Value} (hu:P.underlying s=some (.map k e)) (hx:ev E x=.iface s v):X P (.typeAssert x u s false) t E w v w:=by
  unfold X;simp [execOp,hx,Instr.typeAssert,run_underlying hu,Result.andThen]
theorem run_clone {b:Nat} {es:Array MapEntry} {c:Nat} (t:TypeId) (hb:w.heap[b]? = some (.map es c)):(Extern.MapsClone.clone #[.iface t (.map (some b))]).run P w=.ok (.iface t (.map (some w.heap.size))) (w.alloc (.map es c)):=by
  have e:Extern.MapsClone.clone #[.iface t (.map (some b))]=(getObj b >>= fun o=>match o with
      | .map entries clock=>(newObj (.map entries clock) >>= fun n=>pure (.iface t (.map (some n))))
      | _=>stuck "maps.clone: a map expected"):=rfl
  rw [e];simp [MapKept.run_getObj_map hb,Result.andThen]
end Go.Gx
