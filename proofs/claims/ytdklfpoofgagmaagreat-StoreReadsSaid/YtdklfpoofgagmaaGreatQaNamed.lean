/- Names in a record or a sum: all well formed, none twice: sorted, made compact, counted. Conditions: none. -/
import Derived.Lib.Bytealg
import Derived.WideMake
import Derived.MapKept
import Derived.DeepKeys3
import Derived.Maps.RangeRun
import Derived.Laws.Externs
import Derived.RangeFuncSeq
import Derived.Test.YtdklfpoofgagmaaGreatQaRowG
import Derived.Test.YtdklfpoofgagmaaGreatQaDef
namespace Go.Gx
open Go.Proofs Go.Sort
theorem knamed_en120:Go.Proofs.Enters Tryz.prog 120:=Go.Proofs.enters_of Tryz.func120 kr_ rfl
theorem knamed_en121:Go.Proofs.Enters Tryz.prog 121:=Go.Proofs.enters_of Tryz.func121 kr_ rfl
theorem knamed_en136:Go.Proofs.Enters Tryz.prog 136:=Go.Proofs.enters_of Tryz.func136 kr_ rfl
theorem collect_ok (gf:Nat) (lb:Array Value) (ss:List Str) (w:World) (eg:Go.Proofs.Enters Tryz.prog gf) (hl:ss.length≤100000000000) {Φ : List Str→Prop} (hΦ : ∀ xs,Φ xs→xs.Perm ss)
    (hseq:SeqStopsK Fence.wide 1 Tryz.prog gf lb (fun x:Str=>#[S x]) (KpB w.heap.size) Φ (fun _=>True) ss.length w):
    Ret Tryz.prog 120 #[.func (.func gf) #[] lb] w fun v w'=>(∃ xs:List Str,xs.Perm ss∧Own w' (w.heap.size+1) 9 1 v xs.length (xs.map S)∧(xs=[]→v=.slice none 0 0))∧Bel w w':=by
  refine ret_of_W Tryz.func120 rfl (Nat.le_of_ble_eq_true rfl) (res1 rfl) ?_;have hB:=Gr.refl (fun _=>False) w;refine W.seq (W.region (L.val (x_as (v:=_) rfl) rfl ?_));refine L.nil (thn_n (W.seq (W.region (L.val (x_mv (v:=.func _ _ _) rfl) rfl ?_))));refine L.ret (x_call knamed_en136 rfl) rfl (seq_ok gf lb ss _ eg hl hΦ hseq) ?_;rintro v w4 ⟨hO,hw⟩;have hB:=hB.carry hw;refine L.val (x_as (v:=_) rfl) rfl ?_;refine L.nil (thn_n (W.ret (fin_mk (.inr rfl) ?_)));exact ⟨hO,hB⟩
def SortedNew (base:Nat) (w:World) (v:Value) (ss:List Str):Prop:=
  (ss=[]∧v=.slice none 0 0)∨∃ b cap tl d,base≤b∧1≤ss.length∧ss.length≤cap∧v=.slice (some ⟨b,0,none⟩) ss.length cap∧Row S w b 0 9 [] d tl∧d.size=ss.length∧PermIn 0 ss.length ss.toArray d∧SortedIn ltStr 0 ss.length d∧cap≤9223372036854775807
theorem permIn_conv {xs ss:List Str} (h:xs.Perm ss) {d:Array Str} (p:PermIn 0 xs.length xs.toArray d):PermIn 0 ss.length ss.toArray d:=by
  obtain ⟨h1,h2,h3⟩:=p;have hl:=h.length_eq;refine ⟨by rw [h1];simpa using hl,fun i hi=>?_,?_⟩
  · have hi:ss.length≤i:=by omega
    rw [h2 i om_];rw [getElem!_neg _ _ (by simp;omega),getElem!_neg _ _ (by simp;omega)]
  · rw [hl] at h3;refine h3.trans ?_;have e1:(xs.toArray.extract 0 ss.length).toList=xs:=by simp [← hl]
    have e2:(ss.toArray.extract 0 ss.length).toList=ss:=by simp
    rw [e1,e2];exact h
theorem sorted_ok (gf:Nat) (lb:Array Value) (ss:List Str) (w:World) (eg:Go.Proofs.Enters Tryz.prog gf) (hl:ss.length≤100000000000) {Φ : List Str→Prop} (hΦ : ∀ xs,Φ xs→xs.Perm ss)
    (hseq:SeqStopsK Fence.wide 1 Tryz.prog gf lb (fun x:Str=>#[S x]) (KpB w.heap.size) Φ (fun _=>True) ss.length w):
    Ret Tryz.prog 93 #[.func (.func gf) #[] lb] w fun v w'=>SortedNew w.heap.size w' v ss∧Bel w w':=by
  refine ret_of_W Tryz.func93 rfl (Nat.le_of_ble_eq_true rfl) (res1 rfl) ?_;have hB:=Gr.refl (fun _=>False) w;refine W.seq (W.region (L.val (x_as (v:=_) rfl) rfl ?_));refine L.nil (thn_n (W.seq (W.region (L.val (x_mv (v:=.func _ _ _) rfl) rfl ?_))));refine L.ret (x_call knamed_en120 rfl) rfl (collect_ok gf lb ss _ eg hl hΦ hseq) ?_;rintro v w5 ⟨⟨xs,hpx,hO,hz0⟩,hw⟩;have hB:=hB.carry hw
  suffices hs:Ret Tryz.prog 121 #[v] w5 (fun r w'=>r=.tuple #[]∧SortedNew w.heap.size w' v ss∧Bel w w') from ?_
  rotate_left 1
  · rcases hO.open with ⟨rfl,hk,-⟩ | ⟨b,cap,tl,rfl,hb,hcap,hcm,hbx⟩
    · exact (sort_nil 0 w5).mono fun r w' ⟨h1,h2⟩=>⟨h1,.inl ⟨List.eq_nil_of_length_eq_zero (hpx.length_eq.symm.trans hk),rfl⟩,hB.carry h2⟩
    · by_cases hz:xs.length=0
      · have:=hz0 (List.eq_nil_of_length_eq_zero hz);cases this
      · have hR:Row S w5 b 0 9 [] xs.toArray tl:=⟨rfl,by simpa using hbx⟩;refine (sort_ok b 0 cap xs.length _ [] tl xs.toArray w5 hR (by simp) om_ (by have:=hpx.length_eq;omega)).mono ?_;rintro r w' ⟨h1,hg,d,hd,p1,p2⟩;have hle:=hpx.length_eq;exact ⟨h1,.inr ⟨b,cap,tl,d,by omega,by omega,by omega,by rw [hle],hd,by rw [p1.1];simpa using hle,permIn_conv hpx p1,by rw [← hle];exact p2,hcm⟩,hB.set hg om_⟩
  refine L.val (x_as (v:=_) rfl) rfl ?_;refine L.nil (thn_n (W.seq (W.region (L.val (x_mv (v:=_) rfl) rfl ?_))));refine L.ret (x_call knamed_en121 rfl) rfl (hs) ?_;rintro _ w7 ⟨rfl,hN,hw⟩;refine L.nil (thn_n (W.seq (W.region (L.val (x_mv (v:=_) rfl) rfl ?_))));refine L.val (x_as (v:=_) rfl) rfl ?_;refine L.nil (thn_n (W.ret (fin_mk (.inr rfl) ?_)));exact ⟨hN,hw⟩
end Go.Gx
namespace Go.Gx
open Go.Proofs Go.Sort
theorem nodup_iff {l:List Str}:nodup l=true↔l.Nodup:=by
  induction l with
  | nil=>simp [nodup]
  | cons x l ih=>simp [nodup,ih]
theorem SortedNew.carry {base:Nat} {w w':World} {v:Value} {ss:List Str} (h:SortedNew base w v ss) (g:Bel w w'):SortedNew base w' v ss:=by
  rcases h with h | ⟨b,cap,tl,d,h1,h2,h3,h4,h5,h6⟩
  · exact .inl h
  · exact .inr ⟨b,cap,tl,d,h1,h2,h3,h4,h5.carry g,h6⟩
end Go.Gx
namespace Go.Gx
open Go.Proofs
theorem Sh.ext {a b:Sh} (h1:a.kind=b.kind) (h2:a.of=b.of) (h3:a.name=b.name) (h4:a.names=b.names) (h5:a.parts=b.parts):a=b:=by
  cases a;cases b;simp only [Sh.kind,Sh.of,Sh.name,Sh.names,Sh.parts] at *;subst h1 h2 h3 h4 h5;rfl
end Go.Gx
namespace Go.Gx
open Go.Proofs Go.Sort
def Ordered (ns:List Str) (n:Nat) (idx:List Nat):Prop:=idx.Perm (List.range n)∧(ns=[]→idx=List.range n)∧(ns≠[]→∀ i j,i<j→j<n→ltStr (ns.getD (idx.getD j 0) []) (ns.getD (idx.getD i 0) [])=false)
theorem Ordered.len {ns:List Str} {n:Nat} {idx:List Nat} (h:Ordered ns n idx):idx.length=n:=by have:=h.1.length_eq;simpa using this
theorem Ordered.lt {ns:List Str} {n:Nat} {idx:List Nat} (h:Ordered ns n idx) {k:Nat} (hk:k<n):idx.getD k 0<n:=by
  have hm:idx.getD k 0∈idx:=by rw [List.getD_eq_getElem?_getD,List.getElem?_eq_getElem (by rw [h.len];exact hk)];exact List.getElem_mem _
  exact List.mem_range.1 (h.1.mem_iff.1 hm)
end Go.Gx
namespace Go.Gx
open Go.Proofs
variable {P:Program} {n:Nat} {Q:Post} {D:List Deferred} {E:Env} {w:World}
def kvM (e:MapEntry):Value × Value:=(e.key,e.val)
def MapIs (es:Array MapEntry) (clock:Nat) (l:List (Str × Value)):Prop:=es.toList.map kvM=l.map (fun x=>(S x.1,x.2))∧(es.toList.map (·.born)).Nodup∧∀ n∈es.toList.map (·.born),n<clock
def MapAt (w:World) (b:Nat) (l:List (Str × Value)):Prop:=∃ es clock,w.heap[b]? = some (.map es clock)∧MapIs es clock l
theorem MapAt.lt {b:Nat} {l:List (Str × Value)} (h:MapAt w b l):b<w.heap.size:=by
  obtain ⟨es,c,h,-⟩:=h;exact (Array.getElem?_eq_some_iff.1 h).1
theorem MapAt.carryR {R:Nat→Prop} {w':World} {b:Nat} {l:List (Str × Value)} (h:MapAt w b l) (g:Gr R w w') (hn:¬ R b):MapAt w' b l:=by
  have hlt:=h.lt;obtain ⟨es,c,h,hm⟩:=h;exact ⟨es,c,(g.block b hlt hn).trans h,hm⟩
theorem MapAt.carry {w':World} {b:Nat} {l:List (Str × Value)} (h:MapAt w b l) (g:Bel w w'):MapAt w' b l:=h.carryR g fun f=>f
theorem S_inj {a b:Str} (h:S a=S b):a=b:=by
  unfold S at h;injection h with h
  injection h with h
  simpa using congrArg Array.toList h
section
variable {t kt et:TypeId}
theorem born_modify {es:List MapEntry} {i:Nat} {k v:Value}:(es.modify i fun e=>{ e with key:=k,val:=v }).map (·.born)=es.map (·.born):=by
  induction es generalizing i with
  | nil=>simp
  | cons e es ih=>
    cases i with
    | zero=>simp
    | succ i=>simp only [List.modify_succ_cons,List.map_cons,ih]
end
def fieldsF:Nat→List Str→List (Str × Value)
  | _,[]=>[]
  | n,x :: l=>(x,.int .i64 (n:Nat)) :: fieldsF (n+1) l
def FieldsAt (w:World) (b:Nat) (l:List Str):Prop:=MapAt w b (fieldsF 0 l)
theorem FieldsAt.carryR {R:Nat→Prop} {w':World} {b:Nat} {l:List Str} (h:FieldsAt w b l) (g:Gr R w w') (hn:¬ R b):FieldsAt w' b l:=MapAt.carryR h g hn
theorem FieldsAt.carry {w':World} {b:Nat} {l:List Str} (h:FieldsAt w b l) (g:Bel w w'):FieldsAt w' b l:=MapAt.carry h g
theorem FieldsAt.lt {b:Nat} {l:List Str} (h:FieldsAt w b l):b<w.heap.size:=MapAt.lt h
end Go.Gx
namespace Go.Gx
open Go.Proofs
variable {P:Program} {n:Nat} {Q:Post} {D:List Deferred} {E:Env} {w:World}
variable {κ : Type} [DecidableEq κ]
def idxK (x:κ):List (κ × Value)→Nat
  | []=>0
  | y :: l=>if y.1=x then 0 else idxK x l+1
def valK (l:List (κ × Value)) (i:Nat):Value:=(l.map (·.2)).getD i undef
def putK (l:List (κ × Value)) (x:κ) (v:Value):List (κ × Value):=if idxK x l<l.length then l.set (idxK x l) (x,v) else l++[(x,v)]
structure KLaw (P:Program) (kt:TypeId) (K:κ → Value) (V:κ → Prop):Prop where
  check:∀ (e:Bool) (x:κ) (w:World),V x→(Instr.checkKey e 10000 kt (K x)).run P w=.ok () w
  find:∀ (x:κ) (es:List MapEntry) (l:List (κ × Value)) (w:World),V x→(∀ y∈l,V y.1)→(l.map (·.1)).Nodup→es.map kvM=l.map (fun y=>(K y.1,y.2))→
    (Instr.findKey kt (K x) es).run P w=.ok (if idxK x l<l.length then some (idxK x l,valK l (idxK x l)) else none) w
  stays:∀ (x:κ) (w:World),V x→(Instr.keyThatStays (K x) (K x)).run P w=.ok (K x) w
variable {K:κ → Value} {V:κ → Prop}
def MapIsK (K:κ → Value) (V:κ → Prop) (es:Array MapEntry) (clock:Nat) (l:List (κ × Value)):Prop:=
  es.toList.map kvM=l.map (fun x=>(K x.1,x.2))∧(es.toList.map (·.born)).Nodup∧(∀ n∈es.toList.map (·.born),n<clock)∧(∀ y∈l,V y.1)∧(l.map (·.1)).Nodup
def MapAtK (K:κ → Value) (V:κ → Prop) (w:World) (b:Nat) (l:List (κ × Value)):Prop:=∃ es clock,w.heap[b]? = some (.map es clock)∧MapIsK K V es clock l
omit [DecidableEq κ] in
theorem MapAtK.lt {b:Nat} {l:List (κ × Value)} (h:MapAtK K V w b l):b<w.heap.size:=by
  obtain ⟨es,c,h,-⟩:=h;exact (Array.getElem?_eq_some_iff.1 h).1
omit [DecidableEq κ] in
theorem MapAtK.carryR {R:Nat→Prop} {w':World} {b:Nat} {l:List (κ × Value)} (h:MapAtK K V w b l) (g:Gr R w w') (hn:¬ R b):MapAtK K V w' b l:=by
  have hlt:=h.lt;obtain ⟨es,c,h,hm⟩:=h;exact ⟨es,c,(g.block b hlt hn).trans h,hm⟩
omit [DecidableEq κ] in
theorem MapAtK.carry {w':World} {b:Nat} {l:List (κ × Value)} (h:MapAtK K V w b l) (g:Bel w w'):MapAtK K V w' b l:=h.carryR g fun f=>f
theorem idxK_spec {x:κ}:∀ {l:List (κ × Value)},(idxK x l<l.length∧(l[idxK x l]?).map (·.1)=some x∧∀ j,j<idxK x l→(l[j]?).map (·.1)≠some x)∨(idxK x l=l.length∧∀ y∈l,y.1≠x)
  | []=>.inr ⟨rfl,by simp⟩
  | y :: l=>by
    by_cases hy:y.1=x
    · refine .inl ⟨by simp [idxK,hy],by simp [idxK,hy],fun j hj=>?_⟩;rw [idxK,if_pos hy] at hj;omega
    · rcases idxK_spec (x:=x) (l:=l) with ⟨h1,h2,h3⟩ | ⟨h1,h2⟩
      · refine .inl ⟨by simp [idxK,hy,h1],by simpa [idxK,hy] using h2,fun j hj=>?_⟩;cases j with
        | zero=>simpa using hy
        | succ j=>simpa using h3 j (by rw [idxK,if_neg hy] at hj;omega)
      · refine .inr ⟨by simp [idxK,hy,h1],fun z hz=>?_⟩;rcases List.mem_cons.1 hz with rfl | hz
        · exact hy
        · exact h2 z hz
theorem idxK_key {x:κ} {l:List (κ × Value)} (h:idxK x l<l.length):(l[idxK x l]).1=x:=by
  rcases idxK_spec (x:=x) (l:=l) with ⟨h1,h2,-⟩ | ⟨h1,-⟩
  · rw [List.getElem?_eq_getElem h1] at h2;simpa using h2
  · omega
theorem idxK_mem {x:κ} {l:List (κ × Value)}:idxK x l<l.length↔x∈l.map (·.1):=by
  rcases idxK_spec (x:=x) (l:=l) with ⟨h1,h2,-⟩ | ⟨h1,h2⟩
  · refine ⟨fun _=>?_,fun _=>h1⟩;obtain ⟨y,hy,e⟩:=Option.map_eq_some_iff.1 h2;exact List.mem_map.2 ⟨y,List.mem_of_getElem? hy,e⟩
  · refine ⟨fun h=>by omega,fun h=>?_⟩;obtain ⟨y,hy,e⟩:=List.mem_map.1 h;exact absurd e (h2 y hy)
theorem putK_keys {l:List (κ × Value)} {x:κ} {v:Value}:(putK l x v).map (·.1)=if x∈l.map (·.1) then l.map (·.1) else l.map (·.1)++[x]:=by
  unfold putK;by_cases h:idxK x l<l.length
  · rw [if_pos h,if_pos (idxK_mem.1 h)];apply List.ext_getElem?;intro j;rw [List.getElem?_map,List.getElem?_map,List.getElem?_set];by_cases hj:idxK x l=j
    · subst hj;rw [if_pos rfl,if_pos h,List.getElem?_eq_getElem h];simp [idxK_key h]
    · rw [if_neg hj]
  · rw [if_neg h,if_neg (fun e=>h (idxK_mem.2 e))];simp
theorem putK_nodup {l:List (κ × Value)} {x:κ} {v:Value} (h:(l.map (·.1)).Nodup):((putK l x v).map (·.1)).Nodup:=by
  rw [putK_keys];split
  · exact h
  · next hx=>exact List.nodup_append.2 ⟨h,by simp,fun a ha b hb e=>by simp at hb;subst hb;subst e;exact hx ha⟩
theorem putK_valid {l:List (κ × Value)} {x:κ} {v:Value} (h:∀ y∈l,V y.1) (hx:V x):∀ y∈putK l x v,V y.1:=by
  intro y hy;have hk:y.1∈(putK l x v).map (·.1):=List.mem_map_of_mem hy;rw [putK_keys] at hk;split at hk
  · obtain ⟨z,hz,e⟩:=List.mem_map.1 hk;rw [← e];exact h z hz
  · rcases List.mem_append.1 hk with hk | hk
    · obtain ⟨z,hz,e⟩:=List.mem_map.1 hk;rw [← e];exact h z hz
    · simp at hk;rw [hk];exact hx
theorem idxK_congr {y:κ}:∀ {l m:List (κ × Value)},l.map (·.1)=m.map (·.1)→idxK y l=idxK y m
  | [],[],_=>rfl
  | [],_ :: _,h=>by simp at h
  | _ :: _,[],h=>by simp at h
  | a :: l,b :: m,h=>by
    simp only [List.map_cons,List.cons.injEq] at h;rw [idxK,idxK,h.1,idxK_congr h.2]
theorem idxK_snoc {y:κ} {x:κ × Value}:∀ {l:List (κ × Value)},idxK y (l++[x])=if idxK y l<l.length then idxK y l else if x.1=y then l.length else l.length+1
  | []=>by simp [idxK]
  | a :: l=>by
    rw [List.cons_append,idxK,idxK];by_cases h:a.1=y
    · simp [h]
    · rw [if_neg h,if_neg h,idxK_snoc (l:=l)];simp only [List.length_cons];by_cases h2:idxK y l<l.length
      · rw [if_pos h2,if_pos (show idxK y l+1<l.length+1 by omega)]
      · rw [if_neg h2,if_neg (show ¬ idxK y l+1<l.length+1 by omega)];split <;> rfl
omit [DecidableEq κ] in
theorem valK_at {l:List (κ × Value)} {i:Nat} (h:i<l.length):valK l i=l[i].2:=by
  unfold valK;rw [List.getD_eq_getElem?_getD,List.getElem?_map,List.getElem?_eq_getElem h];rfl
def getK (l:List (κ × Value)) (x:κ):Option Value:=if idxK x l<l.length then some (valK l (idxK x l)) else none
theorem getK_put {l:List (κ × Value)} {x y:κ} {v:Value}:getK (putK l x v) y=if y=x then some v else getK l y:=by
  unfold getK putK;by_cases h:idxK x l<l.length
  · rw [if_pos h];have e:idxK y (l.set (idxK x l) (x,v))=idxK y l:=idxK_congr (by
      apply List.ext_getElem?;intro j;rw [List.getElem?_map,List.getElem?_map,List.getElem?_set];by_cases hj:idxK x l=j
      · subst hj;rw [if_pos rfl,if_pos h,List.getElem?_eq_getElem h];simp [idxK_key h]
      · rw [if_neg hj])
    rw [e,List.length_set];by_cases hy:y=x
    · subst hy;rw [if_pos h,if_pos rfl,valK_at (by simpa using h)];simp
    · rw [if_neg hy];by_cases h2:idxK y l<l.length
      · have hne:idxK x l≠idxK y l:=fun e=>hy (by have h3:=idxK_key h2;have h4:=idxK_key h;simp only [e] at h4;rw [← h3,h4])
        rw [if_pos h2,if_pos h2,valK_at (by simpa using h2),valK_at h2];simp [hne]
      · rw [if_neg h2,if_neg h2]
  · rw [if_neg h,idxK_snoc,List.length_append,List.length_singleton];by_cases h2:idxK y l<l.length
    · have hy:y≠x:=fun e=>h (e ▸ h2)
      rw [if_pos h2,if_pos om_,if_neg hy,if_pos h2,valK_at (by simp;omega),valK_at h2,List.getElem_append_left h2]
    · rw [if_neg h2];by_cases hy:y=x
      · subst hy;rw [if_pos rfl,if_pos om_,if_pos rfl,valK_at (by simp)];simp
      · have hy2:¬ (x,v).1=y:=fun e=>hy e.symm
        rw [if_neg hy2,if_neg om_,if_neg hy,if_neg h2]
section
variable {t kt et:TypeId}
theorem x_lookK {m x:Operand} {ty:TypeId} {b:Nat} {l:List (κ × Value)} {k:κ} {z:Value} (hm:P.underlying t=some (.map kt et)) (hk:KLaw P kt K V) (hz:(P.info? et).bind (·.zero)=some z)
    (hx:ev E m=.map (some b)) (hy:ev E x=K k) (hV:V k) (hl:MapAtK K V w b l):X P (.lookup t m x true) ty E w (.tuple #[if idxK k l<l.length then valK l (idxK k l) else z,.bool (decide (idxK k l<l.length))]) w:=by
  obtain ⟨es,c,hb,hes,-,-,hval,hnd⟩:=hl;have hf:=hk.find k es.toList l w hV hval hnd hes;have hzr:∀ w,(zeroValue et).run P w=.ok z w:=fun w=>by
    cases hi:P.info? et with
    | none=>simp [hi] at hz
    | some i=>
      simp [hi] at hz;simp [zeroValue,typeInfo,hi,hz]
  unfold X;by_cases h:idxK k l<l.length
  · rw [if_pos h] at hf;simp [execOp,hx,hy,Instr.lookup,run_underlying hm,MapKept.run_getObj_map hb,hk.check _ k w hV,hf,h,Result.andThen]
  · rw [if_neg h] at hf;simp [execOp,hx,hy,Instr.lookup,run_underlying hm,MapKept.run_getObj_map hb,hk.check _ k w hV,hf,h,hzr,Result.andThen]
omit [DecidableEq κ] in
theorem L.mkmapK {t kt et ty:TypeId} {ops:Array Oper} {r:List Oper} {d:Nat} {p:String} {af:Array Edge} (_hm:P.underlying t=some (.map kt et)) (hd:Nat.blt d n=true)
    (kk:∀ w1,MapAtK K V w1 w.heap.size []→Bel w w1→w1.heap.size=w.heap.size+1→L P n ops Q r D (upd E d (.map (some w.heap.size))) w1):
    L P n ops Q (⟨some d,.makeMap t none,ty,p,af,none⟩ :: r) D E w:=by
  have hX:X P (.makeMap t none) ty E w (.map (some w.heap.size)) (w.alloc (.map #[] 0)):=by
    unfold X;simp [execOp,Instr.makeMap,Result.andThen]
  refine L.val hX hd (kk _ ⟨#[],0,by rw [← World.alloc_eq];simp,rfl,by simp,by simp,by simp,by simp⟩ (gr_of (row:=none) (World.grownBy_alloc w _ none) |>.mono (fun _ _ h=>by cases h)) (by simp))
omit [DecidableEq κ] in
theorem set_kvK {es:List MapEntry} {l:List (κ × Value)} {i:Nat} {x:κ} {v:Value} (h:es.map kvM=l.map fun x=>(K x.1,x.2)):
    (es.modify i fun e=>{ e with key:=K x,val:=v }).map kvM=(l.set i (x,v)).map fun x=>(K x.1,x.2):=by
  induction es generalizing l i with
  | nil=>cases l with
    | nil=>simp
    | cons=>simp at h
  | cons e es ih=>cases l with
    | nil=>simp at h
    | cons y l=>
      simp only [List.map_cons,List.cons.injEq] at h;cases i with
      | zero=>simp [kvM,h.2]
      | succ i=>simp only [List.modify_succ_cons,List.set_cons_succ,List.map_cons,h.1,ih h.2]
theorem L.mapsetK {t kt et ty:TypeId} {ops:Array Oper} {r:List Oper} {m x y:Operand} {p:String} {af:Array Edge} {b:Nat} {l:List (κ × Value)} {k:κ} {v:Value} (hm:P.underlying t=some (.map kt et)) (hk:KLaw P kt K V)
    (hx:ev E m=.map (some b)) (hy:ev E x=K k) (hV:V k) (hv:ev E y=v) (hl:MapAtK K V w b l)
    (kk:∀ w1,MapAtK K V w1 b (putK l k v)→Gr (· = b) w w1→w1.heap.size=w.heap.size→L P n ops Q r D E w1):
    L P n ops Q (⟨none,.mapUpdate t m x y,ty,p,af,none⟩ :: r) D E w:=by
  have hlt:=hl.lt;obtain ⟨es,c,hb,hes,hn,hc,hval,hnd⟩:=hl;have hf:=hk.find k es.toList l w hV hval hnd hes;have hkeep:∀ w o,Gr (· = b) w { w with heap:=w.heap.setIfInBounds b o }:=fun w o=>
    ⟨rfl,rfl,rfl,by simp,fun i _ hi=>by simp [Ne.symm hi]⟩
  by_cases h:idxK k l<l.length
  · rw [if_pos h] at hf;have hkey:((es[idxK k l]?).map (·.key)).getD (K k)=K k:=by
      have hg:=congrArg (fun q:List (Value × Value)=>q[idxK k l]?) hes;simp only [List.getElem?_map] at hg;rw [List.getElem?_eq_getElem h] at hg;have hes2:es[idxK k l]? = es.toList[idxK k l]? := by simp
      rw [hes2];cases hq:es.toList[idxK k l]? with
      | none=>simp
      | some e=>
        rw [hq] at hg;simp only [Option.map_some,Option.some.injEq,kvM,Prod.mk.injEq] at hg;simp only [Option.map_some,Option.getD_some,hg.1,idxK_key h]
    refine L.skip (w':={ w with heap:=w.heap.setIfInBounds b (.map (es.modify (idxK k l) fun e=>{ e with key:=K k,val:=v }) c) }) ?_ (kk _ ⟨es.modify (idxK k l) fun e=>{ e with key:=K k,val:=v },c,by simp [hlt],?_,by rw [Array.toList_modify,born_modify];exact hn,by rw [Array.toList_modify,born_modify];exact hc,putK_valid hval hV,putK_nodup hnd⟩ (hkeep _ _) (by simp))
    · unfold Xs;simp [execOp,hx,hy,hv,Instr.mapUpdate,run_underlying hm,MapKept.run_getObj_map hb,hk.check _ k w hV,hf,hkey,hk.stays k w hV,MapKept.run_setObj_map _ hb,Result.andThen]
    · unfold putK;rw [if_pos h,Array.toList_modify];exact set_kvK hes
  · rw [if_neg h] at hf;refine L.skip (w':={ w with heap:=w.heap.setIfInBounds b (.map (es.push { key:=K k,val:=v,born:=c }) (c+1)) }) ?_ (kk _ ⟨es.push { key:=K k,val:=v,born:=c },c+1,by simp [hlt],?_,?_,?_,putK_valid hval hV,putK_nodup hnd⟩ (hkeep _ _) (by simp))
    · unfold Xs;simp [execOp,hx,hy,hv,Instr.mapUpdate,run_underlying hm,MapKept.run_getObj_map hb,hk.check _ k w hV,hf,MapKept.run_setObj_map _ hb,Result.andThen]
    · unfold putK;rw [if_neg h,Array.toList_push,List.map_append,hes];simp [kvM]
    · rw [Array.toList_push,List.map_append];refine List.nodup_append.2 ⟨hn,by simp,fun x hx y hy e=>?_⟩;have:=hc x hx;simp at hy;omega
    · rw [Array.toList_push,List.map_append];intro x hx;rcases List.mem_append.1 hx with hx | hx
      · have:=hc x hx;omega
      · simp at hx;omega
end
def K2 (x:Str × Str):Value:=.agg #[S x.1,S x.2]
end Go.Gx
namespace Go.Gx
open Go.Proofs
variable {P:Program} {n:Nat} {Q:Post} {D:List Deferred} {E:Env} {w:World}
def unS:Value→Str
  | .string b=>b.data.toList
  | _=>[]
theorem unS_S (x:Str):unS (S x)=x:=by unfold unS S;simp
def decM (e:MapEntry):Str × Value:=(unS e.key,e.val)
theorem map_dec:∀ {es:List MapEntry} {l:List (Str × Value)},es.map kvM=l.map (fun x=>(S x.1,x.2))→es.map decM=l∧∀ e∈es,e.key=S (decM e).1
  | [],[],_=>⟨rfl,fun e h=>by cases h⟩
  | [],_ :: _,h=>by simp at h
  | _ :: _,[],h=>by simp at h
  | e :: es,y :: l,h=>by
    simp only [List.map_cons,List.cons.injEq,kvM,Prod.mk.injEq] at h;obtain ⟨⟨hk,hv⟩,ht⟩:=h;obtain ⟨h1,h2⟩:=map_dec ht;have hd:decM e=y:=by unfold decM;rw [hk,unS_S,hv]
    refine ⟨by rw [List.map_cons,hd,h1],fun z hz=>?_⟩;rcases List.mem_cons.1 hz with rfl | hz
    · rw [hd,hk]
    · exact h2 z hz
def IterAt (w:World) (r b:Nat) (l vis:List (Str × Value)):Prop:=
  ∃ es clock sb,∃ ds:List MapEntry,w.heap[b]? = some (.map es clock)∧MapIs es clock l∧w.heap[r]? = some (.mapIter (some b) clock sb clock)∧sb.toList=ds.map (·.born)∧(∀ d∈ds,d∈es.toList)∧(ds.map (·.born)).Nodup∧ds.map decM=vis
theorem IterAt.lt {r b:Nat} {l vis:List (Str × Value)} (h:IterAt w r b l vis):r<w.heap.size∧b<w.heap.size∧b≠r:=by
  obtain ⟨es,c,sb,ds,h1,-,h2,-⟩:=h;refine ⟨(Array.getElem?_eq_some_iff.1 h2).1,(Array.getElem?_eq_some_iff.1 h1).1,fun e=>?_⟩;rw [e,h2] at h1;cases h1
theorem IterAt.walk {r b:Nat} {l vis:List (Str × Value)} (h:IterAt w r b l vis):∃ o:Obj,w.heap[r]? = some o∧o.isWalk=true:=by
  obtain ⟨es,c,sb,ds,-,-,h2,-⟩:=h;exact ⟨_,h2,rfl⟩
theorem IterAt.carryR {R:Nat→Prop} {w':World} {r b:Nat} {l vis:List (Str × Value)} (h:IterAt w r b l vis) (g:Gr R w w') (h1:¬ R r) (h2:¬ R b):IterAt w' r b l vis:=by
  obtain ⟨hr,hb,-⟩:=h.lt;obtain ⟨es,c,sb,ds,a1,a2,a3,a4⟩:=h;exact ⟨es,c,sb,ds,(g.block b hb h2).trans a1,a2,(g.block r hr h1).trans a3,a4⟩
theorem IterAt.carry {w':World} {r b:Nat} {l vis:List (Str × Value)} (h:IterAt w r b l vis) (g:Bel w w'):IterAt w' r b l vis:=h.carryR g (fun f=>f) (fun f=>f)
theorem IterAt.keep {w':World} {r b:Nat} {l vis:List (Str × Value)} (h:IterAt w r b l vis) (g:KeepsWalks w w'):IterAt w' r b l vis:=by
  obtain ⟨hr,hb,-⟩:=h.lt;obtain ⟨es,c,sb,ds,a1,a2,a3,a4⟩:=h;exact ⟨es,c,sb,ds,g.same b _ a1 rfl,a2,g.same r _ a3 rfl,a4⟩
theorem len_subN {l m:List Nat} (hd:l.Nodup) (hs:∀ x,x∈l→x∈m):l.length≤m.length:=by
  induction l generalizing m with
  | nil=>simp
  | cons x l ih=>
    rw [List.nodup_cons] at hd;have hx:=hs x (by simp);have:=ih (m:=m.erase x) hd.2 fun y hy=>(List.mem_erase_of_ne (fun e=>hd.1 (by rw [← e];exact hy))).2 (hs y (by simp [hy]))
    rw [List.length_erase_of_mem hx] at this;have:=List.length_pos_of_mem hx;simp;omega
theorem born_inj {l:List MapEntry} (h:(l.map (·.born)).Nodup) {a b:MapEntry} (ha:a∈l) (hb:b∈l) (e:a.born=b.born):a=b:=by
  have h1:=find_born a l h ha;have h2:=find_born b l h hb;rw [e,h2] at h1;simpa using h1.symm
theorem L.rangeM {t kt et ty:TypeId} {ops:Array Oper} {r:List Oper} {d:Nat} {x:Operand} {p:String} {af:Array Edge} {b:Nat} {l:List (Str × Value)} (hm:P.underlying t=some (.map kt et)) (hx:ev E x=.map (some b)) (hd:Nat.blt d n=true) (hl:MapAt w b l)
    (kk:∀ w1,IterAt w1 w.heap.size b l []→w.grownBy w1 none→Bel w w1→w1.heap.size=w.heap.size+1→L P n ops Q r D (upd E d (.pointer (some ⟨w.heap.size,0,none⟩))) w1):
    L P n ops Q (⟨some d,.range t x,ty,p,af,none⟩ :: r) D E w:=by
  obtain ⟨es,c,hb,hes⟩:=hl;have hlt:=(Array.getElem?_eq_some_iff.1 hb).1;have hX:X P (.range t x) ty E w (.pointer (some ⟨w.heap.size,0,none⟩)) (w.alloc (.mapIter (some b) c #[] c)):=by
    unfold X;simp [execOp,hx,Instr.range,run_underlying hm,MapKept.run_getObj_map hb,Result.andThen]
  have hg:=World.grownBy_alloc w (.mapIter (some b) c #[] c) none;refine L.val hX hd (kk _ ⟨es,c,#[],[],?_,hes,World.alloc_heap_new w _,rfl,by simp,by simp,rfl⟩ hg ((gr_of hg).mono (fun _ _ h=>by cases h)) (by simp));exact (RowKit.Below.heap_alloc w _ b hlt).trans hb
theorem L.nextM {ty:TypeId} {ops:Array Oper} {r:List Oper} {d:Nat} {x:Operand} {p:String} {af:Array Edge} {rb b:Nat} {l vis:List (Str × Value)} (hx:ev E x=.pointer (some ⟨rb,0,none⟩)) (hd:Nat.blt d n=true) (hI:IterAt w rb b l vis)
    (k0:vis.Perm l→L P n ops Q r D (upd E d (.tuple #[.bool false])) w)
    (k1:∀ kv w1,kv∈l→vis.length<l.length→IterAt w1 rb b l (vis++[kv])→w.grownBy w1 (some rb)→Gr (· = rb) w w1→w1.heap.size=w.heap.size→L P n ops Q r D (upd E d (.tuple #[.bool true,S kv.1,kv.2])) w1):
    L P n ops Q (⟨some d,.next x false,ty,p,af,none⟩ :: r) D E w:=by
  obtain ⟨-,-,hbr⟩:=hI.lt;obtain ⟨es,c,sb,ds,hb,⟨hes,hn,hc⟩,hr,hsb,hsub,hdn,hvis⟩:=hI;obtain ⟨hdec,hkey⟩:=map_dec hes;have hold:∀ x∈es.toList,x.born<c:=fun x hx=>hc _ (List.mem_map_of_mem hx)
  rcases run_next_at (P:=P) w ty rb b c c sb es c hr hb hold (Nat.le_refl _) with ⟨h0,hrun⟩ | ⟨e,he,w1,hw1,hrun⟩
  · refine L.val (v:=.tuple #[.bool false]) (w':=w) (by unfold X;simp [execOp,hx,hrun,Result.andThen]) hd (k0 ?_);have hall:∀ e∈es.toList,e.born∈ds.map (·.born):=fun e he=>by
      refine Decidable.byContradiction fun hno=>?_
      have:e∈(leftOf es sb).toList:=by
        unfold leftOf;simp only [Array.toList_filter,List.mem_filter];refine ⟨he,?_⟩;rw [← hsb] at hno;simpa using hno
      have hp:=List.length_pos_of_mem this;simp at hp;omega
    have hds:ds.Nodup:=List.Pairwise.of_map (·.born) (fun _ _ h e=>h (by rw [e])) hdn;have hesn:es.toList.Nodup:=List.Pairwise.of_map (·.born) (fun _ _ h e=>h (by rw [e])) hn;have hp:ds.Perm es.toList:=(List.perm_ext_iff_of_nodup hds hesn).2 fun e=>⟨hsub e,fun he=>by
      obtain ⟨d',hd',e'⟩:=List.mem_map.1 (hall e he);rw [← born_inj hn (hsub d' hd') he e'];exact hd'⟩
    rw [← hvis,← hdec];exact hp.map _
  · have hel:e∈es.toList∧¬ e.born∈ds.map (·.born):=by
      unfold leftOf at he;simp only [Array.toList_filter,List.mem_filter] at he;refine ⟨he.1,?_⟩;rw [← hsb];simpa using he.2
    have hw1s:w1.heap=w.heap:=by rcases hw1 with rfl | rfl <;> rfl
    have hsize:(Go.ChangeMaps.setBlock w1 rb (.mapIter (some b) c (sb.push e.born) c)).heap.size=w.heap.size:=by simp [Go.ChangeMaps.setBlock,hw1s]
    have hgr:w.grownBy (Go.ChangeMaps.setBlock w1 rb (.mapIter (some b) c (sb.push e.born) c)) (some rb):=by
      refine ⟨?_,?_,?_,by rw [hsize];exact Nat.le_refl _,fun k hk hne=>?_⟩
      · rcases hw1 with rfl | rfl <;> rfl
      · rcases hw1 with rfl | rfl <;> rfl
      · rcases hw1 with rfl | rfl <;> rfl
      · have hne:rb≠k:=fun e=>hne (by rw [e])
        simp [Go.ChangeMaps.setBlock,hw1s,hne]
    have hkv:decM e∈l:=by rw [← hdec];exact List.mem_map_of_mem hel.1
    have hval:(Value.tuple #[.bool true,e.key,e.val])=.tuple #[.bool true,S (decM e).1,(decM e).2]:=by rw [hkey e hel.1];rfl
    have hlen:vis.length<l.length:=by
      have:=len_subN (l:=(ds++[e]).map (·.born)) (m:=es.toList.map (·.born)) (by
        rw [List.map_append];refine List.nodup_append.2 ⟨hdn,by simp,fun x hx y hy e2=>?_⟩;simp at hy;subst e2;exact hel.2 (hy ▸ hx)) (fun x hx=>by
        rw [List.map_append] at hx;rcases List.mem_append.1 hx with hx | hx
        · obtain ⟨d',hd',rfl⟩:=List.mem_map.1 hx;exact List.mem_map_of_mem (hsub d' hd')
        · simp at hx;subst hx;exact List.mem_map_of_mem hel.1)
      rw [← hvis,← hdec];simp at this ⊢;omega
    refine L.val (v:=.tuple #[.bool true,S (decM e).1,(decM e).2]) (w':=Go.ChangeMaps.setBlock w1 rb (.mapIter (some b) c (sb.push e.born) c)) (by unfold X;simp [execOp,hx,hrun,Result.andThen,hval]) hd
      (k1 (decM e) _ hkv hlen ⟨es,c,sb.push e.born,ds++[e],?_,⟨hes,hn,hc⟩,?_,?_,?_,?_,?_⟩ hgr ((gr_of hgr).mono fun k _ h=>by cases h;rfl) hsize)
    · have hne:rb≠b:=fun e=>hbr e.symm
      simp only [Go.ChangeMaps.setBlock,hw1s];rw [Array.getElem?_setIfInBounds_ne hne];exact hb
    · simp only [Go.ChangeMaps.setBlock,hw1s];rw [Array.getElem?_setIfInBounds_self_of_lt (Array.getElem?_eq_some_iff.1 hr).1]
    · rw [Array.toList_push,hsb,List.map_append];rfl
    · intro d' hd';rcases List.mem_append.1 hd' with h | h
      · exact hsub d' h
      · rw [List.mem_singleton.1 h];exact hel.1
    · rw [List.map_append];refine List.nodup_append.2 ⟨hdn,by simp,fun x hx y hy e2=>?_⟩;simp at hy;subst e2;exact hel.2 (hy ▸ hx)
    · rw [List.map_append,hvis];rfl
theorem x_entry {ty:TypeId} {x:Operand} {rb b:Nat} {l vis:List (Str × Value)} {kv:Str × Value} (hx:ev E x=.pointer (some ⟨rb,0,none⟩)) (hI:IterAt w rb b l (vis++[kv])):X P (.entry x) ty E w (.tuple #[S kv.1,kv.2]) w:=by
  obtain ⟨es,c,sb,ds,hb,⟨hes,hn,hc⟩,hr,hsb,hsub,hdn,hvis⟩:=hI;obtain ⟨hdec,hkey⟩:=map_dec hes;obtain ⟨ds',e,rfl⟩:∃ ds' e,ds=ds'++[e]:=by
    rcases List.eq_nil_or_concat ds with h | ⟨l,a,h⟩
    · rw [h] at hvis;simp at hvis
    · exact ⟨l,a,by rw [h];simp⟩
  have hkv:decM e=kv:=by
    rw [List.map_append] at hvis;have:=congrArg List.getLast? hvis;simpa using this
  have he:=hsub e (by simp);obtain ⟨sb',rfl⟩:∃ sb':Array Nat,sb=sb'.push e.born:=by
    refine ⟨sb.pop,?_⟩;apply Array.ext';rw [Array.toList_push,Array.toList_pop,hsb];simp
  have hrun:=run_entry_at (P:=P) w rb b c sb' es c e hr hb he hn;rw [hkey e he,hkv] at hrun;have hv:e.val=kv.2:=by rw [← hkv];rfl
  rw [hv] at hrun;unfold X;simp [execOp,hx,hrun,Result.andThen]
theorem x_extn {f:FuncId} {fn:Func} {e:Array Value→Sem Value} {xs:Array Operand} {ts:Array TypeId} {t:TypeId} {vs:List Value} {v:Value} {w':World} (hf:P.funcs[f]? = some fn) (hname:(fn.name == "runtime.NumGoroutine")=false) (hb:fn.body.isNone=true) (hn:Extern.findNext fn=none) (he:Extern.find fn=some e)
    (hv:xs.toList.map (ev E)=vs) (hr:(e vs.toArray).run P w=.ok v w'):X P (.call ⟨.value (.func f),xs,ts⟩) t E w v w':=by
  unfold X;have hv':xs.map (ev E)=vs.toArray:=by apply Array.ext';simpa using hv
  simp only [execOp,resolve,ev,Deferred.ofValue,hv',Sem.run_bind];have:=run_callFunc_extern (P:=P) hf hname hb hn he (#[]++vs.toArray++#[]) w;simp only [Array.empty_append,Array.append_empty,hr,Result.andThen] at this;simpa [invoke] using this
theorem x_eqlm {x y:Operand} {t u z k e:TypeId} {p:Option Nat} (hu:P.underlying u=some (.map k e)) (hx:ev E x=.map p) (hy:ev E y=.map none):X P (.binOp .eql u x y z) t E w (.bool p.isNone) w:=by
  unfold X;have h0:∀ d:Nat,(Op.equalIn (d+1) u (.map p) (.map none)).run P w=.ok p.isNone w:=fun d=>by cases p <;> simp [Op.equalIn,run_underlying hu]
  have h1:=h0 9999;have h2:(binOp .eql u (.map p) (.map none)).run P w=.ok (.bool p.isNone) w:=by
    simp only [binOp];simp [show Op.equal u (.map p) (.map none)=Op.equalIn (9999+1) u (.map p) (.map none) from rfl,h1]
  simp [execOp,hx,hy,eqGuard,h2]
theorem x_tasm {x:Operand} {t u s k e:TypeId} {v:Value} (hu:P.underlying s=some (.map k e)) (hx:ev E x=.iface s v):X P (.typeAssert x u s false) t E w v w:=by
  unfold X;simp [execOp,hx,Instr.typeAssert,run_underlying hu,Result.andThen]
theorem run_clone {b:Nat} {es:Array MapEntry} {c:Nat} (t:TypeId) (hb:w.heap[b]? = some (.map es c)):(Extern.MapsClone.clone #[.iface t (.map (some b))]).run P w=.ok (.iface t (.map (some w.heap.size))) (w.alloc (.map es c)):=by
  have e:Extern.MapsClone.clone #[.iface t (.map (some b))]=(getObj b >>= fun o=>match o with
      | .map entries clock=>(newObj (.map entries clock) >>= fun n=>pure (.iface t (.map (some n))))
      | _=>stuck "maps.clone: a map expected"):=rfl
  rw [e];simp [MapKept.run_getObj_map hb,Result.andThen]
end Go.Gx
namespace Go.Gx
open Go.Proofs Go.MapKept
variable {P:Program} {n:Nat} {Q:Post} {D:List Deferred} {E:Env} {w:World}
theorem klaw_plain {κ : Type} [DecidableEq κ] {K:κ → Value} {V:κ → Prop} {kt:TypeId} {d:TypeDesc} (hd:P.underlying kt=some d) (hK:∀ x,V x→IsKey d (K x)) (hinj:∀ {a b:κ},K a=K b→a=b):KLaw P kt K V where
  check:=fun e x w hx=>run_checkKey hd (hK x hx) e 9999
  stays:=fun x w hx=>run_keyThatStays (d:=d) (hK x hx)
  find:=fun x es l w hx hl hn he=>by
    have hlen:es.length=l.length:=by simpa using congrArg List.length he
    have hkey:∀ j (h:j<es.length) (h2:j<l.length),es[j].key=K l[j].1∧es[j].val=l[j].2:=fun j h h2=>by
      have:=congrArg (fun q:List (Value × Value)=>q[j]?) he;simp only [List.getElem?_map,List.getElem?_eq_getElem h,List.getElem?_eq_getElem h2,Option.map_some,Option.some.injEq,kvM,Prod.mk.injEq] at this;exact this
    have hall:∀ e∈es,IsKey d e.key:=fun e h=>by
      obtain ⟨j,hj,rfl⟩:=List.getElem_of_mem h;rw [(hkey j hj om_).1];exact hK _ (hl _ (List.getElem_mem _))
    rcases findNow_spec (hK x hx) es 0 hall with ⟨h1,h2⟩ | ⟨j,e,h1,h2,h3⟩
    · rw [run_findKey hd h1,if_neg];intro hi;exact h2 _ (List.getElem_mem (by omega:idxK x l<es.length)) (by rw [(hkey _ om_ hi).1,idxK_key hi])
    · obtain ⟨hj,rfl⟩:=List.getElem?_eq_some_iff.1 h2;have hx':l[j].1=x:=hinj (by rw [← (hkey j hj om_).1,h3]);have hi:idxK x l<l.length:=idxK_mem.2 (hx' ▸ List.mem_map_of_mem (List.getElem_mem _));have hij:idxK x l=j:=by
        have h4:=idxK_key hi;have h5:=List.pairwise_iff_getElem.1 hn;rcases Nat.lt_trichotomy (idxK x l) j with h | h | h
        · exact (h5 _ _ (by simpa using hi) (by simp;omega) h (by simp [h4,hx'])).elim
        · exact h
        · exact (h5 _ _ (by simp;omega) (by simpa using hi) h (by simp [h4,hx'])).elim
      have hv:valK l j=(es[j]).val:=by rw [(hkey j hj om_).2,valK_at]
      rw [run_findKey hd h1,if_pos hi,hij,hv,Nat.zero_add]
theorem klawS {kt:TypeId} (hd:P.underlying kt=some .string):KLaw P kt S (fun _=>True):=klaw_plain hd (fun _ _=>trivial) (fun h=>S_inj h)
theorem MapAtK.str {V:Str→Prop} {b:Nat} {l:List (Str × Value)} (h:MapAtK S V w b l):MapAt w b l:=by
  obtain ⟨es,c,hb,h1,h2,h3,-⟩:=h;exact ⟨es,c,hb,h1,h2,h3⟩
theorem MapAtK.nodup {κ : Type} [DecidableEq κ] {K:κ → Value} {V:κ → Prop} {b:Nat} {l:List (κ × Value)} (h:MapAtK K V w b l):(l.map (·.1)).Nodup:=by
  obtain ⟨es,c,hb,h1,h2,h3,h4,h5⟩:=h;exact h5
section
variable {κ : Type} [DecidableEq κ] {K:κ → Value} {V:κ → Prop}
theorem x_look0 {t kt et:TypeId} {m x:Operand} {ty:TypeId} {b:Nat} {l:List (κ × Value)} {k:κ} {z v:Value} (hm:P.underlying t=some (.map kt et)) (hk:KLaw P kt K V) (hz:(P.info? et).bind (·.zero)=some z)
    (hx:ev E m=.map (some b)) (hy:ev E x=K k) (hV:V k) (hl:MapAtK K V w b l) (hv:(getK l k).getD z=v):X P (.lookup t m x false) ty E w v w:=by
  obtain ⟨es,c,hb,hes,-,-,hval,hnd⟩:=hl;have hf:=hk.find k es.toList l w hV hval hnd hes;have hzr:∀ w,(zeroValue et).run P w=.ok z w:=fun w=>by
    cases hi:P.info? et with
    | none=>simp [hi] at hz
    | some i=>
      simp [hi] at hz;simp [zeroValue,typeInfo,hi,hz]
  unfold X getK at *;by_cases h:idxK k l<l.length
  · rw [if_pos h] at hf hv;simp only [Option.getD_some] at hv;simp [execOp,hx,hy,Instr.lookup,run_underlying hm,MapKept.run_getObj_map hb,hk.check _ k w hV,hf,Result.andThen,hv]
  · rw [if_neg h] at hf hv;simp only [Option.getD_none] at hv;simp [execOp,hx,hy,Instr.lookup,run_underlying hm,MapKept.run_getObj_map hb,hk.check _ k w hV,hf,hzr,Result.andThen,hv]
def delK (l:List (κ × Value)) (x:κ):List (κ × Value):=l.eraseIdx (idxK x l)
omit [DecidableEq κ] in
theorem map_erase {α β : Type} {f:α → β}:∀ {l:List α} {i:Nat},(l.eraseIdx i).map f=(l.map f).eraseIdx i
  | [],_=>by simp
  | a :: l,0=>by simp
  | a :: l,i+1=>by simp [map_erase (l:=l)]
theorem delK_keys {l:List (κ × Value)} {x:κ}:(delK l x).map (·.1)=(l.map (·.1)).eraseIdx (idxK x l):=map_erase
theorem getK_del {l:List (κ × Value)} {x y:κ} (hn:(l.map (·.1)).Nodup):getK (delK l x) y=if y=x then none else getK l y:=by
  induction l with
  | nil=>simp [delK,getK]
  | cons a l ih=>
    simp only [List.map_cons,List.nodup_cons] at hn;have hcons:∀ (m:List (κ × Value)),getK (a :: m) y=if a.1=y then some a.2 else getK m y:=fun m=>by
      unfold getK;rw [idxK];by_cases h:a.1=y
      · simp [h,valK]
      · rw [if_neg h,if_neg h];simp only [List.length_cons,Nat.add_lt_add_iff_right];split <;> simp [valK]
    unfold delK;rw [idxK];by_cases hx:a.1=x
    · rw [if_pos hx,List.eraseIdx_cons_zero,hcons];by_cases hy:y=x
      · rw [if_pos hy];unfold getK;rw [if_neg];intro h;exact hn.1 (by rw [hx,← hy];exact idxK_mem.1 h)
      · rw [if_neg hy,if_neg (fun h=>hy (h.symm.trans hx))]
    · rw [if_neg hx,List.eraseIdx_cons_succ,hcons,hcons];by_cases hy:a.1=y
      · rw [if_pos hy,if_pos hy,if_neg (fun h=>hx (hy.trans h))]
      · rw [if_neg hy,if_neg hy];exact ih hn.2
omit [DecidableEq κ] in
theorem born_erase {es:Array MapEntry} {i:Nat}:(es.eraseIdxIfInBounds i).toList=es.toList.eraseIdx i:=by
  unfold Array.eraseIdxIfInBounds;split
  · simp
  · next h=>rw [List.eraseIdx_of_length_le (by simpa using h)]
theorem L.mapdelK {t kt et ty:TypeId} {ops:Array Oper} {r:List Oper} {m x:Operand} {p:String} {af:Array Edge} {b:Nat} {l:List (κ × Value)} {k:κ} (hm:P.underlying t=some (.map kt et)) (hk:KLaw P kt K V)
    (hx:ev E m=.map (some b)) (hy:ev E x=K k) (hV:V k) (hl:MapAtK K V w b l)
    (kk:∀ w1,MapAtK K V w1 b (delK l k)→Gr (· = b) w w1→w1.heap.size=w.heap.size→L P n ops Q r D E w1):
    L P n ops Q (⟨none,.call ⟨.builtin .delete,#[m,x],#[t,kt]⟩,ty,p,af,none⟩ :: r) D E w:=by
  have hlt:=hl.lt;obtain ⟨es,c,hb,hes,hn,hc,hval,hnd⟩:=hl;have hf:=hk.find k es.toList l w hV hval hnd hes;have hkeep:∀ w o,Gr (· = b) w { w with heap:=w.heap.setIfInBounds b o }:=fun w o=>
    ⟨rfl,rfl,rfl,by simp,fun i _ hi=>by simp [Ne.symm hi]⟩
  have hsub:(es.toList.eraseIdx (idxK k l)).Sublist es.toList:=List.eraseIdx_sublist _ _;have hlen:es.toList.length=l.length:=by simpa using congrArg List.length hes
  refine L.valn (v:=.tuple #[]) (w':={ w with heap:=w.heap.setIfInBounds b (.map (es.eraseIdxIfInBounds (idxK k l)) c) }) ?_ (kk _ ⟨es.eraseIdxIfInBounds (idxK k l),c,by simp [hlt],?_,?_,?_,?_,?_⟩ (hkeep _ _) (by simp))
  · unfold X;by_cases h:idxK k l<l.length
    · rw [if_pos h] at hf;simp [execOp,resolve,invoke,builtin,hx,hy,Builtin.delete_,run_underlying hm,MapKept.run_getObj_map hb,hk.check _ k w hV,hf,MapKept.run_setObj_map _ hb,Result.andThen]
    · rw [if_neg h] at hf;have he:es.eraseIdxIfInBounds (idxK k l)=es:=by
        apply Array.ext';rw [born_erase,List.eraseIdx_of_length_le om_]
      have hw:({ w with heap:=w.heap.setIfInBounds b (.map es c) }:World)=w:=by
        have:w.heap.setIfInBounds b (.map es c)=w.heap:=by
          apply Array.ext_getElem?;intro i;by_cases hi:b=i
          · subst hi;rw [Array.getElem?_setIfInBounds_self_of_lt hlt,hb]
          · rw [Array.getElem?_setIfInBounds_ne hi]
        rw [this]
      rw [he,hw];simp [execOp,resolve,invoke,builtin,hx,hy,Builtin.delete_,run_underlying hm,MapKept.run_getObj_map hb,hk.check _ k w hV,hf,MapKept.run_setObj_map _ hb,Result.andThen,hw]
  · rw [born_erase,map_erase,hes,← map_erase];rfl
  · rw [born_erase];exact hn.sublist (hsub.map _)
  · rw [born_erase];exact fun n hn'=>hc n ((hsub.map _).subset hn')
  · exact fun y hy=>hval y ((List.eraseIdx_sublist _ _).subset hy)
  · rw [delK_keys];exact hnd.sublist (List.eraseIdx_sublist _ _)
end
theorem x_eqm0 {x y:Operand} {t u z kt et:TypeId} {p:Option Nat} (hu:P.underlying u=some (.map kt et)) (hx:ev E x=.map p) (hy:ev E y=.map none):X P (.binOp .eql u x y z) t E w (.bool p.isNone) w:=by
  unfold X;have h0:∀ d:Nat,(Op.equalIn (d+1) u (.map p) (.map none)).run P w=.ok p.isNone w:=fun d=>by cases p <;> simp [Op.equalIn,run_underlying hu]
  have h1:=h0 9999;have h2:(binOp .eql u (.map p) (.map none)).run P w=.ok (.bool p.isNone) w:=by
    simp only [binOp];simp [show Op.equal u (.map p) (.map none)=Op.equalIn (9999+1) u (.map p) (.map none) from rfl,h1]
  have hg:∀ d:Nat,(Op.eqGuardIn (d+1) u (.map p) (.map none)).run P w=.ok false w:=fun d=>by simp [Op.eqGuardIn,run_underlying hu]
  simp [execOp,hx,hy,eqGuard,h2]
theorem x_eqp0 {x y:Operand} {t u z e:TypeId} {p:Option Addr} (hu:P.underlying u=some (.pointer e)) (hx:ev E x=.pointer p) (hy:ev E y=.pointer none):X P (.binOp .eql u x y z) t E w (.bool p.isNone) w:=by
  unfold X;have h0:∀ d:Nat,(Op.equalIn (d+1) u (.pointer p) (.pointer none)).run P w=.ok p.isNone w:=fun d=>by cases p <;> simp [Op.equalIn,run_underlying hu]
  have h1:=h0 9999;have h2:(binOp .eql u (.pointer p) (.pointer none)).run P w=.ok (.bool p.isNone) w:=by
    simp only [binOp];simp [show Op.equal u (.pointer p) (.pointer none)=Op.equalIn (9999+1) u (.pointer p) (.pointer none) from rfl,h1]
  have hg:∀ d:Nat,(Op.eqGuardIn (d+1) u (.pointer p) (.pointer none)).run P w=.ok false w:=fun d=>by simp [Op.eqGuardIn,run_underlying hu]
  simp [execOp,hx,hy,eqGuard,h2]
theorem x_slS {x y:Operand} {t s:TypeId} {a:Str} {k:IntKind} {i:Int} {j:Nat} (hu:P.underlying s=some .string) (hx:ev E x=S a) (hy:ev E y=.int k i) (hi:i=(j:Nat)) (hj:j≤a.length):
    X P (.slice s x none (some y) none) t E w (S (a.take j)) w:=by
  unfold X;subst hi;have hs:j≤(⟨a.toArray⟩:ByteArray).size:=hj;have he:(⟨a.toArray⟩:ByteArray).extract 0 j=⟨(a.take j).toArray⟩:=by
    apply ByteArray.ext;simp [ByteArray.data_extract]
  simp [execOp,hx,hy,S,Instr.sliceAt,Instr.slice,Instr.sliceBounds,Instr.sliceBound,asIntOf,run_underlying hu,hs,he]
section
variable {κ : Type} [DecidableEq κ] {K:κ → Value} {V:κ → Prop}
theorem x_lookKn {t kt et:TypeId} {m x:Operand} {ty:TypeId} {b:Nat} {l:List (κ × Value)} {k:κ} {z:Value} (hm:P.underlying t=some (.map kt et)) (hk:KLaw P kt K V) (hz:(P.info? et).bind (·.zero)=some z)
    (hx:ev E m=.map (some b)) (hy:ev E x=K k) (hV:V k) (hl:MapAtK K V w b l) (hg:getK l k=none):X P (.lookup t m x true) ty E w (.tuple #[z,.bool false]) w:=by
  have hi:¬ idxK k l<l.length:=fun hi=>by unfold getK at hg;rw [if_pos hi] at hg;cases hg
  have:=x_lookK (ty:=ty) hm hk hz hx hy hV hl
  rwa [if_neg hi,decide_eq_false hi] at this
theorem x_lookKs {t kt et:TypeId} {m x:Operand} {ty:TypeId} {b:Nat} {l:List (κ × Value)} {k:κ} {z v:Value} (hm:P.underlying t=some (.map kt et)) (hk:KLaw P kt K V) (hz:(P.info? et).bind (·.zero)=some z)
    (hx:ev E m=.map (some b)) (hy:ev E x=K k) (hV:V k) (hl:MapAtK K V w b l) (hg:getK l k=some v):X P (.lookup t m x true) ty E w (.tuple #[v,.bool true]) w:=by
  have hi:idxK k l<l.length:=Decidable.byContradiction fun hi=>by unfold getK at hg;rw [if_neg hi] at hg;cases hg
  have hv:valK l (idxK k l)=v:=by unfold getK at hg;rw [if_pos hi] at hg;exact Option.some.inj hg
  have:=x_lookK (ty:=ty) hm hk hz hx hy hV hl
  rwa [if_pos hi,decide_eq_true hi,hv] at this
end
end Go.Gx
