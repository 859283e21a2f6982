/- The text of a type. Conditions: none. -/
import Derived.Lib.Join
import Derived.Lib.ItoaLen
import Derived.Test.YtfbcfdhhgdmgkaaGreatDoorRows
import Derived.Deep.DeepHandedRow
import Derived.Deep.DeepWitnessRowRef
import Derived.Test.YtfbcfdhhgdmgkaaGreatDoorCards
import Derived.Test.YtfbcfdhhgdmgkaaGreatDoorTie
import Derived.Lib.LaidIn
import Derived.Lib.LaidU8T
import Derived.Lib.LaidTab
import Derived.Shelf.Strings.OnBuilder
import Derived.Test.YtfbcfdhhgdmgkaaGreatDoorProg
import Derived.Test.YtfbcfdhhgdmgkaaGreatDoorDbFits
import Derived.Test.YtfbcfdhhgdmgkaaGreatDoorDbTake
import Derived.Test.YtfbcfdhhgdmgkaaGreatDoorDbTm9
import Derived.Test.YtfbcfdhhgdmgkaaGreatDoorDbLex
import Derived.Test.YtfbcfdhhgdmgkaaGreatDoorDbTm6
import Derived.Test.YtfbcfdhhgdmgkaaGreatDoorDbDrawD
namespace Go.Gx
def join (sep:Str):List Str→Str
  | []=>[]
  | [x]=>x
  | x :: y :: l=>x++sep++join sep (y :: l)
theorem join_cons {sep x:Str} {l:List Str} (h:l≠[]):join sep (x :: l)=x++sep++join sep l:=by
  cases l with
  | nil=>exact absurd rfl h
  | cons y l=>rfl
theorem join_lib {sep:Str}:∀ {l:List Str},Lib.join l sep=join sep l
  | []=>rfl
  | [x]=>by rw [Lib.join_one];rfl
  | x :: y :: l=>by
    have ih:=join_lib (sep:=sep) (l:=y :: l);rw [join_cons (by simp),← ih,Lib.join_cons,Lib.join_cons];simp [Lib.joinTail,List.append_assoc]
def lens:List Str→Nat
  | []=>0
  | x :: l=>x.length+lens l
theorem join_len {sep:Str}:∀ {l:List Str},(join sep l).length≤lens l+sep.length * l.length
  | []=>by simp [join]
  | [x]=>by simp [join,lens]
  | x :: y :: l=>by
    have ih:=join_len (sep:=sep) (l:=y :: l);rw [join_cons (by simp)];simp only [List.length_append,List.length_cons,lens] at *;rw [Nat.mul_succ];omega
def lab (ns ts:List Str):List Str:=if ns=[] then ts else List.zipWith (fun n t=>n++[58,32]++t) ns ts
def textOf (k:Int) (o n:Str) (ts:List Str):Str:=
  if k=1 then [73,110,116]
  else if k=2 then [66,111,111,108]
  else if k=3 then [84,101,120,116]
  else if k=4 then [65,110,121]
  else if k=5 then [91]++ts.getD 0 []++[93]
  else if k=6 then [123]++join [44,32] ts++[125]
  else if k=7 then [60]++join [32,124,32] ts++[62]
  else if k=8 then [40]++join [44,32] (ts.take (ts.length - 1))++[41,32,45,62,32]++ts.getD (ts.length - 1) []
  else if o=[] then n else o++[47]++n
mutual
def Sh.text:Sh→Str | .mk k o n ns ps=>textOf k o n (lab ns (textL ps))
def textL:List Sh→List Str | []=>[] | x :: xs=>x.text :: textL xs
end
theorem textL_eq:∀ l,textL l=l.map Sh.text
  | []=>rfl
  | x :: xs=>by rw [textL,textL_eq xs];rfl
def labels (s:Sh):List Str:=lab s.names (s.parts.map Sh.text)
theorem Sh.text_eq (s:Sh):s.text=textOf s.kind s.of s.name (labels s):=by
  cases s;rw [Sh.text,textL_eq];rfl
theorem labels_len {s:Sh} (h:s.names=[]∨s.names.length=s.parts.length):(labels s).length=s.parts.length:=by
  unfold labels lab;split
  · simp
  · rcases h with h | h
    · exact absurd h (by assumption)
    · simp [h]
theorem labels_nil {s:Sh} {i:Nat} (h:s.names=[]) (hi:i<s.parts.length):(labels s).getD i []=(s.parts.getD i default).text:=by
  unfold labels lab;rw [if_pos h];simp [List.getD_eq_getElem?_getD,hi]
theorem labels_at {s:Sh} {i:Nat} (h:s.names≠[]) (hl:s.names.length=s.parts.length) (hi:i<s.parts.length):(labels s).getD i []=s.names.getD i []++[58,32]++(s.parts.getD i default).text:=by
  unfold labels lab;rw [if_neg h];simp [List.getD_eq_getElem?_getD,hi,hl]
theorem nameS_len {x:Str} (h:nameS x=true):x.length≤24:=by
  simp only [nameS,namedS,Bool.and_eq_true,decide_eq_true_eq] at h;exact h.1.1.2
theorem upperS_len {x:Str} (h:upperS x=true):x.length≤24:=by
  simp only [upperS,namedS,Bool.and_eq_true,decide_eq_true_eq] at h;exact h.1.2
theorem fits_len {s:Sh} (h:fitsS s=true):s.of.length≤24∧s.name.length≤24∧∀ x∈s.names,x.length≤24:=by
  unfold fitsS at h;have hnil:∀ {x:Str},(x == [])=true→x.length≤24:=fun h=>by rw [beq_iff_eq] at h;rw [h];simp
  split at h
  · simp only [Bool.and_eq_true,Bool.or_eq_true,decide_eq_true_eq] at h;obtain ⟨⟨⟨h1,h2⟩,h3⟩,-⟩:=h;have hn:s.names=[]:=List.eq_nil_of_length_eq_zero om_;refine ⟨?_,upperS_len h1,by simp [hn]⟩;rcases h2 with h2 | h2
    · exact nameS_len h2
    · exact hnil h2.1.1
  · split at h
    · cases h
    · next hb=>
      simp only [Bool.or_eq_true,Bool.not_eq_true',not_or,Bool.not_eq_false] at hb;refine ⟨hnil hb.1,hnil hb.2,?_⟩;split at h
      · unfold namesOk at h;simp only [Bool.and_eq_true,List.all_eq_true] at h;exact fun x hx=>nameS_len (h.1.1 x hx)
      · split at h
        · cases h
        · have hn:s.names=[]:=List.eq_nil_of_length_eq_zero om_;simp [hn]
theorem lens_lab {ns:List Str} (hn:∀ x∈ns,x.length≤24):∀ {ts:List Str},lens (lab ns ts)≤lens ts+26 * ts.length:=by
  intro ts;unfold lab;split
  · omega
  · suffices H:∀ (ns ts:List Str),(∀ x∈ns,x.length≤24)→lens (List.zipWith (fun n t=>n++[58,32]++t) ns ts)≤lens ts+26 * ts.length from H ns ts hn
    intro ns;induction ns with
    | nil=>intro ts _;simp [lens]
    | cons n ns ih=>
      intro ts hn;cases ts with
      | nil=>simp [lens]
      | cons t ts=>
        have:=ih ts (fun x hx=>hn x (by simp [hx]));have h1:=hn n (by simp);simp only [List.zipWith_cons_cons,lens,List.length_append,List.length_cons,List.length_nil];omega
theorem lens_take {l:List Str}:∀ {n:Nat},lens (l.take n)≤lens l:=by
  induction l with
  | nil=>intro n;simp [lens]
  | cons x l ih=>intro n;cases n with
    | zero=>simp [lens]
    | succ n=>simp only [List.take_succ_cons,lens];have:=ih (n:=n);omega
theorem lens_at {l:List Str}:∀ {i:Nat},(l.getD i []).length≤lens l:=by
  induction l with
  | nil=>intro i;simp [lens]
  | cons x l ih=>
    intro i;cases i with
    | zero=>simp [lens]
    | succ i=>have:=ih (i:=i);simp only [List.getD_cons_succ,lens];omega
theorem lens_fun {l:List Str}:lens (l.take (l.length - 1))+(l.getD (l.length - 1) []).length≤lens l:=by
  induction l with
  | nil=>simp [lens]
  | cons x l ih=>
    cases l with
    | nil=>simp [lens]
    | cons y l=>
      have e:(x :: y :: l).length - 1=((y :: l).length - 1)+1:=by simp
      rw [e,List.take_succ_cons,List.getD_cons_succ];simp only [lens] at *;omega
theorem textOf_len {k:Int} {o n:Str} {ts:List Str} (ho:o.length≤24) (hn:n.length≤24):(textOf k o n ts).length≤49+lens ts+3 * ts.length:=by
  have h1:=@join_len [44,32] ts;have h2:=@join_len [32,124,32] ts;have h3:=@join_len [44,32] (ts.take (ts.length - 1));have h4:=@lens_at ts 0;have h5:=@lens_fun ts;have h6:(ts.take (ts.length - 1)).length≤ts.length:=by simp
  simp only [List.length_cons,List.length_nil] at h1 h2 h3;unfold textOf
  repeat' split
  all_goals (try simp only [List.length_append,List.length_cons,List.length_nil])
  all_goals omega
mutual
theorem Sh.text_len:∀ s:Sh,s.allB fitsS=true→s.text.length+29≤80 * s.size
  | .mk k o n ns ps,h=>by
    rw [Sh.allB,Bool.and_eq_true] at h;obtain ⟨f1,f2,f3⟩:=fits_len h.1;have hl:=textL_len ps h.2;have h1:=@textOf_len k o n (lab ns (textL ps)) f1 f2;have h2:=@lens_lab ns f3 (textL ps);have h3:(lab ns (textL ps)).length≤(textL ps).length:=by unfold lab;split <;> simp;omega
    have h4:(textL ps).length=ps.length:=by rw [textL_eq];simp
    rw [Sh.text,Sh.size];omega
theorem textL_len:∀ l:List Sh,allL fitsS l=true→lens (textL l)+29 * l.length≤80 * sizeL l
  | [],_=>by simp [textL,lens,sizeL]
  | x :: xs,h=>by
    rw [allL,Bool.and_eq_true] at h;have h1:=Sh.text_len x h.1;have h2:=textL_len xs h.2;simp only [textL,lens,sizeL,List.length_cons];omega
end
end Go.Gx
namespace Go.Gx
def qByte (c:UInt8):Str:=if c.toNat=10 then [92,110] else if c.toNat=9 then [92,116] else if c.toNat=34∨c.toNat=92 then [92,c] else [c]
def quotedS (s:Str):Str:=[34]++s.flatMap qByte++[34]
def opS (k:Int) (t:Str):Str:=if k=1∨k=6∨k=11∨k=12∨k=13∨k=14 then [40]++t++[41] else t
def stS (s:Sh):Str:=if checkS s=0 then s.text else []
def parS (ns:List Str) (ss:List Sh):List Str:=(List.range ns.length).map fun i=>ns.getD i []++[58,32]++stS (ss.getD i default)
def recS (ns ts:List Str):List Str:=(List.range ns.length).map fun i=>ns.getD i []++[32,61,32]++ts.getD i []
def wayS (ns vs:List Str) (ss:List Sh) (ts:List Str):List Str:=(List.range ns.length).map fun i=>ns.getD i []++[40]++vs.getD i []++[58,32]++stS (ss.getD i default)++[41,32,45,62,32]++ts.getD (i+1) []
def typF (k:Int) (ns vs:List Str) (ss:List Sh) (ts:List Str):Str:=
  if k=6 then [102,117,110,32,40]++join [44,32] (parS ns ss)++[41,32,45,62,32]++ts.getD 0 []
  else if k=8 then [123]++join [44,32] (recS ns ts)++[125]
  else if k=11 then [91]++join [44,32] ts++[93,32,111,102,32]++stS (ss.getD 0 default)
  else if k=12 then [105,102,32]++ts.getD 0 []++[32,116,104,101,110,32]++ts.getD 1 []++[32,101,108,115,101,32]++ts.getD 2 []++[32,97,115,32]++stS (ss.getD 0 default)
  else if k=13 then [99,97,115,101,32]++ts.getD 0 []++[32,111,102,32,123]++join [32,124,32] (wayS ns vs ss ts)++[125,32,97,115,32]++stS (ss.getD ns.length default)
  else [40]++ts.getD 0 []++[32,97,115,32]++stS (ss.getD 0 default)++[41]
def texF (k:Int) (o m:Str) (n:Int) (ns vs:List Str) (ss:List Sh) (ks:List Int) (ts:List Str):Str:=
  if k=1 then Lib.itoa n
  else if k=2 then quotedS m
  else if k=3 then [116,114,117,101]
  else if k=4 then [102,97,108,115,101]
  else if k=5 then (if o=[] then m else o++[47]++m)
  else if k=7 then opS (ks.getD 0 0) (ts.getD 0 [])++[40]++join [44,32] (ts.drop 1)++[41]
  else if k=9 then opS (ks.getD 0 0) (ts.getD 0 [])++[46]++m
  else if k=10 then [64]++m++[40]++ts.getD 0 []++[41]
  else if k=14 then [108,101,116,32]++m++[32,61,32]++ts.getD 0 []++[32,105,110,32]++ts.getD 1 []
  else if k=16 then [110,101,119,32]++m++[40]++ts.getD 0 []++[41]
  else if k=17 then [114,97,119,32]++m++[40]++ts.getD 0 []++[41]
  else typF k ns vs ss ts
mutual
def Tm.text:Tm→Str | .mk k o m n ns vs ss ps _=>texF k o m n ns vs ss (ps.map Tm.kind) (ttextL ps)
def ttextL:List Tm→List Str | []=>[] | x :: xs=>x.text :: ttextL xs
end
theorem ttextL_map:∀ l:List Tm,ttextL l=l.map Tm.text
  | []=>by rw [ttextL];rfl
  | x :: l=>by rw [ttextL,ttextL_map l];rfl
theorem Tm.text_eq (s:Tm):s.text=texF s.kind s.of s.name s.n s.names s.vars s.shapes (s.parts.map Tm.kind) (s.parts.map Tm.text):=by
  cases s;rw [Tm.text,ttextL_map];rfl
theorem bare_kind (s:Tm):s.bare.kind=s.kind:=by rw [Tm.bare_eq];rfl
mutual
theorem text_bare:∀ s:Tm,s.bare.text=s.text
  | .mk k o m n ns vs ss ps a=>by
    rw [Tm.text,Tm.bare,Tm.text,textL_bare ps];congr 1;rw [tbareL_map,List.map_map];exact List.map_congr_left fun x _=>bare_kind x
theorem textL_bare:∀ l:List Tm,ttextL (tbareL l)=ttextL l
  | []=>rfl
  | x :: l=>by rw [tbareL,ttextL,ttextL,text_bare x,textL_bare l]
end
theorem text_same {a b:Tm} (h:a.bare=b.bare):a.text=b.text:=by rw [← text_bare a,← text_bare b,h]
theorem qByte_len (c:UInt8):(qByte c).length≤2:=by unfold qByte;(repeat' split) <;> simp
theorem flat_len2 (s:Str):(s.flatMap qByte).length≤2 * s.length:=by
  induction s with
  | nil=>simp
  | cons c s ih=>
    have:=qByte_len c;rw [List.flatMap_cons,List.length_append,List.length_cons];omega
theorem quoted_len (s:Str):(quotedS s).length≤2 * s.length+2:=by
  have:=flat_len2 s;unfold quotedS;simp only [List.length_append,List.length_cons,List.length_nil];omega
theorem opS_len (k:Int) (t:Str):(opS k t).length≤t.length+2:=by
  unfold opS;split
  · simp only [List.length_append,List.length_cons,List.length_nil];omega
  · omega
theorem stS_len (s:Sh):(stS s).length≤32000:=by
  unfold stS;split
  · rename_i h
    have hc:s.size≤400∧s.allB fitsS=true:=by
      unfold checkS at h;split at h
      · cases h
      · split at h
        · cases h
        · split at h
          · cases h
          · rename_i a b c
            exact ⟨by omega,by cases hh:s.allB fitsS;exact absurd hh c;rfl⟩
    have:=Sh.text_len s hc.2;omega
  · simp
theorem getD_le {l:List Str} {n:Nat} (h:∀ x∈l,x.length≤n) (i:Nat):(l.getD i []).length≤n:=by
  rw [List.getD_eq_getElem?_getD];cases hh:l[i]? with
  | none=>simp
  | some x=>exact h x (List.mem_of_getElem? hh)
theorem lens_append (l m:List Str):lens (l++m)=lens l+lens m:=by
  induction l with
  | nil=>simp [lens]
  | cons x l ih=>rw [List.cons_append,lens,lens,ih];omega
theorem lens_takeS {ts:List Str} (i:Nat):lens (ts.take i)+(ts.getD i []).length=lens (ts.take (i+1)):=by
  by_cases h:i<ts.length
  · rw [List.take_succ_eq_append_getElem h,lens_append,List.getD_eq_getElem?_getD,List.getElem?_eq_getElem h];simp [lens]
  · rw [List.take_of_length_le om_,List.take_of_length_le om_,List.getD_eq_getElem?_getD,List.getElem?_eq_none om_];simp
theorem lens_range {ts:List Str} {K:Nat} {f:Nat→Str} (hf:∀ i,(f i).length≤K):∀ n,lens ((List.range n).map fun i=>f i++ts.getD i [])≤n * K+lens (ts.take n)
  | 0=>by simp [lens]
  | n+1=>by
    have ih:=lens_range (ts:=ts) hf n;have h1:=lens_takeS (ts:=ts) n;have h2:=hf n;rw [List.range_succ,List.map_append,lens_append,Nat.add_mul];simp only [List.map_cons,List.map_nil,lens,List.length_append];omega
theorem lens_const {K:Nat} {f:Nat→Str} (hf:∀ i,(f i).length≤K):∀ n,lens ((List.range n).map f)≤n * K
  | 0=>by simp [lens]
  | n+1=>by
    have ih:=lens_const hf n;have h2:=hf n;rw [List.range_succ,List.map_append,lens_append,Nat.add_mul];simp only [List.map_cons,List.map_nil,lens];omega
theorem lens_tail (ts:List Str):lens (ts.drop 1)≤lens ts:=by
  cases ts with
  | nil=>simp [lens]
  | cons x l=>rw [List.drop_one,List.tail_cons,lens];omega
theorem lens_three (ts:List Str):(ts.getD 0 []).length+(ts.getD 1 []).length+(ts.getD 2 []).length≤lens ts:=by
  have h0:=lens_takeS (ts:=ts) 0;have h1:=lens_takeS (ts:=ts) 1;have h2:=lens_takeS (ts:=ts) 2;have h3:=@lens_take ts 3;simp only [List.take_zero,lens] at h0;simp only [Nat.zero_add,Nat.reduceAdd] at h0 h1 h2 ⊢;omega
theorem par_len {ns:List Str} {ss:List Sh} (hn:∀ x∈ns,x.length≤24):lens (parS ns ss)≤ns.length * 32026:=lens_const (fun i=>by
  have h1:=getD_le hn i;have h2:=stS_len (ss.getD i default);simp only [List.length_append,List.length_cons,List.length_nil];omega) _
theorem rec_len {ns ts:List Str} (hn:∀ x∈ns,x.length≤24):lens (recS ns ts)≤ns.length * 27+lens ts:=by
  have:=lens_range (ts:=ts) (K:=27) (f:=fun i=>ns.getD i []++[32,61,32]) (fun i=>by
    have h1:=getD_le hn i;simp only [List.length_append,List.length_cons,List.length_nil];omega) ns.length
  have h2:=@lens_take ts ns.length;unfold recS;omega
theorem way_len' {ns vs ts:List Str} {ss:List Sh} (hn:∀ x∈ns,x.length≤24) (hv:∀ x∈vs,x.length≤24):lens (wayS ns vs ss ts)+(ts.getD 0 []).length≤ns.length * 32056+lens ts:=by
  have:=lens_range (ts:=ts.drop 1) (K:=32056) (f:=fun i=>ns.getD i []++[40]++vs.getD i []++[58,32]++stS (ss.getD i default)++[41,32,45,62,32]) (fun i=>by
    have h1:=getD_le hn i;have h2:=getD_le hv i;have h3:=stS_len (ss.getD i default);simp only [List.length_append,List.length_cons,List.length_nil];omega) ns.length
  have h2:=@lens_take (ts.drop 1) ns.length;have h3:lens (ts.drop 1)+(ts.getD 0 []).length=lens ts:=by
    cases ts with
    | nil=>simp [lens]
    | cons x l=>simp only [List.drop_one,List.tail_cons,lens,List.getD_cons_zero];omega
  have e:wayS ns vs ss ts=(List.range ns.length).map fun i=>(ns.getD i []++[40]++vs.getD i []++[58,32]++stS (ss.getD i default)++[41,32,45,62,32])++(ts.drop 1).getD i []:=by
    unfold wayS;refine List.map_congr_left fun i _=>?_
    rw [List.getD_eq_getElem?_getD (l:=ts.drop 1),List.getElem?_drop,Nat.add_comm 1 i,← List.getD_eq_getElem?_getD]
  rw [e];omega
theorem fit_texts {t:Tm} (h:fitsT t=true):(∀ x∈t.names,x.length≤24)∧(∀ x∈t.vars,x.length≤24)∧t.names.length≤4096+t.parts.length∧t.of.length≤24:=by
  have hap:∀ {l:List Str},apartS l=true→∀ x∈l,x.length≤24:=fun h x hx=>by
    unfold apartS at h;rw [Bool.and_eq_true,List.all_eq_true] at h;exact nameS_len (h.1 x hx)
  have hno:∀ {l:List Str} {P:Str→Prop},(l.length:Int)=0→∀ x∈l,P x:=fun {l} {_} h x hx=>by
    have e:l=[]:=List.eq_nil_of_length_eq_zero om_;rw [e] at hx;cases hx
  unfold fitsT at h;rcases ite_cases h with ⟨-,h⟩ | ⟨h0,h⟩
  · cases h
  · rw [Bool.not_eq_true,Bool.or_eq_false_iff,Bool.or_eq_false_iff,Bool.or_eq_false_iff] at h0;have ho:t.kind≠5→t.of.length≤24:=fun hk=>by
      have h1:=h0.1.2;rw [decide_eq_false hk,Bool.not_false,Bool.and_true] at h1;have h2:(t.of == [])=true:=by simpa using h1
      rw [beq_iff_eq] at h2;rw [h2];simp
    clear h0;have key:∀ {x:Bool} {a b c d:Int},(x && roomIs t a b c d)=true→(t.names.length:Int)=a∧(t.vars.length:Int)=b∧(t.shapes.length:Int)=c∧(t.parts.length:Int)=d:=fun h=>of_decide_eq_true (Bool.and_eq_true_iff.1 h).2
    have plain:∀ {x:Bool} {c d:Int},t.kind≠5→(x && roomIs t 0 0 c d)=true→(∀ x∈t.names,x.length≤24)∧(∀ x∈t.vars,x.length≤24)∧t.names.length≤4096+t.parts.length∧t.of.length≤24:=fun hk h=>by
      have:=key h;exact ⟨hno this.1,hno this.2.1,by omega,ho hk⟩
    rcases ite_cases h with ⟨k,h⟩ | ⟨-,h⟩
    · exact plain om_ h
    rcases ite_cases h with ⟨k,h⟩ | ⟨-,h⟩
    · exact plain om_ h
    rcases ite_cases h with ⟨k,h⟩ | ⟨-,h⟩
    · exact plain om_ h
    rcases ite_cases h with ⟨k,h⟩ | ⟨k5,h⟩
    · have:=key h;refine ⟨hno this.1,hno this.2.1,by omega,?_⟩;have h1:=(Bool.and_eq_true_iff.1 (Bool.and_eq_true_iff.1 h).1).2;rcases Bool.or_eq_true _ _ ▸ h1 with h1 | h1
      · rw [beq_iff_eq] at h1;rw [h1];simp
      · exact nameS_len h1
    rcases ite_cases h with ⟨k,h⟩ | ⟨-,h⟩
    · have:=key h;have h2:=(Bool.and_eq_true_iff.1 (Bool.and_eq_true_iff.1 h).1);have h3:=of_decide_eq_true (Bool.and_eq_true_iff.1 h2.1).2;exact ⟨hap h2.2,hno this.2.1,by omega,ho k5⟩
    rcases ite_cases h with ⟨k,h⟩ | ⟨-,h⟩
    · exact plain k5 h
    rcases ite_cases h with ⟨k,h⟩ | ⟨-,h⟩
    · have:=key h;have h2:=(Bool.and_eq_true_iff.1 (Bool.and_eq_true_iff.1 h).1);exact ⟨hap h2.2,hno this.2.1,by omega,ho k5⟩
    rcases ite_cases h with ⟨k,h⟩ | ⟨-,h⟩
    · exact plain k5 h
    rcases ite_cases h with ⟨k,h⟩ | ⟨-,h⟩
    · exact plain k5 h
    rcases ite_cases h with ⟨k,h⟩ | ⟨-,h⟩
    · exact plain k5 h
    rcases ite_cases h with ⟨k,h⟩ | ⟨-,h⟩
    · have:=key h;have h2:=(Bool.and_eq_true_iff.1 (Bool.and_eq_true_iff.1 h).1);have h3:=List.all_eq_true.1 h2.2;exact ⟨hap (Bool.and_eq_true_iff.1 h2.1).2,fun x hx=>nameS_len (h3 x hx),by omega,ho k5⟩
    rcases ite_cases h with ⟨k,h⟩ | ⟨-,h⟩
    · exact plain k5 h
    rcases ite_cases h with ⟨k,h⟩ | ⟨-,h⟩
    · exact plain k5 h
    rcases ite_cases h with ⟨k,h⟩ | ⟨-,h⟩
    · exact plain k5 h
    cases h
def limN (t:Tm):Bool:=decide (t.name.length≤1048576)
def intB (t:Tm):Bool:=decide (-9223372036854775808≤t.n∧t.n≤9223372036854775807)
theorem join_par {ns:List Str} {ss:List Sh} (hn:∀ x∈ns,x.length≤24):(join [44,32] (parS ns ss)).length≤ns.length * 32028:=by
  have h1:=@join_len [44,32] (parS ns ss);have h2:=par_len (ss:=ss) hn;have h3:(parS ns ss).length=ns.length:=by unfold parS;simp
  rw [h3] at h1;simp only [List.length_cons,List.length_nil] at h1;omega
theorem join_rec {ns ts:List Str} (hn:∀ x∈ns,x.length≤24):(join [44,32] (recS ns ts)).length≤ns.length * 29+lens ts:=by
  have h1:=@join_len [44,32] (recS ns ts);have h2:=rec_len (ts:=ts) hn;have h3:(recS ns ts).length=ns.length:=by unfold recS;simp
  rw [h3] at h1;simp only [List.length_cons,List.length_nil] at h1;omega
theorem join_way {ns vs ts:List Str} {ss:List Sh} (hn:∀ x∈ns,x.length≤24) (hv:∀ x∈vs,x.length≤24):(join [32,124,32] (wayS ns vs ss ts)).length+(ts.getD 0 []).length≤ns.length * 32059+lens ts:=by
  have h1:=@join_len [32,124,32] (wayS ns vs ss ts);have h2:=way_len' (ss:=ss) (ts:=ts) hn hv;have h3:(wayS ns vs ss ts).length=ns.length:=by unfold wayS;simp
  rw [h3] at h1;simp only [List.length_cons,List.length_nil] at h1;omega
theorem ite_len {p:Prop} [Decidable p] {a b:Str} {N:Nat} (h1:a.length≤N) (h2:b.length≤N):(if p then a else b).length≤N:=by split <;> assumption
theorem tex_len {k:Int} {o m:Str} {n:Int} {ns vs:List Str} {ss:List Sh} {ks:List Int} {ts:List Str} (ho:o.length≤24) (hm:m.length≤1048576) (hi:-9223372036854775808≤n∧n≤9223372036854775807)
    (hn:∀ x∈ns,x.length≤24) (hv:∀ x∈vs,x.length≤24) (hnl:ns.length≤8200) (htl:ts.length≤4100):(texF k o m n ns vs ss ks ts).length≤lens ts+536870912:=by
  have h1:=lens_three ts;have h2:=quoted_len m;have h3:=Lib.itoa_length_le n hi.1 hi.2;have h4:=opS_len (ks.getD 0 0) (ts.getD 0 []);have h5:=@join_len [44,32] (ts.drop 1);have h6:lens (ts.drop 1)+(ts.getD 0 []).length=lens ts:=by
    cases ts with
    | nil=>simp [lens]
    | cons x l=>simp only [List.drop_one,List.tail_cons,lens,List.getD_cons_zero];omega
  have h7:(ts.drop 1).length≤4100:=by rw [List.length_drop];omega
  have h8:=join_par (ss:=ss) hn;have h9:=join_rec (ts:=ts) hn;have h10:=join_way (ss:=ss) (ts:=ts) hn hv;have h11:=@join_len [44,32] ts;have h12:=stS_len (ss.getD 0 default);have h13:=stS_len (ss.getD ns.length default);simp only [List.length_cons,List.length_nil] at h5 h11;unfold texF typF;generalize Lib.itoa n=it at h3 ⊢
  repeat' (refine ite_len ?_ ?_)
  all_goals (try simp only [List.length_append,List.length_cons,List.length_nil])
  all_goals omega
mutual
theorem Tm.text_len:∀ s:Tm,s.allB fitsT=true→s.allB limN=true→s.size≤4096→s.allB intB=true→s.text.length≤536870912 * s.size
  | .mk k o m n ns vs ss ps a,h,hN,hs,hi=>by
    rw [Tm.allB,Bool.and_eq_true] at h hN hi;have hi1:=of_decide_eq_true hi.1;obtain ⟨f1,f2,f3,f4⟩:=fit_texts h.1;rw [Tm.size] at hs;have hl:=tlength_le ps;have h1:=ttextL_len ps h.2 hN.2 om_ hi.2;have h2:(ttextL ps).length=ps.length:=by rw [ttextL_map,List.length_map]
    have h3:=@tex_len k o m n ns vs ss (ps.map Tm.kind) (ttextL ps) f4 (of_decide_eq_true hN.1) hi1 f1 f2 (by have f3:ns.length≤4096+ps.length:=f3;omega) om_;rw [Tm.text,Tm.size];omega
theorem ttextL_len:∀ l:List Tm,tallL fitsT l=true→tallL limN l=true→tsizeL l≤4096→tallL intB l=true→lens (ttextL l)≤536870912 * tsizeL l
  | [],_,_,_,_=>by simp [ttextL,lens]
  | x :: l,h,hN,hs,hi=>by
    rw [tallL,Bool.and_eq_true] at h hN hi;rw [tsizeL] at hs;have h1:=Tm.text_len x h.1 hN.1 om_ hi.1;have h2:=ttextL_len l h.2 hN.2 om_ hi.2;rw [ttextL,lens,tsizeL,Nat.mul_add];omega
end
end Go.Gx
namespace Go.Gx
open Go.ChangeShapes Go.WideShapes Go.Deep Go.RowKit
open Go.Proofs.YtfbcfdhhgdmgkaaGreatDoor.Rows (uptoBulk uptoBulkAll)
section
variable {H:Type} {enc:TypeId × Value→H} {P:Program} {w:World} {base:Nat} {spare:Nat→Bool} {held:Bool}
theorem bulk_cons (d:DataW H) (l:List (DataW H)):uptoBulkAll (d :: l)=uptoBulk d+uptoBulkAll l:=by rw [uptoBulkAll]
theorem bulk_nil:uptoBulkAll ([]:List (DataW H))=0:=by rw [uptoBulkAll]
theorem bulk_agg (l:List (DataW H)):uptoBulk (.agg l)=uptoBulkAll l+1:=by rw [uptoBulk]
theorem bulk_slice (l r:List (DataW H)):uptoBulk (.slice l r)=uptoBulkAll l+uptoBulkAll r+1:=by rw [uptoBulk]
theorem bulk_str (s:List UInt8):uptoBulk (DataW.lit (H:=H) (.string s))=s.length+1:=by rw [uptoBulk]
theorem bulk_one (d:DataW H):1≤uptoBulk d:=by
  cases d with
  | lit l=>cases l <;> simp [uptoBulk]
  | _=>simp [uptoBulk]
theorem part_le {d:DataW H} {l:List (DataW H)} (h:d∈l):uptoBulk d≤uptoBulkAll l:=by
  induction l with
  | nil=>cases h
  | cons x r ih=>
    rw [bulk_cons];rcases List.mem_cons.1 h with e | e
    · subst e;omega
    · have:=ih e;omega
theorem len_bulk (l:List (DataW H)):l.length≤uptoBulkAll l:=by
  induction l with
  | nil=>simp
  | cons x r ih=>have:=bulk_one x;rw [bulk_cons,List.length_cons];omega
theorem names_bulk {t e:TypeId} (ht:P.underlying t=some (.slice e)) {fuel:Nat} {v:Value} {x:DataW H × List MemPlace} (h:DataW.trod enc P w base spare held fuel t [v]=some x) (l:List Str) (hl:StrsAt (fun _=>False) w v l):l.length≤uptoBulk x.1:=by
  obtain ⟨p',cap',hv,-⟩:=hl;rcases DataW.trod_slice ht (x:=x) h with ⟨h1,rfl⟩ | ⟨a,len,cap,elems,rest,n',hn',h1,rfl,-,hl,hm,hel,hx,-,-⟩
  · simp at h1;rw [hv] at h1;injection h1 with h2 h3 h4
    omega
  · simp at h1;rw [hv] at h1;injection h1 with h2 h3 h4
    show l.length≤uptoBulk (DataW.slice (elems.map (·.1)) _);have h5:=len_bulk (elems.map (·.1));rw [List.length_map] at h5;rw [bulk_slice];omega
theorem recs_openB {α : Type} [Inhabited α] {Cc:Thing α} {Q:α → Prop} {k:Nat} {tS tE:TypeId} (ht:P.underlying tS=some (.slice tE)) (hc:P.cellsOf tE=k) (hk:0<k) (hb:2≤P.bytesOf tE) {fuel:Nat}
    (hopen:∀ n',n'<fuel→∀ (cs:List Value) (x:DataW H × List MemPlace),DataW.trod enc P w base spare held n' tE cs=some x→(x.1.weights P tE).all (· ≤ reachBytes)=true→∃ s,Cc (fun _=>False) w cs s∧(uptoBulk x.1≤1048576→Q s))
    {v:Value} {x:DataW H × List MemPlace} (h:DataW.trod enc P w base spare held fuel tS [v]=some x) (hw:(x.1.weights P tS).all (· ≤ reachBytes)=true):∃ l:List α,RecsAt Cc k (fun _=>False) w v l∧(uptoBulk x.1≤1048576→∀ y∈l,Q y):=by
  rcases DataW.trod_slice ht (x:=x) h with ⟨h1,rfl⟩ | ⟨a,len,cap,elems,rest,n',hn',h1,rfl,-,hl,hm,hel,hx,-,-⟩
  · simp at h1;exact ⟨[],h1 ▸ RecsAt.nil (by simp),fun _ y hy=>by cases hy⟩
  · simp at h1;subst h1;obtain ⟨hby,hwd⟩:=weights_slice ht hw;have hlen:len≤70368744177664:=by
      have h1:len * P.bytesOf tE≤reachBytes:=Nat.le_trans (Nat.mul_le_mul_right _ (by simp [hel])) hby;have h2:len * 2≤len * P.bytesOf tE:=Nat.mul_le_mul_left _ hb;have h3:=reachBytes_lt;omega
    have each:∀ i,i<len→∃ p:List Value × α,p.1.length=k∧(∀ j,j<k→w.cell? ((a.add (i * k)).add j)=p.1[j]?)∧Cc (fun _=>False) w p.1 p.2∧(uptoBulk (DataW.slice (elems.map (·.1)) (rest.map (·.1)))≤1048576→Q p.2):=fun i hi=>by
      have h0:=hx i hi;rw [List.getElem?_eq_getElem om_] at h0;obtain ⟨cs',h1,h2⟩:=Option.bind_eq_some_iff.1 h0;rw [hc] at h1;obtain ⟨-,h3,h4⟩:=World.cells?_some h1;obtain ⟨s,hs,hq⟩:=hopen n' om_ cs' _ h2 (hwd _ (List.mem_map_of_mem (List.getElem_mem _)));exact ⟨(cs',s),h3,h4,hs,fun hb=>hq (by
        have h5:=part_le (List.mem_map_of_mem (f:=(·.1)) (List.getElem_mem (l:=elems) (n:=i) om_));rw [bulk_slice] at hb;omega)⟩
    obtain ⟨F,hF⟩:=choose_lt (α := List Value × α) each;have e0:((List.range len).map fun i=>(F i).2).length=len:=by simp
    refine ⟨(List.range len).map fun i=>(F i).2,⟨some a,cap,fun i=>(F i).1,by rw [e0],by rw [e0];exact hl,hm,by rw [e0];exact hlen,?_⟩,fun hb y hy=>by
      obtain ⟨i,hi,rfl⟩:=List.mem_map.1 hy;exact (hF i (by simpa using hi)).2.2.2 hb⟩
    refine ⟨fun hne=>?_,fun i hi=>(hF i (by rw [e0] at hi;exact hi)).1,fun i hi=>?_⟩
    · have h0:0<len:=by rcases Nat.eq_zero_or_pos len with h | h;exact absurd (by rw [h];rfl) hne;exact h
      obtain ⟨q1,q2,-⟩:=hF 0 h0;have hc0:=q2 0 hk;rw [List.getElem?_eq_getElem om_] at hc0;obtain ⟨b,o,spot⟩:=a;have hspot:spot=none:=by simpa [Addr.add] using World.cell?_spot hc0
      subst hspot;refine ⟨b,o,rfl,fun f=>f,fun i j hi hj=>?_⟩;rw [e0] at hi;have:=(hF i hi).2.1 j hj;rw [add_plain,add_plain] at this;exact this
    · rw [e0] at hi;have:=(hF i hi).2.2.1;simpa [hi] using this
theorem tm_openB {tT tS eN:TypeId} {f0 f1 f2 f3 f4 g0 g1 g2 g3 g4 g5 g6 g7 g8:Field} (T:ShT P tS eN f0 f1 f2 f3 f4) (G:TmT P tT tS eN g0 g1 g2 g3 g4 g5 g6 g7 g8):∀ (fuel:Nat) (cs:List Value) (x:DataW H × List MemPlace),DataW.trod enc P w base spare held fuel tT cs=some x→
    (x.1.weights P tT).all (· ≤ reachBytes)=true→∃ s,TmC (fun _=>False) w cs s∧(uptoBulk x.1≤1048576→s.allB limB=true∧s.allB limN=true):=by
  intro fuel;induction fuel using Nat.strongRecOn with
  | _ fuel ih=>
    intro cs x h hw;obtain ⟨xs,n,rfl,rfl,hlen,hxl,hf⟩:=DataW.trod_struct G.hS h;rw [G.cT] at hlen;obtain ⟨o0,o1,o2,o3,o4,o5,o6,o7,o8⟩:=G.o;obtain ⟨c0,c1,c2,c3,c4,c5,c6,c7,c8⟩:=G.c
    match cs,hlen with
    | [v0,v1,v2,v3,v4,v5,v6,v7,v8],_=>
      match xs,hxl with
      | [x0,x1,x2,x3,x4,x5,x6,x7,x8],_=>
        have k0:=hf 0 g0 rfl;have k1:=hf 1 g1 rfl;have k2:=hf 2 g2 rfl;have k3:=hf 3 g3 rfl;have k4:=hf 4 g4 rfl;have k5:=hf 5 g5 rfl;have k6:=hf 6 g6 rfl;have k7:=hf 7 g7 rfl;have k8:=hf 8 g8 rfl;rw [o0,c0] at k0;rw [o1,c1] at k1;rw [o2,c2] at k2;rw [o3,c3] at k3;rw [o4,c4] at k4;rw [o5,c5] at k5;rw [o6,c6] at k6;rw [o7,c7] at k7;rw [o8,c8] at k8;have w2:=weights_at G.hS hw (i:=2) (f:=g2) (d:=x2.1) rfl rfl;have w4:=weights_at G.hS hw (i:=4) (f:=g4) (d:=x4.1) rfl rfl;have w5:=weights_at G.hS hw (i:=5) (f:=g5) (d:=x5.1) rfl rfl;have w6:=weights_at G.hS hw (i:=6) (f:=g6) (d:=x6.1) rfl rfl;have w7:=weights_at G.hS hw (i:=7) (f:=g7) (d:=x7.1) rfl rfl;obtain ⟨k,e0,-,-⟩:=DataW.trod_int G.h0 (x:=x0) k0;obtain ⟨s1,e1,-,l1⟩:=DataW.trod_string G.h1 (x:=x1) k1;obtain ⟨s2,e2,q2,l2⟩:=DataW.trod_string G.h2 (x:=x2) k2;obtain ⟨j,e3,-,r3⟩:=DataW.trod_int G.h3 (x:=x3) k3;have nb:=names_bulk G.h4 (x:=x4) k4;obtain ⟨ns,hns⟩:=strs_open G.h4 G.hN G.cN G.bN (x:=x4) k4 w4;obtain ⟨vs,hvs⟩:=strs_open G.h5 G.hN G.cN G.bN (x:=x5) k5 w5;obtain ⟨ss,hss⟩:=shs_open G.h6 T (x:=x6) k6 w6;obtain ⟨a,e8,-,-⟩:=DataW.trod_int G.h8 (x:=x8) k8;have hps:∃ ps,RecsAt TmC 9 (fun _=>False) w v7 ps∧(uptoBulk x7.1≤1048576→∀ y∈ps,y.allB limB=true∧y.allB limN=true):=recs_openB G.h7 G.cT (by decide) G.bT (fun fu hfu cs x h hw=>ih fu om_ cs x h hw) k7 w7;obtain ⟨ps,hps,hpq⟩:=hps;simp at e0 e1 e2 e3 e8;rw [q2] at w2;refine ⟨.mk k s1.data.toList s2.data.toList j ns vs ss ps a,?_,fun hb=>?_⟩;rotate_left 1
        · have hb':uptoBulk (DataW.agg ([x0,x1,x2,x3,x4,x5,x6,x7,x8].map (·.1)))≤1048576:=hb;simp only [List.map_cons,List.map_nil,bulk_agg,bulk_cons,bulk_nil] at hb';rw [q2,bulk_str] at hb';have hn4:=nb ns hns;have hp7:=hpq om_;refine ⟨?_,?_⟩
          · rw [Tm.allB_eq,Bool.and_eq_true];refine ⟨decide_eq_true (by show ns.length≤100000000000;omega),?_⟩;rw [tallL_all,List.all_eq_true];exact fun y hy=>(hp7 y hy).1
          · rw [Tm.allB_eq,Bool.and_eq_true];refine ⟨decide_eq_true (by show s2.data.toList.length≤1048576;omega),?_⟩;rw [tallL_all,List.all_eq_true];exact fun y hy=>(hp7 y hy).2
        rw [e0,e1,e2,e3,e8];have:=TmC.intro (k:=k) (of:=s1.data.toList) (nm:=s2.data.toList) (n:=j) (at_:=a) hns hvs hss hps (max_le l1) (name_le w2) (i64_wf r3);simpa [S] using this
theorem o_argsQ {O:TypeId→World→Value→Prop} {Q:DataW H→Prop} {W:World} {base:Nat}:∀ {ts:List TypeId} {vs:List Value} {ds:List (DataW H)} {ps:List MemPlace},
    (∀ t∈ts,∀ (v:Value) (d:DataW H) (p:List MemPlace),Q d→Value.okWide P W .any base t v→DataW.Trod enc P W 0 (fun _=>true) true t v d p→(d.weights P t).all (· ≤ reachBytes)=true→O t W v)→(∀ d∈ds,Q d)→
    (∀ (j:Nat) v t,vs[j]? = some v→ts[j]? = some t→Value.okWide P W .any base t v)→DataW.TrodAll enc P W 0 (fun _=>true) true ts vs ds ps→
    (DataW.weightsEach P ts ds).all (· ≤ reachBytes)=true→OAll O W ts vs∧ds.length=ts.length
  | [],vs,ds,ps,_,_,_,h,_=>by
    obtain ⟨rfl,rfl,rfl⟩:=trodAll_nil h;exact ⟨trivial,rfl⟩
  | t :: ts,vs,ds,ps,hO,hq,hv,h,hw=>by
    obtain ⟨v,vs,d,ds,a,b,rfl,rfl,rfl,h1,h2⟩:=trodAll_cons h;rw [DataW.weightsEach,List.all_append,Bool.and_eq_true] at hw;obtain ⟨e1,e2⟩:=o_argsQ (fun t ht=>hO t (by simp [ht])) (fun d hd=>hq d (by simp [hd])) (fun j v t hj ht=>hv (j+1) v t hj ht) h2 hw.2;exact ⟨⟨hO t (by simp) v d a (hq d (by simp)) (hv 0 v t rfl rfl) h1 hw.1,e1⟩,by simp [e2]⟩
theorem lifted_upto {C:Checked} {os:Os} {f:FuncId} {fn:Func} {s:ChangeSpec} {F:Stop.Interp} {conds:List PathCond} {apart fresh handsOn again:Bool} {laid:List (String × DataW Unit)} {ts:List TypeId} {tb:TypeId} (O:TypeId→World→Value→Prop)
    (hps:fn.params.toList=ts) (hv:s.vars=[]) (hres:fn.resultTypes=#[tb]) (hb:C.prog.underlying tb=some .bool)
    (hl:laidOutB C.prog=true) (hrd:∀ t∈ts,C.prog.readableRec t=true∧t<C.prog.types.size)
    (hs:∀ ds:List (DataW H),ds.length=ts.length→s.fn H ds={ results:=[.lit (.bool true)],args:=ds })
    (own:ownKnob C.prog.godebug=none) (started:os.Started) (noInit:C.prog.inits.idxOf? f=none) (hfn:C.prog.funcs[f]? = some fn)
    (witness:∃ (w:World) (tape:Tape) (i:Input),w.os=os∧(w.forCall tape i).Shaped C.prog∧i.vars=[]∧Input.okWide C.prog (w.forCall tape i) .any w.heap.size f i∧
      (Go.Proofs.YtfbcfdhhgdmgkaaGreatDoor.Rows.OpenSpec.upto s).preRow enc C.prog fn conds apart laid (w.forCall tape i).memory i.args∧({}:Assume).holds C.prog (lone (Frame.enter C.prog f i.args .normal) [] (w.forCall tape i)))
    (hO:∀ t∈ts,∀ (W:World) (base:Nat) (v:Value) (d:DataW H) (p:List MemPlace),uptoBulk d≤1048576→Value.okWide C.prog W .any base t v→DataW.Trod enc C.prog W 0 (fun _=>true) true t v d p→(d.weights C.prog t).all (· ≤ reachBytes)=true→O t W v)
    (contract:∀ (w:World) (vs:List Value),laidMetH C.prog laid w→OAll O w ts vs→Ret C.prog f vs.toArray w fun v w'=>v=.bool true∧Bel w w'):
    ReturnsInHanded {} C os f .any ((Go.Proofs.YtfbcfdhhgdmgkaaGreatDoor.Rows.OpenSpec.upto s).preRow enc C.prog fn conds apart laid) (((Go.Proofs.YtfbcfdhhgdmgkaaGreatDoor.Rows.OpenSpec.upto s).at F).post enc C.prog fn apart fresh handsOn again):=by
  refine returnsInHanded_of_row own started noInit hfn witness ?_;intro W base args ds gs before hval hW _ hcond hwt hL _ _;have hW2:DataW.Whole enc C.prog fn.params.toList s.vars apart W args.toList ds gs before:=hW;obtain ⟨p,q,hA,hV,rfl,hz,hn⟩:=id hW2;have hV':=hV;rw [hv] at hV';obtain ⟨rfl,rfl⟩:=trodVars_none hV';rw [hps] at hA;have hvt:(Go.Proofs.YtfbcfdhhgdmgkaaGreatDoor.Rows.OpenSpec.upto s).bare.plain.varTypes C.prog=[]:=by
    have:(Go.Proofs.YtfbcfdhhgdmgkaaGreatDoor.Rows.OpenSpec.upto s).bare.plain.vars=[]:=hv;simp [DataSpec.varTypes,this]
  rw [hvt,List.append_nil,List.append_nil,hps] at hwt;have hk:=hcond _ rfl;rw [List.append_nil] at hk;have hk2:uptoBulkAll ds≤1048576:=of_decide_eq_true hk;obtain ⟨e1,e2⟩:=o_argsQ (O:=O) (Q:=fun d=>uptoBulk d≤1048576) (base:=base) (fun t ht v d p=>hO t ht W base v d p) (fun d hd=>Nat.le_trans (part_le hd) hk2) (fun j v t hj ht=>hval j t v (by rw [← hps] at ht;simpa using ht) (by simpa using hj)) hA hwt;have hr:=contract W args.toList hL e1;rw [Array.toArray_toList] at hr;refine Calls.mono hr fun e w' ⟨v,he,hv',hB⟩=>⟨v,he,?_⟩
  subst hv';exact post_of_bel hl (fun t ht=>by rw [hps] at ht;exact hrd t ht) hv hres hb hW2 (by rw [List.append_nil];exact hs ds e2) hB
theorem tm_arg {tT tS eN:TypeId} {f0 f1 f2 f3 f4 g0 g1 g2 g3 g4 g5 g6 g7 g8:Field} (T:ShT P tS eN f0 f1 f2 f3 f4) (G:TmT P tT tS eN g0 g1 g2 g3 g4 g5 g6 g7 g8) {b:Nat} {v:Value} {d:DataW H} {p:List MemPlace}
    (hq:uptoBulk d≤1048576) (hv:Value.okWide P w .any b tT v) (h:DataW.Trod enc P w 0 (fun _=>true) true tT v d p) (hw:(d.weights P tT).all (· ≤ reachBytes)=true):
    ∃ (cs:List Value) (s:Tm),v=.agg cs.toArray∧TmC (fun _=>False) w cs s∧s.allB limB=true∧s.allB limN=true:=by
  obtain ⟨fuel,h⟩:=h;obtain ⟨s,hs,hq2⟩:=tm_openB T G fuel _ _ h hw;refine ⟨v.cells.toList,s,?_,hs,hq2 hq⟩;unfold Value.okWide at hv;rw [G.hS] at hv;have hl:=hs.len;cases v <;> simp_all [Value.cells]
end
end Go.Gx
namespace Go.Proofs.YtfbcfdhhgdmgkaaGreatDoor
open Go.Gx Go.ChangeShapes Go.WideShapes Go.ChangeAt Go.RowKit Go.Lib Go.Deep
theorem own_none:ownKnob Tryz.prog.godebug=none:=by kernel_rfl
theorem laid_out:laidOutB Tryz.prog=true:=by kernel_rfl
theorem shT:∃ f0 f1 f2 f3 f4,ShT Tryz.prog 45 9 f0 f1 f2 f3 f4:=
  ⟨_,_,_,_,_,{ hS:=Tryz.underlying45,h0:=Tryz.underlying3,h1:=Tryz.underlying9,h2:=Tryz.underlying9,h3:=Tryz.underlying22,hN:=Tryz.underlying9,h4:=Tryz.underlying23,o:=⟨rfl,rfl,rfl,rfl,rfl⟩,c:=⟨by kernel_rfl,by kernel_rfl,by kernel_rfl,by kernel_rfl,by kernel_rfl⟩,cS:=by kernel_rfl,cN:=by kernel_rfl,bS:=Nat.le_of_ble_eq_true kr_,bN:=Nat.le_of_ble_eq_true kr_ }⟩
theorem tmT:∃ g0 g1 g2 g3 g4 g5 g6 g7 g8,TmT Tryz.prog 26 45 9 g0 g1 g2 g3 g4 g5 g6 g7 g8:=
  ⟨_,_,_,_,_,_,_,_,_,{ hS:=Tryz.underlying26,h0:=Tryz.underlying3,h1:=Tryz.underlying9,h2:=Tryz.underlying9,h3:=Tryz.underlying3,h4:=Tryz.underlying22,h5:=Tryz.underlying22,h6:=Tryz.underlying23,h7:=Tryz.underlying24,h8:=Tryz.underlying3,hN:=Tryz.underlying9,o:=⟨rfl,rfl,rfl,rfl,rfl,rfl,rfl,rfl,rfl⟩,c:=⟨by kernel_rfl,by kernel_rfl,by kernel_rfl,by kernel_rfl,by kernel_rfl,by kernel_rfl,by kernel_rfl,by kernel_rfl,by kernel_rfl⟩,cT:=by kernel_rfl,cN:=by kernel_rfl,bT:=Nat.le_of_ble_eq_true kr_,bN:=Nat.le_of_ble_eq_true kr_ }⟩
theorem tabIs_of_reads {P:Program} {W:World} {name:String} {k:IntKind} {zs:List Int} {g:Nat} {t e:TypeId} {n:Nat}
    (hg:P.globalNamed name=some g) (hty:(P.globals[g]?).map (·.type)=some t) (ht:P.underlying t=some (.array n e)) (he:P.underlying e=some (.int k)) (hce:P.cellsOf e=1) (hct:P.cellsOf t=n)
    (h:VarReads P W name (tabData k zs)):TabIs P W name k zs:=by
  obtain ⟨g',t',cs,fuel,p,hg',ht',hvar,hd⟩:=h;obtain rfl:=Option.some.inj (hg.symm.trans hg');obtain rfl:=Option.some.inj (hty.symm.trans ht');unfold TabIs;rw [hvar,← cells_of_tab ht he hce hct hd]
set_option maxRecDepth 100000 in
theorem tabs_of {W:World} (hL:laidMetH Tryz.prog Rows.termsDeepRow.laid W):Gx.Tabs W:=by
  have h0:VarReads Tryz.prog W "unicode/utf8.first" firstData:=laidMet.reads hL (.tail _ (.tail _ (.tail _ (.tail _ (.head _)))));have h1:VarReads Tryz.prog W "unicode/utf8.acceptRanges" acceptData:=laidMet.reads hL (.tail _ (.tail _ (.tail _ (.head _))));have h2:VarReads Tryz.prog W "internal/strconv.uint64pow10" (tabData .u64 pow10Tab):=laidMet.reads hL (.tail _ (.tail _ (.head _)));have h3:TabIs Tryz.prog W "internal/strconv.uint64pow10" .u64 pow10Tab:=tabIs_of_reads (g:=2) (t:=134) kr_ kr_ Tryz.underlying134 Tryz.underlying116 kr_ kr_ h2;refine ⟨utf8Tabs_of_readsT (U8Types.of196 Tryz.lays196) ⟨by kernel_rfl,by kernel_rfl,by kernel_rfl,by kernel_rfl,by kernel_rfl,by kernel_rfl,by kernel_rfl⟩ h0 h1,⟨2,by kernel_rfl,?_⟩,h3⟩;have h4:=h3.cell (g:=2) kr_ 0 (by decide);unfold World.cell? at h4;rcases Nat.lt_or_ge 2 W.heap.size with h | h
  · exact h
  · have e:W.heap[2]? = none:=Array.getElem?_eq_none h;simp [e] at h4
theorem g0:Tryz.prog.globalNamed "unicode/utf8.first" = some 0:=by kernel_rfl
theorem g1:Tryz.prog.globalNamed "unicode/utf8.acceptRanges" = some 1:=by kernel_rfl
theorem g2:Tryz.prog.globalNamed "internal/strconv.uint64pow10" = some 2:=by kernel_rfl
theorem g3:Tryz.prog.globalNamed "math/bits.deBruijn32tab" = some 4:=by kernel_rfl
theorem g4:Tryz.prog.globalNamed "math/bits.deBruijn64tab" = some 5:=by kernel_rfl
def cell1:DataW Unit→List Value
  | .lit (.int k n)=>[.int k n]
  | _=>[]
def cell2:DataW Unit→List Value
  | .agg l=>l.flatMap cell1
  | d=>cell1 d
def cell3:DataW Unit→Array Value
  | .agg l=>(l.flatMap cell2).toArray
  | _=>#[]
noncomputable def laidWorld (os:Os):World:=
  let w0:=World.holding Tryz.prog os ⟨#[],#[],[]⟩
  let put (h:Array Obj) (g:Nat) (d:DataW Unit):Array Obj:=h.modify g fun
    | .cells _ t frozen=>.cells (cell3 d) t frozen
    | o=>o
  let h0:=put w0.heap 0 Rows.laid_unicode_utf8_first
  let h1:=put h0 1 Rows.laid_unicode_utf8_acceptRanges
  let h2:=put h1 2 Rows.laid_internal_strconv_uint64pow10
  let h3:=put h2 4 Rows.laid_math_bits_deBruijn32tab
  let h4:=put h3 5 Rows.laid_math_bits_deBruijn64tab
  { w0 with heap:=h4 }
def zeroTm:Value:=.agg #[.int .i64 0,.string ⟨#[]⟩,.string ⟨#[]⟩,.int .i64 0,.slice none 0 0,.slice none 0 0,.slice none 0 0,.slice none 0 0,.int .i64 0]
theorem laid_met3 (os:Os):laidMet Tryz.prog Rows.termsDeepRow.laid ((laidWorld os).forCall (fun _ _=>0) ⟨#[],#[zeroTm,zeroTm,zeroTm],[]⟩).memory:=
  (LaidIn.of_run (l:=Rows.termsDeepRow.laid) [0,1,2,4,5] 8 kr_ kr_ kr_ kr_).met
end Go.Proofs.YtfbcfdhhgdmgkaaGreatDoor
namespace Go.Proofs
open Go.Shelf
def Tryz.lays156_ren:Go.Shelf.Ren:=⟨fun | 156=>44 | 165=>66 | 166=>64 | 169=>65 | 240=>90 | 241=>91 | 276=>113 | 277=>114 | n=>n,fun | 31=>22 | 9=>9 | 3=>3 | 4=>4 | 0=>0 | 20=>20 | 72=>74 | 76=>78 | 70=>71 | 37=>72 | 75=>76 | 127=>98 | 164=>121 | 5=>5 | 80=>80 | n=>n,fun | n=>n⟩
theorem Tryz.lays156:Go.Proofs.Lays.n156 Tryz.prog Tryz.lays156_ren:={
  mixed:=by kernel_rfl
  f156:=Tryz.func44.trans (congrArg some (by kernel_rfl))
  f165:=Tryz.func66.trans (congrArg some (by kernel_rfl))
  f166:=Tryz.func64.trans (congrArg some (by kernel_rfl))
  f169:=Tryz.func65.trans (congrArg some (by kernel_rfl))
  f240:=Tryz.func90.trans (congrArg some (by kernel_rfl))
  f241:=Tryz.func91.trans (congrArg some (by kernel_rfl))
  f276:=Tryz.func113.trans (congrArg some (by kernel_rfl))
  f277:=Tryz.func114.trans (congrArg some (by kernel_rfl))
  t0:=Tryz.underlying0
  a0:=Tryz.isAgg0
  z0:=Tryz.sizeOf0
  v0:=Tryz.zeroValue0
  t3:=Tryz.underlying3
  a3:=Tryz.isAgg3
  z3:=Tryz.sizeOf3
  v3:=Tryz.zeroValue3
  t4:=Tryz.underlying4
  a4:=Tryz.isAgg4
  z4:=Tryz.sizeOf4
  v4:=Tryz.zeroValue4
  t9:=Tryz.underlying9
  a9:=Tryz.isAgg9
  z9:=Tryz.sizeOf9
  v9:=Tryz.zeroValue9
  t20:=Tryz.underlying20
  a20:=Tryz.isAgg20
  z20:=Tryz.sizeOf20
  v20:=Tryz.zeroValue20
  t31:=Tryz.underlying22
  a31:=Tryz.isAgg22
  z31:=Tryz.sizeOf22
  v31:=Tryz.zeroValue22
  t37:=Tryz.underlying72
  a37:=Tryz.isAgg72
  z37:=Tryz.sizeOf72
  v37:=Tryz.zeroValue72
  t70:=Tryz.underlying71
  a70:=Tryz.isAgg71
  z70:=Tryz.sizeOf71
  v70:=Tryz.zeroValue71
  t72:=Tryz.underlying74
  a72:=Tryz.isAgg74
  z72:=Tryz.sizeOf74
  v72:=Tryz.zeroValue74
  t75:=Tryz.underlying76
  a75:=Tryz.isAgg76
  z75:=Tryz.sizeOf76
  v75:=Tryz.zeroValue76
  t76:=Tryz.underlying78
  a76:=Tryz.isAgg78
  z76:=Tryz.sizeOf78
  v76:=Tryz.zeroValue78
  t127:=Tryz.underlying98
  a127:=Tryz.isAgg98
  z127:=Tryz.sizeOf98
  v127:=Tryz.zeroValue98
  t164:=Tryz.underlying121
  a164:=Tryz.isAgg121
  z164:=Tryz.sizeOf121
  v164:=Tryz.zeroValue121 }
theorem Tryz.Builder_Extra_156:Builder.Extra Tryz.prog Tryz.lays156_ren:={
  sizeBuilder:=by kernel_rfl
  liesBuilder:=by kernel_rfl
  t5:=Tryz.underlying5
  a5:=Tryz.isAgg5
  z5:=Tryz.sizeOf5
  v5:=Tryz.zeroValue5
  infoByte:=by kernel_rfl
  cellsByte:=by kernel_rfl
  sizeByte:=by kernel_rfl
  neB5:=by decide }
open Go.RowKit in
theorem Tryz.strings_Join_none (a:Option Addr) (c:Nat) (sep:ByteArray) (w:World):
    Calls Tryz.prog 44 #[.slice a 0 c,.string sep] w fun e w'=>e=.returned (.string ⟨#[]⟩)∧w'=w:=Any.strings_Join_none Tryz.lays156 Tryz.Builder_Extra_156 a c sep w
open Go.RowKit in
theorem Tryz.strings_Join (bk o c:Nat) (xs:List ByteArray) (sep:ByteArray) (w:World) (hcells:∀ (j:Nat) x,xs[j]? = some x→w.cell? ⟨bk,o+j,none⟩=some (.string x)) (hbk:bk<w.heap.size) (hN:xs.length≤140737488355328) (hcap:xs.length≤c) (hlen:(Lib.join (xs.map (·.data.toList)) sep.data.toList).length≤140737488355328):
    Calls Tryz.prog 44 #[.slice (some ⟨bk,o,none⟩) xs.length c,.string sep] w fun e w'=>e=.returned (.string ⟨(Lib.join (xs.map (·.data.toList)) sep.data.toList).toArray⟩)∧Below w.heap.size w w':=Any.strings_Join Tryz.lays156 Tryz.Builder_Extra_156 bk o c xs sep w hcells hbk hN hcap hlen
end Go.Proofs
