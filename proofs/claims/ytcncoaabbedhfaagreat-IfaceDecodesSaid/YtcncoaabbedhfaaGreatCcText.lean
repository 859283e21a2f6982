/- The text of a type. Conditions: none. -/
import Derived.Lib.Join
import Derived.Test.YtcncoaabbedhfaaGreatCcCheck
import Derived.Test.YtcncoaabbedhfaaGreatCcOct4
import Derived.Test.YtcncoaabbedhfaaGreatCcSort3
import Derived.Test.YtcncoaabbedhfaaGreatCcItR
import Derived.Test.YtcncoaabbedhfaaGreatCcSortF
namespace Go.Gx
def join (sep:Str):List Str→Str
  | []=>[]
  | [x]=>x
  | x :: y :: l=>x++sep++join sep (y :: l)
theorem join_cons {sep x:Str} {l:List Str} (h:l≠[]):join sep (x :: l)=x++sep++join sep l:=by
  cases l with
  | nil=>exact absurd rfl h
  | cons y l=>rfl
theorem join_lib {sep:Str}:∀ {l:List Str},Lib.join l sep=join sep l
  | []=>rfl
  | [x]=>by rw [Lib.join_one];rfl
  | x :: y :: l=>by
    have ih:=join_lib (sep:=sep) (l:=y :: l);rw [join_cons (by simp),← ih,Lib.join_cons,Lib.join_cons];simp [Lib.joinTail,List.append_assoc]
def lens:List Str→Nat
  | []=>0
  | x :: l=>x.length+lens l
theorem join_len {sep:Str}:∀ {l:List Str},(join sep l).length≤lens l+sep.length * l.length
  | []=>by simp [join]
  | [x]=>by simp [join,lens]
  | x :: y :: l=>by
    have ih:=join_len (sep:=sep) (l:=y :: l);rw [join_cons (by simp)];simp only [List.length_append,List.length_cons,lens] at *;rw [Nat.mul_succ];omega
def lab (ns ts:List Str):List Str:=if ns=[] then ts else List.zipWith (fun n t=>n++[58,32]++t) ns ts
def textOf (k:Int) (o n:Str) (ts:List Str):Str:=
  if k=1 then [73,110,116]
  else if k=2 then [66,111,111,108]
  else if k=3 then [84,101,120,116]
  else if k=4 then [65,110,121]
  else if k=5 then [91]++ts.getD 0 []++[93]
  else if k=6 then [123]++join [44,32] ts++[125]
  else if k=7 then [60]++join [32,124,32] ts++[62]
  else if k=8 then [40]++join [44,32] (ts.take (ts.length - 1))++[41,32,45,62,32]++ts.getD (ts.length - 1) []
  else if o=[] then n else o++[47]++n
mutual
def Sh.text:Sh→Str | .mk k o n ns ps=>textOf k o n (lab ns (textL ps))
def textL:List Sh→List Str | []=>[] | x :: xs=>x.text :: textL xs
end
theorem textL_eq:∀ l,textL l=l.map Sh.text
  | []=>rfl
  | x :: xs=>by rw [textL,textL_eq xs];rfl
def labels (s:Sh):List Str:=lab s.names (s.parts.map Sh.text)
theorem Sh.text_eq (s:Sh):s.text=textOf s.kind s.of s.name (labels s):=by
  cases s;rw [Sh.text,textL_eq];rfl
theorem labels_len {s:Sh} (h:s.names=[]∨s.names.length=s.parts.length):(labels s).length=s.parts.length:=by
  unfold labels lab;split
  · simp
  · rcases h with h | h
    · exact absurd h (by assumption)
    · simp [h]
theorem labels_nil {s:Sh} {i:Nat} (h:s.names=[]) (hi:i<s.parts.length):(labels s).getD i []=(s.parts.getD i default).text:=by
  unfold labels lab;rw [if_pos h];simp [List.getD_eq_getElem?_getD,hi]
theorem labels_at {s:Sh} {i:Nat} (h:s.names≠[]) (hl:s.names.length=s.parts.length) (hi:i<s.parts.length):(labels s).getD i []=s.names.getD i []++[58,32]++(s.parts.getD i default).text:=by
  unfold labels lab;rw [if_neg h];simp [List.getD_eq_getElem?_getD,hi,hl]
theorem nameS_len {x:Str} (h:nameS x=true):x.length≤24:=by
  simp only [nameS,namedS,Bool.and_eq_true,decide_eq_true_eq] at h;exact h.1.1.2
theorem upperS_len {x:Str} (h:upperS x=true):x.length≤24:=by
  simp only [upperS,namedS,Bool.and_eq_true,decide_eq_true_eq] at h;exact h.1.2
theorem fits_len {s:Sh} (h:fitsS s=true):s.of.length≤24∧s.name.length≤24∧∀ x∈s.names,x.length≤24:=by
  unfold fitsS at h;have hnil:∀ {x:Str},(x == [])=true→x.length≤24:=fun h=>by rw [beq_iff_eq] at h;rw [h];simp
  split at h
  · simp only [Bool.and_eq_true,Bool.or_eq_true,decide_eq_true_eq] at h;obtain ⟨⟨⟨h1,h2⟩,h3⟩,-⟩:=h;have hn:s.names=[]:=List.eq_nil_of_length_eq_zero om_;refine ⟨?_,upperS_len h1,by simp [hn]⟩;rcases h2 with h2 | h2
    · exact nameS_len h2
    · exact hnil h2.1.1
  · split at h
    · cases h
    · next hb=>
      simp only [Bool.or_eq_true,Bool.not_eq_true',not_or,Bool.not_eq_false] at hb;refine ⟨hnil hb.1,hnil hb.2,?_⟩;split at h
      · unfold namesOk at h;simp only [Bool.and_eq_true,List.all_eq_true] at h;exact fun x hx=>nameS_len (h.1.1 x hx)
      · split at h
        · cases h
        · have hn:s.names=[]:=List.eq_nil_of_length_eq_zero om_;simp [hn]
theorem lens_lab {ns:List Str} (hn:∀ x∈ns,x.length≤24):∀ {ts:List Str},lens (lab ns ts)≤lens ts+26 * ts.length:=by
  intro ts;unfold lab;split
  · omega
  · suffices H:∀ (ns ts:List Str),(∀ x∈ns,x.length≤24)→lens (List.zipWith (fun n t=>n++[58,32]++t) ns ts)≤lens ts+26 * ts.length from H ns ts hn
    intro ns;induction ns with
    | nil=>intro ts _;simp [lens]
    | cons n ns ih=>
      intro ts hn;cases ts with
      | nil=>simp [lens]
      | cons t ts=>
        have:=ih ts (fun x hx=>hn x (by simp [hx]));have h1:=hn n (by simp);simp only [List.zipWith_cons_cons,lens,List.length_append,List.length_cons,List.length_nil];omega
theorem lens_take {l:List Str}:∀ {n:Nat},lens (l.take n)≤lens l:=by
  induction l with
  | nil=>intro n;simp [lens]
  | cons x l ih=>intro n;cases n with
    | zero=>simp [lens]
    | succ n=>simp only [List.take_succ_cons,lens];have:=ih (n:=n);omega
theorem lens_at {l:List Str}:∀ {i:Nat},(l.getD i []).length≤lens l:=by
  induction l with
  | nil=>intro i;simp [lens]
  | cons x l ih=>
    intro i;cases i with
    | zero=>simp [lens]
    | succ i=>have:=ih (i:=i);simp only [List.getD_cons_succ,lens];omega
theorem lens_fun {l:List Str}:lens (l.take (l.length - 1))+(l.getD (l.length - 1) []).length≤lens l:=by
  induction l with
  | nil=>simp [lens]
  | cons x l ih=>
    cases l with
    | nil=>simp [lens]
    | cons y l=>
      have e:(x :: y :: l).length - 1=((y :: l).length - 1)+1:=by simp
      rw [e,List.take_succ_cons,List.getD_cons_succ];simp only [lens] at *;omega
theorem textOf_len {k:Int} {o n:Str} {ts:List Str} (ho:o.length≤24) (hn:n.length≤24):(textOf k o n ts).length≤49+lens ts+3 * ts.length:=by
  have h1:=@join_len [44,32] ts;have h2:=@join_len [32,124,32] ts;have h3:=@join_len [44,32] (ts.take (ts.length - 1));have h4:=@lens_at ts 0;have h5:=@lens_fun ts;have h6:(ts.take (ts.length - 1)).length≤ts.length:=by simp
  simp only [List.length_cons,List.length_nil] at h1 h2 h3;unfold textOf
  repeat' split
  all_goals (try simp only [List.length_append,List.length_cons,List.length_nil])
  all_goals omega
mutual
theorem Sh.text_len:∀ s:Sh,s.allB fitsS=true→s.text.length+29≤80 * s.size
  | .mk k o n ns ps,h=>by
    rw [Sh.allB,Bool.and_eq_true] at h;obtain ⟨f1,f2,f3⟩:=fits_len h.1;have hl:=textL_len ps h.2;have h1:=@textOf_len k o n (lab ns (textL ps)) f1 f2;have h2:=@lens_lab ns f3 (textL ps);have h3:(lab ns (textL ps)).length≤(textL ps).length:=by unfold lab;split <;> simp;omega
    have h4:(textL ps).length=ps.length:=by rw [textL_eq];simp
    rw [Sh.text,Sh.size];omega
theorem textL_len:∀ l:List Sh,allL fitsS l=true→lens (textL l)+29 * l.length≤80 * sizeL l
  | [],_=>by simp [textL,lens,sizeL]
  | x :: xs,h=>by
    rw [allL,Bool.and_eq_true] at h;have h1:=Sh.text_len x h.1;have h2:=textL_len xs h.2;simp only [textL,lens,sizeL,List.length_cons];omega
end
end Go.Gx
namespace Go.Gx
open Go.Proofs
noncomputable def itemOk (x:It):Bool:=
  if x.kind=2 then (upperS x.name && !plainS x.name) && eqS x.sh (.mk 0 [] [] [] [])
  else if (decide (x.kind=1) && (upperS x.name && !plainS x.name)) || (decide (x.kind=3) && nameS x.name) then closedS x.sh && eqS (sortS x.sh) x.sh else false
noncomputable def okAt (l:List It) (i:Nat):Bool:=itemOk (l.getD i default) && (decide (i=0) || Op.bytesLess (l.getD (i - 1) default).name (l.getD i default).name)
noncomputable def checkI (l:List It):Bool:=decide (l.length≤60) && (List.range l.length).all (okAt l)
def itB (x:It):Str:=numB x.kind.toNat++(textB x.name++(if x.kind=2 then [] else x.sh.bytes))
def itsB (l:List It):Str:=numB l.length++(l.map itB).flatten
noncomputable def encI (l:List It):Str × Int:=if checkI l=true then (itsB l,0) else ([],160)
theorem fits_goodB {s:Sh} (h:fitsS s=true) (hp:s.parts.length≤400):goodB s=true:=by
  obtain ⟨l1,l2,l3⟩:=fits_len h;have key:0≤s.kind∧s.kind≤10∧s.names.length≤400:=by
    unfold fitsS at h;split at h
    · rename_i hk
      simp only [Bool.or_eq_true,decide_eq_true_eq] at hk;simp only [Bool.and_eq_true,Bool.or_eq_true,decide_eq_true_eq] at h;obtain ⟨⟨-,h3⟩,-⟩:=h;exact ⟨by omega,by omega,by omega⟩
    · split at h
      · cases h
      · split at h
        · rename_i hk2
          simp only [Bool.or_eq_true,decide_eq_true_eq] at hk2;unfold namesOk at h;simp only [Bool.and_eq_true,decide_eq_true_eq] at h;exact ⟨by omega,by omega,by omega⟩
        · split at h
          · cases h
          · rename_i hns
            split at h
            · exact ⟨by omega,by omega,by omega⟩
            · split at h
              · exact ⟨by omega,by omega,by omega⟩
              · simp only [Bool.and_eq_true,decide_eq_true_eq] at h;exact ⟨by omega,by omega,by omega⟩
  obtain ⟨a1,a2,a3⟩:=key;unfold goodB;have a4:(s.names.all fun x=>decide (x.length≤20000))=true:=List.all_eq_true.2 (fun x hx=>decide_eq_true (by have:=l3 x hx;omega));rw [a4];simp only [Bool.and_eq_true,decide_eq_true_eq,Bool.and_true];exact ⟨⟨⟨⟨⟨a1,a2⟩,by omega⟩,by omega⟩,a3⟩,hp⟩
theorem size_pos (s:Sh):1≤s.size:=by cases s;rw [Sh.size];omega
theorem len_sizeL (l:List Sh):l.length≤sizeL l:=by
  induction l with
  | nil=>exact Nat.zero_le _
  | cons x l ih=>rw [sizeL,List.length_cons];have:=size_pos x;omega
mutual
theorem fits_good:∀ s:Sh,s.size≤400→s.allB fitsS=true→s.allB goodB=true
  | .mk k o n ns ps,hs,hf=>by
    rw [Sh.allB,Bool.and_eq_true] at hf ⊢;rw [Sh.size] at hs;exact ⟨fits_goodB hf.1 (by have:=len_sizeL ps;show ps.length≤400;omega),fits_goodL ps om_ hf.2⟩
theorem fits_goodL:∀ l:List Sh,sizeL l≤400→allL fitsS l=true→allL goodB l=true
  | [],_,_=>rfl
  | x :: l,hs,hf=>by
    rw [allL,Bool.and_eq_true] at hf ⊢;rw [sizeL] at hs;exact ⟨fits_good x om_ hf.1,fits_goodL l om_ hf.2⟩
end
theorem closed_good {s:Sh} (h:closedS s=true):s.allB goodB=true∧s.deep≤40∧s.size≤400:=by
  unfold closedS at h;rw [Bool.and_eq_true] at h;have hc:=of_decide_eq_true h.1;unfold checkS at hc;split at hc
  · cases hc
  · split at hc
    · cases hc
    · split at hc
      · cases hc
      · rename_i h1 h2 h3
        exact ⟨fits_good s om_ (by simpa using h3),by omega,by omega⟩
def rItem (s:Str) (a:Nat):Option (It × Nat):=(smallN s a 3).bind fun k=>(tText s k.2).bind fun n=>if k.1=2 then some (⟨k.1,n.1,default⟩,n.2) else (pSh s 40 n.2).map fun t=>(⟨k.1,n.1,t.1⟩,t.2)
def rItems (s:Str):Nat→Nat→Option (List It × Nat)
  | 0,a=>some ([],a)
  | n+1,a=>(rItem s a).bind fun x=>(rItems s n x.2).map fun y=>(x.1 :: y.1,y.2)
noncomputable def decR (s:Str):List It × Int:=
  match (smallN s 0 60).bind fun n=>rItems s n.1 n.2 with
  | none=>([],160)
  | some y=>if encI y.1=(s,0) then (y.1,0) else ([],160)
theorem item_props {x:It} (h:itemOk x=true):0≤x.kind∧x.kind≤3∧x.name.length≤20000∧(x.kind=2→x.sh=.mk 0 [] [] [] [])∧(x.kind≠2→x.sh.allB goodB=true∧x.sh.deep≤40):=by
  unfold itemOk at h;split at h
  · rename_i hk
    simp only [Bool.and_eq_true] at h;have:=upperS_len h.1.1;exact ⟨by omega,by omega,by omega,fun _=>eqS_iff.1 h.2,fun e=>absurd hk e⟩
  · rename_i hk
    split at h
    · rename_i h1
      simp only [Bool.and_eq_true] at h;have hg:=closed_good h.1;simp only [Bool.or_eq_true,Bool.and_eq_true,decide_eq_true_eq] at h1;rcases h1 with h1 | h1
      · have:=upperS_len h1.2.1;exact ⟨by omega,by omega,by omega,fun e=>absurd e hk,fun _=>⟨hg.1,hg.2.1⟩⟩
      · have:=nameS_len h1.2;exact ⟨by omega,by omega,by omega,fun e=>absurd e hk,fun _=>⟨hg.1,hg.2.1⟩⟩
    · cases h
theorem rItem_itB {x:It} (h:itemOk x=true) (t pre rest:Str) (ht:t=pre++itB x++rest):rItem t pre.length=some (x,pre.length+(itB x).length):=by
  obtain ⟨p1,p2,p3,p4,p5⟩:=item_props h;obtain ⟨k,n,s⟩:=x;dsimp only at *;have b1:t=pre++numB k.toNat++(textB n++(if k=2 then [] else s.bytes)++rest):=by rw [ht];unfold itB;simp only [List.append_assoc]
  have b2:t=(pre++numB k.toNat)++textB n++((if k=2 then [] else s.bytes)++rest):=by rw [b1];simp only [List.append_assoc]
  have c1:=smallN_numB (n:=k.toNat) (most:=3) om_ om_ pre (textB n++(if k=2 then [] else s.bytes)++rest);rw [← b1] at c1;have c2:=tText_textB p3 (pre++numB k.toNat) ((if k=2 then [] else s.bytes)++rest);rw [← b2] at c2;simp only [List.length_append] at c2;have ek:((k.toNat:Nat):Int)=k:=by omega
  unfold rItem;rw [c1,Option.bind_some];dsimp only;rw [c2,Option.bind_some];dsimp only;by_cases hk:k=2
  · rw [if_pos om_,ek,p4 hk];unfold itB;simp only [hk,if_true,List.append_nil,List.length_append];congr 2;rw [← hk];omega
  · have b3:t=(pre++numB k.toNat++textB n)++s.bytes++rest:=by rw [b2,if_neg hk];simp only [List.append_assoc]
    have c3:=pSh_bytes t 40 s (pre++numB k.toNat++textB n) rest b3 (p5 hk).2 (p5 hk).1;simp only [List.length_append] at c3;rw [if_neg om_,c3,Option.map_some,ek];unfold itB;rw [if_neg hk];simp only [List.length_append,Option.some.injEq,Prod.mk.injEq,true_and];omega
theorem rItems_itB:∀ (l:List It) (t pre rest:Str),(∀ x∈l,itemOk x=true)→t=pre++(l.map itB).flatten++rest→rItems t l.length pre.length=some (l,pre.length+((l.map itB).flatten).length)
  | [],_,_,_,_,_=>rfl
  | x :: l,t,pre,rest,h,ht=>by
    have e1:t=pre++itB x++((l.map itB).flatten++rest):=by rw [ht];simp only [List.map_cons,List.flatten_cons,List.append_assoc]
    have e2:t=(pre++itB x)++(l.map itB).flatten++rest:=by rw [e1];simp only [List.append_assoc]
    have h1:=rItem_itB (h x (by simp)) t pre _ e1;have ih:=rItems_itB l t (pre++itB x) rest (fun y hy=>h y (List.mem_cons_of_mem _ hy)) e2;rw [List.length_cons,rItems,h1,Option.bind_some];dsimp only;rw [← List.length_append,ih,Option.map_some];simp only [List.map_cons,List.flatten_cons,List.length_append,Nat.add_assoc]
theorem check_items {l:List It} (h:checkI l=true):l.length≤60∧∀ x∈l,itemOk x=true:=by
  unfold checkI at h;rw [Bool.and_eq_true,List.all_eq_true] at h;refine ⟨of_decide_eq_true h.1,fun x hx=>?_⟩;obtain ⟨i,hi,rfl⟩:=List.getElem_of_mem hx;have:=h.2 i (List.mem_range.2 hi);unfold okAt at this;rw [Bool.and_eq_true,List.getD_eq_getElem?_getD,List.getElem?_eq_getElem hi] at this;exact this.1
theorem read_itsB {l:List It} (h:checkI l=true):((smallN (itsB l) 0 60).bind fun n=>rItems (itsB l) n.1 n.2)=some (l,(itsB l).length):=by
  obtain ⟨h1,h2⟩:=check_items h;have c1:=smallN_numB (n:=l.length) (most:=60) om_ h1 [] (l.map itB).flatten;rw [List.nil_append,List.length_nil,Nat.zero_add] at c1;have c2:=rItems_itB l (itsB l) (numB l.length) [] h2 (by unfold itsB;rw [List.append_nil]);have c1:smallN (itsB l) 0 60=some (l.length,(numB l.length).length):=c1;rw [c1,Option.bind_some];dsimp only;rw [c2];unfold itsB;rw [List.length_append]
theorem enc_ok {l:List It} {s:Str} (h:encI l=(s,0)):checkI l=true∧s=itsB l:=by
  unfold encI at h;split at h
  · rename_i hc
    exact ⟨hc,(congrArg Prod.fst h).symm⟩
  · exact absurd (show (160:Int)=0 from congrArg Prod.snd h) (by decide)
theorem decR_enc {l:List It} {s:Str} (h:encI l=(s,0)):decR s=(l,0):=by
  obtain ⟨hc,rfl⟩:=enc_ok h;unfold decR;rw [read_itsB hc];exact if_pos h
theorem decR_ok {s:Str} (h:(decR s).2=0):encI (decR s).1=(s,0):=by
  unfold decR at h ⊢;split at h
  · exact absurd (show (160:Int)=0 from h) (by decide)
  · rename_i y hy
    split at h
    · rename_i he
      rw [if_pos he];exact he
    · exact absurd (show (160:Int)=0 from h) (by decide)
end Go.Gx
namespace Go.Gx
open Go.Proofs
structure Tk where
  pos:Nat
  parts:Nat
  bad:Bool
def tkNum (s:Str) (most:Nat) (t:Tk):Nat × Tk:=
  if t.bad=true∨(takeNum s t.pos).2.2≠0∨most<(takeNum s t.pos).1 then (0,⟨t.pos,t.parts,true⟩) else ((takeNum s t.pos).1,⟨(takeNum s t.pos).2.1,t.parts,t.bad⟩)
def tkText (s:Str) (t:Tk):Str × Tk:=
  if t.bad=true∨(takeText s t.pos).2.2≠0 then ([],⟨t.pos,t.parts,true⟩) else ((takeText s t.pos).1,⟨(takeText s t.pos).2.1,t.parts,t.bad⟩)
def tkNames (s:Str):Nat→Tk→List Str × Tk
  | 0,t=>([],t)
  | n+1,t=>if t.bad=true then ([],t) else ((tkText s t).1 :: (tkNames s n (tkText s t).2).1,(tkNames s n (tkText s t).2).2)
def tkParts (f:Tk→Sh × Tk):Nat→Tk→List Sh × Tk
  | 0,t=>([],t)
  | n+1,t=>if t.bad=true then ([],t) else ((f t).1 :: (tkParts f n (f t).2).1,(tkParts f n (f t).2).2)
structure Hd where
  kind:Nat
  of:Str
  name:Str
  names:List Str
  count:Nat
def tkHead (s:Str) (t:Tk):Hd × Tk:=
  let k:=tkNum s 10 t
  let o:=tkText s k.2
  let n:=tkText s o.2
  let m:=tkNum s 400 n.2
  let ns:=tkNames s m.1 m.2
  let c:=tkNum s 400 ns.2
  (⟨k.1,o.1,n.1,ns.1,c.1⟩,c.2)
def tkIn (L:Nat) (t:Tk):Tk:=⟨t.pos,t.parts+1,t.bad || decide (L=0) || decide (400<t.parts+1)⟩
def Hd.sh (h:Hd) (ps:List Sh):Sh:=.mk h.kind h.of h.name h.names ps
def tkSh (s:Str):Nat→Tk→Sh × Tk
  | 0,t=>((tkHead s t).1.sh [],tkIn 0 (tkHead s t).2)
  | L+1,t=>((tkHead s t).1.sh (tkParts (tkSh s L) (tkHead s t).1.count (tkIn (L+1) (tkHead s t).2)).1,(tkParts (tkSh s L) (tkHead s t).1.count (tkIn (L+1) (tkHead s t).2)).2)
def tkItem (s:Str) (t:Tk):It × Tk:=
  let k:=tkNum s 3 t
  let n:=tkText s k.2
  if k.1=2∨n.2.bad=true then (⟨k.1,n.1,.mk 0 [] [] [] []⟩,n.2)
  else (⟨k.1,n.1,(tkSh s 40 ⟨n.2.pos,0,n.2.bad⟩).1⟩,(tkSh s 40 ⟨n.2.pos,0,n.2.bad⟩).2)
def tkItems (s:Str):Nat→Tk→List It × Tk
  | 0,t=>([],t)
  | n+1,t=>((tkItem s t).1 :: (tkItems s n (tkItem s t).2).1,(tkItems s n (tkItem s t).2).2)
noncomputable def decP (s:Str):List It × Int:=
  let n:=tkNum s 60 ⟨0,0,false⟩
  let y:=tkItems s n.1 n.2
  if y.2.bad=true∨(encI y.1).2≠0∨(encI y.1).1≠s then ([],160) else (y.1,0)
theorem tkNum_numB {n most p:Nat} (hn:n≤20000) (hm:n≤most) (pre rest:Str):tkNum (pre++numB n++rest) most ⟨pre.length,p,false⟩=(n,⟨pre.length+(numB n).length,p,false⟩):=by
  unfold tkNum;dsimp only;rw [takeNum_numB hn pre rest];rw [if_neg (by simp;omega)]
theorem tkText_textB {s:Str} {p:Nat} (hs:s.length≤20000) (pre rest:Str):tkText (pre++textB s++rest) ⟨pre.length,p,false⟩=(s,⟨pre.length+(textB s).length,p,false⟩):=by
  unfold tkText;dsimp only;rw [takeText_textB hs pre rest];rw [if_neg (by simp)]
theorem tkNames_texts (t:Str) (p:Nat):∀ (l:List Str) (pre rest:Str),t=pre++(l.map textB).flatten++rest→(∀ s∈l,s.length≤20000)→tkNames t l.length ⟨pre.length,p,false⟩=(l,⟨pre.length+((l.map textB).flatten).length,p,false⟩)
  | [],_,_,_,_=>rfl
  | x :: l,pre,rest,ht,h=>by
    have e1:t=pre++textB x++((l.map textB).flatten++rest):=by rw [ht];simp only [List.map_cons,List.flatten_cons,List.append_assoc]
    have e2:t=(pre++textB x)++(l.map textB).flatten++rest:=by rw [e1];simp only [List.append_assoc]
    have h1:=tkText_textB (p:=p) (h x (by simp)) pre ((l.map textB).flatten++rest);rw [← e1] at h1;have ih:=tkNames_texts t p l (pre++textB x) rest e2 (fun y hy=>h y (List.mem_cons_of_mem _ hy));rw [List.length_append] at ih;rw [List.length_cons,tkNames,if_neg (by simp),h1];dsimp only;rw [ih];simp only [List.map_cons,List.flatten_cons,List.length_append,Nat.add_assoc]
theorem tkHead_bytes {t:Str} {k:Int} {o n:Str} {ns:List Str} {ps:List Sh} {p:Nat} (pre rest:Str) (ht:t=pre++(Sh.mk k o n ns ps).bytes++rest) (hg:goodB (.mk k o n ns ps)=true):
    ∃ pre',t=pre'++bytesL ps++rest∧pre'.length+(bytesL ps).length=pre.length+(Sh.mk k o n ns ps).bytes.length∧tkHead t ⟨pre.length,p,false⟩=(⟨k.toNat,o,n,ns,ps.length⟩,⟨pre'.length,p,false⟩)∧((k.toNat:Nat):Int)=k:=by
  unfold goodB at hg;simp only [Bool.and_eq_true] at hg;obtain ⟨⟨⟨⟨⟨⟨a1,a2⟩,a3⟩,a4⟩,a5⟩,a6⟩,a7⟩:=hg;have a1:0≤k:=of_decide_eq_true a1;have a2:k≤10:=of_decide_eq_true a2;have a3:o.length≤20000:=of_decide_eq_true a3;have a4:n.length≤20000:=of_decide_eq_true a4;have a5:ns.length≤400:=of_decide_eq_true a5;have a6:∀ s∈ns,s.length≤20000:=fun s hs=>of_decide_eq_true (List.all_eq_true.1 a6 s hs)
  have a7:ps.length≤400:=of_decide_eq_true a7;have b1:t=pre++numB k.toNat++(textB o++(textB n++(listB ns++(numB ps.length++bytesL ps)))++rest):=by rw [ht,Sh.bytes];simp only [List.append_assoc]
  have b2:t=(pre++numB k.toNat)++textB o++(textB n++(listB ns++(numB ps.length++bytesL ps))++rest):=by rw [b1];simp only [List.append_assoc]
  have b3:t=(pre++numB k.toNat++textB o)++textB n++(listB ns++(numB ps.length++bytesL ps)++rest):=by rw [b2];simp only [List.append_assoc]
  have b4:t=(pre++numB k.toNat++textB o++textB n)++numB ns.length++((ns.map textB).flatten++(numB ps.length++bytesL ps)++rest):=by rw [b3];unfold listB;simp only [List.append_assoc]
  have b5:t=(pre++numB k.toNat++textB o++textB n++numB ns.length)++(ns.map textB).flatten++((numB ps.length++bytesL ps)++rest):=by rw [b4];simp only [List.append_assoc]
  have b6:t=(pre++numB k.toNat++textB o++textB n++numB ns.length++(ns.map textB).flatten)++numB ps.length++(bytesL ps++rest):=by rw [b5];simp only [List.append_assoc]
  have b7:t=(pre++numB k.toNat++textB o++textB n++numB ns.length++(ns.map textB).flatten++numB ps.length)++bytesL ps++rest:=by rw [b6];simp only [List.append_assoc]
  have c1:=tkNum_numB (n:=k.toNat) (most:=10) (p:=p) om_ om_ pre (textB o++(textB n++(listB ns++(numB ps.length++bytesL ps)))++rest);rw [← b1] at c1;have c2:=tkText_textB (p:=p) a3 (pre++numB k.toNat) (textB n++(listB ns++(numB ps.length++bytesL ps))++rest);rw [← b2] at c2;have c3:=tkText_textB (p:=p) a4 (pre++numB k.toNat++textB o) (listB ns++(numB ps.length++bytesL ps)++rest);rw [← b3] at c3;have c4:=tkNum_numB (n:=ns.length) (most:=400) (p:=p) om_ a5 (pre++numB k.toNat++textB o++textB n) ((ns.map textB).flatten++(numB ps.length++bytesL ps)++rest);rw [← b4] at c4;have c5:=tkNames_texts t p ns (pre++numB k.toNat++textB o++textB n++numB ns.length) ((numB ps.length++bytesL ps)++rest) b5 a6;have c6:=tkNum_numB (n:=ps.length) (most:=400) (p:=p) om_ a7 (pre++numB k.toNat++textB o++textB n++numB ns.length++(ns.map textB).flatten) (bytesL ps++rest);rw [← b6] at c6;refine ⟨_,b7,?_,?_,by omega⟩
  · rw [Sh.bytes];unfold listB;simp only [List.length_append];omega
  · simp only [List.length_append] at c2 c3 c4 c5 c6;unfold tkHead;dsimp only;rw [c1];dsimp only;rw [c2];dsimp only;rw [c3];dsimp only;rw [c4];dsimp only;rw [c5];dsimp only;rw [c6];simp only [List.length_append]
theorem tkParts_bytes {t:Str} {L:Nat}:∀ (ps:List Sh) (pre rest:Str) (q:Nat),t=pre++bytesL ps++rest→q+sizeL ps≤400→(∀ p∈ps,∀ pre rest q,t=pre++p.bytes++rest→q+p.size≤400→tkSh t L ⟨pre.length,q,false⟩=(p,⟨pre.length+p.bytes.length,q+p.size,false⟩))→tkParts (tkSh t L) ps.length ⟨pre.length,q,false⟩=(ps,⟨pre.length+(bytesL ps).length,q+sizeL ps,false⟩)
  | [],pre,rest,q,_,_,_=>rfl
  | p :: ps,pre,rest,q,ht,hq,h=>by
    rw [sizeL] at hq;have e1:t=pre++p.bytes++(bytesL ps++rest):=by rw [ht,bytesL];simp only [List.append_assoc]
    have e2:t=(pre++p.bytes)++bytesL ps++rest:=by rw [e1];simp only [List.append_assoc]
    have h1:=h p (by simp) pre _ q e1 om_;have ih:=tkParts_bytes ps (pre++p.bytes) rest (q+p.size) e2 om_ (fun x hx=>h x (List.mem_cons_of_mem _ hx));rw [List.length_append] at ih;rw [List.length_cons,tkParts,if_neg (by simp),h1];dsimp only;rw [ih,bytesL,sizeL,List.length_append,Nat.add_assoc,Nat.add_assoc]
theorem tkSh_bytes (t:Str):∀ (L:Nat) (s:Sh) (pre rest:Str) (q:Nat),t=pre++s.bytes++rest→s.deep≤L→s.allB goodB=true→q+s.size≤400→tkSh t L ⟨pre.length,q,false⟩=(s,⟨pre.length+s.bytes.length,q+s.size,false⟩)
  | 0,.mk k o n ns ps,_,_,_,_,hd,_,_=>by
    rw [Sh.deep] at hd;omega
  | L+1,.mk k o n ns ps,pre,rest,q,ht,hd,hg,hq=>by
    rw [Sh.deep] at hd;rw [Sh.allB,Bool.and_eq_true] at hg;rw [Sh.size] at hq;obtain ⟨pre',h1,h2,h3,h4⟩:=tkHead_bytes (p:=q) pre rest ht hg.1;have h5:=tkParts_bytes (L:=L) ps pre' rest (q+1) h1 om_ (fun p hp pre' rest' q' e hq'=>tkSh_bytes t L p pre' rest' q' e (by have:=deepL_mem hp;omega) (allL_mem hg.2 p hp) hq');have h6:tkIn (L+1) ⟨pre'.length,q,false⟩=⟨pre'.length,q+1,false⟩:=by
      unfold tkIn;dsimp only;rw [decide_eq_false om_,decide_eq_false om_];rfl
    rw [tkSh,h3];dsimp only;rw [h6,h5];dsimp only;unfold Hd.sh;dsimp only;rw [h4,h2,Sh.size];simp only [Prod.mk.injEq,Tk.mk.injEq,true_and,and_true];omega
theorem item_size {x:It} (h:itemOk x=true):x.kind≠2→x.sh.size≤400:=by
  intro hk;unfold itemOk at h;rw [if_neg hk] at h;split at h
  · rw [Bool.and_eq_true] at h;exact (closed_good h.1).2.2
  · cases h
theorem tkItem_itB {x:It} {q:Nat} (h:itemOk x=true) (t pre rest:Str) (ht:t=pre++itB x++rest):∃ q',tkItem t ⟨pre.length,q,false⟩=(x,⟨pre.length+(itB x).length,q',false⟩):=by
  obtain ⟨p1,p2,p3,p4,p5⟩:=item_props h;have p6:=item_size h;obtain ⟨k,n,s⟩:=x;dsimp only at *;have b1:t=pre++numB k.toNat++(textB n++(if k=2 then [] else s.bytes)++rest):=by rw [ht];unfold itB;simp only [List.append_assoc]
  have b2:t=(pre++numB k.toNat)++textB n++((if k=2 then [] else s.bytes)++rest):=by rw [b1];simp only [List.append_assoc]
  have c1:=tkNum_numB (n:=k.toNat) (most:=3) (p:=q) om_ om_ pre (textB n++(if k=2 then [] else s.bytes)++rest);rw [← b1] at c1;have c2:=tkText_textB (p:=q) p3 (pre++numB k.toNat) ((if k=2 then [] else s.bytes)++rest);rw [← b2] at c2;simp only [List.length_append] at c2;have ek:((k.toNat:Nat):Int)=k:=by omega
  unfold tkItem;dsimp only;rw [c1];dsimp only;rw [c2];dsimp only;by_cases hk:k=2
  · refine ⟨q,?_⟩;rw [if_pos (.inl om_),ek,p4 hk];unfold itB;simp only [hk,if_true,List.append_nil,List.length_append];congr 2;rw [← hk];omega
  · have b3:t=(pre++numB k.toNat++textB n)++s.bytes++rest:=by rw [b2,if_neg hk];simp only [List.append_assoc]
    have c3:=tkSh_bytes t 40 s (pre++numB k.toNat++textB n) rest 0 b3 (p5 hk).2 (p5 hk).1 (by have:=p6 hk;omega);simp only [List.length_append] at c3;refine ⟨s.size,?_⟩;rw [if_neg (by simp;omega),c3,ek];unfold itB;rw [if_neg hk];simp only [List.length_append,Prod.mk.injEq,Tk.mk.injEq,true_and,and_true];omega
theorem tkItems_itB:∀ (l:List It) (q:Nat) (t pre rest:Str),(∀ x∈l,itemOk x=true)→t=pre++(l.map itB).flatten++rest→∃ q',tkItems t l.length ⟨pre.length,q,false⟩=(l,⟨pre.length+((l.map itB).flatten).length,q',false⟩)
  | [],q,_,_,_,_,_=>⟨q,rfl⟩
  | x :: l,q,t,pre,rest,h,ht=>by
    have e1:t=pre++itB x++((l.map itB).flatten++rest):=by rw [ht];simp only [List.map_cons,List.flatten_cons,List.append_assoc]
    have e2:t=(pre++itB x)++(l.map itB).flatten++rest:=by rw [e1];simp only [List.append_assoc]
    obtain ⟨q1,h1⟩:=tkItem_itB (q:=q) (h x (by simp)) t pre _ e1;obtain ⟨q2,ih⟩:=tkItems_itB l q1 t (pre++itB x) rest (fun y hy=>h y (List.mem_cons_of_mem _ hy)) e2;rw [List.length_append] at ih;refine ⟨q2,?_⟩;rw [List.length_cons,tkItems,h1];dsimp only;rw [ih];simp only [List.map_cons,List.flatten_cons,List.length_append,Nat.add_assoc]
theorem decP_enc {l:List It} {s:Str} (h:encI l=(s,0)):decP s=(l,0):=by
  obtain ⟨hc,rfl⟩:=enc_ok h;obtain ⟨h1,h2⟩:=check_items hc;have c1:=tkNum_numB (n:=l.length) (most:=60) (p:=0) om_ h1 [] (l.map itB).flatten;rw [List.nil_append,List.length_nil,Nat.zero_add] at c1;have c1:tkNum (itsB l) 60 ⟨0,0,false⟩=(l.length,⟨(numB l.length).length,0,false⟩):=c1;obtain ⟨q,c2⟩:=tkItems_itB l 0 (itsB l) (numB l.length) [] h2 (by unfold itsB;rw [List.append_nil]);unfold decP;dsimp only;rw [c1];dsimp only;rw [c2];dsimp only;rw [if_neg (by rw [h];simp)]
theorem decP_ok {l:List It} {s:Str} (h:decP s=(l,0)):encI l=(s,0):=by
  unfold decP at h;dsimp only at h;split at h
  · exact absurd (show (160:Int)=0 from congrArg Prod.snd h) (by decide)
  · rename_i he
    simp only [not_or,Decidable.not_not] at he;have hl:=congrArg Prod.fst h;dsimp only at hl;rw [← hl];exact Prod.ext he.2.2 he.2.1
theorem dec_two (s:Str):(decP s).2=0∨decP s=([],160):=by
  unfold decP;dsimp only;split
  · exact .inr rfl
  · exact .inl rfl
theorem decR_two (s:Str):(decR s).2=0∨decR s=([],160):=by
  unfold decR;split
  · exact .inr rfl
  · split
    · exact .inl rfl
    · exact .inr rfl
theorem dec_eq (s:Str):decP s=decR s:=by
  rcases decR_two s with h | h
  · have h1:=decR_ok h;rw [decP_enc h1];exact Prod.ext rfl h.symm
  · rcases dec_two s with h2 | h2
    · have h3:=decP_ok (l:=(decP s).1) (Prod.ext rfl h2);have h4:=decR_enc h3;rw [h4];exact Prod.ext rfl h2
    · rw [h,h2]
end Go.Gx
namespace Go.Gx
open Go.Proofs
theorem keql_mixed:Tryz.prog.follows .mixedOrders=true:=by kernel_rfl
theorem keql_oc9:oneCellT Tryz.prog 9=true:=by kernel_rfl
theorem keql_sz9:(Tryz.prog.info? 9).map (·.size)=some 1:=by kernel_rfl
theorem strs_eq (A A':Nat→Prop) (v u:Value) (l m:List Str) (w:World) (hl:StrsAt A w v l) (hm:StrsAt A' w u m):
    Ret Tryz.prog 72 #[v,u] w fun r w'=>r=.bool (decide (l=m))∧Bel w w':=by
  obtain ⟨p,cap,rfl,-,-,l3,-⟩:=id hl;obtain ⟨q,qap,rfl,-,-,m3,-⟩:=id hm;refine ret_of_W Tryz.func72 rfl (Nat.le_of_ble_eq_true rfl) (res1 rfl) ?_;have hB:=Gr.refl (fun _=>False) w;refine W.seq (W.region (L.val (x_as (v:=.bool _) rfl) rfl ?_));refine L.nil (thn_n (W.seq (W.seq (W.region (L.val (x_mv (v:=.slice _ _ _) rfl) rfl ?_)))));refine L.val (x_len_slice Tryz.underlying38 rfl) rfl ?_;refine L.val (x_mv (v:=.slice _ _ _) rfl) rfl ?_;refine L.val (x_len_slice Tryz.underlying38 rfl) rfl ?_;refine L.val (x_neq rfl rfl) rfl ?_;refine L.nil (thn_n (W.cond (b:=_) rfl (fun g10=>?_) (fun g10=>?_)))
  ·have h10:=dne_t g10;refine W.seq (W.region (L.val (x_as (v:=.bool _) rfl) rfl ?_));refine L.nil (thn_n (W.ret (thn_r (fin_mk (.inr rfl) ?_))));exact ⟨vb (Eq.symm (decide_eq_false (by rintro rfl;omega))),hB⟩
  ·have h10:=dne_f g10;refine W.skip (thn_n (W.seq (W.seq (W.region (L.val (x_mv (v:=.slice _ _ _) rfl) rfl ?_)))));refine L.val (x_len_slice Tryz.underlying38 rfl) rfl ?_;refine L.val (x_mv (v:=.int _ _) rfl) rfl ?_;refine L.nil (thn_n (W.block (W.loop (fun m' E w'=>∃ (k:Nat),m'=l.length - k∧E 0=.slice p l.length cap∧E 1=.slice q m.length qap∧E 12=.int .i64 (l.length:Nat)∧E 13=.int .i64 (k:Nat)∧(Bel w w')∧(StrsAt A w' (.slice p l.length cap) l)∧(StrsAt A' w' (.slice q m.length qap) m)∧(k≤l.length)∧(l.take k=m.take k)) (l.length) ?_ ?_)))
   ·exact ⟨0,by omega,vi_,vi_,vi_,vi_,ao_,ao_,ao_,ao_,(by rfl)⟩
   ·rintro _ E wL14 ⟨k,em,e0,e1,e12,e13,hB,hl,hm,hk,ht⟩;rw [upd_self e0,upd_self e1,upd_self e12,upd_self e13];refine W.seq (W.region (L.val (x_lss rfl rfl) rfl ?_));refine L.nil (thn_n (W.seq (W.cond (b:=_) rfl (fun g14=>?_) (fun g14=>?_))))
    ·have h14:=of_decide_eq_true g14;have hlt:k<l.length:=by omega
     have hlt':k<m.length:=by omega
     obtain ⟨b,o,rfl,-⟩:=hl.elem hlt;obtain ⟨b',o',rfl,-⟩:=hm.elem hlt';refine W.skip (thn_n (W.seq (W.block (W.seq (W.region (L.val (x_mv (v:=.int _ _) rfl) rfl ?_))))));refine L.val (x_as (v:=.int _ _) rfl) rfl ?_;refine L.nil (thn_n (W.seq (W.drawB keql_mixed kr_ ?_)));refine LQ.val (fun w hw=>x_mv (v:=.slice _ _ _) rfl) rfl ?_;refine LQ.val (fun w hw=>x_mv (v:=.int _ _) rfl) rfl ?_;refine LQ.val (fun w hw=>x_ia1 (j:=k) Tryz.underlying38 keql_sz9 rfl rfl om_ om_) rfl ?_;refine LQ.val (fun w hw=>x_ld (v:=S _) keql_oc9 rfl (hw.keep (hl.elemAt hlt))) rfl ?_;refine LQ.val (fun w hw=>x_mv (v:=.slice _ _ _) rfl) rfl ?_;refine LQ.val (fun w hw=>x_mv (v:=.int _ _) rfl) rfl ?_;refine LQ.val (fun w hw=>x_ia1 (j:=k) Tryz.underlying38 keql_sz9 rfl rfl om_ om_) rfl ?_;refine LQ.val (fun w hw=>x_ld (v:=S _) keql_oc9 rfl (hw.keep (hm.elemAt hlt'))) rfl ?_;refine LQ.val (fun w hw=>x_nes rfl rfl) rfl ?_;refine LQ.nil ?_;intro w16 hw;have hB:=hB.carry hw;have hl:=hl.carry hw;have hm:=hm.carry hw;refine thn_n (W.cond (b:=_) rfl (fun g24=>?_) (fun g24=>?_))
     ·have h24:=sne_t g24;refine W.seq (W.region (L.val (x_as (v:=.bool _) rfl) rfl ?_));refine L.nil (thn_n (W.ret (blk_r (thn_r (thn_r (blk_r (thn_r (fin_mk (.inr rfl) ?_))))))));exact ⟨vb (Eq.symm (decide_eq_false (by rintro rfl;exact h24 rfl))),hB⟩
     ·have h24:=sne_f g24;refine W.skip (blk_n (thn_n (W.region (L.val (x_add rfl rfl (wr64 om_)) rfl ?_))));refine L.val (x_mv (v:=.int _ _) rfl) rfl ?_;refine L.nil (thn_n ⟨rfl,?_⟩);refine ⟨_,?_,k+1,rfl,vi_,vi_,vi_,vi_,ao_,ao_,ao_,ao_,(by exact take_eq_snoc (d:=[]) hlt hlt' ht h24)⟩;omega
    ·have h14:=dlt_f g14;refine W.exit (thn_x (thn_x (blk_hit ?_)));refine thn_n (W.seq (W.region (L.val (x_as (v:=.bool _) rfl) rfl ?_)));refine L.nil (thn_n (W.ret (fin_mk (.inr rfl) ?_)));rw [List.take_of_length_le om_,List.take_of_length_le om_] at ht;exact ⟨vb (Eq.symm (decide_eq_true ht)),hB⟩
open Classical in
noncomputable def eqL (l m:List Sh):Bool:=decide (l=m)
theorem eqL_t {a b:List Sh} (h:a=b):eqL a b=true:=by unfold eqL;simpa using h
theorem eqL_f {a b:List Sh} (h:a≠b):eqL a b=false:=by unfold eqL;simpa using h
theorem eqL_iff {a b:List Sh}:eqL a b=true↔a=b:=by unfold eqL;simp
end Go.Gx
