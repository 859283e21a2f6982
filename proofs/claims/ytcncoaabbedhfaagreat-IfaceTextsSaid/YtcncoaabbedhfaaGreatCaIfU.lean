/- What the texts of interfaces tell: each text belongs to one interface alone. Conditions: none. -/
import Derived.Test.YtcncoaabbedhfaaGreatCaShow
import Derived.Test.YtcncoaabbedhfaaGreatCaIfI
import Derived.Test.YtcncoaabbedhfaaGreatCaText
namespace Go.Gx
open Go.Proofs
def nr:Str→Bool | []=>true | c :: _=>!isRest c
theorem word_inj:∀ {n m r q:Str},n.all isRest=true→m.all isRest=true→nr r=true→nr q=true→n++r=m++q→n=m∧r=q
  | [],[],_,_,_,_,_,_,h=>⟨rfl,h⟩
  | [],c :: m,r,q,_,hm,hr,_,h=>by
    rw [List.nil_append] at h;rw [h] at hr;rw [List.all_cons,Bool.and_eq_true] at hm;rw [List.cons_append,nr,hm.1] at hr;cases hr
  | c :: n,[],r,q,hn,_,_,hq,h=>by
    rw [List.nil_append] at h;rw [← h] at hq;rw [List.all_cons,Bool.and_eq_true] at hn;rw [List.cons_append,nr,hn.1] at hq;cases hq
  | c :: n,d :: m,r,q,hn,hm,hr,hq,h=>by
    rw [List.all_cons,Bool.and_eq_true] at hn hm;rw [List.cons_append,List.cons_append,List.cons.injEq] at h;obtain ⟨h1,h2⟩:=word_inj hn.2 hm.2 hr hq h.2;exact ⟨by rw [h.1,h1],h2⟩
theorem upperS_rest {n:Str} (h:upperS n=true):n.all isRest=true:=by
  simp only [upperS,namedS,Bool.and_eq_true] at h;exact h.2
theorem nameS_rest {n:Str} (h:nameS n=true):n.all isRest=true:=by
  simp only [nameS,namedS,Bool.and_eq_true] at h;exact h.1.2
theorem nameS_head {n:Str} (h:nameS n=true):∃ c t,n=c :: t∧isSmall c=true:=by
  simp only [nameS,namedS,Bool.and_eq_true] at h;cases n with
  | nil=>exact absurd h.1.1.1 (by simp [headIs])
  | cons c t=>exact ⟨c,t,rfl,h.1.1.1⟩
def InjT {α : Type} (f:α → Str) (g:α → Prop) (a:α):Prop:=∀ b r q,g b→nr r=true→nr q=true→f a++r=f b++q→a=b∧r=q
def tls {α : Type} (sep close:Str) (f:α → Str):List α → Str | []=>close | x :: l=>sep++(f x++tls sep close f l)
theorem join_tls {α : Type} {sep close:Str} {f:α → Str}:∀ (x:α) (l:List α),join sep ((x :: l).map f)++close=f x++tls sep close f l
  | x,[]=>rfl
  | x,y :: l=>by
    have ih:=join_tls (sep:=sep) (close:=close) (f:=f) y l;rw [List.map_cons,join_cons (by simp),tls,← ih];simp only [List.append_assoc]
theorem tls_nr {α : Type} {a c:UInt8} {sep close:Str} {f:α → Str} {l:List α} {r:Str} (ha:isRest a=false) (hc:isRest c=false):nr (tls (a :: sep) (c :: close) f l++r)=true:=by
  cases l
  · show (!isRest c)=true;rw [hc];rfl
  · show (!isRest a)=true;rw [ha];rfl
theorem tls_inj {α : Type} {a c:UInt8} {sep close:Str} {f:α → Str} {g:α → Prop} (hac:a≠c) (ha:isRest a=false) (hc:isRest c=false):∀ (l m:List α) (r q:Str),(∀ x∈l,InjT f g x)→(∀ x∈m,g x)→tls (a :: sep) (c :: close) f l++r=tls (a :: sep) (c :: close) f m++q→l=m∧r=q
  | [],[],r,q,_,_,h=>⟨rfl,List.append_cancel_left h⟩
  | [],y :: m,r,q,_,_,h=>by
    rw [tls,tls,List.cons_append,List.cons_append,List.cons_append,List.cons.injEq] at h;exact absurd h.1.symm hac
  | x :: l,[],r,q,_,_,h=>by
    rw [tls,tls,List.cons_append,List.cons_append,List.cons_append,List.cons.injEq] at h;exact absurd h.1 hac
  | x :: l,y :: m,r,q,hl,hm,h=>by
    rw [tls,tls,List.append_assoc,List.append_assoc,List.append_assoc,List.append_assoc] at h;obtain ⟨h1,h2⟩:=hl x (by simp) y _ _ (hm y (by simp)) (tls_nr ha hc) (tls_nr ha hc) (List.append_cancel_left h);obtain ⟨h3,h4⟩:=tls_inj hac ha hc l m r q (fun z hz=>hl z (List.mem_cons_of_mem _ hz)) (fun z hz=>hm z (List.mem_cons_of_mem _ hz)) h2;exact ⟨by rw [h1,h3],h4⟩
theorem join_inj {α : Type} {a c:UInt8} {sep close:Str} {f:α → Str} {g:α → Prop} (hac:a≠c) (ha:isRest a=false) (hc:isRest c=false) (hf:∀ x,g x→∃ b t,f x=b :: t∧b≠c) (l m:List α) (r q:Str) (hg:∀ x∈l,g x) (hl:∀ x∈l,InjT f g x) (hm:∀ x∈m,g x) (h:join (a :: sep) (l.map f)++c :: close++r=join (a :: sep) (m.map f)++c :: close++q):l=m∧r=q:=by
  cases l with
  | nil=>
    cases m with
    | nil=>exact ⟨rfl,List.append_cancel_left h⟩
    | cons y m=>
      rw [join_tls] at h;obtain ⟨b,t,e,hb⟩:=hf y (hm y (by simp));rw [e] at h;have h:c :: _=b :: _:=h;rw [List.cons.injEq] at h;exact absurd h.1.symm hb
  | cons x l=>
    cases m with
    | nil=>
      rw [join_tls] at h;obtain ⟨b,t,e,hb⟩:=hf x (hg x (by simp));rw [e] at h;have h:b :: _=c :: _:=h;rw [List.cons.injEq] at h;exact absurd h.1 hb
    | cons y m=>
      rw [join_tls,join_tls,List.append_assoc,List.append_assoc] at h;obtain ⟨h1,h2⟩:=hl x (by simp) y _ _ (hm y (by simp)) (tls_nr ha hc) (tls_nr ha hc) h;obtain ⟨h3,h4⟩:=tls_inj hac ha hc l m r q (fun z hz=>hl z (List.mem_cons_of_mem _ hz)) (fun z hz=>hm z (List.mem_cons_of_mem _ hz)) h2;exact ⟨by rw [h1,h3],h4⟩
def gS (s:Sh):Prop:=s.allB fitsS=true∧s.allB notName=true
theorem gS_parts {k:Int} {o n:Str} {ns:List Str} {ps:List Sh} (h:gS (.mk k o n ns ps)):∀ p∈ps,gS p:=by
  obtain ⟨h1,h2⟩:=h;rw [Sh.allB,Bool.and_eq_true] at h1 h2;exact fun p hp=>⟨allL_mem h1.2 p hp,allL_mem h2.2 p hp⟩
theorem gS_cases {k:Int} {o n:Str} {ns:List Str} {ps:List Sh} (h:gS (.mk k o n ns ps)):
    (k=10∧nameS o=true∧upperS n=true∧ns=[]∧ps=[])∨
    (o=[]∧n=[]∧(((k=6∨k=7)∧(∀ x∈ns,nameS x=true)∧ns.length=ps.length)∨(ns=[]∧((k=8∧1≤ps.length)∨(k=5∧ps.length=1)∨(1≤k∧k≤4∧ps=[]))))):=by
  obtain ⟨h1,h2⟩:=h;rw [Sh.allB,Bool.and_eq_true] at h1 h2;have hf:=h1.1;have hk:k≠9:=by
    have:=h2.1;unfold notName at this;exact of_decide_eq_false (by simpa using this:decide ((Sh.mk k o n ns ps).kind=9)=false)
  unfold fitsS at hf;split at hf
  · rename_i h9
    simp only [Bool.or_eq_true,decide_eq_true_eq] at h9;have h9:k=9∨k=10:=h9;have hk:k=10:=by omega
    simp only [Bool.and_eq_true,Bool.or_eq_true,decide_eq_true_eq] at hf;obtain ⟨⟨⟨a1,a2⟩,a3⟩,a4⟩:=hf;refine .inl ⟨hk,?_,a1,List.eq_nil_of_length_eq_zero (by have:(ns.length:Int)=0:=a3;omega),List.eq_nil_of_length_eq_zero (by have:(ps.length:Int)=0:=a4;omega)⟩;rcases a2 with a2 | a2
    · exact a2
    · exact absurd (show k=9 from a2.1.2) om_
  · split at hf
    · cases hf
    · rename_i hb
      simp only [Bool.or_eq_true,Bool.not_eq_true',not_or,Bool.not_eq_false] at hb;have e1:o=[]:=beq_iff_eq.1 hb.1;have e2:n=[]:=beq_iff_eq.1 hb.2;refine .inr ⟨e1,e2,?_⟩;split at hf
      · rename_i h6
        simp only [Bool.or_eq_true,decide_eq_true_eq] at h6;unfold namesOk at hf;simp only [Bool.and_eq_true,List.all_eq_true,decide_eq_true_eq] at hf;exact .inl ⟨h6,hf.1.1,by have:(ns.length:Int)=ps.length:=hf.2;omega⟩
      · split at hf
        · cases hf
        · rename_i hns
          have e3:ns=[]:=List.eq_nil_of_length_eq_zero (by have:¬ (0:Int)<ns.length:=hns;omega);refine .inr ⟨e3,?_⟩;split at hf
          · rename_i h8
            exact .inl ⟨h8,by have:(1:Int)≤ps.length:=of_decide_eq_true hf;omega⟩
          · split at hf
            · rename_i h5
              exact .inr (.inl ⟨h5,by have:(ps.length:Int)=1:=of_decide_eq_true hf;omega⟩)
            · simp only [Bool.and_eq_true,decide_eq_true_eq] at hf;exact .inr (.inr ⟨hf.1.1,hf.1.2,List.eq_nil_of_length_eq_zero (by have:(ps.length:Int)=0:=hf.2;omega)⟩)
def hkind (c:UInt8):Int:=if c=73 then 1 else if c=66 then 2 else if c=84 then 3 else if c=65 then 4 else if c=91 then 5 else if c=123 then 6 else if c=60 then 7 else if c=40 then 8 else 10
theorem hkind_small {c:UInt8} (h:isSmall c=true):hkind c=10:=by
  unfold hkind
  repeat' split
  all_goals first | rfl | (rename_i e;subst e;exact absurd h (by decide))
theorem text_head {s:Sh} (h:gS s):∃ c t,s.text=c :: t∧hkind c=s.kind:=by
  obtain ⟨k,o,n,ns,ps⟩:=s;rw [Sh.text];unfold textOf;show ∃ c t,_=c :: t∧hkind c=k;rcases gS_cases h with ⟨rfl,a1,a2,-,-⟩ | ⟨rfl,rfl,⟨rfl | rfl,-⟩ | ⟨-,⟨rfl,-⟩ | ⟨rfl,-⟩ | ⟨h1,h4,-⟩⟩⟩
  · obtain ⟨c,t,rfl,hc⟩:=nameS_head a1;exact ⟨c,_,rfl,hkind_small hc⟩
  · exact ⟨123,_,rfl,rfl⟩
  · exact ⟨60,_,rfl,rfl⟩
  · exact ⟨40,_,rfl,rfl⟩
  · exact ⟨91,_,rfl,rfl⟩
  · have hk:k=1∨k=2∨k=3∨k=4:=by omega
    rcases hk with rfl | rfl | rfl | rfl
    · exact ⟨73,_,rfl,rfl⟩
    · exact ⟨66,_,rfl,rfl⟩
    · exact ⟨84,_,rfl,rfl⟩
    · exact ⟨65,_,rfl,rfl⟩
def labT (x:Str × Sh):Str:=x.1++([58,32]++x.2.text)
def gL (x:Str × Sh):Prop:=nameS x.1=true∧gS x.2
theorem lab_zip:∀ (ns:List Str) (ps:List Sh),ns.length=ps.length→lab ns (ps.map Sh.text)=(ns.zip ps).map labT:=by
  have key:∀ (ns:List Str) (ps:List Sh),List.zipWith (fun n t=>n++[58,32]++t) ns (ps.map Sh.text)=(ns.zip ps).map labT:=by
    intro ns;induction ns with
    | nil=>intro ps;simp
    | cons n ns ih=>
      intro ps;cases ps with
      | nil=>simp
      | cons p ps=>
        have ih:=ih ps;simp only [List.map_cons,List.zipWith_cons_cons,List.zip_cons_cons];rw [ih];simp only [labT,List.append_assoc]
  intro ns ps h;unfold lab;split
  · rename_i e
    subst e;have:ps=[]:=List.eq_nil_of_length_eq_zero (by simpa using h.symm);subst this;rfl
  · exact key ns ps
theorem labT_head (x:Str × Sh) (h:gL x) (c:UInt8) (hc:isSmall c=false):∃ b t,labT x=b :: t∧b≠c:=by
  obtain ⟨b,t,e,hb⟩:=nameS_head h.1;refine ⟨b,t++([58,32]++x.2.text),by unfold labT;rw [e];rfl,fun e=>?_⟩;rw [e,hc] at hb;cases hb
theorem labT_inj {x:Str × Sh} (hx:gL x) (h:InjT Sh.text gS x.2):InjT labT gL x:=by
  intro y r q hy hr hq e;unfold labT at e;simp only [List.append_assoc] at e;obtain ⟨h1,h2⟩:=word_inj (r:=[58,32]++(x.2.text++r)) (q:=[58,32]++(y.2.text++q)) (nameS_rest hx.1) (nameS_rest hy.1) rfl rfl e;obtain ⟨h3,h4⟩:=h y.2 r q hy.2 hr hq (List.append_cancel_left h2);exact ⟨Prod.ext h1 h3,h4⟩
theorem zip_inj {ns ms:List Str} {ps qs:List Sh} (h1:ns.length=ps.length) (h2:ms.length=qs.length) (h:ns.zip ps=ms.zip qs):ns=ms∧ps=qs:=by
  have e1:=congrArg (List.map Prod.fst) h;have e2:=congrArg (List.map Prod.snd) h;rw [List.map_fst_zip om_,List.map_fst_zip om_] at e1;rw [List.map_snd_zip om_,List.map_snd_zip om_] at e2;exact ⟨e1,e2⟩
theorem zip_mem {ns:List Str} {ps:List Sh} {x:Str × Sh} (h:x∈ns.zip ps):x.1∈ns∧x.2∈ps:=List.of_mem_zip (a:=x.1) (b:=x.2) h
theorem fun_text {ps:List Sh} (h:1≤ps.length):∃ l p,ps=l++[p]∧∀ (o n:Str),(Sh.mk 8 o n [] ps).text=[40]++(join [44,32] (l.map Sh.text)++[41,32,45,62,32]++p.text):=by
  have hne:ps≠[]:=fun e=>by rw [e] at h;simp at h
  refine ⟨ps.dropLast,ps.getLast hne,(List.dropLast_concat_getLast hne).symm,fun o n=>?_⟩;obtain ⟨l,p,e⟩:∃ l p,ps=l++[p]:=⟨ps.dropLast,ps.getLast hne,(List.dropLast_concat_getLast hne).symm⟩;subst e;rw [Sh.text,textL_eq];unfold textOf lab;rw [if_pos rfl];show [40]++join [44,32] ((List.map Sh.text (l++[p])).take ((List.map Sh.text (l++[p])).length - 1))++[41,32,45,62,32]++(List.map Sh.text (l++[p])).getD ((List.map Sh.text (l++[p])).length - 1) []=_;have hn:(List.map Sh.text (l++[p])).length - 1=(List.map Sh.text l).length:=by simp
  rw [hn,List.map_append,List.take_left,List.dropLast_concat];simp [List.getD_eq_getElem?_getD]
theorem sh_head_ne {s:Sh} (h:gS s) (c:UInt8) (hc:hkind c=10∧isSmall c=false):∃ b t,s.text=b :: t∧b≠c:=by
  obtain ⟨b,t,e,hb⟩:=text_head h;refine ⟨b,t,e,fun e2=>?_⟩;subst e2;obtain ⟨k,o,n,ns,ps⟩:=s;have hb:hkind b=k:=hb;rcases gS_cases h with ⟨rfl,a1,-⟩ | ⟨-,-,⟨rfl | rfl,-⟩ | ⟨-,⟨rfl,-⟩ | ⟨rfl,-⟩ | ⟨h1,h4,-⟩⟩⟩
  · obtain ⟨d,u,rfl,hd⟩:=nameS_head a1;rw [Sh.text] at e;unfold textOf at e;have e:d :: _=b :: _:=e;rw [List.cons.injEq] at e;rw [e.1,hc.2] at hd;cases hd
  all_goals (rw [hc.1] at hb;omega)
theorem text_injK {k:Int} {o n:Str} {ns:List Str} {ps:List Sh} (hg:gS (.mk k o n ns ps)) (ih:∀ p∈ps,InjT Sh.text gS p):InjT Sh.text gS (.mk k o n ns ps):=by
  rintro ⟨k',o',n',ms,qs⟩ r q hg' hr hq e;have hk:k=k':=by
    obtain ⟨c,t,e1,h1⟩:=text_head hg;obtain ⟨d,u,e2,h2⟩:=text_head hg';rw [e1,e2,List.cons_append,List.cons_append,List.cons.injEq] at e;have h1:hkind c=k:=h1;have h2:hkind d=k':=h2;rw [← h1,← h2,e.1]
  subst hk;have hp:=gS_parts hg;have hp':=gS_parts hg';rcases gS_cases hg with ⟨rfl,a1,a2,rfl,rfl⟩ | ⟨rfl,rfl,⟨hk,a1,a2⟩ | ⟨rfl,hk⟩⟩
  · rcases gS_cases hg' with ⟨-,b1,b2,rfl,rfl⟩ | ⟨-,-,⟨b0,-⟩ | ⟨-,⟨b0,-⟩ | ⟨b0,-⟩ | ⟨b0,b1,-⟩⟩⟩
    · have ho:o≠[]:=fun e=>by rw [e] at a1;exact absurd a1 (by decide)
      have ho':o'≠[]:=fun e=>by rw [e] at b1;exact absurd b1 (by decide)
      rw [Sh.text,Sh.text] at e;unfold textOf at e;have e:(if o=[] then n else o++[47]++n)++r=(if o'=[] then n' else o'++[47]++n')++q:=e;rw [if_neg ho,if_neg ho',List.append_assoc,List.append_assoc,List.append_assoc,List.append_assoc] at e;obtain ⟨h1,h2⟩:=word_inj (nameS_rest a1) (nameS_rest b1) (by rfl) (by rfl) e;obtain ⟨h3,h4⟩:=word_inj (upperS_rest a2) (upperS_rest b2) hr hq (List.append_cancel_left h2);exact ⟨by rw [h1,h3],h4⟩
    all_goals (exfalso;omega)
  · rcases gS_cases hg' with ⟨b0,-⟩ | ⟨rfl,rfl,⟨-,b1,b2⟩ | ⟨-,⟨b0,-⟩ | ⟨b0,-⟩ | ⟨b0,b1,-⟩⟩⟩
    · exfalso;omega
    · rw [Sh.text,Sh.text,textL_eq,textL_eq,lab_zip _ _ a2,lab_zip _ _ b2] at e;have g1:∀ x∈ns.zip ps,gL x:=fun x hx=>⟨a1 _ (zip_mem hx).1,hp _ (zip_mem hx).2⟩
      have g2:∀ x∈ms.zip qs,gL x:=fun x hx=>⟨b1 _ (zip_mem hx).1,hp' _ (zip_mem hx).2⟩
      have g3:∀ x∈ns.zip ps,InjT labT gL x:=fun x hx=>labT_inj (g1 x hx) (ih _ (zip_mem hx).2)
      have key:ns.zip ps=ms.zip qs∧r=q:=by
        rcases hk with rfl | rfl
        · have e:[123]++join [44,32] ((ns.zip ps).map labT)++[125]++r=[123]++join [44,32] ((ms.zip qs).map labT)++[125]++q:=e;simp only [List.append_assoc] at e;have e:=List.append_cancel_left e;simp only [← List.append_assoc] at e;exact join_inj (by decide) (by decide) (by decide) (fun x hx=>labT_head x hx 125 (by decide)) _ _ r q g1 g3 g2 e
        · have e:[60]++join [32,124,32] ((ns.zip ps).map labT)++[62]++r=[60]++join [32,124,32] ((ms.zip qs).map labT)++[62]++q:=e;simp only [List.append_assoc] at e;have e:=List.append_cancel_left e;simp only [← List.append_assoc] at e;exact join_inj (by decide) (by decide) (by decide) (fun x hx=>labT_head x hx 62 (by decide)) _ _ r q g1 g3 g2 e
      obtain ⟨h1,h2⟩:=zip_inj a2 b2 key.1;exact ⟨by rw [h1,h2],key.2⟩
    all_goals (exfalso;omega)
  · rcases hk with ⟨rfl,a1⟩ | ⟨rfl,a1⟩ | ⟨a1,a2,rfl⟩
    · rcases gS_cases hg' with ⟨b0,-⟩ | ⟨rfl,rfl,⟨b0,-⟩ | ⟨rfl,⟨-,b1⟩ | ⟨b0,-⟩ | ⟨b0,b1,-⟩⟩⟩
      · exfalso;omega
      · exfalso;omega
      · obtain ⟨l,p,rfl,h1⟩:=fun_text a1;obtain ⟨m,p',rfl,h2⟩:=fun_text b1;rw [h1,h2] at e;simp only [List.append_assoc] at e;have e:=List.append_cancel_left e;have e:join [44,32] (l.map Sh.text)++[41,32,45,62,32]++(p.text++r)=join [44,32] (m.map Sh.text)++[41,32,45,62,32]++(p'.text++q):=by simp only [List.append_assoc];exact e
        obtain ⟨h3,h4⟩:=join_inj (by decide) (by decide) (by decide) (fun x hx=>sh_head_ne hx 41 (by decide)) _ _ _ _ (fun x hx=>hp x (by simp [hx])) (fun x hx=>ih x (by simp [hx])) (fun x hx=>hp' x (by simp [hx])) e;obtain ⟨h5,h6⟩:=ih p (by simp) p' r q (hp' p' (by simp)) hr hq h4;exact ⟨by rw [h3,h5],h6⟩
      all_goals (exfalso;omega)
    · rcases gS_cases hg' with ⟨b0,-⟩ | ⟨rfl,rfl,⟨b0,-⟩ | ⟨rfl,⟨b0,-⟩ | ⟨-,b1⟩ | ⟨b0,b1,-⟩⟩⟩
      · exfalso;omega
      · exfalso;omega
      · exfalso;omega
      · obtain ⟨p,rfl⟩:=List.length_eq_one_iff.1 a1;obtain ⟨p',rfl⟩:=List.length_eq_one_iff.1 b1;rw [Sh.text,Sh.text] at e;have e:[91]++p.text++[93]++r=[91]++p'.text++[93]++q:=e;simp only [List.append_assoc] at e;obtain ⟨h1,h2⟩:=ih p (by simp) p' _ _ (hp' p' (by simp)) (by rfl) (by rfl) (List.append_cancel_left e);exact ⟨by rw [h1],List.append_cancel_left h2⟩
      · exfalso;omega
    · rcases gS_cases hg' with ⟨b0,-⟩ | ⟨rfl,rfl,⟨b0,-⟩ | ⟨rfl,⟨b0,-⟩ | ⟨b0,-⟩ | ⟨-,-,rfl⟩⟩⟩
      · exfalso;omega
      · exfalso;omega
      · exfalso;omega
      · exfalso;omega
      · exact ⟨rfl,List.append_cancel_left e⟩
mutual
/-- No two types that may be have texts of which one is the other's beginning. -/
theorem text_inj:∀ s:Sh,gS s→InjT Sh.text gS s
  | .mk _ _ _ _ ps,h=>text_injK h (text_injL ps (gS_parts h))
theorem text_injL:∀ l:List Sh,(∀ p∈l,gS p)→∀ p∈l,InjT Sh.text gS p
  | [],_,_,hp=>nomatch hp
  | x :: l,h,p,hp=>by
    rcases List.mem_cons.1 hp with e | hp
    · rw [e];exact text_inj x (h x (by simp))
    · exact text_injL l (fun y hy=>h y (List.mem_cons_of_mem _ hy)) p hp
end
theorem closed_gS {s:Sh} (h:closedS s=true):gS s:=by
  unfold closedS at h;rw [Bool.and_eq_true] at h;have hc:=of_decide_eq_true h.1;exact ⟨(check_zero hc).2.2,h.2⟩
theorem item_cases {x:It} (h:itemOk x=true):(x.kind=1∧upperS x.name=true∧closedS x.sh=true)∨(x.kind=2∧upperS x.name=true∧x.sh=.mk 0 [] [] [] [])∨(x.kind=3∧nameS x.name=true∧closedS x.sh=true):=by
  unfold itemOk at h;split at h
  · rename_i hk
    simp only [Bool.and_eq_true] at h;exact .inr (.inl ⟨hk,h.1.1,eqS_iff.1 h.2⟩)
  · split at h
    · rename_i h1
      simp only [Bool.or_eq_true,Bool.and_eq_true,decide_eq_true_eq] at h1 h;rcases h1 with h1 | h1
      · exact .inl ⟨h1.1,h1.2.1,h.1⟩
      · exact .inr (.inr ⟨h1.1,h1.2,h.1⟩)
    · cases h
theorem line_inj {x y:It} {r q:Str} (hx:itemOk x=true) (hy:itemOk y=true) (e:lineI x++r=lineI y++q):x=y∧r=q:=by
  obtain ⟨k,n,s⟩:=x;obtain ⟨k',n',s'⟩:=y;unfold lineI at e;rcases item_cases hx with ⟨a0,a1,a2⟩ | ⟨a0,a1,a2⟩ | ⟨a0,a1,a2⟩ <;> rcases item_cases hy with ⟨b0,b1,b2⟩ | ⟨b0,b1,b2⟩ | ⟨b0,b1,b2⟩ <;> dsimp only at a0 a1 a2 b0 b1 b2 <;> subst a0 <;> subst b0
  · have e:[116,121,112,101,32]++n++[32,61,32]++s.text++[10]++r=[116,121,112,101,32]++n'++[32,61,32]++s'.text++[10]++q:=e;simp only [List.append_assoc] at e;obtain ⟨h1,h2⟩:=word_inj (upperS_rest a1) (upperS_rest b1) (by rfl) (by rfl) (List.append_cancel_left e);obtain ⟨h3,h4⟩:=text_inj s (closed_gS a2) s' _ _ (closed_gS b2) (by rfl) (by rfl) (List.append_cancel_left h2);exact ⟨by rw [h1,h3],List.append_cancel_left h4⟩
  · exact absurd (congrArg List.head? e) (by simp)
  · exact absurd (congrArg List.head? e) (by simp)
  · exact absurd (congrArg List.head? e) (by simp)
  · have e:[111,112,97,113,117,101,32]++n++[10]++r=[111,112,97,113,117,101,32]++n'++[10]++q:=e;simp only [List.append_assoc] at e;obtain ⟨h1,h2⟩:=word_inj (upperS_rest a1) (upperS_rest b1) (by rfl) (by rfl) (List.append_cancel_left e);exact ⟨by rw [h1,a2,b2],List.append_cancel_left h2⟩
  · exact absurd (congrArg List.head? e) (by simp)
  · exact absurd (congrArg List.head? e) (by simp)
  · exact absurd (congrArg List.head? e) (by simp)
  · have e:[108,101,116,32]++n++[58,32]++s.text++[10]++r=[108,101,116,32]++n'++[58,32]++s'.text++[10]++q:=e;simp only [List.append_assoc] at e;obtain ⟨h1,h2⟩:=word_inj (nameS_rest a1) (nameS_rest b1) (by rfl) (by rfl) (List.append_cancel_left e);obtain ⟨h3,h4⟩:=text_inj s (closed_gS a2) s' _ _ (closed_gS b2) (by rfl) (by rfl) (List.append_cancel_left h2);exact ⟨by rw [h1,h3],List.append_cancel_left h4⟩
theorem line_ne (x:It):lineI x≠[]:=by
  unfold lineI;split
  · simp
  · split <;> simp
theorem lines_inj:∀ {l m:List It},(∀ x∈l,itemOk x=true)→(∀ x∈m,itemOk x=true)→(l.map lineI).flatten=(m.map lineI).flatten→l=m
  | [],[],_,_,_=>rfl
  | [],y :: m,_,_,h=>by
    rw [List.map_cons,List.flatten_cons] at h;exact absurd (List.append_eq_nil_iff.1 h.symm).1 (line_ne y)
  | x :: l,[],_,_,h=>by
    rw [List.map_cons,List.flatten_cons] at h;exact absurd (List.append_eq_nil_iff.1 h).1 (line_ne x)
  | x :: l,y :: m,hl,hm,h=>by
    rw [List.map_cons,List.flatten_cons,List.map_cons,List.flatten_cons] at h;obtain ⟨h1,h2⟩:=line_inj (hl x (by simp)) (hm y (by simp)) h;rw [h1,lines_inj (fun z hz=>hl z (List.mem_cons_of_mem _ hz)) (fun z hz=>hm z (List.mem_cons_of_mem _ hz)) h2]
theorem show_inj {l m:List It} (h1:checkI l=true) (h2:checkI m=true) (h:(showI l).1=(showI m).1):l=m:=by
  unfold showI at h;rw [if_pos h1,if_pos h2] at h;exact lines_inj (check_items h1).2 (check_items h2).2 h
theorem rise_lt {l:List It} (h:checkI l=true):∀ (j i:Nat),i<j→j<l.length→(l.getD i default).name<(l.getD j default).name:=by
  unfold checkI at h;rw [Bool.and_eq_true,List.all_eq_true] at h;have step:∀ j,0<j→j<l.length→(l.getD (j - 1) default).name<(l.getD j default).name:=by
    intro j h0 hj;have:=h.2 j (List.mem_range.2 hj);unfold okAt at this;rw [Bool.and_eq_true,decide_eq_false om_,Bool.false_or,Go.Proofs.bytesLess_eq] at this;exact of_decide_eq_true this.2
  intro j;induction j with
  | zero=>intro i h;omega
  | succ j ih=>
    intro i hi hj;have h1:=step (j+1) om_ hj;rw [Nat.add_sub_cancel] at h1;rcases Nat.lt_or_ge i j with h2 | h2
    · exact List.lt_trans (ih i h2 om_) h1
    · rw [show i=j by omega];exact h1
theorem fd_self {l:List It} (h:checkI l=true) {i:Nat} (hi:i<l.length):fdI l (l.getD i default).name=i:=by
  refine fd_hit hi (by simp) (fun j hj=>?_);have h1:=rise_lt h i j hj hi;cases hb:(l.getD j default).name == (l.getD i default).name
  · rfl
  · rw [beq_iff_eq] at hb;rw [hb] at h1;exact absurd h1 (List.lt_irrefl _)
theorem read_more {l:List It} (h:checkI l=true) (r:Str):((smallN (itsB l++r) 0 60).bind fun n=>rItems (itsB l++r) n.1 n.2)=some (l,(itsB l).length):=by
  obtain ⟨h1,h2⟩:=check_items h;have c1:=smallN_numB (n:=l.length) (most:=60) om_ h1 [] ((l.map itB).flatten++r);rw [List.nil_append,List.length_nil,Nat.zero_add] at c1;have ee:itsB l++r=numB l.length++((l.map itB).flatten++r):=by unfold itsB;rw [List.append_assoc]
  have c2:=rItems_itB l (itsB l++r) (numB l.length) r h2 (by unfold itsB;rfl);rw [← ee] at c1;rw [c1,Option.bind_some];dsimp only;rw [c2];unfold itsB;rw [List.length_append]
theorem its_more {l m:List It} (h1:checkI l=true) (h2:checkI m=true) {r:Str} (hr:r≠[]) (e:itsB m=itsB l++r):False:=by
  have a:=read_more h1 r;have b:=read_itsB h2;rw [e] at b;rw [a] at b;have:=congrArg Prod.snd (Option.some.inj b);dsimp only at this;rw [List.length_append] at this;have:r.length=0:=by omega
  exact hr (List.eq_nil_of_length_eq_zero this)
theorem dec_more {s r:Str} (h:(decR s).2=0) (hr:r≠[]):(decR (s++r)).2=160:=by
  rcases decR_two (s++r) with h2 | h2
  · obtain ⟨a1,a2⟩:=enc_ok (decR_ok h);obtain ⟨b1,b2⟩:=enc_ok (decR_ok h2);exact (its_more (r:=r) a1 b1 hr (by rw [← a2];exact b2.symm)).elim
  · rw [h2]
theorem dec_less {s r:Str} (h:(decR (s++r)).2=0) (hr:r≠[]):(decR s).2=160:=by
  rcases decR_two s with h2 | h2
  · have:=dec_more h2 hr;rw [h] at this;exact absurd this (by decide)
  · rw [h2]
end Go.Gx
