/- Joins and meets: what they are, and that they are the least and the greatest. Conditions: none. -/
import Derived.Test.YtjhcicmlpnkgeaaGreatMGrad3
namespace Go.Gx
def allK (up:Bool) (k:Int):Bool:=if k=6 then !up else up
structure SubC (up:Bool) (K w:Sh):Prop where
  kind:K.kind=w.kind
  of:K.of=w.of
  name:K.name=w.name
  both:(K.kind=6∨K.kind=7)→∀ x p q,partS K x=some p→partS w x=some q→SubUp up p q
  into:(K.kind=6∨K.kind=7)→allK up K.kind=true→∀ x,x∈K.names→x∈w.names
  onto:(K.kind=6∨K.kind=7)→allK up K.kind=false→∀ x,x∈w.names→x∈K.names
  len:¬ (K.kind=6∨K.kind=7)→K.parts.length=w.parts.length
  part:¬ (K.kind=6∨K.kind=7)→∀ i,i<K.parts.length→SubUp (if K.kind=8∧i+1<K.parts.length then !up else up) (K.parts.getD i default) (w.parts.getD i default)
theorem subup_iff {up:Bool} {K w:Sh} (fK:K.allB fitsS=true) (fw:w.allB fitsS=true):SubUp up K w↔SubC up K w:=by
  constructor
  · intro h;cases up
    · have h:=((rel_iff fw fK).1 (show Rel false true w K from h)).resolve_left (by simp);refine ⟨h.kind.symm,h.of.symm,h.name.symm,fun hk x p q hp hq=>h.both (by rw [h.kind];exact hk) x q p hq hp,fun hk ha=>?_,fun hk ha=>?_,fun hk=>(h.len (by rw [h.kind];exact hk)).symm,fun hk i hi=>?_⟩
      · unfold allK at ha;split at ha
        · exact h.right (by rw [h.kind];exact hk) (by rw [h.kind];omega)
        · cases ha
      · unfold allK at ha;split at ha
        · cases ha
        · exact h.left (by rw [h.kind];exact hk) (by rw [h.kind];omega)
      · have hl:=h.len (by rw [h.kind];exact hk);split
        · next h8=>exact h.arg (by rw [h.kind];exact h8.1) i om_
        · next h8=>exact h.part (by rw [h.kind];exact hk) i om_ (by rw [h.kind,hl];exact h8)
    · have h:=((rel_iff fK fw).1 (show Rel false true K w from h)).resolve_left (by simp);refine ⟨h.kind,h.of,h.name,h.both,fun hk ha=>?_,fun hk ha=>?_,h.len,fun hk i hi=>?_⟩
      · unfold allK at ha;split at ha
        · cases ha
        · exact h.left hk om_
      · unfold allK at ha;split at ha
        · exact h.right hk om_
        · cases ha
      · split
        · next h8=>exact h.arg h8.1 i h8.2
        · next h8=>exact h.part hk i hi h8
  · intro h;refine subup_intro fK fw h.kind h.of h.name h.both (fun hk hu=>?_) (fun hk hu=>?_) (fun hk hu=>?_) (fun hk hu=>?_) h.len h.part
    · exact h.onto (.inl hk) (by unfold allK;rw [if_pos hk,hu];rfl)
    · exact h.into (.inl hk) (by unfold allK;rw [if_pos hk,hu];rfl)
    · exact h.into (.inr hk) (by unfold allK;rw [if_neg om_];exact hu)
    · exact h.onto (.inr hk) (by unfold allK;rw [if_neg om_];exact hu)
theorem subup_refl {up:Bool} {a:Sh} (fa:a.allB fitsS=true):SubUp up a a:=by unfold SubUp;cases up <;> exact rel_refl fa
def pickB (F:Bool→Sh→Sh→Option Sh) (up all:Bool) (a b:Sh) (x:Str):Option Sh:=
  match partS a x,partS b x with
  | some p,some q=>F up p q
  | some p,none=>if all=true then some p else none
  | none,some q=>if all=true then some q else none
  | none,none=>none
def failB (F:Bool→Sh→Sh→Option Sh) (up:Bool) (a b:Sh) (x:Str):Bool:=(partS a x).isSome && (partS b x).isSome && (pickB F up true a b x).isNone
def selB (U:Sh→Sh→List Str) (F:Bool→Sh→Sh→Option Sh) (up all:Bool) (a b:Sh):List (Str × Sh):=(U a b).filterMap fun x=>(pickB F up all a b x).map fun r=>(x,r)
def nmdB (U:Sh→Sh→List Str) (F:Bool→Sh→Sh→Option Sh) (up all:Bool) (a b:Sh):Option Sh:=
  if all=true∧(U a b).any (failB F up a b)=true then none else some (.mk a.kind [] [] ((selB U F up all a b).map (·.1)) ((selB U F up all a b).map (·.2)))
def funG (F:Bool→Sh→Sh→Option Sh) (up:Bool) (a b:Sh) (i:Nat):Option Sh:=F (up == decide (i+1=a.parts.length)) (a.parts.getD i default) (b.parts.getD i default)
def funB (F:Bool→Sh→Sh→Option Sh) (up:Bool) (a b:Sh):Option Sh:=
  if a.parts.length≠b.parts.length then none
  else if (List.range a.parts.length).all (fun i=>(funG F up a b i).isSome)=true then some (.mk 8 [] [] [] ((List.range a.parts.length).map fun i=>(funG F up a b i).getD default)) else none
def bndF (U:Sh→Sh→List Str) (F:Bool→Sh→Sh→Option Sh) (up:Bool) (a b:Sh):Option Sh:=
  if a.kind≠b.kind then none
  else if a.kind=5 then (F up (a.parts.getD 0 default) (b.parts.getD 0 default)).map fun p=>.mk 5 [] [] [] [p]
  else if a.kind=6∨a.kind=7 then nmdB U F up (allK up a.kind) a b
  else if a.kind=8 then funB F up a b
  else if a.of=b.of∧a.name=b.name then some a else none
def bndN (U:Sh→Sh→List Str):Nat→Bool→Sh→Sh→Option Sh
  | 0=>fun _ _ _=>none
  | N+1=>bndF U (bndN U N)
def UOk (U:Sh→Sh→List Str):Prop:=∀ a b:Sh,a.names.Nodup→b.names.Nodup→(U a b).Nodup∧∀ x,x∈U a b↔x∈a.names∨x∈b.names
theorem pick_fst {α : Type} {f:Str→Option α}:∀ {l:List Str},(l.filterMap fun x=>(f x).map fun r=>(x,r)).map (·.1)=l.filter fun x=>(f x).isSome
  | []=>rfl
  | x :: l=>by
    rw [List.filterMap_cons,List.filter_cons];cases h:f x with
    | none=>simpa using pick_fst (f:=f) (l:=l)
    | some r=>simpa using pick_fst (f:=f) (l:=l)
theorem sel_mem {U:Sh→Sh→List Str} {F:Bool→Sh→Sh→Option Sh} {up all:Bool} {a b:Sh} {x:Str} {r:Sh}:(x,r)∈selB U F up all a b↔x∈U a b∧pickB F up all a b x=some r:=by
  unfold selB;rw [List.mem_filterMap];constructor
  · rintro ⟨y,hy,h⟩;obtain ⟨r',h1,h2⟩:=Option.map_eq_some_iff.1 h;rw [Prod.mk.injEq] at h2;obtain ⟨rfl,rfl⟩:=h2;exact ⟨hy,h1⟩
  · rintro ⟨h1,h2⟩;exact ⟨x,h1,by rw [h2];rfl⟩
theorem sel_nodup {U:Sh→Sh→List Str} {F:Bool→Sh→Sh→Option Sh} {up all:Bool} {a b:Sh} (h:(U a b).Nodup):((selB U F up all a b).map (·.1)).Nodup:=by
  unfold selB;rw [pick_fst];exact h.filter _
theorem sel_part {U:Sh→Sh→List Str} {F:Bool→Sh→Sh→Option Sh} {up all:Bool} {a b:Sh} (h:(U a b).Nodup) {k:Int} {x:Str} {r:Sh}:
    partS (.mk k [] [] ((selB U F up all a b).map (·.1)) ((selB U F up all a b).map (·.2))) x=some r↔x∈U a b∧pickB F up all a b x=some r:=by
  have hd:=sel_nodup (F:=F) (up:=up) (all:=all) h;have hp:=partS_zip (s:=.mk k [] [] ((selB U F up all a b).map Prod.fst) ((selB U F up all a b).map Prod.snd)) (x:=x) (p:=r) (by simp [Sh.names,Sh.parts]) hd;refine hp.trans ?_;show (x,r)∈((selB U F up all a b).map (·.1)).zip ((selB U F up all a b).map (·.2))↔_;rw [zip_unzip,sel_mem]
theorem flagB {up:Bool} {k:Int} {i n:Nat} (hi:i<n) (h8:k=8):(up == decide (i+1=n))=if k=8∧i+1<n then !up else up:=by
  by_cases h:i+1=n
  · rw [if_neg om_];simp [h]
  · rw [if_pos om_];simp [h]
structure BndOk (up:Bool) (a b j:Sh):Prop where
  fit:j.allB fitsS=true
  left:SubUp up a j
  right:SubUp up b j
  size:j.size≤a.size+b.size
  deep:j.deep≤max a.deep b.deep
theorem names_ok {s:Sh} (h:fitsS s=true) (hk:s.kind=6∨s.kind=7):∀ x∈s.names,nameS x=true:=by
  rw [fits_rec hk,Bool.and_eq_true] at h;have h:=h.2;unfold namesOk at h;simp only [Bool.and_eq_true] at h;exact List.all_eq_true.1 h.1.1
theorem fits_mk67 {k:Int} {ns:List Str} {ps:List Sh} (hk:k=6∨k=7) (hn:∀ x∈ns,nameS x=true) (hd:ns.Nodup) (hl:ns.length=ps.length):fitsS (.mk k [] [] ns ps)=true:=by
  rw [fits_rec (s:=.mk k [] [] ns ps) hk];simp only [Sh.of,Sh.name,Sh.names,Sh.parts,Bool.and_eq_true];refine ⟨⟨rfl,rfl⟩,?_⟩;unfold namesOk;simp only [Bool.and_eq_true,decide_eq_true_eq];exact ⟨⟨List.all_eq_true.2 hn,nodup_iff.2 hd⟩,by omega⟩
theorem bnd_okN {U:Sh→Sh→List Str} (hU:UOk U):∀ (N:Nat) (up:Bool) (a b j:Sh),SizeOf.sizeOf a+SizeOf.sizeOf b<N→a.allB fitsS=true→b.allB fitsS=true→bndN U N up a b=some j→BndOk up a b j
  | 0,_,_,_,_,h,_,_,_=>by omega
  | N+1,up,a,b,j,hN,fa,fb,h=>by
    have h:bndF U (bndN U N) up a b=some j:=h;unfold bndF at h;split at h
    · cases h
    next h1=>
    have e1:a.kind=b.kind:=Decidable.byContradiction h1;split at h
    · next h5=>
      have la:=fits5 (allB_fit fa) h5;have lb:=fits5 (allB_fit fb) (by rw [← e1];exact h5);obtain ⟨r,hr,rfl⟩:=Option.map_eq_some_iff.1 h;have s1:=Sh.part_lt (s:=a) (i:=0) om_;have s2:=Sh.part_lt (s:=b) (i:=0) om_;have ih:=bnd_okN hU N up _ _ r om_ (part_fit fa om_) (part_fit fb om_) hr;have ga:=allB_fit fa;have gb:=allB_fit fb;rw [fits_list h5] at ga;rw [fits_list (by rw [← e1];exact h5)] at gb;simp only [Bool.and_eq_true,beq_iff_eq,decide_eq_true_eq] at ga gb;have fj:(Sh.mk 5 [] [] [] [r]).allB fitsS=true:=by
        rw [allB_mk];exact ⟨rfl,fun x hx=>by rw [List.mem_singleton.1 hx];exact ih.fit⟩
      refine ⟨fj,(subup_iff fa fj).2 ⟨h5,ga.1.1.1,ga.1.1.2,fun hk=>absurd hk om_,fun hk=>absurd hk om_,fun hk=>absurd hk om_,fun _=>la,fun _ i hi=>?_⟩,(subup_iff fb fj).2 ⟨by rw [← e1];exact h5,gb.1.1.1,gb.1.1.2,fun hk=>absurd hk om_,fun hk=>absurd hk om_,fun hk=>absurd hk om_,fun _=>lb,fun _ i hi=>?_⟩,?_,?_⟩
      · obtain rfl:i=0:=by omega
        rw [if_neg om_];exact ih.left
      · obtain rfl:i=0:=by omega
        rw [if_neg om_];exact ih.right
      · have:=ih.size;have a1:=Sh.part_size (s:=a) (i:=0) om_;have b1:=Sh.part_size (s:=b) (i:=0) om_;show 1+(r.size+0)≤_;omega
      · have:=ih.deep;have a1:=part_deep (s:=a) (i:=0) om_;have b1:=part_deep (s:=b) (i:=0) om_;show 1+max r.deep 0≤_;omega
    next h5=>
    split at h
    · next hk=>
      have hkb:b.kind=6∨b.kind=7:=by rw [← e1];exact hk
      have la:=rec_len (allB_fit fa) hk;have lb:=rec_len (allB_fit fb) hkb;have na:=rec_nodup (allB_fit fa) hk;have nb:=rec_nodup (allB_fit fb) hkb;obtain ⟨oa,ma⟩:=fits67 (allB_fit fa) hk;obtain ⟨ob,mb⟩:=fits67 (allB_fit fb) hkb;obtain ⟨dU,mU⟩:=hU a b na nb;unfold nmdB at h;split at h
      · cases h
      next hnf=>
      simp only [Option.some.injEq] at h;subst h;obtain ⟨all,hall⟩:∃ all,all=allK up a.kind:=⟨_,rfl⟩;rw [← hall] at hnf ⊢;have hpk:∀ x r,pickB (bndN U N) up all a b x=some r→(∀ p q,partS a x=some p→partS b x=some q→BndOk up p q r)∧(∀ p,partS a x=some p→partS b x=none→r=p)∧(∀ q,partS a x=none→partS b x=some q→r=q)∧r.allB fitsS=true∧r.size≤lkSize a.names a.parts x+lkSize b.names b.parts x∧r.deep<max a.deep b.deep:=fun x r hx=>by
        unfold pickB at hx;cases hp:partS a x with
        | none=>
          cases hq:partS b x with
          | none=>rw [hp,hq] at hx;cases hx
          | some q=>
            rw [hp,hq] at hx;simp only at hx;split at hx
            · cases hx;have dq:=partS_deep (allB_fit fb) hq;refine ⟨fun p q hp'=>(by cases hp'),fun p hp'=>(by cases hp'),fun q hp' hq'=>(by cases hq';rfl),partS_fit fb hq,by rw [lkSize_part (allB_fit fb) hq];omega,by omega⟩
            · cases hx
        | some p=>
          cases hq:partS b x with
          | none=>
            rw [hp,hq] at hx;simp only at hx;split at hx
            · cases hx;have dp:=partS_deep (allB_fit fa) hp;refine ⟨fun p q _ hq'=>(by cases hq'),fun p hp' _=>(by cases hp';rfl),fun q hp'=>(by cases hp'),partS_fit fa hp,by rw [lkSize_part (allB_fit fa) hp];omega,by omega⟩
            · cases hx
          | some q=>
            rw [hp,hq] at hx;have s1:=partS_lt fa hp;have s2:=partS_lt fb hq;have ih:=bnd_okN hU N up p q r om_ (partS_fit fa hp) (partS_fit fb hq) hx;have dp:=partS_deep (allB_fit fa) hp;have dq:=partS_deep (allB_fit fb) hq;have:=ih.deep;have:=ih.size;refine ⟨fun p q hp' hq'=>(by cases hp';cases hq';exact ih),fun p _ hq'=>(by cases hq'),fun q hp'=>(by cases hp'),ih.fit,by rw [lkSize_part (allB_fit fa) hp,lkSize_part (allB_fit fb) hq];omega,by omega⟩
      have fj:(Sh.mk a.kind [] [] ((selB U (bndN U N) up all a b).map (·.1)) ((selB U (bndN U N) up all a b).map (·.2))).allB fitsS=true:=by
        rw [allB_mk];refine ⟨fits_mk67 hk (fun x hx=>?_) (sel_nodup dU) (by simp),fun y hy=>?_⟩
        · obtain ⟨⟨x',r⟩,hm,rfl⟩:=List.mem_map.1 hx;rcases (mU x').1 (sel_mem.1 hm).1 with h | h
          · exact names_ok (allB_fit fa) hk _ h
          · exact names_ok (allB_fit fb) hkb _ h
        · obtain ⟨⟨x,r⟩,hm,rfl⟩:=List.mem_map.1 hy;exact (hpk x r (sel_mem.1 hm).2).2.2.2.1
      have hmem:∀ x,x∈(Sh.mk a.kind [] [] ((selB U (bndN U N) up all a b).map (·.1)) ((selB U (bndN U N) up all a b).map (·.2))).names↔∃ r,(x∈a.names∨x∈b.names)∧pickB (bndN U N) up all a b x=some r:=fun x=>by
        rw [partS_mem];exact ⟨fun ⟨r,hr⟩=>by rw [sel_part dU,mU] at hr;exact ⟨r,hr⟩,fun ⟨r,hr⟩=>⟨r,by rw [sel_part dU,mU];exact hr⟩⟩
      have hno:all=true→∀ x,(x∈a.names∨x∈b.names)→∃ r,pickB (bndN U N) up all a b x=some r:=fun ha x hx=>by
        have hf:failB (bndN U N) up a b x=false:=by
          cases hh:failB (bndN U N) up a b x
          · rfl
          · exact absurd ⟨ha,List.any_eq_true.2 ⟨x,(mU x).2 hx,hh⟩⟩ hnf
        unfold failB at hf;rw [ha];cases hp:partS a x with
        | none=>
          cases hq:partS b x with
          | none=>exact absurd hx (fun h=>by rcases h with h | h <;> obtain ⟨_,e⟩:=partS_mem.1 h <;> simp_all)
          | some q=>exact ⟨q,by unfold pickB;rw [hp,hq];rfl⟩
        | some p=>
          cases hq:partS b x with
          | none=>exact ⟨p,by unfold pickB;rw [hp,hq];rfl⟩
          | some q=>
            rw [hp,hq] at hf;cases hr:pickB (bndN U N) up true a b x with
            | none=>rw [hr] at hf;cases hf
            | some r=>exact ⟨r,rfl⟩
      have hboth:all=false→∀ x r,pickB (bndN U N) up all a b x=some r→x∈a.names∧x∈b.names:=fun ha x r hx=>by
        unfold pickB at hx;rw [ha] at hx;cases hp:partS a x with
        | none=>cases hq:partS b x <;> rw [hp,hq] at hx <;> cases hx
        | some p=>
          cases hq:partS b x with
          | none=>rw [hp,hq] at hx;cases hx
          | some q=>exact ⟨partS_mem.2 ⟨p,hp⟩,partS_mem.2 ⟨q,hq⟩⟩
      refine ⟨fj,(subup_iff fa fj).2 ⟨rfl,oa,ma,fun _ x p r hp hr=>?_,fun _ ha x hx=>?_,fun _ ha x hx=>?_,fun hn=>absurd hk hn,fun hn=>absurd hk hn⟩,(subup_iff fb fj).2 ⟨e1.symm,ob,mb,fun _ x q r hq hr=>?_,fun _ ha x hx=>?_,fun _ ha x hx=>?_,fun hn=>absurd hkb hn,fun hn=>absurd hkb hn⟩,?_,?_⟩
      · rw [sel_part dU] at hr;cases hq:partS b x with
        | none=>rw [(hpk x r hr.2).2.1 p hp hq];exact subup_refl (partS_fit fa hp)
        | some q=>exact ((hpk x r hr.2).1 p q hp hq).left
      · rw [hmem];obtain ⟨r,hr⟩:=hno (hall.trans ha) x (.inl hx);exact ⟨r,.inl hx,hr⟩
      · obtain ⟨r,-,hr⟩:=(hmem x).1 hx;exact (hboth (hall.trans ha) x r hr).1
      · rw [sel_part dU] at hr;cases hp:partS a x with
        | none=>rw [(hpk x r hr.2).2.2.1 q hp hq];exact subup_refl (partS_fit fb hq)
        | some p=>exact ((hpk x r hr.2).1 p q hp hq).right
      · rw [hmem];obtain ⟨r,hr⟩:=hno (by rw [hall,e1];exact ha) x (.inr hx);exact ⟨r,.inr hx,hr⟩
      · obtain ⟨r,-,hr⟩:=(hmem x).1 hx;exact (hboth (by rw [hall,e1];exact ha) x r hr).2
      · rw [Sh.size,Sh.size_eq a,Sh.size_eq b,sizeL_sum,List.map_map];have h3:((selB U (bndN U N) up all a b).map (Sh.size ∘ (·.2))).sum≤((selB U (bndN U N) up all a b).map ((fun x=>lkSize a.names a.parts x+lkSize b.names b.parts x) ∘ (·.1))).sum:=sum_le fun ⟨x,r⟩ hm=>(hpk x r (sel_mem.1 hm).2).2.2.2.2.1
        have e3:((selB U (bndN U N) up all a b).map ((fun x=>lkSize a.names a.parts x+lkSize b.names b.parts x) ∘ (·.1))).sum=(((selB U (bndN U N) up all a b).map (·.1)).map fun x=>lkSize a.names a.parts x+lkSize b.names b.parts x).sum:=by rw [List.map_map]
        rw [e3,sum_add] at h3;have h4:=lk_sum (ns:=a.names) (ps:=a.parts) (sel_nodup (F:=bndN U N) (up:=up) (all:=all) dU);have h5:=lk_sum (ns:=b.names) (ps:=b.parts) (sel_nodup (F:=bndN U N) (up:=up) (all:=all) dU);omega
      · rw [Sh.deep];have hm:1≤max a.deep b.deep:=by have:=deep_eq a;omega
        have:deepL ((selB U (bndN U N) up all a b).map (·.2))≤max a.deep b.deep - 1:=deepL_leq.2 fun y hy=>by
          obtain ⟨⟨x,r⟩,hm,rfl⟩:=List.mem_map.1 hy;have:=(hpk x r (sel_mem.1 hm).2).2.2.2.2.2;show r.deep≤_;omega
        omega
    next hk=>
    split at h
    · next h8=>
      have h8b:b.kind=8:=by rw [← e1];exact h8
      unfold funB at h;split at h
      · cases h
      next hl=>
      have hl:a.parts.length=b.parts.length:=Decidable.byContradiction hl;split at h;next hs=>
        rw [all_iff] at hs;simp only [Option.some.injEq] at h;subst h;have ga:=allB_fit fa;have gb:=allB_fit fb;rw [fits_tup h8] at ga;rw [fits_tup h8b] at gb;simp only [Bool.and_eq_true,beq_iff_eq,decide_eq_true_eq] at ga gb;have hone:∀ i,i<a.parts.length→BndOk (if a.kind=8∧i+1<a.parts.length then !up else up) (a.parts.getD i default) (b.parts.getD i default) ((funG (bndN U N) up a b i).getD default):=fun i hi=>by
          have s1:=Sh.part_lt hi;have s2:=Sh.part_lt (s:=b) (i:=i) om_;obtain ⟨r,hr⟩:=Option.isSome_iff_exists.1 (hs i hi);rw [hr];unfold funG at hr;rw [flagB hi h8] at hr;exact bnd_okN hU N _ _ _ r om_ (part_fit fa hi) (part_fit fb om_) hr
        have fj:(Sh.mk 8 [] [] [] ((List.range a.parts.length).map fun i=>(funG (bndN U N) up a b i).getD default)).allB fitsS=true:=by
          rw [allB_mk];refine ⟨?_,fun x hx=>?_⟩
          · rw [fits_tup (s:=.mk 8 [] [] [] ((List.range a.parts.length).map fun i=>(funG (bndN U N) up a b i).getD default)) rfl];rw [Bool.and_eq_true];refine ⟨rfl,decide_eq_true ?_⟩;show (0:Int)<(((List.range a.parts.length).map fun i=>(funG (bndN U N) up a b i).getD default).length:Nat);rw [List.length_map,List.length_range];exact ga.2
          · obtain ⟨i,hi,rfl⟩:=List.mem_map.1 hx;exact (hone i (List.mem_range.1 hi)).fit
        have hg:∀ i,i<a.parts.length→(Sh.mk 8 [] [] [] ((List.range a.parts.length).map fun i=>(funG (bndN U N) up a b i).getD default)).parts.getD i default=(funG (bndN U N) up a b i).getD default:=fun i hi=>range_getD hi
        refine ⟨fj,(subup_iff fa fj).2 ⟨h8,ga.1.1.1,ga.1.1.2,fun hn=>absurd hn hk,fun hn=>absurd hn hk,fun hn=>absurd hn hk,fun _=>(by show a.parts.length=((List.range a.parts.length).map _).length;simp),fun _ i hi=>?_⟩,(subup_iff fb fj).2 ⟨h8b,gb.1.1.1,gb.1.1.2,fun hn=>absurd hn om_,fun hn=>absurd hn om_,fun hn=>absurd hn om_,fun _=>hl.symm.trans (by show a.parts.length=((List.range a.parts.length).map _).length;simp),fun _ i hi=>?_⟩,?_,?_⟩
        · rw [hg i hi];exact (hone i hi).left
        · rw [hg i om_];have:=(hone i om_).right;rw [e1,hl] at this;exact this
        · rw [Sh.size,Sh.size_eq a,Sh.size_eq b,sizeL_sum,List.map_map];have h3:((List.range a.parts.length).map (Sh.size ∘ fun i=>(funG (bndN U N) up a b i).getD default)).sum≤((List.range a.parts.length).map fun i=>(a.parts.getD i default).size+(b.parts.getD i default).size).sum:=sum_le fun i hi=>(hone i (List.mem_range.1 hi)).size
          rw [sum_add] at h3;have h4:((List.range a.parts.length).map fun i=>(a.parts.getD i default).size).sum=sizeL a.parts:=parts_sum;have h5:((List.range a.parts.length).map fun i=>(b.parts.getD i default).size).sum=sizeL b.parts:=by
            rw [hl];exact parts_sum
          omega
        · rw [Sh.deep];have hm:1≤max a.deep b.deep:=by have:=deep_eq a;omega
          have:deepL ((List.range a.parts.length).map fun i=>(funG (bndN U N) up a b i).getD default)≤max a.deep b.deep - 1:=deepL_leq.2 fun y hy=>by
            obtain ⟨i,hi,rfl⟩:=List.mem_map.1 hy;have hi:=List.mem_range.1 hi;have:=(hone i hi).deep;have:=part_deep hi;have:=part_deep (s:=b) (i:=i) om_;omega
          omega
      · cases h
    next h8=>
    split at h
    · next ho=>
      cases h;have p0:=fits0 (allB_fit fa) om_ om_ h8 h5;have q0:=fits0 (allB_fit fb) om_ om_ om_ om_;refine ⟨fa,subup_refl fa,(subup_iff fb fa).2 ⟨e1.symm,ho.1.symm,ho.2.symm,fun hn=>absurd hn om_,fun hn=>absurd hn om_,fun hn=>absurd hn om_,fun _=>by omega,fun _ i hi=>by omega⟩,by omega,by omega⟩
    · cases h
theorem bnd_leastN {U:Sh→Sh→List Str} (hU:UOk U):∀ (N:Nat) (up:Bool) (a b c:Sh),SizeOf.sizeOf a+SizeOf.sizeOf b<N→a.allB fitsS=true→b.allB fitsS=true→c.allB fitsS=true→SubUp up a c→SubUp up b c→∃ j,bndN U N up a b=some j∧SubUp up j c
  | 0,_,_,_,_,h,_,_,_,_,_=>by omega
  | N+1,up,a,b,c,hN,fa,fb,fc,ha,hb=>by
    show ∃ j,bndF U (bndN U N) up a b=some j∧SubUp up j c
    suffices H:∃ j,bndF U (bndN U N) up a b=some j∧(j.allB fitsS=true→SubUp up j c) by
      obtain ⟨j,h1,h2⟩:=H;exact ⟨j,h1,h2 (bnd_okN hU (N+1) up a b j hN fa fb h1).fit⟩
    have ga:=(subup_iff fa fc).1 ha;have gb:=(subup_iff fb fc).1 hb;have e1:a.kind=b.kind:=ga.kind.trans gb.kind.symm;unfold bndF;rw [if_neg (by simpa using e1)];by_cases h5:a.kind=5
    · rw [if_pos h5];have la:=fits5 (allB_fit fa) h5;have lb:=fits5 (allB_fit fb) (by rw [← e1];exact h5);have s1:=Sh.part_lt (s:=a) (i:=0) om_;have s2:=Sh.part_lt (s:=b) (i:=0) om_;have lc:=ga.len om_;have pa:=ga.part om_ 0 om_;have pb:=gb.part om_ 0 om_;rw [if_neg om_] at pa pb;obtain ⟨r,hr,hs⟩:=bnd_leastN hU N up _ _ _ om_ (part_fit fa om_) (part_fit fb om_) (part_fit fc om_) pa pb;refine ⟨_,by rw [hr];rfl,fun fj=>?_⟩;have g5:=allB_fit fc;rw [fits_list (by rw [← ga.kind];exact h5)] at g5;simp only [Bool.and_eq_true,beq_iff_eq,decide_eq_true_eq] at g5;refine (subup_iff fj fc).2 ⟨by rw [← ga.kind,h5];rfl,g5.1.1.1.symm,g5.1.1.2.symm,fun hn=>absurd hn (by show ¬ ((5:Int)=6∨(5:Int)=7);omega),fun hn=>absurd hn (by show ¬ ((5:Int)=6∨(5:Int)=7);omega),fun hn=>absurd hn (by show ¬ ((5:Int)=6∨(5:Int)=7);omega),fun _=>by show 1=_;omega,fun _ i hi=>?_⟩;have hi:i<1:=hi;obtain rfl:i=0:=by omega
      rw [if_neg (by show ¬ ((5:Int)=8∧_);omega)];exact hs
    rw [if_neg h5];by_cases hk:a.kind=6∨a.kind=7
    · rw [if_pos hk];have hkb:b.kind=6∨b.kind=7:=by rw [← e1];exact hk
      have hkc:c.kind=6∨c.kind=7:=by rw [← ga.kind];exact hk
      have na:=rec_nodup (allB_fit fa) hk;have nb:=rec_nodup (allB_fit fb) hkb;obtain ⟨dU,mU⟩:=hU a b na nb;obtain ⟨oc,mc⟩:=fits67 (allB_fit fc) hkc;have hboth:∀ x p q r,partS a x=some p→partS b x=some q→partS c x=some r→∃ j,bndN U N up p q=some j∧SubUp up j r:=fun x p q r hp hq hr=>by
        have s1:=partS_lt fa hp;have s2:=partS_lt fb hq;exact bnd_leastN hU N up p q r om_ (partS_fit fa hp) (partS_fit fb hq) (partS_fit fc hr) (ga.both hk x p r hp hr) (gb.both hkb x q r hq hr)
      obtain ⟨all,hall⟩:∃ all,all=allK up a.kind:=⟨_,rfl⟩;rw [← hall];have hnf:¬ (all=true∧(U a b).any (failB (bndN U N) up a b)=true):=by
        rintro ⟨h1,h2⟩;obtain ⟨x,hx,hf⟩:=List.any_eq_true.1 h2;unfold failB at hf;simp only [Bool.and_eq_true] at hf;obtain ⟨⟨hp,hq⟩,hf⟩:=hf;obtain ⟨p,hp⟩:=Option.isSome_iff_exists.1 hp;obtain ⟨q,hq⟩:=Option.isSome_iff_exists.1 hq;obtain ⟨r,hr⟩:=partS_mem.1 (ga.into hk (hall.symm.trans h1) x (partS_mem.2 ⟨p,hp⟩));obtain ⟨j,hj,-⟩:=hboth x p q r hp hq hr;unfold pickB at hf;rw [hp,hq] at hf;simp only at hf;rw [hj] at hf;cases hf
      unfold nmdB;rw [if_neg hnf];refine ⟨_,rfl,fun fj=>(subup_iff fj fc).2 ⟨ga.kind,oc.symm,mc.symm,fun _ x j r hj hr=>?_,fun _ hA x hx=>?_,fun _ hA x hx=>?_,fun hn=>absurd hk hn,fun hn=>absurd hk hn⟩⟩
      · obtain ⟨hx,hpk⟩:=(sel_part dU).1 hj;unfold pickB at hpk;cases hp:partS a x with
        | none=>
          cases hq:partS b x with
          | none=>rw [hp,hq] at hpk;cases hpk
          | some q=>
            rw [hp,hq] at hpk;simp only at hpk;split at hpk
            · cases hpk;exact gb.both hkb x _ r hq hr
            · cases hpk
        | some p=>
          cases hq:partS b x with
          | none=>
            rw [hp,hq] at hpk;simp only at hpk;split at hpk
            · cases hpk;exact ga.both hk x _ r hp hr
            · cases hpk
          | some q=>
            rw [hp,hq] at hpk;obtain ⟨j',hj',hs⟩:=hboth x p q r hp hq hr;have hpk:bndN U N up p q=some j:=hpk;rw [hj'] at hpk;cases hpk;exact hs
      · obtain ⟨r,hr⟩:=partS_mem.1 hx;have hx:=(mU x).1 ((sel_part dU).1 hr).1;rcases hx with hx | hx
        · exact ga.into hk hA x hx
        · exact gb.into hkb (by rw [← e1];exact hA) x hx
      · have hxa:=ga.onto hk hA x hx;have hxb:=gb.onto hkb (by rw [← e1];exact hA) x hx;obtain ⟨p,hp⟩:=partS_mem.1 hxa;obtain ⟨q,hq⟩:=partS_mem.1 hxb;obtain ⟨r,hr⟩:=partS_mem.1 hx;obtain ⟨j,hj,-⟩:=hboth x p q r hp hq hr;exact partS_mem.2 ⟨j,(sel_part dU).2 ⟨(mU x).2 (.inl hxa),by unfold pickB;rw [hp,hq];exact hj⟩⟩
    rw [if_neg hk];by_cases h8:a.kind=8
    · rw [if_pos h8];have la:=ga.len hk;have lb:=gb.len om_;unfold funB;rw [if_neg (by simp;omega)];have hone:∀ i,i<a.parts.length→∃ j,funG (bndN U N) up a b i=some j∧SubUp (if a.kind=8∧i+1<a.parts.length then !up else up) j (c.parts.getD i default):=fun i hi=>by
        have s1:=Sh.part_lt hi;have s2:=Sh.part_lt (s:=b) (i:=i) om_;have pa:=ga.part hk i hi;have pb:=gb.part om_ i om_;rw [← e1,lb,← la] at pb;unfold funG;rw [flagB hi h8];exact bnd_leastN hU N _ _ _ _ om_ (part_fit fa hi) (part_fit fb om_) (part_fit fc om_) pa pb
      rw [if_pos (all_iff.2 fun i hi=>by obtain ⟨j,hj,-⟩:=hone i hi;rw [hj];rfl)];have g8:=allB_fit fc;rw [fits_tup (by rw [← ga.kind];exact h8)] at g8;simp only [Bool.and_eq_true,beq_iff_eq,decide_eq_true_eq] at g8;have h88:¬ ((8:Int)=6∨(8:Int)=7):=by omega
      refine ⟨_,rfl,fun fj=>(subup_iff fj fc).2 ⟨by rw [← ga.kind,h8];rfl,g8.1.1.1.symm,g8.1.1.2.symm,fun hn=>absurd hn h88,fun hn=>absurd hn h88,fun hn=>absurd hn h88,fun _=>(by show ((List.range a.parts.length).map _).length=c.parts.length;simp [la]),fun _ i hi=>?_⟩⟩;have hi':i<a.parts.length:=by simpa [Sh.parts] using hi
      obtain ⟨j,hj,hs⟩:=hone i hi';have e:(Sh.mk 8 [] [] [] ((List.range a.parts.length).map fun i=>(funG (bndN U N) up a b i).getD default)).parts.getD i default=j:=by
        show ((List.range a.parts.length).map fun i=>(funG (bndN U N) up a b i).getD default).getD i default=j;rw [range_getD hi',hj];rfl
      rw [e];have e8:∀ n:Nat,n=a.parts.length→(if (8:Int)=8∧i+1<n then !up else up)=(if a.kind=8∧i+1<a.parts.length then !up else up):=fun n hn=>by rw [hn,h8]
      show SubUp (if (8:Int)=8∧i+1<((List.range a.parts.length).map fun i=>(funG (bndN U N) up a b i).getD default).length then !up else up) j _;rw [e8 _ (by simp)];exact hs
    rw [if_neg h8,if_pos ⟨ga.of.trans gb.of.symm,ga.name.trans gb.name.symm⟩];exact ⟨a,rfl,fun _=>ha⟩
theorem bnd_ok {U:Sh→Sh→List Str} (hU:UOk U) {N:Nat} {up:Bool} {a b j:Sh} (hN:SizeOf.sizeOf a+SizeOf.sizeOf b<N) (fa:a.allB fitsS=true) (fb:b.allB fitsS=true) (h:bndN U N up a b=some j):BndOk up a b j:=bnd_okN hU N up a b j hN fa fb h
theorem bnd_least {U:Sh→Sh→List Str} (hU:UOk U) {N:Nat} {up:Bool} {a b c:Sh} (hN:SizeOf.sizeOf a+SizeOf.sizeOf b<N) (fa:a.allB fitsS=true) (fb:b.allB fitsS=true) (fc:c.allB fitsS=true) (ha:SubUp up a c) (hb:SubUp up b c):∃ j,bndN U N up a b=some j∧SubUp up j c:=bnd_leastN hU N up a b c hN fa fb fc ha hb
theorem subup_same {up:Bool} {a b:Sh} (fa:a.allB fitsS=true) (fb:b.allB fitsS=true) (h1:SubUp up a b) (h2:SubUp up b a):a.sort=b.sort:=by
  cases up
  · exact (same_iff fa fb).1 (rel_anti fa fb h2 h1)
  · exact (same_iff fa fb).1 (rel_anti fa fb h1 h2)
theorem bnd_one {U V:Sh→Sh→List Str} (hU:UOk U) (hV:UOk V) {N M:Nat} {up:Bool} {a b:Sh} (hN:SizeOf.sizeOf a+SizeOf.sizeOf b<N) (hM:SizeOf.sizeOf a+SizeOf.sizeOf b<M) (fa:a.allB fitsS=true) (fb:b.allB fitsS=true):
    (bndN U N up a b).map Sh.sort=(bndN V M up a b).map Sh.sort∧(bndN U N up a b).map Sh.sort=(bndN V M up b a).map Sh.sort:=by
  constructor
  · cases h:bndN U N up a b with
    | some j=>
      have o:=bnd_ok hU hN fa fb h;obtain ⟨k,hk,hs⟩:=bnd_least hV hM fa fb o.fit o.left o.right;have o2:=bnd_ok hV hM fa fb hk;obtain ⟨j',hj',hs'⟩:=bnd_least hU hN fa fb o2.fit o2.left o2.right;rw [h] at hj';cases hj';rw [hk,Option.map_some,Option.map_some,subup_same o.fit o2.fit hs' hs]
    | none=>
      cases h2:bndN V M up a b with
      | none=>rfl
      | some k=>
        have o:=bnd_ok hV hM fa fb h2;obtain ⟨j,hj,-⟩:=bnd_least hU hN fa fb o.fit o.left o.right;rw [h] at hj;cases hj
  · cases h:bndN U N up a b with
    | some j=>
      have o:=bnd_ok hU hN fa fb h;obtain ⟨k,hk,hs⟩:=bnd_least hV (N:=M) om_ fb fa o.fit o.right o.left;have o2:=bnd_ok hV (N:=M) om_ fb fa hk;obtain ⟨j',hj',hs'⟩:=bnd_least hU hN fa fb o2.fit o2.right o2.left;rw [h] at hj';cases hj';rw [hk,Option.map_some,Option.map_some,subup_same o.fit o2.fit hs' hs]
    | none=>
      cases h2:bndN V M up b a with
      | none=>rfl
      | some k=>
        have o:=bnd_ok hV (N:=M) om_ fb fa h2;obtain ⟨j,hj,-⟩:=bnd_least hU hN fa fb o.fit o.right o.left;rw [h] at hj;cases hj
end Go.Gx
namespace Go.Gx
def lastB (F:Sh→Sh→Bool) (a b:Sh):Bool:=
  if a.parts.length≠b.parts.length then false
  else if F (a.parts.getD (a.parts.length - 1) default) (b.parts.getD (a.parts.length - 1) default)=false then false
  else (List.range (a.parts.length - 1)).all fun i=>F (b.parts.getD i default) (a.parts.getD i default)
def belB (F:Sh→Sh→Bool) (a b:Sh):Bool:=
  if a.kind≠b.kind then false
  else if a.kind=9∨a.kind=10 then decide (a.of=b.of) && decide (a.name=b.name)
  else if a.kind=5 then F (a.parts.getD 0 default) (b.parts.getD 0 default)
  else if a.kind=6 then (List.range b.names.length).all (nrA F a b)
  else if a.kind=7 then (List.range a.names.length).all (nrV F a b)
  else if a.kind=8 then lastB F a b
  else true
def belN:Nat→Sh→Sh→Bool
  | 0=>fun _ _=>false
  | N+1=>belB (belN N)
theorem allA_iff {F:Sh→Sh→Bool} {a b:Sh} (nb:b.names.Nodup):(List.range b.names.length).all (nrA F a b)=true↔(∀ x,x∈b.names→x∈a.names)∧∀ x p q,partS a x=some p→partS b x=some q→F p q=true:=by
  rw [all_iff];constructor
  · intro h;refine ⟨fun x hx=>?_,fun x p q hp hq=>?_⟩
    · obtain ⟨i,hi,rfl⟩:=mem_at hx;have:=h i hi;unfold nrA at this;split at this
      · next hx=>exact idxS_lt.1 hx
      · cases this
    · obtain ⟨hq1,rfl⟩:=partS_some.1 hq;obtain ⟨hp1,rfl⟩:=partS_some.1 hp;have:=h _ hq1;unfold nrA at this;rw [idxS_get hq1,if_pos hp1] at this;exact this
  · rintro ⟨h1,h2⟩ i hi;have hm:=idxS_lt.2 (h1 _ (mem_getD hi));unfold nrA;rw [if_pos hm];exact h2 _ _ _ (partS_some.2 ⟨hm,rfl⟩) (partS_at nb hi)
theorem allV_iff {F:Sh→Sh→Bool} {a b:Sh} (na:a.names.Nodup):(List.range a.names.length).all (nrV F a b)=true↔(∀ x,x∈a.names→x∈b.names)∧∀ x p q,partS a x=some p→partS b x=some q→F p q=true:=by
  rw [all_iff];constructor
  · intro h;refine ⟨fun x hx=>?_,fun x p q hp hq=>?_⟩
    · obtain ⟨i,hi,rfl⟩:=mem_at hx;have:=h i hi;unfold nrV at this;split at this
      · next hx=>exact idxS_lt.1 hx
      · cases this
    · obtain ⟨hq1,rfl⟩:=partS_some.1 hq;obtain ⟨hp1,rfl⟩:=partS_some.1 hp;have:=h _ hp1;unfold nrV at this;rw [idxS_get hp1,if_pos hq1] at this;exact this
  · rintro ⟨h1,h2⟩ i hi;have hm:=idxS_lt.2 (h1 _ (mem_getD hi));unfold nrV;rw [if_pos hm];exact h2 _ _ _ (partS_at na hi) (partS_some.2 ⟨hm,rfl⟩)
theorem relC_flat {any L:Bool} {a b:Sh} (hk:¬ (a.kind=6∨a.kind=7)) (e1:a.kind=b.kind) (e2:a.of=b.of) (e3:a.name=b.name) (hl:a.parts.length=b.parts.length)
    (hp:∀ i,i<a.parts.length→¬ (a.kind=8∧i+1<a.parts.length)→Rel any L (a.parts.getD i default) (b.parts.getD i default)) (hq:a.kind=8→∀ i,i+1<a.parts.length→Rel any L (b.parts.getD i default) (a.parts.getD i default)):RelC any L a b:=
  ⟨e1,e2,e3,fun h=>absurd h hk,fun h=>absurd h hk,fun h=>absurd h hk,fun _=>hl,fun _=>hp,hq⟩
theorem fits58 {s:Sh} (h:fitsS s=true) (hk:s.kind=5∨s.kind=8):s.of=[]∧s.name=[]:=by
  rcases hk with hk | hk
  · rw [fits_list hk] at h;simp only [Bool.and_eq_true,beq_iff_eq] at h;exact h.1.1
  · rw [fits_tup hk] at h;simp only [Bool.and_eq_true,beq_iff_eq] at h;exact h.1.1
theorem fits14 {s:Sh} (h:fitsS s=true) (h5:s.kind≠5) (h6:s.kind≠6) (h7:s.kind≠7) (h8:s.kind≠8) (h9:¬ (s.kind=9∨s.kind=10)):s.of=[]∧s.name=[]:=by
  by_cases hr:1≤s.kind∧s.kind≤4
  · rw [fits_bare hr] at h;simp only [Bool.and_eq_true,beq_iff_eq] at h;exact h.1.1
  · rw [fits_none om_] at h;cases h
theorem last_iff {F:Sh→Sh→Bool} {a b:Sh} (hl:1≤a.parts.length):lastB F a b=true↔a.parts.length=b.parts.length∧F (a.parts.getD (a.parts.length - 1) default) (b.parts.getD (a.parts.length - 1) default)=true∧∀ i,i+1<a.parts.length→F (b.parts.getD i default) (a.parts.getD i default)=true:=by
  unfold lastB;split
  · next h=>exact ⟨fun h=>(by cases h),fun h2=>absurd h2.1 h⟩
  · next h=>
    have h:a.parts.length=b.parts.length:=Decidable.byContradiction h;split
    · next h1=>exact ⟨fun h=>(by cases h),fun h2=>by rw [h2.2.1] at h1;cases h1⟩
    · next h1=>
      rw [all_iff];exact ⟨fun hq=>⟨h,by simpa using h1,fun i hi=>hq i om_⟩,fun hq i hi=>hq.2.2 i om_⟩
theorem bel_eq:∀ (N:Nat) (a b:Sh),SizeOf.sizeOf a+SizeOf.sizeOf b<N→a.allB fitsS=true→b.allB fitsS=true→belN N a b=decide (Rel false true a b)
  | 0,_,_,h,_,_=>by omega
  | N+1,a,b,hN,fa,fb=>by
    have hF:∀ i j,i<a.parts.length→j<b.parts.length→(belN N (a.parts.getD i default) (b.parts.getD j default)=true↔Rel false true (a.parts.getD i default) (b.parts.getD j default)):=fun i j hi hj=>by
      have s1:=Sh.part_lt hi;have s2:=Sh.part_lt hj;rw [bel_eq N _ _ om_ (part_fit fa hi) (part_fit fb hj),decide_eq_true_eq]
    have hG:∀ i j,i<a.parts.length→j<b.parts.length→(belN N (b.parts.getD j default) (a.parts.getD i default)=true↔Rel false true (b.parts.getD j default) (a.parts.getD i default)):=fun i j hi hj=>by
      have s1:=Sh.part_lt hi;have s2:=Sh.part_lt hj;rw [bel_eq N _ _ om_ (part_fit fb hj) (part_fit fa hi),decide_eq_true_eq]
    have hP:∀ x p q,partS a x=some p→partS b x=some q→(belN N p q=true↔Rel false true p q):=fun x p q hp hq=>by
      obtain ⟨i1,rfl⟩:=partS_idx (allB_fit fa) hp;obtain ⟨i2,rfl⟩:=partS_idx (allB_fit fb) hq;exact hF _ _ i1 i2
    rw [Bool.eq_iff_iff,decide_eq_true_eq,rel_iff fa fb,or_iff_right (by simp)];show belB (belN N) a b=true↔_;unfold belB;split
    · next h=>exact ⟨fun h=>(by cases h),fun h2=>absurd h2.kind h⟩
    next h=>
    have e1:a.kind=b.kind:=Decidable.byContradiction h;split
    · next h9=>
      have p0:=fits0 (allB_fit fa) om_ om_ om_ om_;have q0:=fits0 (allB_fit fb) om_ om_ om_ om_;simp only [Bool.and_eq_true,decide_eq_true_eq];exact ⟨fun h=>relC_flat om_ e1 h.1 h.2 om_ (fun i hi=>by omega) (fun h8=>by omega),fun h=>⟨h.of,h.name⟩⟩
    next h9=>
    split
    · next h5=>
      have l1:=fits5 (allB_fit fa) h5;have l2:=fits5 (allB_fit fb) (by rw [← e1];exact h5);have o1:=fits58 (allB_fit fa) (.inl h5);have o2:=fits58 (allB_fit fb) (.inl (by rw [← e1];exact h5));rw [hF 0 0 om_ om_];exact ⟨fun h=>relC_flat om_ e1 (by rw [o1.1,o2.1]) (by rw [o1.2,o2.2]) om_ (fun i hi _=>(by obtain rfl:i=0:=om_;exact h)) (fun h8=>by omega),fun h=>h.part om_ 0 om_ om_⟩
    next h5=>
    split
    · next h6=>
      have nb:=rec_nodup (allB_fit fb) (by rw [← e1];exact .inl h6);have o1:=fits67 (allB_fit fa) (.inl h6);have o2:=fits67 (allB_fit fb) (by rw [← e1];exact .inl h6);rw [allA_iff nb];exact ⟨fun h=>⟨e1,by rw [o1.1,o2.1],by rw [o1.2,o2.2],fun _ x p q hp hq=>(hP x p q hp hq).1 (h.2 x p q hp hq),fun _ hL=>absurd ⟨rfl,h6⟩ hL,fun _ _=>h.1,fun hn=>absurd (.inl h6) hn,fun hn=>absurd (.inl h6) hn,fun h8=>by omega⟩,
        fun h=>⟨h.right (.inl h6) om_,fun x p q hp hq=>(hP x p q hp hq).2 (h.both (.inl h6) x p q hp hq)⟩⟩
    next h6=>
    split
    · next h7=>
      have na:=rec_nodup (allB_fit fa) (.inr h7);have o1:=fits67 (allB_fit fa) (.inr h7);have o2:=fits67 (allB_fit fb) (by rw [← e1];exact .inr h7);rw [allV_iff na];exact ⟨fun h=>⟨e1,by rw [o1.1,o2.1],by rw [o1.2,o2.2],fun _ x p q hp hq=>(hP x p q hp hq).1 (h.2 x p q hp hq),fun _ _=>h.1,fun _ hL=>absurd ⟨rfl,h7⟩ hL,fun hn=>absurd (.inr h7) hn,fun hn=>absurd (.inr h7) hn,fun h8=>by omega⟩,
        fun h=>⟨h.left (.inr h7) om_,fun x p q hp hq=>(hP x p q hp hq).2 (h.both (.inr h7) x p q hp hq)⟩⟩
    next h7=>
    split
    · next h8=>
      have l1:=fits8 (allB_fit fa) h8;have o1:=fits58 (allB_fit fa) (.inr h8);have o2:=fits58 (allB_fit fb) (.inr (by rw [← e1];exact h8));rw [last_iff l1];constructor
      · rintro ⟨hl,h1,h2⟩;refine relC_flat om_ e1 (by rw [o1.1,o2.1]) (by rw [o1.2,o2.2]) hl (fun i hi hn=>?_) (fun _ i hi=>?_)
        · obtain rfl:i=a.parts.length - 1:=by omega
          exact (hF _ _ om_ om_).1 h1
        · exact (hG i i om_ om_).1 (h2 i hi)
      · intro h;have hl:=h.len om_;exact ⟨hl,(hF _ _ om_ om_).2 (h.part om_ _ om_ om_),fun i hi=>(hG i i om_ om_).2 (h.arg h8 i hi)⟩
    next h8=>
      have p0:=fits0 (allB_fit fa) h6 h7 h8 h5;have q0:=fits0 (allB_fit fb) om_ om_ om_ om_;have o1:=fits14 (allB_fit fa) h5 h6 h7 h8 h9;have o2:=fits14 (allB_fit fb) om_ om_ om_ om_ om_;exact ⟨fun _=>relC_flat om_ e1 (by rw [o1.1,o2.1]) (by rw [o1.2,o2.2]) om_ (fun i hi=>by omega) (fun h=>absurd h h8),fun _=>rfl⟩
noncomputable def belowR (a b:Sh):Bool:=goesR false true a b
theorem below_bel {a b:Sh}:((decide (checkS a=0) && decide (checkS b=0)) && belN (SizeOf.sizeOf a+SizeOf.sizeOf b+1) a b)=belowR a b:=by
  unfold belowR goesR;by_cases ha:checkS a=0
  · by_cases hb:checkS b=0
    · rw [bel_eq _ a b (Nat.lt_succ_self _) (check_zero ha).2.2 (check_zero hb).2.2]
    · simp [hb]
  · simp [ha]
end Go.Gx
