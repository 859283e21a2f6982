/- The names of two types, sorted, as the library gives them. Conditions: none. -/
import Derived.Test.YtjhcicmlpnkgeaaGreatMSort3
import Derived.Test.YtjhcicmlpnkgeaaGreatMDrawD
namespace Go.Gx
open Go.Sort
variable {w:World}
theorem sorted_strs {base:Nat} {v:Value} {ss:List Str} (h:SortedNew base w v ss) (hx:∀ x∈ss,x.length≤9223372036854775807) (hl:ss.length≤70368744177664):
    ∃ p cap,v=.slice p (sortNames ss).length cap∧StrsAt (fun k=>k<base) w (.slice p (sortNames ss).length cap) (sortNames ss):=by
  rcases h with ⟨rfl,rfl⟩ | ⟨b,cap,tl,d,hb,h1,hc,rfl,hR,hd,hp,hs,hcm⟩
  · exact ⟨none,0,rfl,StrsAt.nil _ _ _ _ (by simp)⟩
  · have hlen:(sortNames ss).length=ss.length:=sortNames_perm.length_eq;have hperm:d.toList.Perm ss:=by
      obtain ⟨p1,-,p3⟩:=hp;have e1:(d.extract 0 ss.length).toList=d.toList:=by simp [← hd]
      have e2:(ss.toArray.extract 0 ss.length).toList=ss:=by simp
      rwa [e1,e2] at p3
    have hsort:d.toList.Pairwise fun a b=>ltStr b a=false:=by
      rw [List.pairwise_iff_getElem];intro i j hi hj hij;have hi':i<d.size:=by simpa using hi
      have hj':j<d.size:=by simpa using hj
      have:=hs i j om_ hij om_;rw [getElem!_pos d i hi',getElem!_pos d j hj'] at this;simpa using this
    have he:d.toList=sortNames ss:=sortNames_one hperm hsort;refine ⟨some ⟨b,0,none⟩,cap,by rw [hlen],some ⟨b,0,none⟩,cap,rfl,by omega,hcm,by omega,fun x hx'=>hx x (sortNames_perm.mem_iff.1 hx'),fun _=>⟨b,0,rfl,by omega,fun i hi=>?_⟩⟩;have hi':i<d.size:=by omega
    have:=hR.at (i:=i) hi';rw [this];have e:d[i]! = (sortNames ss).getD i []:=by
      rw [getElem!_pos d i hi',← he];simp [List.getD_eq_getElem?_getD,hi']
    rw [e]
theorem idxM_eq {x:Str}:∀ {l:List (Str × Value)},idxM x l=idxS x (l.map (·.1))
  | []=>rfl
  | y :: l=>by simp only [idxM,List.map_cons,idxS,idxM_eq (l:=l)]
theorem putM_keys {l:List (Str × Value)} {x:Str} {v:Value}:(putM l x v).map (·.1)=if x∈l.map (·.1) then l.map (·.1) else l.map (·.1)++[x]:=by
  unfold putM;rw [idxM_eq];have hlen:l.length=(l.map (·.1)).length:=by simp
  by_cases h:idxS x (l.map (·.1))<l.length
  · rw [if_pos h,if_pos (idxS_lt.1 (by rw [← hlen];exact h)),List.map_set];have hg:=idxS_get (x:=x) (l:=l.map (·.1)) (by rw [← hlen];exact h);apply List.ext_getElem
    · simp
    · intro i h1 h2;rw [List.getElem_set];split
      · next e=>
        subst e;rw [List.getD_eq_getElem?_getD,List.getElem?_eq_getElem h2] at hg;exact hg.symm
      · rfl
  · rw [if_neg h,if_neg (fun hm=>h (by rw [hlen];exact idxS_lt.2 hm)),List.map_append];rfl
theorem putAll_keys:∀ (vis m:List (Str × Value)),(m.map (·.1)).Nodup→((putAll m vis).map (·.1)).Nodup∧∀ x,x∈(putAll m vis).map (·.1)↔x∈m.map (·.1)∨x∈vis.map (·.1)
  | [],m,h=>⟨h,fun x=>by simp [putAll]⟩
  | kv :: vis,m,h=>by
    have hk:=putM_keys (l:=m) (x:=kv.1) (v:=kv.2);have hn:((putM m kv.1 kv.2).map (·.1)).Nodup:=by
      rw [hk];split
      · exact h
      · next hx=>exact List.nodup_append.2 ⟨h,by simp,fun a ha b hb e=>by
          rw [List.mem_singleton.1 hb] at e;exact hx (e ▸ ha)⟩
    obtain ⟨h1,h2⟩:=putAll_keys vis (putM m kv.1 kv.2) hn;refine ⟨h1,fun x=>?_⟩;have:putAll m (kv :: vis)=putAll (putM m kv.1 kv.2) vis:=rfl;rw [this,h2 x,hk,List.map_cons,List.mem_cons];split
    · next hx=>
      constructor
      · rintro (h | h)
        · exact .inl h
        · exact .inr (.inr h)
      · rintro (h | h | h)
        · exact .inl h
        · exact .inl (h ▸ hx)
        · exact .inr h
    · rw [List.mem_append,List.mem_singleton,or_assoc]
theorem fieldsF_keys:∀ {l:List Str} {n:Nat},(fieldsF n l).map (·.1)=l
  | [],_=>rfl
  | x :: l,n=>by rw [fieldsF,List.map_cons,fieldsF_keys]
theorem keys_uni {a b:Sh} {vis:List (Str × Value)} (na:a.names.Nodup) (nb:b.names.Nodup) (h:vis.Perm (fieldsF 0 b.names)):((putAll (fieldsF 0 a.names) vis).map (·.1)).Perm (uniV a b):=by
  obtain ⟨h1,h2⟩:=putAll_keys vis (fieldsF 0 a.names) (by rw [fieldsF_keys];exact na);obtain ⟨h3,h4⟩:=uniV_ok a b na nb;refine (List.perm_ext_iff_of_nodup h1 h3).2 fun x=>?_
  have h5:=(h.map (·.1)).mem_iff (a:=x);rw [fieldsF_keys] at h5;rw [h2,h4,fieldsF_keys,h5]
theorem sortNames_perm_eq {l m:List Str} (h:l.Perm m):sortNames l=sortNames m:=sortNames_one (sortNames_perm.trans h) sortNames_sorted
theorem uniV_len {a b:Sh}:(uniV a b).length≤a.names.length+b.names.length:=by
  unfold uniV;rw [List.length_append];have:=List.length_filter_le (fun x=>!decide (x∈a.names)) b.names;omega
theorem uniU_len {a b:Sh}:(uniU a b).length≤a.names.length+b.names.length:=by
  unfold uniU;rw [sortNames_perm.length_eq];exact uniV_len
def selT (F:Bool→Sh→Sh→Option Sh) (up all:Bool) (a b:Sh) (U:List Str) (k:Nat):List (Str × Sh):=(U.take k).filterMap fun x=>(pickB F up all a b x).map fun r=>(x,r)
theorem selT_some {F:Bool→Sh→Sh→Option Sh} {up all:Bool} {a b:Sh} {U:List Str} {k:Nat} {t:Sh} (hk:k<U.length) (h:pickB F up all a b (U.getD k [])=some t):selT F up all a b U (k+1)=selT F up all a b U k++[(U.getD k [],t)]:=by
  unfold selT;have e:U.take (k+1)=U.take k++[U.getD k []]:=take_snoc (d:=[]) hk;rw [e,List.filterMap_append];simp only [List.filterMap_cons,List.filterMap_nil,h,Option.map_some]
theorem selT_none {F:Bool→Sh→Sh→Option Sh} {up all:Bool} {a b:Sh} {U:List Str} {k:Nat} (hk:k<U.length) (h:pickB F up all a b (U.getD k [])=none):selT F up all a b U (k+1)=selT F up all a b U k:=by
  unfold selT;have e:U.take (k+1)=U.take k++[U.getD k []]:=take_snoc (d:=[]) hk;rw [e,List.filterMap_append];simp only [List.filterMap_cons,List.filterMap_nil,h,Option.map_none,List.append_nil]
theorem selT_len {F:Bool→Sh→Sh→Option Sh} {up all:Bool} {a b:Sh} {U:List Str} {k:Nat}:(selT F up all a b U k).length≤U.length:=by
  unfold selT;have:=List.length_filterMap_le (fun x=>(pickB F up all a b x).map fun r=>(x,r)) (U.take k);simp at this ⊢;omega
theorem selT_names {F:Bool→Sh→Sh→Option Sh} {up all:Bool} {a b:Sh} {U:List Str} {k:Nat} {x:Str} (h:x∈(selT F up all a b U k).map (·.1)):x∈U:=by
  obtain ⟨⟨y,r⟩,hy,rfl⟩:=List.mem_map.1 h;unfold selT at hy;obtain ⟨z,hz,e⟩:=List.mem_filterMap.1 hy;obtain ⟨r',-,e2⟩:=Option.map_eq_some_iff.1 e;cases e2;exact List.mem_of_mem_take hz
theorem any_take {q:Str→Bool} {U:List Str} {k:Nat} (hk:k<U.length):(U.take (k+1)).any q=((U.take k).any q || q (U.getD k [])):=by
  have e:U.take (k+1)=U.take k++[U.getD k []]:=take_snoc (d:=[]) hk;rw [e,List.any_append];simp
end Go.Gx
