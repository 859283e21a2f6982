/- Records and sums in their one order: names ascending, parts with them: the program's. Conditions: none. -/
import Derived.Test.YtjhcicmlpnkgeaaCeLaySort
import Derived.Test.YtjhcicmlpnkgeaaCeOwn
import Derived.Test.YtjhcicmlpnkgeaaCeFits
namespace Go.Gx
open Go.Proofs Go.Sort
def insP (x:Str × Sh):List (Str × Sh)→List (Str × Sh)
  | []=>[x]
  | y :: l=>if ltStr y.1 x.1 then y :: insP x l else x :: y :: l
def pairUp (ns:List Str) (qs:List Sh):List (Str × Sh):=(ns.zip qs).foldl (fun a x=>insP x a) []
mutual
def Sh.sort:Sh→Sh | .mk k o n ns ps=>if ns=[] then .mk k o n [] (sortL ps) else .mk k o n ((pairUp ns (sortL ps)).map (·.1)) ((pairUp ns (sortL ps)).map (·.2))
def sortL:List Sh→List Sh | []=>[] | x :: xs=>x.sort :: sortL xs
end
theorem sortL_eq:∀ l,sortL l=l.map Sh.sort
  | []=>rfl
  | x :: xs=>by rw [sortL,sortL_eq xs];rfl
theorem Sh.sort_eq (s:Sh):s.sort=if s.names=[] then .mk s.kind s.of s.name [] (s.parts.map Sh.sort) else .mk s.kind s.of s.name ((pairUp s.names (s.parts.map Sh.sort)).map (·.1)) ((pairUp s.names (s.parts.map Sh.sort)).map (·.2)):=by
  cases s;rw [Sh.sort,sortL_eq];rfl
theorem fits_names {s:Sh} (h:fitsS s=true):s.names=[]∨(s.names.length=s.parts.length∧nodup s.names=true):=by
  unfold fitsS at h;by_cases hn:s.names=[]
  · exact .inl hn
  · right;have hl:(0:Int)<s.names.length:=by have:=List.length_pos_iff.2 hn;omega
    split at h
    · simp [hn] at h
    · split at h
      · cases h
      · split at h
        · unfold namesOk at h;simp only [Bool.and_eq_true,decide_eq_true_eq] at h;exact ⟨by omega,h.1.2⟩
        · first | cases h | (rw [if_pos hl] at h;cases h)
theorem allL_getD {p:Sh→Bool} {l:List Sh} (h:allL p l=true) {i:Nat} (hi:i<l.length):(l.getD i default).allB p=true:=by
  cases hh:(l.getD i default).allB p
  · rw [allL_miss hi hh] at h;cases h
  · rfl
def Ordered (ns:List Str) (n:Nat) (idx:List Nat):Prop:=idx.Perm (List.range n)∧(ns=[]→idx=List.range n)∧(ns≠[]→∀ i j,i<j→j<n→ltStr (ns.getD (idx.getD j 0) []) (ns.getD (idx.getD i 0) [])=false)
theorem Ordered.len {ns:List Str} {n:Nat} {idx:List Nat} (h:Ordered ns n idx):idx.length=n:=by have:=h.1.length_eq;simpa using this
theorem Ordered.lt {ns:List Str} {n:Nat} {idx:List Nat} (h:Ordered ns n idx) {k:Nat} (hk:k<n):idx.getD k 0<n:=by
  have hm:idx.getD k 0∈idx:=by rw [List.getD_eq_getElem?_getD,List.getElem?_eq_getElem (by rw [h.len];exact hk)];exact List.getElem_mem _
  exact List.mem_range.1 (h.1.mem_iff.1 hm)
abbrev encN:Nat→Value:=fun x=>.int .i64 (x:Int)
theorem row_conv {α β : Type} {e1:α → Value} {e2:β → Value} {w:World} {b o:Nat} {T:TypeId} {hd tl:List Value} {d1:Array α} {d2:Array β} (h:Row e1 w b o T hd d1 tl) (he:d1.toList.map e1=d2.toList.map e2):Row e2 w b o T hd d2 tl:=
  ⟨h.1,by rw [← he];exact h.2⟩
theorem row_range {w:World} {b o:Nat} {T:TypeId} {hd tl:List Value} {n:Nat} {c:Array Int} (h:Row (Value.int .i64) w b o T hd c tl) (hn:c.size=n) (hc:∀ j,j<n→c[j]! = (j:Int)):Row encN w b o T hd (List.range n).toArray tl:=by
  refine row_conv h ?_;apply List.ext_getElem
  · simp [hn]
  · intro i h1 h2;have h1:i<c.size:=by simpa using h1
    have:=hc i om_;simp only [getElem!_pos c i h1] at this;simp [this]
theorem fin_row {w:World} {b o:Nat} {T:TypeId} {hd tl:List Value} {m:Nat} (h:Row encN w b o T hd (List.range (m+1)).toArray tl):Row (encF m) w b o T hd (List.finRange (m+1)).toArray tl:=by
  refine row_conv h ?_;apply List.ext_getElem
  · simp
  · intro i h1 h2;simp
theorem extract_all {α : Type} (d:Array α) {n:Nat} (h:d.size=n):d.extract 0 n=d:=by subst h;simp
theorem ordered_of {ns:List Str} {m:Nat} {d:Array (Fin (m+1))} (hne:ns≠[]) (p:PermIn 0 (m+1) (List.finRange (m+1)).toArray d) (hs:SortedIn (ltc (cfF ns m)) 0 (m+1) d):Ordered ns (m+1) (d.toList.map (·.val)):=by
  obtain ⟨h1,-,h3⟩:=p;have hsz:d.size=m+1:=by rw [h1];simp
  rw [extract_all d hsz,extract_all _ (by simp)] at h3;have e2:(List.finRange (m+1)).map (·.val)=List.range (m+1):=by
    apply List.ext_getElem
    · simp
    · intro i h1 h2;simp
  refine ⟨by rw [← e2];exact h3.map _,fun h=>absurd h hne,fun _ i j hij hj=>?_⟩;have:=hs i j om_ hij hj;have this:decide (Lib.compareBytes (ns.getD d[j]!.val []) (ns.getD d[i]!.val [])<0)=false:=this;rw [cb_lt] at this;have ei:∀ i,i<m+1→(d.toList.map (·.val)).getD i 0=d[i]!.val:=fun i hi=>by
    simp [List.getD_eq_getElem?_getD,show i<d.size by omega]
  rw [ei i om_,ei j hj];exact this
def outN (ns:List Str) (idx:List Nat):List Str:=if ns=[] then [] else idx.map (fun x=>ns.getD x [])
def outP (ps:List Sh) (idx:List Nat):List Sh:=idx.map (fun x=>(ps.getD x default).sort)
theorem take_succ' {idx:List Nat} {k:Nat} (hk:k<idx.length):idx.take (k+1)=idx.take k++[idx.getD k 0]:=take_snoc (d:=0) hk
theorem outN_succ {ns:List Str} {idx:List Nat} {k:Nat} (hne:ns≠[]) (hk:k<idx.length):outN ns (idx.take (k+1))=outN ns (idx.take k)++[ns.getD (idx.getD k 0) []]:=by
  unfold outN;rw [if_neg hne,if_neg hne,take_succ' hk,List.map_append];rfl
theorem outN_nil {ns:List Str} {idx:List Nat} (h:ns=[]):outN ns idx=[]:=by unfold outN;rw [if_pos h]
theorem outP_succ {ps:List Sh} {idx:List Nat} {k:Nat} (hk:k<idx.length):outP ps (idx.take (k+1))=outP ps (idx.take k)++[(ps.getD (idx.getD k 0) default).sort]:=by
  unfold outP;rw [take_succ' hk,List.map_append];rfl
theorem outN_len {ns:List Str} {idx:List Nat} {k:Nat}:(outN ns (idx.take k)).length≤idx.length:=by
  unfold outN;split <;> simp;omega
theorem outP_len {ps:List Sh} {idx:List Nat} {k:Nat}:(outP ps (idx.take k)).length≤idx.length:=by
  unfold outP;simp;omega
theorem outN_short {ns:List Str} {idx:List Nat} (h:∀ x∈ns,x.length≤9223372036854775807):∀ x∈outN ns idx,x.length≤9223372036854775807:=by
  unfold outN;split
  · simp
  · intro x hx;obtain ⟨i,-,rfl⟩:=List.mem_map.1 hx;rcases Nat.lt_or_ge i ns.length with hi | hi
    · rw [List.getD_eq_getElem?_getD,List.getElem?_eq_getElem hi];exact h _ (List.getElem_mem _)
    · rw [List.getD_eq_getElem?_getD,List.getElem?_eq_none hi];simp
theorem insP_perm (x:Str × Sh):∀ l,(insP x l).Perm (x :: l)
  | []=>.refl _
  | y :: l=>by
    unfold insP;split
    · exact ((insP_perm x l).cons y).trans (.swap x y l)
    · exact .refl _
theorem foldP_perm:∀ (l acc:List (Str × Sh)),(l.foldl (fun a x=>insP x a) acc).Perm (l++acc)
  | [],acc=>.refl _
  | x :: l,acc=>by
    rw [List.foldl_cons];refine (foldP_perm l _).trans ?_;refine (List.Perm.append_left l (insP_perm x acc)).trans ?_;exact List.perm_middle
abbrev LeP (a b:Str × Sh):Prop:=ltStr b.1 a.1=false
theorem insP_sorted (x:Str × Sh):∀ l:List (Str × Sh),l.Pairwise LeP→(insP x l).Pairwise LeP
  | [],_=>by simp [insP]
  | y :: l,h=>by
    rw [List.pairwise_cons] at h;unfold insP;split
    · next hlt=>
      rw [List.pairwise_cons];refine ⟨fun z hz=>?_,insP_sorted x l h.2⟩;rcases List.mem_cons.1 ((insP_perm x l).mem_iff.1 hz) with rfl | hz
      · show ltStr _ _=false;cases hh:ltStr z.1 y.1
        · rfl
        · have:=swo_ltStr.trans _ _ _ hlt hh;rw [swo_ltStr.irrefl] at this;cases this
      · exact h.1 z hz
    · next hlt=>
      have hlt:ltStr y.1 x.1=false:=by simpa using hlt
      rw [List.pairwise_cons];refine ⟨fun z hz=>?_,List.pairwise_cons.2 h⟩;rcases List.mem_cons.1 hz with rfl | hz
      · exact hlt
      · exact swo_ltStr.ntrans _ _ _ (h.1 z hz) hlt
theorem foldP_sorted:∀ (l acc:List (Str × Sh)),acc.Pairwise LeP→(l.foldl (fun a x=>insP x a) acc).Pairwise LeP
  | [],_,h=>h
  | x :: l,acc,h=>by rw [List.foldl_cons];exact foldP_sorted l _ (insP_sorted x acc h)
theorem eq_of_fst {l:List (Str × Sh)} (h:(l.map (·.1)).Nodup) {a b:Str × Sh} (ha:a∈l) (hb:b∈l) (e:a.1=b.1):a=b:=by
  induction l with
  | nil=>cases ha
  | cons x l ih=>
    rw [List.map_cons,List.nodup_cons] at h;rcases List.mem_cons.1 ha with e1 | ha'
    · rcases List.mem_cons.1 hb with e2 | hb'
      · rw [e1,e2]
      · exact absurd (by rw [← e1,e];exact List.mem_map_of_mem hb') h.1
    · rcases List.mem_cons.1 hb with e2 | hb'
      · exact absurd (by rw [← e2,← e];exact List.mem_map_of_mem ha') h.1
      · exact ih h.2 ha' hb'
theorem sort_of_ordered {s:Sh} {idx:List Nat} (hf:fitsS s=true) (h:Ordered s.names s.parts.length idx):Sh.mk s.kind s.of s.name (outN s.names idx) (outP s.parts idx)=s.sort:=by
  rw [Sh.sort_eq];by_cases hn:s.names=[]
  · rw [if_pos hn,outN_nil hn,h.2.1 hn];congr 1;unfold outP;apply List.ext_getElem
    · simp
    · intro i h1 h2;have:i<s.parts.length:=by simpa using h1
      simp [List.getD_eq_getElem?_getD,this]
  · rw [if_neg hn];obtain ⟨hl,hd⟩:=(fits_names hf).resolve_left hn;obtain ⟨prs,hprs⟩:∃ prs,prs=idx.map (fun x=>(s.names.getD x [],(s.parts.getD x default).sort)):=⟨_,rfl⟩;have hz:(List.range s.parts.length).map (fun x=>(s.names.getD x [],(s.parts.getD x default).sort))=s.names.zip (s.parts.map Sh.sort):=by
      apply List.ext_getElem
      · simp;omega
      · intro i h1 h2;have h3:i<s.parts.length:=by simpa using h1
        simp [List.getD_eq_getElem?_getD,h3,show i<s.names.length by omega]
    have hp:prs.Perm (s.names.zip (s.parts.map Sh.sort)):=by rw [hprs,← hz];exact h.1.map _
    have hfst:(s.names.zip (s.parts.map Sh.sort)).map (·.1)=s.names:=by
      rw [List.map_fst_zip];simp;omega
    have key:prs=pairUp s.names (s.parts.map Sh.sort):=by
      have q:=(foldP_perm (s.names.zip (s.parts.map Sh.sort)) []);rw [List.append_nil] at q;refine List.Perm.eq_of_pairwise (le:=LeP) ?_ ?_ (foldP_sorted _ _ List.Pairwise.nil) (hp.trans q.symm)
      · intro a b ha hb h1 h2;exact eq_of_fst (l:=s.names.zip (s.parts.map Sh.sort)) (by rw [hfst];exact nodup_iff.1 hd) (hp.mem_iff.1 ha) (q.mem_iff.1 hb) (ltStr_anti h2 h1)
      · rw [List.pairwise_iff_getElem];intro i j hi hj hij;have hil:idx.length=s.parts.length:=h.len;have hj':j<s.parts.length:=by rw [hprs] at hj;simp at hj;omega
        have:=h.2.2 hn i j hij hj';show ltStr _ _=false;simp only [hprs,List.getElem_map];simpa [List.getD_eq_getElem?_getD,show i<idx.length by omega,show j<idx.length by omega] using this
    rw [← key,hprs];unfold outN outP;rw [if_neg hn];simp
end Go.Gx
