/- Maps whose keys are strings or numbers; looked up without asking; deleted from. Conditions: none. -/
import Derived.MapKept
import Derived.Test.YtigcdmnhmfeioaaGbMapK
namespace Go.Gx
open Go.Proofs Go.MapKept
variable {P:Program} {n:Nat} {Q:Post} {D:List Deferred} {E:Env} {w:World}
theorem klaw_plain {κ : Type} [DecidableEq κ] {K:κ → Value} {V:κ → Prop} {kt:TypeId} {d:TypeDesc} (hd:P.underlying kt=some d) (hK:∀ x,V x→IsKey d (K x)) (hinj:∀ {a b:κ},K a=K b→a=b):KLaw P kt K V where
  check:=fun e x w hx=>run_checkKey hd (hK x hx) e 9999
  stays:=fun x w hx=>run_keyThatStays (d:=d) (hK x hx)
  find:=fun x es l w hx hl hn he=>by
    have hlen:es.length=l.length:=by simpa using congrArg List.length he
    have hkey:∀ j (h:j<es.length) (h2:j<l.length),es[j].key=K l[j].1∧es[j].val=l[j].2:=fun j h h2=>by
      have:=congrArg (fun q:List (Value × Value)=>q[j]?) he;simp only [List.getElem?_map,List.getElem?_eq_getElem h,List.getElem?_eq_getElem h2,Option.map_some,Option.some.injEq,kvM,Prod.mk.injEq] at this;exact this
    have hall:∀ e∈es,IsKey d e.key:=fun e h=>by
      obtain ⟨j,hj,rfl⟩:=List.getElem_of_mem h;rw [(hkey j hj om_).1];exact hK _ (hl _ (List.getElem_mem _))
    rcases findNow_spec (hK x hx) es 0 hall with ⟨h1,h2⟩ | ⟨j,e,h1,h2,h3⟩
    · rw [run_findKey hd h1,if_neg];intro hi;exact h2 _ (List.getElem_mem (by omega:idxK x l<es.length)) (by rw [(hkey _ om_ hi).1,idxK_key hi])
    · obtain ⟨hj,rfl⟩:=List.getElem?_eq_some_iff.1 h2;have hx':l[j].1=x:=hinj (by rw [← (hkey j hj om_).1,h3]);have hi:idxK x l<l.length:=idxK_mem.2 (hx' ▸ List.mem_map_of_mem (List.getElem_mem _));have hij:idxK x l=j:=by
        have h4:=idxK_key hi;have h5:=List.pairwise_iff_getElem.1 hn;rcases Nat.lt_trichotomy (idxK x l) j with h | h | h
        · exact (h5 _ _ (by simpa using hi) (by simp;omega) h (by simp [h4,hx'])).elim
        · exact h
        · exact (h5 _ _ (by simp;omega) (by simpa using hi) h (by simp [h4,hx'])).elim
      have hv:valK l j=(es[j]).val:=by rw [(hkey j hj om_).2,valK_at]
      rw [run_findKey hd h1,if_pos hi,hij,hv,Nat.zero_add]
theorem klawS {kt:TypeId} (hd:P.underlying kt=some .string):KLaw P kt S (fun _=>True):=klaw_plain hd (fun _ _=>trivial) (fun h=>S_inj h)
theorem MapAtK.str {V:Str→Prop} {b:Nat} {l:List (Str × Value)} (h:MapAtK S V w b l):MapAt w b l:=by
  obtain ⟨es,c,hb,h1,h2,h3,-⟩:=h;exact ⟨es,c,hb,h1,h2,h3⟩
theorem MapAtK.nodup {κ : Type} [DecidableEq κ] {K:κ → Value} {V:κ → Prop} {b:Nat} {l:List (κ × Value)} (h:MapAtK K V w b l):(l.map (·.1)).Nodup:=by
  obtain ⟨es,c,hb,h1,h2,h3,h4,h5⟩:=h;exact h5
section
variable {κ : Type} [DecidableEq κ] {K:κ → Value} {V:κ → Prop}
theorem x_look0 {t kt et:TypeId} {m x:Operand} {ty:TypeId} {b:Nat} {l:List (κ × Value)} {k:κ} {z v:Value} (hm:P.underlying t=some (.map kt et)) (hk:KLaw P kt K V) (hz:(P.info? et).bind (·.zero)=some z)
    (hx:ev E m=.map (some b)) (hy:ev E x=K k) (hV:V k) (hl:MapAtK K V w b l) (hv:(getK l k).getD z=v):X P (.lookup t m x false) ty E w v w:=by
  obtain ⟨es,c,hb,hes,-,-,hval,hnd⟩:=hl;have hf:=hk.find k es.toList l w hV hval hnd hes;have hzr:∀ w,(zeroValue et).run P w=.ok z w:=fun w=>by
    cases hi:P.info? et with
    | none=>simp [hi] at hz
    | some i=>
      simp [hi] at hz;simp [zeroValue,typeInfo,hi,hz]
  unfold X getK at *;by_cases h:idxK k l<l.length
  · rw [if_pos h] at hf hv;simp only [Option.getD_some] at hv;simp [execOp,hx,hy,Instr.lookup,run_underlying hm,MapKept.run_getObj_map hb,hk.check _ k w hV,hf,Result.andThen,hv]
  · rw [if_neg h] at hf hv;simp only [Option.getD_none] at hv;simp [execOp,hx,hy,Instr.lookup,run_underlying hm,MapKept.run_getObj_map hb,hk.check _ k w hV,hf,hzr,Result.andThen,hv]
omit [DecidableEq κ] in
omit [DecidableEq κ] in
end
section
variable {κ : Type} [DecidableEq κ] {K:κ → Value} {V:κ → Prop}
end
end Go.Gx
