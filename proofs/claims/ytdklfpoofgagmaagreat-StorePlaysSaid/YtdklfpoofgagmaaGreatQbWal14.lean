/- Frames and headers: what is laid is read. Conditions: none. -/
import Derived.Sort.Defs
import Derived.Test.YtdklfpoofgagmaaGreatQbWal8
import Derived.Test.YtdklfpoofgagmaaGreatQbRep
import Derived.Test.YtdklfpoofgagmaaGreatQbMapS
import Derived.Test.YtdklfpoofgagmaaGreatQbSrtK
import Derived.Test.YtdklfpoofgagmaaGreatQbRowG
namespace Go.Gx
open Go.Proofs
theorem lowB_nat (n:Nat):(lowB (n:Int)).toNat=n % 256:=by
  unfold lowB;rw [UInt8.toNat_ofNat',show ((n:Int) % 256).toNat=n % 256 by omega];omega
theorem beV_take_beN {k n:Nat} (hn:n<256 ^ k):∀ j,j≤k→beV ((beN k n).take j)=n / 256 ^ (k - j)
  | 0,_=>by rw [List.take_zero,Nat.sub_zero,Nat.div_eq_of_lt hn];rfl
  | j+1,hj=>by
    rw [beN_take hj,beV_snoc,beV_take_beN hn j om_];have e1:(n:Int) / 2 ^ (8 * (k - 1 - j))=((n / 256 ^ (k - (j+1)):Nat):Int):=by
      have h2:(256:Nat) ^ (k - (j+1))=2 ^ (8 * (k - 1 - j)):=by
        rw [show (256:Nat)=2 ^ 8 from rfl,← Nat.pow_mul,show k - 1 - j=k - (j+1) by omega]
      rw [h2,Int.natCast_ediv,Int.natCast_pow];rfl
    rw [e1,lowB_nat];have e2:256 ^ (k - j)=256 ^ (k - (j+1)) * 256:=by rw [← Nat.pow_succ];congr 1;omega
    rw [e2,← Nat.div_div_eq_div_mul];omega
theorem beV_beN {k n:Nat} (hn:n<256 ^ k):beV (beN k n)=n:=by
  have:=beV_take_beN hn k (Nat.le_refl _);rw [List.take_of_length_le (by rw [beN_len];exact Nat.le_refl _),Nat.sub_self,Nat.pow_zero,Nat.div_one] at this;exact this
theorem bit8:∀ n:Fin 256,n.val≠0→1≤Lib.bitLen n.val∧Lib.bitLen n.val≤8:=by decide +kernel
theorem widN_1 {n:Nat} (h0:n≠0) (h:n<256):widN n=1:=by
  have:=bit8 ⟨n,h⟩ h0;unfold widN;dsimp only at this;omega
theorem widN_2 {n:Nat} (h0:256≤n) (h:n<65536):widN n=2:=by
  have:=bit8 ⟨n / 256,by omega⟩ (by dsimp only;omega);unfold widN;rw [Lib.bitLen_shift8 n h0 om_];dsimp only at this;omega
theorem takeNum_numB {n:Nat} (hn:n≤20000) (pre rest:Str):takeNum (pre++numB n++rest) pre.length=(n,pre.length+(numB n).length,0):=by
  have e0:(pre++numB n++rest).drop pre.length=numB n++rest:=by rw [List.append_assoc,List.drop_left]
  unfold takeNum;rw [e0];by_cases h:n<248
  · have e1:numB n=[lowB (n:Nat)]:=by unfold numB;rw [if_pos h]
    rw [e1];simp only [List.cons_append,List.nil_append];rw [lowB_nat,show n % 256=n by omega,if_pos h];rfl
  · have hw:∃ k,widN n=k∧1≤k∧k≤2∧n<256 ^ k:=by
      by_cases h2:n<256
      · exact ⟨1,widN_1 om_ h2,by omega,by omega,by omega⟩
      · exact ⟨2,widN_2 om_ om_,by omega,by omega,by omega⟩
    obtain ⟨k,hk,k1,k2,k3⟩:=hw;have e1:numB n=lowB ((247+k:Nat):Int) :: beN k n:=by unfold numB;rw [if_neg h,hk];rfl
    have e2:(lowB ((247+k:Nat):Int)).toNat=247+k:=by rw [lowB_nat];omega
    have e3:(beN k n++rest).take k=beN k n:=by
      have:=List.take_left (l₁ := beN k n) (l₂ := rest)
      rwa [beN_len] at this
    rw [e1];simp only [List.cons_append];rw [e2,if_neg om_,show 247+k - 247=k by omega,if_neg (by rw [List.length_append,beN_len];omega),e3,beV_beN k3,if_neg (by rw [hk];omega)];simp only [List.length_cons,beN_len];rw [show pre.length+1+k=pre.length+(k+1) by omega]
theorem takeText_textB {s:Str} (hs:s.length≤20000) (pre rest:Str):takeText (pre++textB s++rest) pre.length=(s,pre.length+(textB s).length,0):=by
  have e0:pre++textB s++rest=pre++numB s.length++(s++rest):=by unfold textB;simp only [List.append_assoc]
  have hN:=takeNum_numB hs pre (s++rest);rw [takeText_eq,e0,hN];have e1:(pre++numB s.length++(s++rest)).drop (pre.length+(numB s.length).length)=s++rest:=by
    have:=List.drop_left (l₁ := pre++numB s.length) (l₂ := s++rest)
    rwa [List.length_append] at this
  have e2:(textB s).length=(numB s.length).length+s.length:=by unfold textB;rw [List.length_append]
  dsimp only;rw [if_neg (by decide),if_neg (by simp only [List.length_append];omega),e1,List.take_left,e2,Nat.add_assoc]
theorem takeF_frm {s:Str} (hs:s.length≤20000) (pre rest:Str):takeF (pre++frm s++rest) pre.length=(s,pre.length+(frm s).length,0):=by
  have e0:pre++frm s++rest=pre++textB s++(sumB (textB s)++rest):=by unfold frm;simp only [List.append_assoc]
  have hT:=takeText_textB hs pre (sumB (textB s)++rest);have e1:(pre++textB s++(sumB (textB s)++rest)).drop pre.length=textB s++(sumB (textB s)++rest):=by rw [List.append_assoc,List.drop_left]
  have e2:(pre++textB s++(sumB (textB s)++rest)).drop (pre.length+(textB s).length)=sumB (textB s)++rest:=by
    have:=List.drop_left (l₁ := pre++textB s) (l₂ := sumB (textB s)++rest)
    rwa [List.length_append] at this
  have e3:(sumB (textB s)++rest).take 4=sumB (textB s):=by
    have:=List.take_left (l₁ := sumB (textB s)) (l₂ := rest)
    rwa [sumB_len] at this
  unfold takeF;rw [e0,hT];dsimp only;rw [if_neg (by decide),if_neg om_,if_neg (by simp only [List.length_append,sumB_len];omega),e1,e2,e3,show pre.length+(textB s).length - pre.length=(textB s).length by omega,List.take_left,if_neg (by simp)];have:(frm s).length=(textB s).length+4:=by unfold frm;rw [List.length_append,sumB_len]
  rw [this,Nat.add_assoc]
def endsF:Nat→List Str→List (Str × Nat)
  | _,[]=>[]
  | k,s :: l=>(s,k+(frm s).length) :: endsF (k+(frm s).length) l
theorem takeF_end (s:Str):(takeF s s.length).2.2≠0:=fun e=>by have:=(takeF_le e).2.2;omega
theorem scanF_frms:∀ (l:List Str) (f:Nat) (pre:Str),tooBig l=false→l.length<f→scanF f (pre++(l.map frm).flatten) pre.length=endsF pre.length l
  | [],f+1,pre,_,_=>by
    rw [List.map_nil,List.flatten_nil,List.append_nil,scanF,if_pos (takeF_end pre)];rfl
  | s :: l,f+1,pre,h,hf=>by
    unfold tooBig at h;rw [List.any_cons,Bool.or_eq_false_iff] at h;have hs:s.length≤20000:=by have:=h.1;simp only [decide_eq_false_iff_not] at this;omega
    have e0:pre++((s :: l).map frm).flatten=pre++frm s++(l.map frm).flatten:=by simp
    have hT:=takeF_frm hs pre (l.map frm).flatten;have ih:=scanF_frms l f (pre++frm s) h.2 (by simpa using hf);rw [List.length_append] at ih;rw [scanF,e0,hT,if_neg (by simp)];dsimp only;rw [ih];rfl
theorem endsF_fst:∀ (l:List Str) (k:Nat),(endsF k l).map (·.1)=l
  | [],_=>rfl
  | s :: l,k=>by simp [endsF,endsF_fst l]
theorem endsF_last:∀ (l:List Str) (k:Nat),l≠[]→((endsF k l).getLast?.map (·.2)).getD 0=k+(l.map frm).flatten.length
  | [],_,h=>absurd rfl h
  | [s],k,_=>by simp [endsF]
  | s :: t :: l,k,_=>by
    have ih:=endsF_last (t :: l) (k+(frm s).length) (by simp);have e:endsF k (s :: t :: l)=(s,k+(frm s).length) :: endsF (k+(frm s).length) (t :: l):=rfl;rw [e,List.getLast?_cons_of_ne_nil (by simp [endsF]),ih];simp [Nat.add_assoc]
theorem frm_pos (s:Str):4≤(frm s).length:=by unfold frm;rw [List.length_append,sumB_len];omega
theorem len_frms (l:List Str):l.length≤(l.map frm).flatten.length:=by
  induction l with
  | nil=>simp
  | cons s l ih=>have:=frm_pos s;simp only [List.map_cons,List.flatten_cons,List.length_append,List.length_cons];omega
theorem scan_frms {l:List Str} (h:tooBig l=false):scanS ((l.map frm).flatten)=(l,(l.map frm).flatten.length):=by
  have hl:=len_frms l;have e:=scanF_frms l ((l.map frm).flatten.length+1) [] h om_;simp only [List.nil_append,List.length_nil] at e;unfold scanS frames;rw [e,endsF_fst];by_cases h0:l=[]
  · subst h0;rfl
  · rw [endsF_last l 0 h0,Nat.zero_add]
theorem hdr_17 (p:Pt):(hdrS p).take 17=ptS p∧((hdrS p).drop 17).take 17=turnS (ptS p):=by
  have h:=ptS_len p;have e:hdrS p=ptS p++(turnS (ptS p)++zeros 30):=by unfold hdrS;rw [List.append_assoc]
  have h2:(turnS (ptS p)).length=17:=by simp [turnS,h]
  constructor
  · have:=List.take_left (l₁ := ptS p) (l₂ := turnS (ptS p)++zeros 30);rw [h] at this;rw [e];exact this
  · have:=List.drop_left (l₁ := ptS p) (l₂ := turnS (ptS p)++zeros 30);rw [h] at this;rw [e,this];have:=List.take_left (l₁ := turnS (ptS p)) (l₂ := zeros 30)
    rwa [h2] at this
theorem rd_hdr {p:Pt} (hp:PtOk p) (hh:p.half<256):rdPt (hdrS p)=p:=by
  obtain ⟨h1,h2,h3,h4⟩:=hp;have e:hdrS p=beN 8 p.ep++(beN 1 p.half++(beN 4 p.tail++(beN 4 p.cnt++(turnS (ptS p)++zeros 30)))):=by
    have e1:hdrS p=(beN 8 p.ep++beN 1 p.half++beN 4 p.tail++beN 4 p.cnt)++turnS (ptS p)++zeros 30:=rfl;rw [e1];simp only [List.append_assoc]
  have p8:(256:Nat) ^ 8=18446744073709551616:=by decide
  have p4:(256:Nat) ^ 4=4294967296:=by decide
  have tk:∀ (k n:Nat) (r:Str),(beN k n++r).take k=beN k n:=fun k n r=>by
    have:=List.take_left (l₁ := beN k n) (l₂ := r)
    rwa [beN_len] at this
  have dr:∀ (k n:Nat) (r:Str),(beN k n++r).drop k=r:=fun k n r=>by
    have:=List.drop_left (l₁ := beN k n) (l₂ := r)
    rwa [beN_len] at this
  have d9:(hdrS p).drop 9=beN 4 p.tail++(beN 4 p.cnt++(turnS (ptS p)++zeros 30)):=by
    rw [e,show 9=8+1 from rfl,← List.drop_drop,dr,dr]
  have d13:(hdrS p).drop 13=beN 4 p.cnt++(turnS (ptS p)++zeros 30):=by
    rw [show 13=9+4 from rfl,← List.drop_drop,d9,dr]
  have b8:(hdrS p).getD 8 0=lowB (p.half:Nat):=by
    rw [List.getD_eq_getElem?_getD,e,List.getElem?_append_right (by rw [beN_len];omega),beN_len];simp [beN]
  unfold rdPt;rw [b8,d9,d13,tk,tk,beV_beN (by rw [p4];exact h3),beV_beN (by rw [p4];exact h4),lowB_nat,e,tk,beV_beN (by rw [p8];exact h1),Nat.mod_eq_of_lt hh]
theorem rdOk_hdr {p:Pt} (hp:PtOk p) (hh:p.half≤1) {room:Nat} (ht:p.tail≤room):rdOk (hdrS p) room=true:=by
  unfold rdOk;rw [(hdr_17 p).1,(hdr_17 p).2,rd_hdr hp om_,decide_eq_true hh,decide_eq_true ht,beq_self_eq_true];rfl
end Go.Gx
namespace Go.Gx
open Go.Sort
theorem lt_irr (x:Str):ltStr x x=false:=by
  unfold ltStr;exact decide_eq_false (List.lt_irrefl x)
theorem lt_tr {x y z:Str} (h1:ltStr x y=true) (h2:ltStr y z=true):ltStr x z=true:=by
  unfold ltStr at *;exact decide_eq_true (List.lt_trans (of_decide_eq_true h1) (of_decide_eq_true h2))
theorem lt_as {x y:Str} (h1:ltStr x y=true):ltStr y x=false:=by
  unfold ltStr at *;exact decide_eq_false (List.lt_asymm (of_decide_eq_true h1))
theorem lt_tot {x y:Str} (h1:ltStr x y=false) (h2:x≠y):ltStr y x=true:=by
  unfold ltStr at *;have h:=of_decide_eq_false h1;rcases Decidable.em (y<x) with h3 | h3
  · exact decide_eq_true h3
  · exact absurd (List.le_antisymm (List.not_lt.1 h3) (List.not_lt.1 h)) h2
structure Ed where
  key:Str
  val:Str
  gone:Bool
deriving DecidableEq
instance:Inhabited Ed:=⟨⟨[],[],false⟩⟩
def lastE:List Ed→Str→Option Ed
  | [],_=>none
  | e :: l,k=>(lastE l k).or (if e.key=k then some e else none)
theorem lastE_append {l m:List Ed} {k:Str}:lastE (l++m) k=(lastE m k).or (lastE l k):=by
  induction l with
  | nil=>simp [lastE]
  | cons e l ih=>rw [List.cons_append,lastE,lastE,ih,Option.or_assoc]
theorem lastE_none {l:List Ed} {k:Str}:lastE l k=none↔∀ e∈l,e.key≠k:=by
  induction l with
  | nil=>simp [lastE]
  | cons x l ih=>
    rw [lastE,Option.or_eq_none_iff,ih];by_cases h:x.key=k
    · simp [h]
    · simp [h]
def live (e:Option Ed):Option Str:=e.bind fun e=>if e.gone then none else some e.val
def valE (l:List Ed) (k:Str):Option Str:=live (lastE l k)
def come1:List Ed→Ed→List Ed
  | [],e=>if e.gone then [] else [e]
  | x :: l,e=>if ltStr x.key e.key then x :: come1 l e else (if e.gone then [] else [e])++(if x.key=e.key then l else x :: l)
def comes (h l:List Ed):List Ed:=l.foldl come1 h
theorem comes_append {h l m:List Ed}:comes h (l++m)=comes (comes h l) m:=List.foldl_append
def Rises (l:List Ed):Prop:=l.Pairwise (fun a b=>ltStr a.key b.key=true)∧∀ e∈l,e.gone=false
theorem come1_mem {h:List Ed} {e x:Ed} (hx:x∈come1 h e):x=e∨x∈h:=by
  induction h with
  | nil=>
    rw [come1] at hx;split at hx
    · cases hx
    · exact .inl (by simpa using hx)
  | cons y l ih=>
    rw [come1] at hx;split at hx
    · rcases List.mem_cons.1 hx with rfl | hx
      · exact .inr (by simp)
      · exact (ih hx).imp id (fun h=>List.mem_cons_of_mem _ h)
    · rcases List.mem_append.1 hx with hx | hx
      · split at hx
        · cases hx
        · exact .inl (by simpa using hx)
      · split at hx
        · exact .inr (List.mem_cons_of_mem _ hx)
        · exact .inr hx
theorem come1_rises {h:List Ed} {e:Ed} (hr:Rises h):Rises (come1 h e):=by
  induction h with
  | nil=>
    rw [come1];split
    · exact ⟨List.Pairwise.nil,by simp⟩
    · next hg=>exact ⟨by simp,by simpa using hg⟩
  | cons y l ih=>
    obtain ⟨h1,h2⟩:=hr;rw [List.pairwise_cons] at h1;have hl:Rises l:=⟨h1.2,fun x hx=>h2 x (List.mem_cons_of_mem _ hx)⟩;rw [come1];split
    · next hlt=>
      refine ⟨List.pairwise_cons.2 ⟨fun x hx=>?_,(ih hl).1⟩,fun x hx=>?_⟩
      · rcases come1_mem hx with rfl | hx
        · exact hlt
        · exact h1.1 x hx
      · rcases List.mem_cons.1 hx with rfl | hx
        · exact h2 _ (by simp)
        · exact (ih hl).2 x hx
    · next hge=>
      have hge:ltStr y.key e.key=false:=by simpa using hge
      have hrest:Rises (if y.key=e.key then l else y :: l):=by
        split
        · exact hl
        · exact ⟨List.pairwise_cons.2 h1,h2⟩
      split
      · simpa using hrest
      · next hg=>
        refine ⟨List.pairwise_cons.2 ⟨fun x hx=>?_,hrest.1⟩,fun x hx=>?_⟩
        · split at hx
          · next hk=>rw [← hk];exact h1.1 x hx
          · next hk=>
            have h3:=lt_tot hge hk;rcases List.mem_cons.1 hx with rfl | hx
            · exact h3
            · exact lt_tr h3 (h1.1 x hx)
        · rcases List.mem_cons.1 hx with rfl | hx
          · simpa using hg
          · exact hrest.2 x hx
theorem comes_rises {h l:List Ed} (hr:Rises h):Rises (comes h l):=by
  induction l generalizing h with
  | nil=>exact hr
  | cons e l ih=>exact ih (come1_rises hr)
theorem rises_nil:Rises []:=⟨List.Pairwise.nil,by simp⟩
theorem come1_val {h:List Ed} {e:Ed} {k:Str} (hr:Rises h):valE (come1 h e) k=if e.key=k then live (some e) else valE h k:=by
  induction h with
  | nil=>
    rw [come1];unfold valE live;by_cases hk:e.key=k <;> cases hg:e.gone <;> simp [lastE,hk,hg]
  | cons y l ih=>
    obtain ⟨h1,h2⟩:=hr;rw [List.pairwise_cons] at h1;have hl:Rises l:=⟨h1.2,fun x hx=>h2 x (List.mem_cons_of_mem _ hx)⟩;have hstep:∀ (m:List Ed),valE (y :: m) k=((lastE m k).or (if y.key=k then some y else none) |> live):=fun m=>rfl
    rw [come1];split
    · next hlt=>
      have hne:y.key≠e.key:=fun h=>by rw [h,lt_irr] at hlt;cases hlt
      by_cases hyk:y.key=k
      · have hek:e.key≠k:=fun h=>hne (by rw [hyk,h])
        have n1:lastE l k=none:=lastE_none.2 fun x hx h=>by have:=h1.1 x hx;rw [h,hyk,lt_irr] at this;cases this
        have n2:lastE (come1 l e) k=none:=lastE_none.2 fun x hx h=>by
          rcases come1_mem hx with rfl | hx
          · exact hek h
          · have:=h1.1 x hx;rw [h,hyk,lt_irr] at this;cases this
        rw [hstep,hstep,n1,n2,if_neg hek]
      · rw [hstep,hstep,if_neg hyk,Option.or_none,Option.or_none];exact ih hl
    · next hge=>
      have hge:ltStr y.key e.key=false:=by simpa using hge
      by_cases hek:e.key=k
      · rw [if_pos hek];have hrest:lastE (if y.key=e.key then l else y :: l) k=none:=by
          refine lastE_none.2 fun x hx h=>?_
          split at hx
          · next hy=>have:=h1.1 x hx;rw [h,hy,hek,lt_irr] at this;cases this
          · next hy=>
            have h3:=lt_tot hge hy;rcases List.mem_cons.1 hx with rfl | hx
            · exact hy (h.trans hek.symm)
            · have:=lt_tr h3 (h1.1 x hx);rw [h,hek,lt_irr] at this;cases this
        unfold valE;rw [lastE_append,hrest,Option.none_or];cases hg:e.gone <;> simp [lastE,hek,live,hg]
      · rw [if_neg hek];have hh:lastE (if e.gone=true then [] else [e]) k=none:=by split <;> simp [lastE,hek]
        unfold valE;rw [lastE_append,hh,Option.or_none];split
        · next hy=>rw [lastE,if_neg (fun h=>hek (hy ▸ h)),Option.or_none]
        · rfl
theorem rises_find {l:List Ed} (hr:Rises l) {e:Ed}:e∈l↔e.gone=false∧valE l e.key=some e.val:=by
  induction l with
  | nil=>simp [valE,lastE,live]
  | cons x l ih=>
    obtain ⟨h1,h2⟩:=hr;rw [List.pairwise_cons] at h1;have hl:Rises l:=⟨h1.2,fun y hy=>h2 y (List.mem_cons_of_mem _ hy)⟩;have hx0:=h2 x (by simp);by_cases hk:x.key=e.key
    · have hn:lastE l e.key=none:=lastE_none.2 fun y hy h=>by have:=h1.1 y hy;rw [hk,h,lt_irr] at this;cases this
      have hv:valE (x :: l) e.key=some x.val:=by unfold valE;rw [lastE,hn,Option.none_or,if_pos hk];simp [live,hx0]
      rw [hv,List.mem_cons];constructor
      · rintro (rfl | he)
        · exact ⟨hx0,rfl⟩
        · exact absurd rfl (lastE_none.1 hn e he)
      · rintro ⟨hg,hv⟩;refine .inl ?_;cases x;cases e
        simp_all
    · have hv:valE (x :: l) e.key=valE l e.key:=by unfold valE;rw [lastE,if_neg hk,Option.or_none]
      rw [hv,List.mem_cons,← ih hl];exact ⟨fun h=>h.resolve_left (fun h=>hk (by rw [h])),.inr⟩
structure Sx where
  opn:Bool
  at_:Nat
  eds:List Ed
  gets:List Str
  heads:List Str
instance:Inhabited Sx:=⟨⟨false,0,[],[],[]⟩⟩
structure Bs where
  first:List Ed
  log:List (List Ed)
  all:List Sx
def Bs.isOpen (b:Bs) (id:Int):Prop:=1≤id∧id≤b.all.length∧(b.all.getD (id.toNat - 1) default).opn=true
instance {b:Bs} {id:Int}:Decidable (b.isOpen id):=by unfold Bs.isOpen;infer_instance
def Bs.upd (b:Bs) (id:Int) (s:Sx):Bs:={ b with all:=b.all.set (id.toNat - 1) s }
end Go.Gx
namespace Go.Gx
open Go.Proofs Go.Sort
def listB (l:List Str):Str:=numB l.length++(l.map textB).flatten
def takeListF:Nat→Str→Nat→List Str × Nat × Int
  | 0,_,a=>([],a,0)
  | n+1,s,a=>
    if (takeText s a).2.2≠0 then ([],0,(takeText s a).2.2)
    else if (takeListF n s (takeText s a).2.1).2.2≠0 then ([],0,(takeListF n s (takeText s a).2.1).2.2)
    else ((takeText s a).1 :: (takeListF n s (takeText s a).2.1).1,(takeListF n s (takeText s a).2.1).2.1,0)
def takeList (s:Str) (a:Nat):List Str × Nat × Int:=
  if (takeNum s a).2.2≠0 then ([],0,(takeNum s a).2.2) else takeListF (takeNum s a).1 s (takeNum s a).2.1
theorem takeListF_texts:∀ (l:List Str) (pre rest:Str),(∀ s∈l,s.length≤20000)→takeListF l.length (pre++(l.map textB).flatten++rest) pre.length=(l,pre.length+((l.map textB).flatten).length,0)
  | [],pre,rest,_=>rfl
  | s :: l,pre,rest,h=>by
    have e0:pre++((s :: l).map textB).flatten++rest=pre++textB s++((l.map textB).flatten++rest):=by simp only [List.map_cons,List.flatten_cons,List.append_assoc]
    have h1:=takeText_textB (h s (by simp)) pre ((l.map textB).flatten++rest);have ih:=takeListF_texts l (pre++textB s) rest (fun x hx=>h x (List.mem_cons_of_mem _ hx));rw [show pre++textB s++(l.map textB).flatten++rest=pre++textB s++((l.map textB).flatten++rest) by simp only [List.append_assoc],List.length_append] at ih;rw [e0,List.length_cons,takeListF,h1];dsimp only;rw [if_neg (by decide),ih];dsimp only;rw [if_neg (by decide),List.map_cons,List.flatten_cons,List.length_append,Nat.add_assoc]
theorem takeList_listB {l:List Str} (hn:l.length≤20000) (h:∀ s∈l,s.length≤20000):takeList (listB l) 0=(l,(listB l).length,0):=by
  have h1:=takeNum_numB hn [] (l.map textB).flatten;have h2:=takeListF_texts l (numB l.length) [] h;rw [List.nil_append,List.length_nil,Nat.zero_add] at h1;rw [List.append_nil] at h2;unfold takeList listB;rw [h1];dsimp only;rw [if_neg (by decide),h2,List.length_append]
theorem takeListF_fail {n:Nat} {s:Str} {a:Nat} (h:(takeText s a).2.2≠0):takeListF (n+1) s a=([],0,(takeText s a).2.2):=by rw [takeListF,if_pos h]
theorem takeListF_err:∀ (n:Nat) (s:Str) (a:Nat),(takeListF n s a).2.2≠0→takeListF n s a=([],0,(takeListF n s a).2.2)
  | 0,_,_,h=>absurd rfl h
  | n+1,s,a,h=>by
    rw [takeListF] at h ⊢;split
    · rfl
    · rename_i h1
      rw [if_neg h1] at h;split
      · rfl
      · rename_i h2
        rw [if_neg h2] at h;exact absurd rfl h
def moreL (o:List Str) (r:List Str × Nat × Int):List Str × Nat × Int:=if r.2.2≠0 then ([],0,r.2.2) else (o++r.1,r.2.1,0)
theorem moreL_nil (n:Nat) (s:Str) (a:Nat):moreL [] (takeListF n s a)=takeListF n s a:=by
  unfold moreL;split
  · rename_i h;exact (takeListF_err n s a h).symm
  · rename_i h
    have h:(takeListF n s a).2.2=0:=by simpa using h
    rw [List.nil_append,← h]
theorem moreL_step {o:List Str} {n:Nat} {s:Str} {a:Nat} (h:(takeText s a).2.2=0):moreL o (takeListF (n+1) s a)=moreL (o++[(takeText s a).1]) (takeListF n s (takeText s a).2.1):=by
  rw [takeListF,if_neg (by simpa using h)];unfold moreL;by_cases h2:(takeListF n s (takeText s a).2.1).2.2≠0
  · rw [if_pos h2,if_pos h2,if_pos h2]
  · rw [if_neg h2,if_neg h2,if_neg (by simp)];simp
def bodyL (l:List Ed):List Str:=(l.map fun e=>[e.key,if e.gone then [71] else [86],e.val]).flatten
def bodyB (l:List Ed):Str:=listB (bodyL l)
def mayE (e:Ed):Bool:=!(e.key == []) && !decide (100<e.key.length) && !decide (8100<e.val.length) && !(e.gone && !(e.val == []))
def mayL (l:List Ed):Bool:=l.all mayE
def trip:List Str→Option (List Ed)
  | []=>some []
  | [_]=>none
  | [_,_]=>none
  | k :: m :: v :: r=>if m=[86]∨m=[71] then (trip r).map (⟨k,v,m == [71]⟩ :: ·) else none
def editsB (s:Str):Option (List Ed):=if (takeList s 0).2.2≠0∨(takeList s 0).2.1≠s.length then none else (trip (takeList s 0).1).bind fun l=>if mayL l then some l else none
theorem bodyL_len (l:List Ed):(bodyL l).length=3 * l.length:=by
  unfold bodyL;induction l with
  | nil=>rfl
  | cons e l ih=>simp only [List.map_cons,List.flatten_cons,List.length_append,List.length_cons,List.length_nil] at ih ⊢;omega
theorem textB_pos (s:Str):s.length<(textB s).length:=by
  unfold textB numB;split
  · simp
  · simp only [List.cons_append,List.length_cons,List.length_append];omega
theorem texts_len (l:List Str):l.length≤((l.map textB).flatten).length:=by
  induction l with
  | nil=>exact Nat.le_refl _
  | cons s l ih=>simp only [List.map_cons,List.flatten_cons,List.length_append,List.length_cons];have:=textB_pos s;omega
theorem texts_mem {l:List Str} {s:Str} (h:s∈l):s.length≤((l.map textB).flatten).length:=by
  induction l with
  | nil=>cases h
  | cons t l ih=>
    simp only [List.map_cons,List.flatten_cons,List.length_append];rcases List.mem_cons.1 h with rfl | h
    · have:=textB_pos s;omega
    · have:=ih h;omega
def allB (ls:List (List Ed)):List Str:=ls.map bodyB
def snapL (G:List Ed):List (List Ed):=G.map fun e=>[e]
theorem may_come1 {G:List Ed} {e:Ed} (hG:mayL G=true) (he:mayE e=true):mayL (come1 G e)=true:=by
  unfold mayL at *;rw [List.all_eq_true] at *;intro x hx;rcases come1_mem hx with rfl | h
  · exact he
  · exact hG x h
theorem may_comes:∀ {l G:List Ed},mayL G=true→mayL l=true→mayL (comes G l)=true
  | [],_,hG,_=>hG
  | e :: l,G,hG,hl=>by
    unfold mayL at hl;rw [List.all_cons,Bool.and_eq_true] at hl;exact may_comes (l:=l) (may_come1 hG hl.1) hl.2
theorem numB_le {n:Nat} (h:n<65536):(numB n).length≤3:=by
  unfold numB;split
  · simp
  · rename_i h1
    by_cases h2:n<256
    · rw [widN_1 om_ h2];simp [beN]
    · rw [widN_2 om_ h];simp [beN]
theorem mayE_len {e:Ed} (h:mayE e=true):e.key.length≤100∧e.val.length≤8100:=by
  unfold mayE at h;simp only [Bool.and_eq_true,Bool.not_eq_true',decide_eq_false_iff_not] at h;omega
theorem body1_len {e:Ed} (h:mayE e=true):(bodyB [e]).length≤9000:=by
  obtain ⟨h1,h2⟩:=mayE_len h;have e1:bodyB [e]=numB 3++(textB e.key++(textB (if e.gone then [71] else [86])++(textB e.val++[]))):=rfl;rw [e1];unfold textB;simp only [List.length_append,List.length_nil];have a1:=numB_le (n:=3) om_;have a2:=numB_le (n:=e.key.length) om_;have a3:=numB_le (n:=e.val.length) om_;have a4:(if e.gone then ([71]:Str) else [86]).length=1:=by split <;> rfl
  rw [a4];have a5:=numB_le (n:=1) om_;omega
end Go.Gx
namespace Go.Gx
open Go.Proofs Go.Sort
def edV (e:Ed):List Value:=[S e.key,S e.val,.bool e.gone]
def EdOk (e:Ed):Prop:=e.key.length≤9223372036854775807∧e.val.length≤9223372036854775807
def EdC (_:Nat→Prop) (_:World) (cs:List Value) (e:Ed):Prop:=cs=edV e∧EdOk e
instance car_ed:Car EdC 3 where
  pos:=by omega
  len:=fun h=>by rw [h.1];rfl
  one:=fun h=>by
    rw [h.1]
    intro v hv
    simp only [edV,List.mem_cons,List.not_mem_nil,or_false] at hv
    rcases hv with rfl | rfl | rfl <;> rfl
  move:=fun _ h=>h
abbrev EdsAt (A:Nat→Prop) (w:World) (v:Value) (l:List Ed):Prop:=RecsAt EdC 3 A w v l
theorem edV_one (e:Ed):∀ v∈edV e,v.oneCell'=true:=fun v hv=>by
  simp only [edV,List.mem_cons,List.not_mem_nil,or_false] at hv;rcases hv with rfl | rfl | rfl <;> rfl
theorem eds_elem {A:Nat→Prop} {w:World} {p:Option Addr} {n cap:Nat} {l:List Ed} (h:EdsAt A w (.slice p n cap) l) {i:Nat} (hi:i<l.length):
    EdOk (l.getD i default)∧∃ b o,p=some ⟨b,o,none⟩∧¬ A b∧∀ j,j<3→w.cell? ⟨b,o+i * 3+j,none⟩=(edV (l.getD i default))[j]? := by
  obtain ⟨p',cap',row,e,-,-,-,hR⟩:=h;cases e;obtain ⟨b,o,hp,hA,hc⟩:=hR.elem hi;have he:=hR.each i hi;refine ⟨he.2,b,o,hp,hA,fun j hj=>?_⟩;rw [hc j hj,he.1]
theorem eds_ok {A:Nat→Prop} {w:World} {v:Value} {l:List Ed} (h:EdsAt A w v l):∀ e∈l,EdOk e:=fun e he=>by
  obtain ⟨p',cap',row,-,-,-,-,hR⟩:=h;obtain ⟨i,hi,rfl⟩:=List.getElem_of_mem he;have:=(hR.each i hi).2
  rwa [List.getD_eq_getElem?_getD,List.getElem?_eq_getElem hi] at this
theorem rows_pureT {α : Type} [Inhabited α] {C:Thing α} {A:Nat→Prop} {w:World} {f:α → List Value}:∀ (l:List α),(∀ x∈l,C A w (f x) x)→RowsC C A w (l.map f) l:=fun l h=>
  ⟨by simp,fun i hi=>by
    have:=h (l.getD i default) (by rw [List.getD_eq_getElem?_getD,List.getElem?_eq_getElem hi];exact List.getElem_mem hi);simpa [List.getD_eq_getElem?_getD,hi] using this⟩
theorem eds_of_box {A:Nat→Prop} {w:World} {b:Nat} (l:List Ed) (h:Box w b 70 (l.map edV).flatten) (hA:¬ A b) (hl:l.length≤70368744177664) (hok:∀ e∈l,EdOk e):EdsAt A w (.slice (some ⟨b,0,none⟩) l.length l.length) l:=by
  have hr:=rows_pureT (C:=EdC) (A:=A) (w:=w) (f:=edV) l fun e he=>⟨rfl,hok e he⟩
  exact recs_of_box (l.map edV) l h hA hl (by simp) (fun i hi=>Car.len (hr.2 i hi)) hr.2
theorem own_eds {w:World} {base:Nat} {p:Option Addr} {c:Nat} {l:List Ed} (h:Own w base 70 3 (.slice p l.length c) l.length (l.map edV).flatten) (hok:∀ e∈l,EdOk e) (hl:l.length≤1000000):EdsAt (fun j=>j<base) w (.slice p l.length c) l:=
  (rows_pureT (C:=EdC) (A:=fun _=>True) (w:=w) (f:=edV) l fun e he=>⟨rfl,hok e he⟩).doneB h om_ (fun _ _=>trivial) (fun _ hj hA=>by have:=(Own.lt h hj).1;omega)
theorem sortedNew_strs {base:Nat} {w:World} {v:Value} {ss:List Str} (h:SortedNew base w v ss) (hn:ss.Nodup) (hx:∀ x∈ss,x.length≤9223372036854775807) (hl:ss.length≤70368744177664):
    ∃ ks:List Str,ks.Perm ss∧ks.Pairwise (fun a b=>ltStr a b=true)∧StrsAt (fun k=>k<base) w v ks:=by
  rcases h with ⟨rfl,rfl⟩ | ⟨b,cap,tl,d,hb,h1,h2,rfl,⟨-,hR⟩,hd,hp,hs,hc⟩
  · exact ⟨[],List.Perm.refl _,List.Pairwise.nil,StrsAt.nil _ _ _ _ (by simp)⟩
  · have hperm:d.toList.Perm ss:=by
      have h3:=hp.2.2;have e1:(d.extract 0 ss.length).toList=d.toList:=by simp [← hd]
      have e2:(ss.toArray.extract 0 ss.length).toList=ss:=by simp
      rw [e1,e2] at h3;exact h3
    have hnd:d.toList.Nodup:=hperm.nodup_iff.2 hn;refine ⟨d.toList,hperm,?_,?_⟩
    · rw [List.pairwise_iff_getElem];intro i j hi hj hij;have hi':i<d.size:=by simpa using hi
      have hj':j<d.size:=by simpa using hj
      have h3:=hs i j (Nat.zero_le _) hij om_;rw [getElem!_pos d j hj',getElem!_pos d i hi'] at h3;refine lt_tot h3 (fun e=>?_);have h4:=List.pairwise_iff_getElem.1 hnd i j hi hj hij;exact h4 (by simpa using e.symm)
    · have hdl:d.toList.length=ss.length:=by simpa using hd
      refine ⟨some ⟨b,0,none⟩,cap,by rw [hdl],by omega,hc,by omega,fun x hx'=>hx x (hperm.mem_iff.1 hx'),fun _=>⟨b,0,rfl,by omega,fun i hi=>hR.cell0 ?_⟩⟩;have hlen:i<(d.toList.map S).length:=by simpa using hi
      rw [List.nil_append,List.getElem?_append_left hlen,List.getElem?_map,List.getElem?_eq_getElem hi,List.getD_eq_getElem?_getD,List.getElem?_eq_getElem hi];rfl
theorem rises_keys {l:List Ed} (h:Rises l):(l.map (·.key)).Pairwise (fun a b=>ltStr a b=true):=by
  rw [List.pairwise_map];exact h.1
theorem sorted_eq {ks ls:List Str} (h1:ks.Pairwise (fun a b=>ltStr a b=true)) (h2:ls.Pairwise (fun a b=>ltStr a b=true)) (h:∀ x,x∈ks↔x∈ls):ks=ls:=by
  have hn:∀ {l:List Str},l.Pairwise (fun a b=>ltStr a b=true)→l.Nodup:=fun hl=>hl.imp fun {a b} h e=>by rw [e,lt_irr] at h;cases h
  have hp:ks.Perm ls:=(List.perm_ext_iff_of_nodup (hn h1) (hn h2)).2 h;exact List.Perm.eq_of_pairwise (le:=fun a b=>ltStr a b=true) (fun a b _ _ h1 h2=>by rw [lt_as h1] at h2;cases h2) h1 h2 hp
theorem rises_mem {G:List Ed} (h:Rises G) {k:Str}:k∈G.map (·.key)↔valE G k≠none:=by
  rw [List.mem_map];constructor
  · rintro ⟨e,he,rfl⟩;rw [((rises_find h).1 he).2];simp
  · intro hv;obtain ⟨v,hv⟩:=Option.ne_none_iff_exists'.1 hv;exact ⟨⟨k,v,false⟩,(rises_find h).2 ⟨rfl,hv⟩,rfl⟩
section
variable {P:Program} {E:Env} {w:World} {κ : Type} [DecidableEq κ] {K:κ → Value} {V:κ → Prop}
theorem x_lookNil {t kt et:TypeId} {m x:Operand} {ty:TypeId} {k:κ} {z:Value} (hm:P.underlying t=some (.map kt et)) (hk:KLaw P kt K V) (hz:(P.info? et).bind (·.zero)=some z)
    (hx:ev E m=.map none) (hy:ev E x=K k) (hV:V k) (ok:Bool):X P (.lookup t m x ok) ty E w (if ok then .tuple #[z,.bool false] else z) w:=by
  have hzr:∀ w,(zeroValue et).run P w=.ok z w:=fun w=>by
    cases hi:P.info? et with
    | none=>simp [hi] at hz
    | some i=>
      simp [hi] at hz;simp [zeroValue,typeInfo,hi,hz]
  have hf:=hk.find k [] [] w hV (by simp) (by simp) rfl;rw [if_neg (by simp)] at hf;unfold X;cases ok <;> simp [execOp,hx,hy,Instr.lookup,run_underlying hm,hk.check _ k w hV,hf,hzr,Result.andThen]
end
theorem getK_keys {l:List (Str × Value)} {k:Str}:getK l k≠none↔k∈l.map (·.1):=by
  rw [← idxK_mem];unfold getK;split <;> simp_all
structure HoldsM (w:World) (mb:Nat) (l:List (Str × Value)) (G:List Ed):Prop where
  map:MapAtK S (fun _=>True) w mb l
  get:∀ k,getK l k=(valE G k).map S
def MapHas (n0:Nat) (w:World) (m:Option Nat) (G:List Ed):Prop:=(m=none∧G=[])∨∃ mb l,m=some mb∧n0≤mb∧HoldsM w mb l G
theorem HoldsM.carryR {R:Nat→Prop} {w w':World} {mb:Nat} {l:List (Str × Value)} {G:List Ed} (h:HoldsM w mb l G) (g:Gr R w w') (hn:¬ R mb):HoldsM w' mb l G:=⟨h.map.carryR g hn,h.get⟩
theorem HoldsM.carry {w w':World} {mb:Nat} {l:List (Str × Value)} {G:List Ed} (h:HoldsM w mb l G) (g:Bel w w'):HoldsM w' mb l G:=h.carryR g (fun f=>f)
theorem MapHas.carryR {R:Nat→Prop} {n0:Nat} {w w':World} {m:Option Nat} {G:List Ed} (h:MapHas n0 w m G) (g:Gr R w w') (hn:∀ k,m=some k→¬ R k):MapHas n0 w' m G:=by
  rcases h with h | ⟨mb,l,rfl,h1,h2⟩
  · exact .inl h
  · exact .inr ⟨mb,l,rfl,h1,h2.carryR g (hn mb rfl)⟩
theorem MapHas.carry {n0:Nat} {w w':World} {m:Option Nat} {G:List Ed} (h:MapHas n0 w m G) (g:Bel w w'):MapHas n0 w' m G:=h.carryR g (fun _ _ f=>f)
theorem HoldsM.keys {w:World} {mb:Nat} {l:List (Str × Value)} {G:List Ed} (h:HoldsM w mb l G) (hG:Rises G):(l.map (·.1)).Nodup∧∀ k,k∈l.map (·.1)↔k∈G.map (·.key):=by
  refine ⟨h.map.nodup,fun k=>?_⟩;rw [rises_mem hG,← getK_keys,h.get];cases valE G k <;> simp
theorem HoldsM.nil {w:World} {mb:Nat} (h:MapAtK S (fun _=>True) w mb []):HoldsM w mb [] []:=⟨h,fun k=>rfl⟩
theorem come1_snoc {G l:List Ed} {e:Ed}:comes G (l++[e])=come1 (comes G l) e:=by rw [comes_append];rfl
theorem HoldsM.put {w w':World} {mb:Nat} {l:List (Str × Value)} {G:List Ed} {e:Ed} (h:HoldsM w mb l G) (hG:Rises G) (hg:e.gone=false) (hm:MapAtK S (fun _=>True) w' mb (putK l e.key (S e.val))):HoldsM w' mb (putK l e.key (S e.val)) (come1 G e):=by
  refine ⟨hm,fun k=>?_⟩;rw [getK_put,come1_val hG];by_cases hk:k=e.key
  · rw [if_pos hk,if_pos hk.symm];simp [live,hg]
  · rw [if_neg hk,if_neg (fun h=>hk h.symm),h.get]
theorem HoldsM.del {w w':World} {mb:Nat} {l:List (Str × Value)} {G:List Ed} {e:Ed} (h:HoldsM w mb l G) (hG:Rises G) (hg:e.gone=true) (hm:MapAtK S (fun _=>True) w' mb (delK l e.key)):HoldsM w' mb (delK l e.key) (come1 G e):=by
  refine ⟨hm,fun k=>?_⟩;rw [getK_del h.map.nodup,come1_val hG];by_cases hk:k=e.key
  · rw [if_pos hk,if_pos hk.symm];simp [live,hg]
  · rw [if_neg hk,if_neg (fun h=>hk h.symm),h.get]
section
variable {P:Program} {E:Env} {w:World}
theorem x_hasT {t kt et:TypeId} {mm x:Operand} {ty:TypeId} {n0:Nat} {m:Option Nat} {G:List Ed} {k:Str} (hm:P.underlying t=some (.map kt et)) (hk:KLaw P kt S (fun _=>True)) (hz:(P.info? et).bind (·.zero)=some (S []))
    (hx:ev E mm=.map m) (hy:ev E x=S k) (h:MapHas n0 w m G):X P (.lookup t mm x true) ty E w (.tuple #[S ((valE G k).getD []),.bool (valE G k).isSome]) w:=by
  rcases h with ⟨rfl,rfl⟩ | ⟨mb,l,rfl,-,hH⟩
  · exact x_lookNil hm hk hz hx hy trivial true
  · have hg:=hH.get k;cases hv:valE G k with
    | none=>
      rw [hv] at hg;exact x_lookKn hm hk hz hx hy trivial hH.map hg
    | some v=>
      rw [hv] at hg;exact x_lookKs hm hk hz hx hy trivial hH.map hg
theorem x_hasF {t kt et:TypeId} {mm x:Operand} {ty:TypeId} {n0:Nat} {m:Option Nat} {G:List Ed} {k:Str} (hm:P.underlying t=some (.map kt et)) (hk:KLaw P kt S (fun _=>True)) (hz:(P.info? et).bind (·.zero)=some (S []))
    (hx:ev E mm=.map m) (hy:ev E x=S k) (h:MapHas n0 w m G):X P (.lookup t mm x false) ty E w (S ((valE G k).getD [])) w:=by
  rcases h with ⟨rfl,rfl⟩ | ⟨mb,l,rfl,-,hH⟩
  · exact x_lookNil hm hk hz hx hy trivial false
  · refine x_look0 hm hk hz hx hy trivial hH.map ?_;rw [hH.get];cases valE G k <;> rfl
end
end Go.Gx
namespace Go.Gx
open Go.ChangeShapes Go.WideShapes Go.Deep Go.RowKit
section
variable {H:Type} {enc:TypeId × Value→H} {P:Program} {w:World} {base:Nat} {spare:Nat→Bool} {held:Bool}
theorem bls_open {t e:TypeId} {fuel:Nat} {v:Value} {x:DataW H × List MemPlace} (ht:P.underlying t=some (.slice e)) (he:P.underlying e=some .bool) (hc:P.cellsOf e=1) (hb:1≤P.bytesOf e)
    (h:DataW.trod enc P w base spare held fuel t [v]=some x) (hw:(x.1.weights P t).all (· ≤ reachBytes)=true):∃ l,BlsAt (fun _=>False) w v l:=by
  rcases open_slice1 ht hc h with ⟨h1,rfl⟩ | ⟨a,len,cap,m,n,V,D,Pl,h1,-,hl,hm,hmm,rfl,hx⟩
  · simp only [List.cons.injEq,and_true] at h1;exact ⟨[],none,0,h1,Nat.le_refl _,by simp,by simp,fun h=>absurd rfl h⟩
  · simp only [List.cons.injEq,and_true] at h1;subst h1;have hlm:len≤m:=by rw [hmm];split <;> omega
    have hs:∀ i,i<len→∃ s:Bool,V i=.bool s:=fun i hi=>by
      obtain ⟨s,h1,-⟩:=DataW.trod_bool he (hx i om_).2;simp only [List.cons.injEq,and_true] at h1;exact ⟨s,h1⟩
    obtain ⟨f,hf⟩:=choose_lt (α := Bool) hs;have hby:=(weights_slice ht hw).1;have hlen:len≤140737488355328:=by
      have h1:len * P.bytesOf e≤reachBytes:=Nat.le_trans (Nat.mul_le_mul_right _ (by simp)) hby;have h2:len * 1≤len * P.bytesOf e:=Nat.mul_le_mul_left _ hb;have h3:=reachBytes_lt;omega
    have e0:((List.range len).map f).length=len:=by simp
    refine ⟨(List.range len).map f,some a,cap,by rw [e0],by rw [e0];exact hl,hm,by rw [e0];exact hlen,fun hne=>?_⟩;have h0:0<len:=by rcases Nat.eq_zero_or_pos len with h | h;exact absurd (by rw [h];rfl) hne;exact h
    have hc0:=(hx 0 om_).1;obtain ⟨b,o,spot⟩:=a;have hspot:spot=none:=by simpa [Addr.add] using World.cell?_spot hc0
    subst hspot;refine ⟨b,o,rfl,fun f=>f,fun i hi=>?_⟩;rw [e0] at hi;have hci:=(hx i om_).1;rw [add_plain] at hci;rw [hci,hf i hi,List.getD_eq_getElem?_getD,List.getElem?_map,List.getElem?_range hi];rfl
structure FaT (P:Program) (tF eB:TypeId) (f0 f1 f2:Field):Prop where
  hB:P.underlying tF=some (.struct #[f0,f1,f2])
  h0:P.underlying f0.type=some (.slice eB)
  hb:P.underlying eB=some .bool
  h1:P.underlying f1.type=some (.int .i64)
  h2:P.underlying f2.type=some (.int .i64)
  o:f0.offset=0∧f1.offset=1∧f2.offset=2
  c:P.cellsOf f0.type=1∧P.cellsOf f1.type=1∧P.cellsOf f2.type=1∧P.cellsOf tF=3∧P.cellsOf eB=1∧1≤P.bytesOf eB
theorem fa_open {tF eB:TypeId} {f0 f1 f2:Field} (G:FaT P tF eB f0 f1 f2) (fuel:Nat) (cs:List Value) (x:DataW H × List MemPlace) (h:DataW.trod enc P w base spare held fuel tF cs=some x) (hw:(x.1.weights P tF).all (· ≤ reachBytes)=true):
    ∃ vk,∃ l:List Bool,∃ t c:Int,cs=[vk,.int .i64 t,.int .i64 c]∧BlsAt (fun _=>False) w vk l:=by
  obtain ⟨xs,n,rfl,rfl,hlen,hxl,hf⟩:=DataW.trod_struct G.hB h;obtain ⟨o0,o1,o2⟩:=G.o;obtain ⟨c0,c1,c2,c3,c4,c5⟩:=G.c;rw [c3] at hlen
  match cs,hlen with
  | [v0,v1,v2],_=>
    match xs,hxl with
    | [x0,x1,x2],_=>
      have g0':=hf 0 f0 rfl;have g1':=hf 1 f1 rfl;have g2':=hf 2 f2 rfl;rw [o0,c0] at g0';rw [o1,c1] at g1';rw [o2,c2] at g2';have w0:=weights_at G.hB hw (i:=0) (f:=f0) (d:=x0.1) rfl rfl;obtain ⟨l,hl⟩:=bls_open G.h0 G.hb c4 c5 (x:=x0) g0' w0;obtain ⟨k1,e1,-,-⟩:=DataW.trod_int G.h1 (x:=x1) g1';obtain ⟨k2,e2,-,-⟩:=DataW.trod_int G.h2 (x:=x2) g2';simp at e1 e2;exact ⟨v0,l,k1,k2,by rw [e1,e2],hl⟩
theorem int_arg {tT:TypeId} (ht:P.underlying tT=some (.int .i64)) {W:World} {base:Nat} {v:Value} {d:DataW H} {p:List MemPlace}
    (hv:Value.okWide P W .any base tT v) (h:DataW.Trod enc P W 0 (fun _=>true) true tT v d p):∃ n:Int,v=.int .i64 n∧True:=by
  obtain ⟨fuel,h⟩:=h;have hcells:v.cells.toList=[v]:=by
    unfold Value.okWide at hv;rw [ht] at hv;cases v <;> simp_all [Value.cells,Cell.okWide,Cell.ok]
  rw [hcells] at h;obtain ⟨k0,e0,-,-⟩:=DataW.trod_int ht h;simp at e0;exact ⟨k0,e0,trivial⟩
end
end Go.Gx
namespace Go.Gx
open Go.ChangeShapes Go.WideShapes Go.Deep Go.RowKit
structure Sa where
  kind:Int
  eds:List Ed
  at':Int
  keep:List Bool
  torn:Int
  cut:Int
  data:Str
instance:Inhabited Sa:=⟨⟨0,[],0,[],0,0,[]⟩⟩
def saV (a:Sa) (ve vk:Value):List Value:=[.int .i64 a.kind,ve,.int .i64 a.at',vk,.int .i64 a.torn,.int .i64 a.cut,S a.data]
def SaC (A:Nat→Prop) (w:World) (cs:List Value) (a:Sa):Prop:=∃ ve vk,cs=saV a ve vk∧EdsAt A w ve a.eds∧BlsAt A w vk a.keep∧a.at'≤9223372036854775807
instance car_sa:Car SaC 7 where
  pos:=by omega
  len:=fun ⟨_,_,h,_⟩=>by rw [h];rfl
  one:=fun ⟨ve,vk,h,h1,h2,_⟩=>by
    rw [h];intro v hv
    simp only [saV,List.mem_cons,List.not_mem_nil,or_false] at hv
    rcases hv with rfl | rfl | rfl | rfl | rfl | rfl | rfl
    · rfl
    · exact h1.one
    · rfl
    · exact h2.one
    · rfl
    · rfl
    · rfl
  move:=fun hc ⟨ve,vk,h,h1,h2,h3⟩=>⟨ve,vk,h,h1.move hc,h2.move hc,h3⟩
abbrev SasAt (A:Nat→Prop) (w:World) (v:Value) (l:List Sa):Prop:=RecsAt SaC 7 A w v l
section
variable {H:Type} {enc:TypeId × Value→H} {P:Program} {w:World} {base:Nat} {spare:Nat→Bool} {held:Bool}
structure EdT (P:Program) (tB:TypeId) (g0 g1 g2:Field):Prop where
  hB:P.underlying tB=some (.struct #[g0,g1,g2])
  h0:P.underlying g0.type=some .string
  h1:P.underlying g1.type=some .string
  h2:P.underlying g2.type=some .bool
  o:g0.offset=0∧g1.offset=1∧g2.offset=2
  c:P.cellsOf g0.type=1∧P.cellsOf g1.type=1∧P.cellsOf g2.type=1∧P.cellsOf tB=3
theorem ed_open {tB:TypeId} {g0 g1 g2:Field} (G:EdT P tB g0 g1 g2) (fuel:Nat) (cs:List Value) (x:DataW H × List MemPlace) (h:DataW.trod enc P w base spare held fuel tB cs=some x):∃ e,EdC (fun _=>False) w cs e:=by
  obtain ⟨xs,n,rfl,rfl,hlen,hxl,hf⟩:=DataW.trod_struct G.hB h;obtain ⟨o0,o1,o2⟩:=G.o;obtain ⟨c0,c1,c2,c3⟩:=G.c;rw [c3] at hlen
  match cs,hlen with
  | [v0,v1,v2],_=>
    match xs,hxl with
    | [x0,x1,x2],_=>
      have g0':=hf 0 g0 rfl;have g1':=hf 1 g1 rfl;have g2':=hf 2 g2 rfl;rw [o0,c0] at g0';rw [o1,c1] at g1';rw [o2,c2] at g2';obtain ⟨s0,e0,-,l0⟩:=DataW.trod_string G.h0 (x:=x0) g0';obtain ⟨s1,e1,-,l1⟩:=DataW.trod_string G.h1 (x:=x1) g1';obtain ⟨b2,e2,-⟩:=DataW.trod_bool G.h2 (x:=x2) g2';simp at e0 e1 e2;refine ⟨⟨s0.data.toList,s1.data.toList,b2⟩,?_,max_le l0,max_le l1⟩;rw [e0,e1,e2];simp [edV,S]
theorem edz_open {tE tB:TypeId} {g0 g1 g2:Field} (hE:P.underlying tE=some (.slice tB)) (hb:2≤P.bytesOf tB) (G:EdT P tB g0 g1 g2) {fuel:Nat} {v:Value} {x:DataW H × List MemPlace}
    (h:DataW.trod enc P w base spare held fuel tE [v]=some x) (hw:(x.1.weights P tE).all (· ≤ reachBytes)=true):∃ l,EdsAt (fun _=>False) w v l:=
  recs_open (Cc:=EdC) hE G.c.2.2.2 om_ hb (fun fuel cs x h _=>ed_open G fuel cs x h) h hw
theorem wf64s {n:Int} (h:(Lit.int .i64 n).wf=true):n≤9223372036854775807:=by
  simp only [Lit.wf,Bool.and_eq_true,decide_eq_true_eq] at h;exact h.2
structure SaT (P:Program) (tB tF tL tS:TypeId) (g0 g1 g2 g3 g4:Field):Prop where
  hB:P.underlying tB=some (.struct #[g0,g1,g2,g3,g4])
  h0:P.underlying g0.type=some (.int .i64)
  h1:g1.type=tL
  h2:P.underlying g2.type=some (.int .i64)
  h3:g3.type=tF
  h4:P.underlying g4.type=some .string
  o:g0.offset=0∧g1.offset=1∧g2.offset=2∧g3.offset=3∧g4.offset=6
  c:P.cellsOf g0.type=1∧P.cellsOf tL=1∧P.cellsOf g2.type=1∧P.cellsOf tF=3∧P.cellsOf tB=7∧P.cellsOf g4.type=1
theorem sa_open {tB tF tL tS eB:TypeId} {g0 g1 g2 g3 g4 f0 f1 f2 d0 d1 d2:Field} (G:SaT P tB tF tL tS g0 g1 g2 g3 g4) (F:FaT P tF eB f0 f1 f2) (hL:P.underlying tL=some (.slice tS)) (hb:2≤P.bytesOf tS) (E:EdT P tS d0 d1 d2) (fuel:Nat) (cs:List Value) (x:DataW H × List MemPlace) (h:DataW.trod enc P w base spare held fuel tB cs=some x) (hw:(x.1.weights P tB).all (· ≤ reachBytes)=true):
    ∃ a,SaC (fun _=>False) w cs a:=by
  obtain ⟨xs,n,rfl,rfl,hlen,hxl,hf⟩:=DataW.trod_struct G.hB h;obtain ⟨o0,o1,o2,o3,o4⟩:=G.o;obtain ⟨c0,c1,c2,c3,c4,c5⟩:=G.c;rw [c4] at hlen
  match cs,hlen with
  | [v0,v1,v2,v3,v4,v5,v6],_=>
    match xs,hxl with
    | [x0,x1,x2,x3,x4],_=>
      have g0':=hf 0 g0 rfl;have g1':=hf 1 g1 rfl;have g2':=hf 2 g2 rfl;have g3':=hf 3 g3 rfl;have g4':=hf 4 g4 rfl;rw [o0,c0] at g0';rw [o1,G.h1,c1] at g1';rw [o2,c2] at g2';rw [o3,G.h3,c3] at g3';rw [o4,c5] at g4';have w1:=weights_at G.hB hw (i:=1) (f:=g1) (d:=x1.1) rfl rfl;rw [G.h1] at w1;have w3:=weights_at G.hB hw (i:=3) (f:=g3) (d:=x3.1) rfl rfl;rw [G.h3] at w3;obtain ⟨k0,e0,-,-⟩:=DataW.trod_int G.h0 (x:=x0) g0';obtain ⟨bs,hbs⟩:=edz_open hL hb E (x:=x1) g1' w1;obtain ⟨k2,e2,-,b2⟩:=DataW.trod_int G.h2 (x:=x2) g2';obtain ⟨vk,ks,t,c,e3,hk⟩:=fa_open F _ _ x3 g3' w3;obtain ⟨s4,e4,-,-⟩:=DataW.trod_string G.h4 (x:=x4) g4';simp at e0 e2 e4;have e3:[v3,v4,v5]=[vk,.int .i64 t,.int .i64 c]:=e3;simp only [List.cons.injEq,and_true] at e3;exact ⟨⟨k0,bs,k2,ks,t,c,s4.data.toList⟩,v1,vk,by rw [e0,e2,e4,e3.1,e3.2.1,e3.2.2];simp [saV,S],hbs,hk,wf64s b2⟩
theorem sas_arg {tE tB tF tL tS eB:TypeId} {g0 g1 g2 g3 g4 f0 f1 f2 d0 d1 d2:Field} (hE:P.underlying tE=some (.slice tB)) (hbB:2≤P.bytesOf tB) (G:SaT P tB tF tL tS g0 g1 g2 g3 g4) (F:FaT P tF eB f0 f1 f2) (hL:P.underlying tL=some (.slice tS)) (hb:2≤P.bytesOf tS) (E:EdT P tS d0 d1 d2) {W:World} {base:Nat} {v:Value} {d:DataW H} {p:List MemPlace}
    (hv:Value.okWide P W .any base tE v) (h:DataW.Trod enc P W 0 (fun _=>true) true tE v d p) (hw:(d.weights P tE).all (· ≤ reachBytes)=true):∃ l,RecsAt SaC 7 (fun _=>False) W v l:=
  recs_arg hE G.c.2.2.2.2.1 om_ hbB (fun fuel cs x h hw=>sa_open G F hL hb E fuel cs x h hw) hv h hw
end
end Go.Gx
