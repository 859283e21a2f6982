/- What the sort computes, in plain words; the lengths of numbers. Conditions: none. -/
import Derived.Sort.Walk0
import Derived.Sort.AssemblyPlain
import Derived.Sort.LotD3
import Derived.Test.YtigcdmnhmfeioaaProg
import Derived.Lib.Bytealg
import Derived.WideMake
import Derived.MapKept
import Derived.Test.YtigcdmnhmfeioaaGgDef
import Derived.Test.YtigcdmnhmfeioaaGgRec
import Derived.Test.YtigcdmnhmfeioaaGgSrtK
namespace Go.Gx
open Go.Proofs Go.Sort
theorem ksrtp_en53:Go.Proofs.Enters Try.prog 53:=Go.Proofs.enters_of Try.func53 kr_ rfl
theorem ksrtp_en68:Go.Proofs.Enters Try.prog 68:=Go.Proofs.enters_of Try.func68 kr_ rfl
theorem ksrtp_mixed:Try.prog.follows .mixedOrders=true:=by kernel_rfl
theorem ksrtp_oc96:oneCellT Try.prog 96=true:=by kernel_rfl
theorem ksrtp_sz96:(Try.prog.info? 96).map (·.size)=some 1:=by kernel_rfl
-- Srt
theorem bneg {b:Bool} (h:b=false):¬ b=true:=by rw [h];simp
theorem and1 {p:Prop} [Decidable p] {c:Bool} (h:(decide p && c)=true):p:=by simp at h;exact h.1
theorem ins_go {α : Type} [Inhabited α] {lt:α → α → Bool} {a j:Nat} {q:Array α} (h:(decide ((a:Int)<(j:Int)) && lt q[j]! q[j - 1]!)=true):insInner lt a (j - 1) (swp q j (j - 1))=insInner lt a j q:=by
  cases j with
  | zero=>have:=and1 h;omega
  | succ j=>
    have h1:=and1 h;rw [Nat.add_sub_cancel] at h ⊢;conv=>rhs;rw [insInner]
    rw [if_pos];simp only [Bool.and_eq_true] at h ⊢;exact ⟨by simp;omega,h.2⟩
theorem ins_stop {α : Type} [Inhabited α] {lt:α → α → Bool} {a j:Nat} {q:Array α} (h:(decide ((a:Int)<(j:Int)) && lt q[j]! q[j - 1]!)=false):insInner lt a j q=q:=by
  cases j with
  | zero=>rfl
  | succ j=>
    rw [Nat.add_sub_cancel] at h;rw [insInner,if_neg];intro h2;simp only [Bool.and_eq_true,decide_eq_true_eq] at h2;have h3:(a:Int)<((j+1:Nat):Int):=by omega
    rw [h2.2,decide_eq_true h3] at h;cases h
theorem and2 {b c:Bool} (h:(b && c)=true):c=true:=by simp at h;exact h.2
theorem and0 {p:Prop} [Decidable p] {c:Bool} (h:(decide p && c)=false):¬ (p∧c=true):=by
  rintro ⟨h1,h2⟩;rw [decide_eq_true h1,h2] at h;cases h
theorem sift_step {α : Type} [Inhabited α] {lt:α → α → Bool} {hi first r ch:Nat} {d:Array α} (h:2 * r+1<hi)
    (hc:(2 * r+2<hi∧lt d[first+(2 * r+1)]! d[first+(2 * r+1)+1]! = true∧ch=2 * r+2)∨(¬ (2 * r+2<hi∧lt d[first+(2 * r+1)]! d[first+(2 * r+1)+1]! = true)∧ch=2 * r+1)):
    siftDown lt hi first r d=if lt d[first+r]! d[first+ch]! = true then siftDown lt hi first ch (swp d (first+r) (first+ch)) else d:=by
  rw [siftDown,dif_neg om_];rcases hc with ⟨h1,h2,rfl⟩ | ⟨h1,rfl⟩
  · rw [if_pos (by rw [h2];simp;omega),dif_pos h1];cases lt d[first+r]! d[first+(2 * r+2)]! <;> simp
  · rw [if_neg (by simp only [Bool.and_eq_true,decide_eq_true_eq];exact h1)];cases lt d[first+r]! d[first+(2 * r+1)]! <;> simp
theorem size_sift {α : Type} [Inhabited α] {lt:α → α → Bool} {hi first:Nat}:∀ (N r:Nat) (d:Array α),hi - r<N→(siftDown lt hi first r d).size=d.size:=by
  intro N;induction N with
  | zero=>intro r d h;omega
  | succ N ih=>
    intro r d h;rw [siftDown];split
    · rfl
    · split
      · split
        · rfl
        · split
          · rw [ih _ _ om_,size_swp]
          · rfl
      · split
        · rfl
        · rw [ih _ _ om_,size_swp]
theorem build_pred {α : Type} [Inhabited α] {lt:α → α → Bool} {hi f k:Nat} {c:Array α} (h:0<k):heapBuild lt hi f (k - 1) (siftDown lt hi f (k - 1) c)=heapBuild lt hi f k c:=by
  cases k with
  | zero=>omega
  | succ k=>rfl
theorem pop_pred {α : Type} [Inhabited α] {lt:α → α → Bool} {f k:Nat} {c:Array α} (h:0<k):heapPop lt f (k - 1) (siftDown lt (k - 1) f 0 (swp c f (f+(k - 1))))=heapPop lt f k c:=by
  cases k with
  | zero=>omega
  | succ k=>rfl
-- Srt2
-- Srt3
section
variable {α : Type} [Inhabited α] {lt:α → α → Bool} {p:α → Bool} {d:Array α} {a i j:Nat}
theorem up_go (h:(decide ((i:Int)≤(j:Int)) && p d[i]!)=true):scanUp p d j (i+1)=scanUp p d j i:=by
  have h1:=and1 h;have h2:=and2 h;conv=>rhs;rw [scanUp]
  rw [if_pos (by rw [h2];simp;omega)]
theorem up_stop (h:(decide ((i:Int)≤(j:Int)) && p d[i]!)=false):scanUp p d j i=i:=by
  have h1:=and0 h;rw [scanUp,if_neg];intro h2;simp only [Bool.and_eq_true,decide_eq_true_eq] at h2;exact h1 ⟨by omega,h2.2⟩
theorem down_go (hi:1≤i) (h:(decide ((i:Int)≤(j:Int)) && p d[j]!)=true):scanDown p d i (j - 1)=scanDown p d i j:=by
  have h1:=and1 h;have h2:=and2 h;cases j with
  | zero=>omega
  | succ j => conv=>rhs;rw [scanDown]
              rw [if_pos (by rw [h2];simp;omega)];rfl
theorem down_stop (h:(decide ((i:Int)≤(j:Int)) && p d[j]!)=false):scanDown p d i j=j:=by
  have h1:=and0 h;cases j with
  | zero=>rfl
  | succ j=>
    rw [scanDown,if_neg];intro h2;simp only [Bool.and_eq_true,decide_eq_true_eq] at h2;exact h1 ⟨by omega,h2.2⟩
theorem part_eq {i2 j2:Nat} (h1:scanUp (fun x=>lt x d[a]!) d j i=i2) (h2:scanDown (fun x=>!lt x d[a]!) d i2 j=j2):
    partLoop lt a i j d=if i2 > j2 then (j2,d) else if (j2 - 1)+1 - (i2+1)<j+1 - i then partLoop lt a (i2+1) (j2 - 1) (swp d i2 j2) else (j2,d):=by
  rw [partLoop];simp only [h1,h2];rfl
theorem part_stop {i2 j2:Nat} (h1:scanUp (fun x=>lt x d[a]!) d j i=i2) (h2:scanDown (fun x=>!lt x d[a]!) d i2 j=j2) (h:j2<i2):partLoop lt a i j d=(j2,d):=by
  rw [part_eq h1 h2,if_pos h]
theorem part_go {i2 j2:Nat} (h1:scanUp (fun x=>lt x d[a]!) d j i=i2) (h2:scanDown (fun x=>!lt x d[a]!) d i2 j=j2) (h:i2≤j2) (h3:i≤i2) (h4:j2≤j) (h5:1≤j2):partLoop lt a (i2+1) (j2 - 1) (swp d i2 j2)=partLoop lt a i j d:=by
  rw [part_eq h1 h2,if_neg om_,if_pos om_]
theorem parteq_eq {i2 j2:Nat} (h1:scanUp (fun x=>!lt d[a]! x) d j i=i2) (h2:scanDown (fun x=>lt d[a]! x) d i2 j=j2):
    partEqLoop lt a i j d=if i2 > j2 then (i2,d) else if (j2 - 1)+1 - (i2+1)<j+1 - i then partEqLoop lt a (i2+1) (j2 - 1) (swp d i2 j2) else (i2,d):=by
  rw [partEqLoop];simp only [h1,h2];rfl
theorem parteq_stop {i2 j2:Nat} (h1:scanUp (fun x=>!lt d[a]! x) d j i=i2) (h2:scanDown (fun x=>lt d[a]! x) d i2 j=j2) (h:j2<i2):partEqLoop lt a i j d=(i2,d):=by
  rw [parteq_eq h1 h2,if_pos h]
theorem parteq_go {i2 j2:Nat} (h1:scanUp (fun x=>!lt d[a]! x) d j i=i2) (h2:scanDown (fun x=>lt d[a]! x) d i2 j=j2) (h:i2≤j2) (h3:i≤i2) (h4:j2≤j) (h5:1≤j2):partEqLoop lt a (i2+1) (j2 - 1) (swp d i2 j2)=partEqLoop lt a i j d:=by
  rw [parteq_eq h1 h2,if_neg om_,if_pos om_]
end
section
variable {α : Type} [Inhabited α] {lt:α → α → Bool} {d:Array α} {a b i j s:Nat}
theorem scan_go (h:(decide ((i:Int)<(b:Int)) && !lt d[i]! d[i - 1]!)=true):scanSorted lt d b (i+1)=scanSorted lt d b i:=by
  have h1:=and1 h;have h2:=and2 h;conv=>rhs;rw [scanSorted]
  rw [if_pos (by rw [h2];simp;omega)]
theorem scan_stop (h:(decide ((i:Int)<(b:Int)) && !lt d[i]! d[i - 1]!)=false):scanSorted lt d b i=i:=by
  have h1:=and0 h;rw [scanSorted,if_neg];intro h2;simp only [Bool.and_eq_true,decide_eq_true_eq] at h2;exact h1 ⟨by omega,h2.2⟩
theorem sd_go (hj:0<j) (h:lt d[j]! d[j - 1]! = true):shiftDown lt (j - 1) (swp d j (j - 1))=shiftDown lt j d:=by
  cases j with
  | zero=>omega
  | succ j=>
    rw [Nat.add_sub_cancel] at h ⊢;conv=>rhs;rw [shiftDown]
    rw [if_neg (by rw [h];simp)]
theorem sd_stop (h:j=0∨lt d[j]! d[j - 1]! = false):shiftDown lt j d=d:=by
  cases j with
  | zero=>rfl
  | succ j=>
    rcases h with h | h
    · cases h
    · rw [Nat.add_sub_cancel] at h;rw [shiftDown,if_pos (by rw [h];rfl)]
theorem su_go (hj:j<b) (h:lt d[j]! d[j - 1]! = true):shiftUp lt b (j+1) (swp d j (j - 1))=shiftUp lt b j d:=by
  conv=>rhs;rw [shiftUp]
  rw [if_pos hj,if_neg (by rw [h];simp)]
theorem su_stop (h:b≤j∨lt d[j]! d[j - 1]! = false):shiftUp lt b j d=d:=by
  rw [shiftUp];split
  · rcases h with h | h
    · omega
    · rw [if_pos (by rw [h];rfl)]
  · rfl
def stepDown (lt:α → α → Bool) (a i:Nat) (d:Array α):Array α := if i - a≥2 then shiftDown lt (i - 1) (swp d i (i - 1)) else swp d i (i - 1)
def stepUp (lt:α → α → Bool) (b i:Nat) (d:Array α):Array α := if b - i≥2 then shiftUp lt b (i+1) d else d
theorem pins_true {i i2:Nat} (hs:scanSorted lt d b i=i2) (h:i2=b):partialIns lt a b (s+1) i d=(d,true):=by
  rw [partialIns];simp only [hs];rw [if_pos h]
theorem pins_false {i i2:Nat} (hs:scanSorted lt d b i=i2) (h:i2≠b) (h2:b - a<50):partialIns lt a b (s+1) i d=(d,false):=by
  rw [partialIns];simp only [hs];rw [if_neg h,if_pos h2]
theorem pins_go {i i2:Nat} (hs:scanSorted lt d b i=i2) (h:i2≠b) (h2:¬ b - a<50):partialIns lt a b s i2 (stepUp lt b i2 (stepDown lt a i2 d))=partialIns lt a b (s+1) i d:=by
  conv=>rhs;rw [partialIns]
  simp only [hs];rw [if_neg h,if_neg h2];rfl
theorem pins_pred {i i2:Nat} (hs:scanSorted lt d b i=i2) (h:i2≠b) (h2:¬ b - a<50) (h0:0<s):partialIns lt a b (s - 1) i2 (stepUp lt b i2 (stepDown lt a i2 d))=partialIns lt a b s i d:=by
  cases s with
  | zero=>omega
  | succ s=>exact pins_go hs h h2
end
theorem size_su {α : Type} [Inhabited α] {lt:α → α → Bool} {b:Nat}:∀ (N j:Nat) (d:Array α),b - j<N→(shiftUp lt b j d).size=d.size:=by
  intro N;induction N with
  | zero=>intro j d h;omega
  | succ N ih=>
    intro j d h;rw [shiftUp];split
    · split
      · rfl
      · rw [ih _ _ om_,size_swp]
    · rfl
-- Srt4
def lenTab (l:List UInt8):Bool:=(List.range 256).all fun y=>decide (y=0) || (Nat.ble 1 (l.getD y 0).toNat && Nat.ble (l.getD y 0).toNat 8 && Nat.ble (2 ^ ((l.getD y 0).toNat - 1)) y && Nat.blt y (2 ^ (l.getD y 0).toNat))
theorem lenTab_at {l:List UInt8} (h:lenTab l=true) {y:Nat} (h1:1≤y) (h2:y<256):1≤(l.getD y 0).toNat∧(l.getD y 0).toNat≤8∧2 ^ ((l.getD y 0).toNat - 1)≤y∧y<2 ^ (l.getD y 0).toNat:=by
  have:=List.all_eq_true.1 h y (List.mem_range.2 h2);simp only [Bool.or_eq_true,Bool.and_eq_true,decide_eq_true_eq,Nat.ble_eq,Nat.blt_eq] at this;rcases this with h | ⟨⟨⟨a,b⟩,c⟩,d⟩
  · omega
  · exact ⟨a,b,c,d⟩
theorem len_end {x k t:Nat} (h1:1≤t) (h2:2 ^ (t - 1)≤x / 2 ^ k) (h3:x / 2 ^ k<2 ^ t):2 ^ (k+t - 1)≤x∧x<2 ^ (k+t):=by
  have hp:0<2 ^ k:=Nat.two_pow_pos k;constructor
  · have:=(Nat.le_div_iff_mul_le hp).1 h2;rw [show k+t - 1=(t - 1)+k by omega,Nat.pow_add];exact this
  · have:=(Nat.div_lt_iff_lt_mul hp).1 h3;rw [Nat.add_comm,Nat.pow_add];exact this
theorem shr_q {x k s:Nat} (c:Nat) (hc:c=2 ^ s):(x / 2 ^ k) / c=x / 2 ^ (k+s):=by
  rw [hc,Nat.div_div_eq_div_mul,Nat.pow_add]
theorem L.tab {P:Program} {n:Nat} {Q:Post} {D:List Deferred} {E:Env} {w:World} {ops:Array Oper} {r:List Oper} {d:Nat} {x y:Operand} {t s:TypeId} {p:String} {af:Array Edge} {a:Str} {k:IntKind} {i:Int} (j:Nat) (hu:P.underlying s=some .string) (hx:ev E x=S a) (hy:ev E y=.int k i) (hi:i=(j:Nat))
    (ht:lenTab a=true) (hl:Nat.ble 256 a.length=true) (h1:1≤j) (h2:j<256) (hd:Nat.blt d n=true) (kk:∀ m:Nat,1≤m→m≤8→2 ^ (m - 1)≤j→j<2 ^ m→L P n ops Q r D (upd E d (.int .u8 (m:Nat))) w):L P n ops Q (⟨some d,.index s x y,t,p,af,none⟩ :: r) D E w:=by
  have h:=lenTab_at ht h1 h2;exact L.val (x_ixs hu hx hy hi (Nat.lt_of_lt_of_le h2 (Nat.le_of_ble_eq_true hl))) hd (kk _ h.1 h.2.1 h.2.2.1 h.2.2.2)
set_option maxRecDepth 100000 in
theorem len64_ok (x:Nat) (w:World) (h1:1≤x) (h2:x<18446744073709551616):Ret Try.prog 68 #[.int .u64 (x:Nat)] w fun v w'=>∃ k:Nat,v=.int .i64 (k:Nat)∧2 ^ (k - 1)≤x∧x<2 ^ k∧1≤k∧k≤100∧Bel w w':=by
  refine ret_of_W Try.func68 rfl (Nat.le_of_ble_eq_true rfl) (res1 rfl) ?_;have hB:=Gr.refl (fun _=>False) w;refine W.seq (W.region (L.val (x_as (v:=.int _ _) rfl) rfl ?_));refine L.nil (thn_n (W.cut (fun D' E' w'=>D'=[]∧∃ k:Nat,E' 0=.int .u64 (x / 2 ^ k:Nat)∧E' 2=.int .i64 (k:Nat)∧1≤x / 2 ^ k∧x / 2 ^ k<4294967296∧k≤32∧Bel w w') ?_ ?_))
  ·refine W.seq (W.region (L.val (x_mv (v:=.int _ _) rfl) rfl ?_));refine L.val (x_geq rfl rfl) rfl ?_;refine L.nil (thn_n (W.cond (b:=_) rfl (fun g4=>?_) (fun g4=>?_)))
   ·have h4:=of_decide_eq_true g4;refine W.seq (W.region (L.val (x_mv (v:=.int _ _) rfl) rfl ?_));refine L.val (x_shr rfl rfl om_ (by show _≤((64:Nat):Int);omega)) rfl ?_;refine L.val (x_as (v:=.int _ _) rfl) rfl ?_;refine L.nil (thn_n (W.region (L.val (x_as (v:=.int _ _) rfl) rfl ?_)));refine L.nil (thn_n ?_);first
      | (refine ⟨rfl,0,?_,rfl,?_,?_,by omega,hB⟩ <;> simp <;> first | rfl | omega)
      | (refine ⟨rfl,32,?_,rfl,?_,?_,by omega,hB⟩ <;> simp <;> first | rfl | omega)
   ·have h4:=dle_f g4;refine W.skip (thn_n ?_);first
      | (refine ⟨rfl,0,?_,rfl,?_,?_,by omega,hB⟩ <;> simp <;> first | rfl | omega)
      | (refine ⟨rfl,32,?_,rfl,?_,?_,by omega,hB⟩ <;> simp <;> first | rfl | omega)
  ·rintro D E w7 ⟨rfl,k,e0,e2,a1,a2,a3,hB⟩;rw [upd_self e0,upd_self e2];have hq:=shr_q (x:=x) (k:=k) (s:=16) 65536 rfl;refine W.cut (fun D' E' w'=>D'=[]∧∃ k:Nat,E' 0=.int .u64 (x / 2 ^ k:Nat)∧E' 2=.int .i64 (k:Nat)∧1≤x / 2 ^ k∧x / 2 ^ k<65536∧k≤48∧Bel w w') ?_ ?_
   ·refine W.seq (W.region (L.val (x_mv (v:=.int _ _) rfl) rfl ?_));refine L.val (x_geq rfl rfl) rfl ?_;refine L.nil (thn_n (W.cond (b:=_) rfl (fun g8=>?_) (fun g8=>?_)))
    ·have h8:=of_decide_eq_true g8;refine W.seq (W.region (L.val (x_mv (v:=.int _ _) rfl) rfl ?_));refine L.val (x_shr rfl rfl om_ (by show _≤((64:Nat):Int);omega)) rfl ?_;refine L.val (x_as (v:=.int _ _) rfl) rfl ?_;refine L.nil (thn_n (W.region (L.val (x_mv (v:=.int _ _) rfl) rfl ?_)));refine L.val (x_add rfl rfl (wr64 om_)) rfl ?_;refine L.val (x_as (v:=.int _ _) rfl) rfl ?_;refine L.nil (thn_n ?_);first
       | exact ⟨rfl,k,rfl,rfl,a1,by omega,by omega,hB⟩
       | exact ⟨rfl,k+16,by rw [← hq];rfl,rfl,by rw [← hq];omega,by rw [← hq];omega,by omega,hB⟩
    ·have h8:=dle_f g8;refine W.skip (thn_n ?_);first
       | exact ⟨rfl,k,rfl,rfl,a1,by omega,by omega,hB⟩
       | exact ⟨rfl,k+16,by rw [← hq];rfl,rfl,by rw [← hq];omega,by rw [← hq];omega,by omega,hB⟩
   ·rintro D E w13 ⟨rfl,k,e0,e2,a1,a2,a3,hB⟩;rw [upd_self e0,upd_self e2];have hq:=shr_q (x:=x) (k:=k) (s:=8) 256 rfl;refine W.cut (fun D' E' w'=>D'=[]∧∃ k:Nat,E' 0=.int .u64 (x / 2 ^ k:Nat)∧E' 2=.int .i64 (k:Nat)∧1≤x / 2 ^ k∧x / 2 ^ k<256∧k≤56∧Bel w w') ?_ ?_
    ·refine W.seq (W.region (L.val (x_mv (v:=.int _ _) rfl) rfl ?_));refine L.val (x_geq rfl rfl) rfl ?_;refine L.nil (thn_n (W.cond (b:=_) rfl (fun g14=>?_) (fun g14=>?_)))
     ·have h14:=of_decide_eq_true g14;refine W.seq (W.region (L.val (x_mv (v:=.int _ _) rfl) rfl ?_));refine L.val (x_shr rfl rfl om_ (by show _≤((64:Nat):Int);omega)) rfl ?_;refine L.val (x_as (v:=.int _ _) rfl) rfl ?_;refine L.nil (thn_n (W.region (L.val (x_mv (v:=.int _ _) rfl) rfl ?_)));refine L.val (x_add rfl rfl (wr64 om_)) rfl ?_;refine L.val (x_as (v:=.int _ _) rfl) rfl ?_;refine L.nil (thn_n ?_);first
        | exact ⟨rfl,k,rfl,rfl,a1,by omega,by omega,hB⟩
        | exact ⟨rfl,k+8,by rw [← hq];rfl,rfl,by rw [← hq];omega,by rw [← hq];omega,by omega,hB⟩
     ·have h14:=dle_f g14;refine W.skip (thn_n ?_);first
        | exact ⟨rfl,k,rfl,rfl,a1,by omega,by omega,hB⟩
        | exact ⟨rfl,k+8,by rw [← hq];rfl,rfl,by rw [← hq];omega,by rw [← hq];omega,by omega,hB⟩
    ·rintro D E w19 ⟨rfl,k,e0,e2,a1,a2,a3,hB⟩;rw [upd_self e0,upd_self e2];refine W.seq (W.region (L.val (x_mv (v:=.int _ _) rfl) rfl ?_));refine L.val (x_mv (v:=.int _ _) rfl) rfl ?_;refine L.val (x_conv (k':=.u8) (by rw [Try.underlying89];rfl) Try.underlying5 rfl (wru8 om_)) rfl ?_;refine L.tab (x / 2 ^ k) Try.underlying9 rfl rfl om_ kr_ kr_ a1 a2 rfl (fun m m1 m2 m3 m4=>?_);refine L.val (x_conv (k':=.i64) (by rw [Try.underlying5];rfl) Try.underlying3 rfl (wr64 om_)) rfl ?_;refine L.val (x_add rfl rfl (wr64 om_)) rfl ?_;refine L.val (x_as (v:=.int _ _) rfl) rfl ?_;refine L.nil (thn_n (W.ret (fin_mk (.inr rfl) ?_)));have he:=len_end m1 m3 m4;exact ⟨_,vi (Int.natCast_add _ _).symm,he.1,he.2,by omega,by omega,hB⟩
theorem len_ok (x:Nat) (w:World) (h1:1≤x) (h2:x<18446744073709551616):Ret Try.prog 53 #[.int .u64 (x:Nat)] w fun v w'=>∃ k:Nat,v=.int .i64 (k:Nat)∧2 ^ (k - 1)≤x∧x<2 ^ k∧1≤k∧k≤100∧Bel w w':=by
  refine ret_of_W Try.func53 rfl (Nat.le_of_ble_eq_true rfl) (res1 rfl) ?_;have hB:=Gr.refl (fun _=>False) w;refine W.seq (W.region (L.val (x_as (v:=.int _ _) rfl) rfl ?_));refine L.nil (thn_n (W.seq (W.cond (b:=false) rfl (fun h=>nomatch h) (fun _=>?_))));refine W.skip (thn_n (W.seq (W.region (L.val (x_mv (v:=.int _ _) rfl) rfl ?_))));refine L.ret (x_call ksrtp_en68 rfl) rfl (len64_ok x _ h1 h2) ?_;rintro _ w7 ⟨k,rfl,a1,a2,a3,a4,hw⟩;have hB:=hB.carry hw;refine L.val (x_as (v:=.int _ _) rfl) rfl ?_;refine L.nil (thn_n (W.ret (fin_mk (.inr rfl) ?_)));exact ⟨k,rfl,a1,a2,a3,a4,hB⟩
theorem pow_ok (x:Nat) (w:World) (h1:1≤x) (h2:x≤2000000000000000000):Ret Try.prog 80 #[.int .i64 (x:Nat)] w fun v w'=>∃ m:Nat,v=.int .u64 (m:Nat)∧x<m∧m≤2 * x∧Bel w w':=by
  refine ret_of_W Try.func80 rfl (Nat.le_of_ble_eq_true rfl) (res1 rfl) ?_;have hB:=Gr.refl (fun _=>False) w;refine W.seq (W.region (L.val (x_as (v:=.int _ _) rfl) rfl ?_));refine L.nil (thn_n (W.seq (W.region (L.val (x_mv (v:=.int _ _) rfl) rfl ?_))));refine L.val (x_conv (k':=.u64) (by rw [Try.underlying3];rfl) Try.underlying74 rfl (wru64 om_)) rfl ?_;refine L.ret (x_call ksrtp_en53 rfl) rfl (len_ok x _ h1 om_) ?_;rintro _ w5 ⟨k,rfl,a1,a2,a3,a4,hw⟩;have hB:=hB.carry hw;have h3:2 ^ k=2 * 2 ^ (k - 1):=by
    rw [show k=k - 1+1 by omega,Nat.pow_succ];simp;omega
  have h5:k≤64:=by
    refine Nat.le_of_lt ((Nat.pow_lt_pow_iff_right (a:=2) om_).1 ?_);omega
  refine L.val (x_shl rfl rfl om_ (by show _≤((64:Nat):Int);omega)) rfl ?_;refine L.val (x_as (v:=.int _ _) rfl) rfl ?_;refine L.nil (thn_n (W.ret (fin_mk (.inr rfl) ?_)));refine ⟨2 ^ k,?_,a2,by omega,hB⟩;refine vi ?_;rw [Int.one_mul,show ((k:Nat):Int).toNat=k by simp,show (2:Int) ^ k=((2 ^ k:Nat):Int) by simp];exact wru64 om_
theorem next_ok (p:Nat) (r:Int) (w:World) (hp:Box w p 96 [.int .u64 r]):Ret Try.prog 81 #[.pointer (some ⟨p,0,none⟩)] w fun v w'=>∃ r':Int,v=.int .u64 r'∧Gr (· = p) w w'∧Box w' p 96 [.int .u64 r']:=by
  refine ret_of_W Try.func81 rfl (Nat.le_of_ble_eq_true rfl) (res1 rfl) ?_;have hB:=Gr.refl (· = p) w;refine W.seq (W.region (L.val (x_as (v:=.int _ _) rfl) rfl ?_));refine L.nil (thn_n (W.seq (W.drawS ksrtp_mixed ?_)));have hB:=hB.carry (bel_drew _);have hp:=hp.carry (bel_drew _);refine LA.take (i:=0) rfl kr_ kr_ kr_ (fun w=>x_mv (v:=.pointer _) rfl) rfl ?_;refine LA.take (i:=1) rfl kr_ kr_ kr_ (fun w=>x_nil rfl) rfl ?_;refine LA.take (i:=3) rfl kr_ kr_ kr_ (fun w=>x_mv (v:=.pointer _) rfl) rfl ?_;refine LA.take (i:=4) rfl kr_ kr_ kr_ (fun w=>x_nil rfl) rfl ?_;refine LA.step (rs:=[2,5]) kr_ (by simp) ⟨⟨_,rfl,?_⟩,⟨_,rfl,?_⟩,trivial⟩
  ·refine L.val (x_ld (v:=.int _ _) ksrtp_oc96 rfl (hp.cell (i:=0) rfl)) rfl ?_;refine L.nil (thn_n (LA.step (rs:=[5]) kr_ (by simp) ⟨⟨_,rfl,?_⟩,trivial⟩));refine L.val (x_ld (v:=.int _ _) ksrtp_oc96 rfl (hp.cell (i:=0) rfl)) rfl ?_;refine L.nil (thn_n ?_);refine LA.take (i:=6) rfl kr_ kr_ kr_ (fun w=>x_shl rfl rfl om_ (by show _≤((64:Nat):Int);omega)) rfl ?_;refine LA.take (i:=7) rfl kr_ kr_ kr_ (fun w=>x_bxor rfl rfl) rfl ?_;refine LA.take (i:=8) rfl kr_ kr_ kr_ (fun w=>x_nil rfl) rfl ?_;refine LA.step (rs:=[9]) kr_ (by simp) ⟨⟨_,rfl,?_⟩,trivial⟩;refine L.set (v:=.int _ _) ksrtp_sz96 rfl rfl rfl hp rfl (fun wl11 hp hw hzl11=>?_);have hB:=hB.trans hw;refine L.nil (thn_n (LA.done kr_ ?_));refine nrm_n (thn_n (W.seq (W.drawS ksrtp_mixed ?_)));have hB:=hB.carry (bel_drew _);have hp:=hp.carry (bel_drew _);refine LA.take (i:=0) rfl kr_ kr_ kr_ (fun w=>x_mv (v:=.pointer _) rfl) rfl ?_;refine LA.take (i:=1) rfl kr_ kr_ kr_ (fun w=>x_nil rfl) rfl ?_;refine LA.take (i:=3) rfl kr_ kr_ kr_ (fun w=>x_mv (v:=.pointer _) rfl) rfl ?_;refine LA.take (i:=4) rfl kr_ kr_ kr_ (fun w=>x_nil rfl) rfl ?_;refine LA.step (rs:=[2,5]) kr_ (by simp) ⟨⟨_,rfl,?_⟩,⟨_,rfl,?_⟩,trivial⟩
   ·refine L.val (x_ld (v:=.int _ _) ksrtp_oc96 rfl (hp.cell (i:=0) rfl)) rfl ?_;refine L.nil (thn_n (LA.step (rs:=[5]) kr_ (by simp) ⟨⟨_,rfl,?_⟩,trivial⟩));refine L.val (x_ld (v:=.int _ _) ksrtp_oc96 rfl (hp.cell (i:=0) rfl)) rfl ?_;refine L.nil (thn_n ?_);refine LA.take (i:=6) rfl kr_ kr_ kr_ (fun w=>x_shr rfl rfl om_ (by show _≤((64:Nat):Int);omega)) rfl ?_;refine LA.take (i:=7) rfl kr_ kr_ kr_ (fun w=>x_bxor rfl rfl) rfl ?_;refine LA.take (i:=8) rfl kr_ kr_ kr_ (fun w=>x_nil rfl) rfl ?_;refine LA.step (rs:=[9]) kr_ (by simp) ⟨⟨_,rfl,?_⟩,trivial⟩;refine L.set (v:=.int _ _) ksrtp_sz96 rfl rfl rfl hp rfl (fun wl21 hp hw hzl21=>?_);have hB:=hB.trans hw;refine L.nil (thn_n (LA.done kr_ ?_));refine nrm_n (thn_n (W.seq (W.drawS ksrtp_mixed ?_)));have hB:=hB.carry (bel_drew _);have hp:=hp.carry (bel_drew _);refine LA.take (i:=0) rfl kr_ kr_ kr_ (fun w=>x_mv (v:=.pointer _) rfl) rfl ?_;refine LA.take (i:=1) rfl kr_ kr_ kr_ (fun w=>x_nil rfl) rfl ?_;refine LA.take (i:=3) rfl kr_ kr_ kr_ (fun w=>x_mv (v:=.pointer _) rfl) rfl ?_;refine LA.take (i:=4) rfl kr_ kr_ kr_ (fun w=>x_nil rfl) rfl ?_;refine LA.step (rs:=[2,5]) kr_ (by simp) ⟨⟨_,rfl,?_⟩,⟨_,rfl,?_⟩,trivial⟩
    ·refine L.val (x_ld (v:=.int _ _) ksrtp_oc96 rfl (hp.cell (i:=0) rfl)) rfl ?_;refine L.nil (thn_n (LA.step (rs:=[5]) kr_ (by simp) ⟨⟨_,rfl,?_⟩,trivial⟩));refine L.val (x_ld (v:=.int _ _) ksrtp_oc96 rfl (hp.cell (i:=0) rfl)) rfl ?_;refine L.nil (thn_n ?_);refine LA.take (i:=6) rfl kr_ kr_ kr_ (fun w=>x_shl rfl rfl om_ (by show _≤((64:Nat):Int);omega)) rfl ?_;refine LA.take (i:=7) rfl kr_ kr_ kr_ (fun w=>x_bxor rfl rfl) rfl ?_;refine LA.take (i:=8) rfl kr_ kr_ kr_ (fun w=>x_nil rfl) rfl ?_;refine LA.step (rs:=[9]) kr_ (by simp) ⟨⟨_,rfl,?_⟩,trivial⟩;refine L.set (v:=.int _ _) ksrtp_sz96 rfl rfl rfl hp rfl (fun wl31 hp hw hzl31=>?_);have hB:=hB.trans hw;refine L.nil (thn_n (LA.done kr_ ?_));refine nrm_n (thn_n (W.seq (W.region (L.val (x_mv (v:=.pointer _) rfl) rfl ?_))));refine L.val (x_nil rfl) rfl ?_;refine L.val (x_ld (v:=.int _ _) ksrtp_oc96 rfl (hp.cell (i:=0) rfl)) rfl ?_;refine L.val (x_as (v:=.int _ _) rfl) rfl ?_;refine L.nil (thn_n (W.ret (fin_mk (.inr rfl) ?_)));exact ⟨_,rfl,hB,hp⟩
    ·refine L.val (x_ld (v:=.int _ _) ksrtp_oc96 rfl (hp.cell (i:=0) rfl)) rfl ?_;refine L.nil (thn_n ?_);refine LA.take (i:=6) rfl kr_ kr_ kr_ (fun w=>x_shl rfl rfl om_ (by show _≤((64:Nat):Int);omega)) rfl ?_;refine LA.step (rs:=[2]) kr_ (by simp) ⟨⟨_,rfl,?_⟩,trivial⟩;refine L.val (x_ld (v:=.int _ _) ksrtp_oc96 rfl (hp.cell (i:=0) rfl)) rfl ?_;refine L.nil (thn_n (LA.take (i:=7) rfl kr_ kr_ kr_ (fun w=>x_bxor rfl rfl) rfl ?_));refine LA.take (i:=8) rfl kr_ kr_ kr_ (fun w=>x_nil rfl) rfl ?_;refine LA.step (rs:=[9]) kr_ (by simp) ⟨⟨_,rfl,?_⟩,trivial⟩;refine L.set (v:=.int _ _) ksrtp_sz96 rfl rfl rfl hp rfl (fun wl31 hp hw hzl31=>?_);have hB:=hB.trans hw;refine L.nil (thn_n (LA.done kr_ ?_));refine nrm_n (thn_n (W.seq (W.region (L.val (x_mv (v:=.pointer _) rfl) rfl ?_))));refine L.val (x_nil rfl) rfl ?_;refine L.val (x_ld (v:=.int _ _) ksrtp_oc96 rfl (hp.cell (i:=0) rfl)) rfl ?_;refine L.val (x_as (v:=.int _ _) rfl) rfl ?_;refine L.nil (thn_n (W.ret (fin_mk (.inr rfl) ?_)));exact ⟨_,rfl,hB,hp⟩
   ·refine L.val (x_ld (v:=.int _ _) ksrtp_oc96 rfl (hp.cell (i:=0) rfl)) rfl ?_;refine L.nil (thn_n ?_);refine LA.take (i:=6) rfl kr_ kr_ kr_ (fun w=>x_shr rfl rfl om_ (by show _≤((64:Nat):Int);omega)) rfl ?_;refine LA.step (rs:=[2]) kr_ (by simp) ⟨⟨_,rfl,?_⟩,trivial⟩;refine L.val (x_ld (v:=.int _ _) ksrtp_oc96 rfl (hp.cell (i:=0) rfl)) rfl ?_;refine L.nil (thn_n (LA.take (i:=7) rfl kr_ kr_ kr_ (fun w=>x_bxor rfl rfl) rfl ?_));refine LA.take (i:=8) rfl kr_ kr_ kr_ (fun w=>x_nil rfl) rfl ?_;refine LA.step (rs:=[9]) kr_ (by simp) ⟨⟨_,rfl,?_⟩,trivial⟩;refine L.set (v:=.int _ _) ksrtp_sz96 rfl rfl rfl hp rfl (fun wl21 hp hw hzl21=>?_);have hB:=hB.trans hw;refine L.nil (thn_n (LA.done kr_ ?_));refine nrm_n (thn_n (W.seq (W.drawS ksrtp_mixed ?_)));have hB:=hB.carry (bel_drew _);have hp:=hp.carry (bel_drew _);refine LA.take (i:=0) rfl kr_ kr_ kr_ (fun w=>x_mv (v:=.pointer _) rfl) rfl ?_;refine LA.take (i:=1) rfl kr_ kr_ kr_ (fun w=>x_nil rfl) rfl ?_;refine LA.take (i:=3) rfl kr_ kr_ kr_ (fun w=>x_mv (v:=.pointer _) rfl) rfl ?_;refine LA.take (i:=4) rfl kr_ kr_ kr_ (fun w=>x_nil rfl) rfl ?_;refine LA.step (rs:=[2,5]) kr_ (by simp) ⟨⟨_,rfl,?_⟩,⟨_,rfl,?_⟩,trivial⟩
    ·refine L.val (x_ld (v:=.int _ _) ksrtp_oc96 rfl (hp.cell (i:=0) rfl)) rfl ?_;refine L.nil (thn_n (LA.step (rs:=[5]) kr_ (by simp) ⟨⟨_,rfl,?_⟩,trivial⟩));refine L.val (x_ld (v:=.int _ _) ksrtp_oc96 rfl (hp.cell (i:=0) rfl)) rfl ?_;refine L.nil (thn_n ?_);refine LA.take (i:=6) rfl kr_ kr_ kr_ (fun w=>x_shl rfl rfl om_ (by show _≤((64:Nat):Int);omega)) rfl ?_;refine LA.take (i:=7) rfl kr_ kr_ kr_ (fun w=>x_bxor rfl rfl) rfl ?_;refine LA.take (i:=8) rfl kr_ kr_ kr_ (fun w=>x_nil rfl) rfl ?_;refine LA.step (rs:=[9]) kr_ (by simp) ⟨⟨_,rfl,?_⟩,trivial⟩;refine L.set (v:=.int _ _) ksrtp_sz96 rfl rfl rfl hp rfl (fun wl31 hp hw hzl31=>?_);have hB:=hB.trans hw;refine L.nil (thn_n (LA.done kr_ ?_));refine nrm_n (thn_n (W.seq (W.region (L.val (x_mv (v:=.pointer _) rfl) rfl ?_))));refine L.val (x_nil rfl) rfl ?_;refine L.val (x_ld (v:=.int _ _) ksrtp_oc96 rfl (hp.cell (i:=0) rfl)) rfl ?_;refine L.val (x_as (v:=.int _ _) rfl) rfl ?_;refine L.nil (thn_n (W.ret (fin_mk (.inr rfl) ?_)));exact ⟨_,rfl,hB,hp⟩
    ·refine L.val (x_ld (v:=.int _ _) ksrtp_oc96 rfl (hp.cell (i:=0) rfl)) rfl ?_;refine L.nil (thn_n ?_);refine LA.take (i:=6) rfl kr_ kr_ kr_ (fun w=>x_shl rfl rfl om_ (by show _≤((64:Nat):Int);omega)) rfl ?_;refine LA.step (rs:=[2]) kr_ (by simp) ⟨⟨_,rfl,?_⟩,trivial⟩;refine L.val (x_ld (v:=.int _ _) ksrtp_oc96 rfl (hp.cell (i:=0) rfl)) rfl ?_;refine L.nil (thn_n (LA.take (i:=7) rfl kr_ kr_ kr_ (fun w=>x_bxor rfl rfl) rfl ?_));refine LA.take (i:=8) rfl kr_ kr_ kr_ (fun w=>x_nil rfl) rfl ?_;refine LA.step (rs:=[9]) kr_ (by simp) ⟨⟨_,rfl,?_⟩,trivial⟩;refine L.set (v:=.int _ _) ksrtp_sz96 rfl rfl rfl hp rfl (fun wl31 hp hw hzl31=>?_);have hB:=hB.trans hw;refine L.nil (thn_n (LA.done kr_ ?_));refine nrm_n (thn_n (W.seq (W.region (L.val (x_mv (v:=.pointer _) rfl) rfl ?_))));refine L.val (x_nil rfl) rfl ?_;refine L.val (x_ld (v:=.int _ _) ksrtp_oc96 rfl (hp.cell (i:=0) rfl)) rfl ?_;refine L.val (x_as (v:=.int _ _) rfl) rfl ?_;refine L.nil (thn_n (W.ret (fin_mk (.inr rfl) ?_)));exact ⟨_,rfl,hB,hp⟩
  ·refine L.val (x_ld (v:=.int _ _) ksrtp_oc96 rfl (hp.cell (i:=0) rfl)) rfl ?_;refine L.nil (thn_n ?_);refine LA.take (i:=6) rfl kr_ kr_ kr_ (fun w=>x_shl rfl rfl om_ (by show _≤((64:Nat):Int);omega)) rfl ?_;refine LA.step (rs:=[2]) kr_ (by simp) ⟨⟨_,rfl,?_⟩,trivial⟩;refine L.val (x_ld (v:=.int _ _) ksrtp_oc96 rfl (hp.cell (i:=0) rfl)) rfl ?_;refine L.nil (thn_n (LA.take (i:=7) rfl kr_ kr_ kr_ (fun w=>x_bxor rfl rfl) rfl ?_));refine LA.take (i:=8) rfl kr_ kr_ kr_ (fun w=>x_nil rfl) rfl ?_;refine LA.step (rs:=[9]) kr_ (by simp) ⟨⟨_,rfl,?_⟩,trivial⟩;refine L.set (v:=.int _ _) ksrtp_sz96 rfl rfl rfl hp rfl (fun wl11 hp hw hzl11=>?_);have hB:=hB.trans hw;refine L.nil (thn_n (LA.done kr_ ?_));refine nrm_n (thn_n (W.seq (W.drawS ksrtp_mixed ?_)));have hB:=hB.carry (bel_drew _);have hp:=hp.carry (bel_drew _);refine LA.take (i:=0) rfl kr_ kr_ kr_ (fun w=>x_mv (v:=.pointer _) rfl) rfl ?_;refine LA.take (i:=1) rfl kr_ kr_ kr_ (fun w=>x_nil rfl) rfl ?_;refine LA.take (i:=3) rfl kr_ kr_ kr_ (fun w=>x_mv (v:=.pointer _) rfl) rfl ?_;refine LA.take (i:=4) rfl kr_ kr_ kr_ (fun w=>x_nil rfl) rfl ?_;refine LA.step (rs:=[2,5]) kr_ (by simp) ⟨⟨_,rfl,?_⟩,⟨_,rfl,?_⟩,trivial⟩
   ·refine L.val (x_ld (v:=.int _ _) ksrtp_oc96 rfl (hp.cell (i:=0) rfl)) rfl ?_;refine L.nil (thn_n (LA.step (rs:=[5]) kr_ (by simp) ⟨⟨_,rfl,?_⟩,trivial⟩));refine L.val (x_ld (v:=.int _ _) ksrtp_oc96 rfl (hp.cell (i:=0) rfl)) rfl ?_;refine L.nil (thn_n ?_);refine LA.take (i:=6) rfl kr_ kr_ kr_ (fun w=>x_shr rfl rfl om_ (by show _≤((64:Nat):Int);omega)) rfl ?_;refine LA.take (i:=7) rfl kr_ kr_ kr_ (fun w=>x_bxor rfl rfl) rfl ?_;refine LA.take (i:=8) rfl kr_ kr_ kr_ (fun w=>x_nil rfl) rfl ?_;refine LA.step (rs:=[9]) kr_ (by simp) ⟨⟨_,rfl,?_⟩,trivial⟩;refine L.set (v:=.int _ _) ksrtp_sz96 rfl rfl rfl hp rfl (fun wl21 hp hw hzl21=>?_);have hB:=hB.trans hw;refine L.nil (thn_n (LA.done kr_ ?_));refine nrm_n (thn_n (W.seq (W.drawS ksrtp_mixed ?_)));have hB:=hB.carry (bel_drew _);have hp:=hp.carry (bel_drew _);refine LA.take (i:=0) rfl kr_ kr_ kr_ (fun w=>x_mv (v:=.pointer _) rfl) rfl ?_;refine LA.take (i:=1) rfl kr_ kr_ kr_ (fun w=>x_nil rfl) rfl ?_;refine LA.take (i:=3) rfl kr_ kr_ kr_ (fun w=>x_mv (v:=.pointer _) rfl) rfl ?_;refine LA.take (i:=4) rfl kr_ kr_ kr_ (fun w=>x_nil rfl) rfl ?_;refine LA.step (rs:=[2,5]) kr_ (by simp) ⟨⟨_,rfl,?_⟩,⟨_,rfl,?_⟩,trivial⟩
    ·refine L.val (x_ld (v:=.int _ _) ksrtp_oc96 rfl (hp.cell (i:=0) rfl)) rfl ?_;refine L.nil (thn_n (LA.step (rs:=[5]) kr_ (by simp) ⟨⟨_,rfl,?_⟩,trivial⟩));refine L.val (x_ld (v:=.int _ _) ksrtp_oc96 rfl (hp.cell (i:=0) rfl)) rfl ?_;refine L.nil (thn_n ?_);refine LA.take (i:=6) rfl kr_ kr_ kr_ (fun w=>x_shl rfl rfl om_ (by show _≤((64:Nat):Int);omega)) rfl ?_;refine LA.take (i:=7) rfl kr_ kr_ kr_ (fun w=>x_bxor rfl rfl) rfl ?_;refine LA.take (i:=8) rfl kr_ kr_ kr_ (fun w=>x_nil rfl) rfl ?_;refine LA.step (rs:=[9]) kr_ (by simp) ⟨⟨_,rfl,?_⟩,trivial⟩;refine L.set (v:=.int _ _) ksrtp_sz96 rfl rfl rfl hp rfl (fun wl31 hp hw hzl31=>?_);have hB:=hB.trans hw;refine L.nil (thn_n (LA.done kr_ ?_));refine nrm_n (thn_n (W.seq (W.region (L.val (x_mv (v:=.pointer _) rfl) rfl ?_))));refine L.val (x_nil rfl) rfl ?_;refine L.val (x_ld (v:=.int _ _) ksrtp_oc96 rfl (hp.cell (i:=0) rfl)) rfl ?_;refine L.val (x_as (v:=.int _ _) rfl) rfl ?_;refine L.nil (thn_n (W.ret (fin_mk (.inr rfl) ?_)));exact ⟨_,rfl,hB,hp⟩
    ·refine L.val (x_ld (v:=.int _ _) ksrtp_oc96 rfl (hp.cell (i:=0) rfl)) rfl ?_;refine L.nil (thn_n ?_);refine LA.take (i:=6) rfl kr_ kr_ kr_ (fun w=>x_shl rfl rfl om_ (by show _≤((64:Nat):Int);omega)) rfl ?_;refine LA.step (rs:=[2]) kr_ (by simp) ⟨⟨_,rfl,?_⟩,trivial⟩;refine L.val (x_ld (v:=.int _ _) ksrtp_oc96 rfl (hp.cell (i:=0) rfl)) rfl ?_;refine L.nil (thn_n (LA.take (i:=7) rfl kr_ kr_ kr_ (fun w=>x_bxor rfl rfl) rfl ?_));refine LA.take (i:=8) rfl kr_ kr_ kr_ (fun w=>x_nil rfl) rfl ?_;refine LA.step (rs:=[9]) kr_ (by simp) ⟨⟨_,rfl,?_⟩,trivial⟩;refine L.set (v:=.int _ _) ksrtp_sz96 rfl rfl rfl hp rfl (fun wl31 hp hw hzl31=>?_);have hB:=hB.trans hw;refine L.nil (thn_n (LA.done kr_ ?_));refine nrm_n (thn_n (W.seq (W.region (L.val (x_mv (v:=.pointer _) rfl) rfl ?_))));refine L.val (x_nil rfl) rfl ?_;refine L.val (x_ld (v:=.int _ _) ksrtp_oc96 rfl (hp.cell (i:=0) rfl)) rfl ?_;refine L.val (x_as (v:=.int _ _) rfl) rfl ?_;refine L.nil (thn_n (W.ret (fin_mk (.inr rfl) ?_)));exact ⟨_,rfl,hB,hp⟩
   ·refine L.val (x_ld (v:=.int _ _) ksrtp_oc96 rfl (hp.cell (i:=0) rfl)) rfl ?_;refine L.nil (thn_n ?_);refine LA.take (i:=6) rfl kr_ kr_ kr_ (fun w=>x_shr rfl rfl om_ (by show _≤((64:Nat):Int);omega)) rfl ?_;refine LA.step (rs:=[2]) kr_ (by simp) ⟨⟨_,rfl,?_⟩,trivial⟩;refine L.val (x_ld (v:=.int _ _) ksrtp_oc96 rfl (hp.cell (i:=0) rfl)) rfl ?_;refine L.nil (thn_n (LA.take (i:=7) rfl kr_ kr_ kr_ (fun w=>x_bxor rfl rfl) rfl ?_));refine LA.take (i:=8) rfl kr_ kr_ kr_ (fun w=>x_nil rfl) rfl ?_;refine LA.step (rs:=[9]) kr_ (by simp) ⟨⟨_,rfl,?_⟩,trivial⟩;refine L.set (v:=.int _ _) ksrtp_sz96 rfl rfl rfl hp rfl (fun wl21 hp hw hzl21=>?_);have hB:=hB.trans hw;refine L.nil (thn_n (LA.done kr_ ?_));refine nrm_n (thn_n (W.seq (W.drawS ksrtp_mixed ?_)));have hB:=hB.carry (bel_drew _);have hp:=hp.carry (bel_drew _);refine LA.take (i:=0) rfl kr_ kr_ kr_ (fun w=>x_mv (v:=.pointer _) rfl) rfl ?_;refine LA.take (i:=1) rfl kr_ kr_ kr_ (fun w=>x_nil rfl) rfl ?_;refine LA.take (i:=3) rfl kr_ kr_ kr_ (fun w=>x_mv (v:=.pointer _) rfl) rfl ?_;refine LA.take (i:=4) rfl kr_ kr_ kr_ (fun w=>x_nil rfl) rfl ?_;refine LA.step (rs:=[2,5]) kr_ (by simp) ⟨⟨_,rfl,?_⟩,⟨_,rfl,?_⟩,trivial⟩
    ·refine L.val (x_ld (v:=.int _ _) ksrtp_oc96 rfl (hp.cell (i:=0) rfl)) rfl ?_;refine L.nil (thn_n (LA.step (rs:=[5]) kr_ (by simp) ⟨⟨_,rfl,?_⟩,trivial⟩));refine L.val (x_ld (v:=.int _ _) ksrtp_oc96 rfl (hp.cell (i:=0) rfl)) rfl ?_;refine L.nil (thn_n ?_);refine LA.take (i:=6) rfl kr_ kr_ kr_ (fun w=>x_shl rfl rfl om_ (by show _≤((64:Nat):Int);omega)) rfl ?_;refine LA.take (i:=7) rfl kr_ kr_ kr_ (fun w=>x_bxor rfl rfl) rfl ?_;refine LA.take (i:=8) rfl kr_ kr_ kr_ (fun w=>x_nil rfl) rfl ?_;refine LA.step (rs:=[9]) kr_ (by simp) ⟨⟨_,rfl,?_⟩,trivial⟩;refine L.set (v:=.int _ _) ksrtp_sz96 rfl rfl rfl hp rfl (fun wl31 hp hw hzl31=>?_);have hB:=hB.trans hw;refine L.nil (thn_n (LA.done kr_ ?_));refine nrm_n (thn_n (W.seq (W.region (L.val (x_mv (v:=.pointer _) rfl) rfl ?_))));refine L.val (x_nil rfl) rfl ?_;refine L.val (x_ld (v:=.int _ _) ksrtp_oc96 rfl (hp.cell (i:=0) rfl)) rfl ?_;refine L.val (x_as (v:=.int _ _) rfl) rfl ?_;refine L.nil (thn_n (W.ret (fin_mk (.inr rfl) ?_)));exact ⟨_,rfl,hB,hp⟩
    ·refine L.val (x_ld (v:=.int _ _) ksrtp_oc96 rfl (hp.cell (i:=0) rfl)) rfl ?_;refine L.nil (thn_n ?_);refine LA.take (i:=6) rfl kr_ kr_ kr_ (fun w=>x_shl rfl rfl om_ (by show _≤((64:Nat):Int);omega)) rfl ?_;refine LA.step (rs:=[2]) kr_ (by simp) ⟨⟨_,rfl,?_⟩,trivial⟩;refine L.val (x_ld (v:=.int _ _) ksrtp_oc96 rfl (hp.cell (i:=0) rfl)) rfl ?_;refine L.nil (thn_n (LA.take (i:=7) rfl kr_ kr_ kr_ (fun w=>x_bxor rfl rfl) rfl ?_));refine LA.take (i:=8) rfl kr_ kr_ kr_ (fun w=>x_nil rfl) rfl ?_;refine LA.step (rs:=[9]) kr_ (by simp) ⟨⟨_,rfl,?_⟩,trivial⟩;refine L.set (v:=.int _ _) ksrtp_sz96 rfl rfl rfl hp rfl (fun wl31 hp hw hzl31=>?_);have hB:=hB.trans hw;refine L.nil (thn_n (LA.done kr_ ?_));refine nrm_n (thn_n (W.seq (W.region (L.val (x_mv (v:=.pointer _) rfl) rfl ?_))));refine L.val (x_nil rfl) rfl ?_;refine L.val (x_ld (v:=.int _ _) ksrtp_oc96 rfl (hp.cell (i:=0) rfl)) rfl ?_;refine L.val (x_as (v:=.int _ _) rfl) rfl ?_;refine L.nil (thn_n (W.ret (fin_mk (.inr rfl) ?_)));exact ⟨_,rfl,hB,hp⟩
-- Srt5
structure PS {α : Type} [Inhabited α] (lt:α → α → Bool) (enc:α → Value) (b o n:Nat) (T:TypeId) (hd tl:List Value) (a e:Nat) (d:Array α) (w0:World) (a1 z1:Nat) (c:Array α) (w:World):Prop where
  gr:Gr (· = b) w0 w
  row:Row enc w b o T hd c tl
  size:c.size=n
  lo:a≤a1
  mid:a1≤z1
  hi:z1≤e
  below:Go.Sort.Below lt a1 z1 c
  fin:∀ c',PermIn a1 z1 c c'→SortedIn lt a1 z1 c'→PermIn a e d c'∧SortedIn lt a e c'
section
variable {α : Type} [Inhabited α] {lt:α → α → Bool} {enc:α → Value} {b o n:Nat} {T:TypeId} {hd tl:List Value} {a e:Nat} {d:Array α} {w0:World} {a1 z1:Nat} {c:Array α} {w:World}
theorem PS.carry {w':World} (h:PS lt enc b o n T hd tl a e d w0 a1 z1 c w) (g:Bel w w'):PS lt enc b o n T hd tl a e d w0 a1 z1 c w':=
  ⟨h.gr.carry g,h.row.carry g,h.size,h.lo,h.mid,h.hi,h.below,h.fin⟩
theorem PS.perm {w':World} {g:Array α} (h:PS lt enc b o n T hd tl a e d w0 a1 z1 c w) (he:e≤n) (hg:Gr (· = b) w w') (hR:Row enc w' b o T hd g tl) (hP:PermIn a1 z1 c g):PS lt enc b o n T hd tl a e d w0 a1 z1 g w':=
  have hi:=h.hi;have hs:=h.size
  ⟨h.gr.trans hg,hR,hP.1.trans h.size,h.lo,h.mid,h.hi,h.below.perm om_ hP,fun c' h1 h2=>h.fin c' (permIn_trans _ _ _ _ _ hP h1) h2⟩
end
-- Srt6
end Go.Gx
namespace Go.Gx
open Go.Proofs Go.Sort
abbrev ltc {α : Type} (cf:α → α → Int):α → α → Bool:=fun x y=>decide (cf x y<0)
structure Cmp {α : Type} (P:Program) (enc:α → Value) (gF:Nat) (cp:List Value) (cf:α → α → Int) (b N0:Nat) (w:World):Prop where
  size:N0≤w.heap.size
  less:∀ w',Gr (fun k=>k=b∨N0≤k) w w'→∀ x y,Ret P gF ([enc x,enc y]++cp).toArray w' fun v w''=>v=.int .i64 (cf x y)∧Bel w' w''
section
variable {α : Type} {enc:α → Value} {gF:Nat} {cp:List Value} {cf:α → α → Int} {b N0:Nat} {P:Program} {w w1:World}
theorem Cmp.mv (h:Cmp P enc gF cp cf b N0 w) (k:Gr (· = b) w w1):Cmp P enc gF cp cf b N0 w1:=
  ⟨Nat.le_trans h.size k.size,fun w' g'=>h.less w' ((k.mono fun _ _ e=>.inl e).trans g')⟩
theorem Cmp.mvB (h:Cmp P enc gF cp cf b N0 w) (k:Bel w w1):Cmp P enc gF cp cf b N0 w1:=h.mv (k.mono fun _ _ f=>f.elim)
theorem Cmp.mvp {p:Nat} (h:Cmp P enc gF cp cf b N0 w) (hp:N0≤p) (k:Gr (· = p) w w1):Cmp P enc gF cp cf b N0 w1:=
  ⟨Nat.le_trans h.size k.size,fun w' g'=>h.less w' ((k.mono fun _ _ e=>.inr (by have e:_=p:=e;omega)).trans g')⟩
theorem Cmp.atB {w2:World} (h:Cmp P enc gF cp cf b N0 w1) (k:Bel w1 w2) (x y:α):Ret P gF ([enc x,enc y]++cp).toArray w2 fun v w''=>v=.int .i64 (cf x y)∧Bel w2 w'':=
  h.less w2 (k.mono fun _ _ f=>f.elim) x y
theorem Cmp.via {w2:World} (h:Cmp P enc gF cp cf b N0 w) (k:Gr (· = b) w w1) (k2:Bel w1 w2) (x y:α):Ret P gF ([enc x,enc y]++cp).toArray w2 fun v w''=>v=.int .i64 (cf x y)∧Bel w2 w'':=
  (h.mv k).atB k2 x y
theorem Cmp.viap {p:Nat} {w2:World} (h:Cmp P enc gF cp cf b N0 w) (hp:N0≤p) (k:Gr (· = p) w w1) (k2:Bel w1 w2) (x y:α):Ret P gF ([enc x,enc y]++cp).toArray w2 fun v w''=>v=.int .i64 (cf x y)∧Bel w2 w'':=
  (h.mvp hp k).atB k2 x y
end
section
variable {α : Type} [Inhabited α] {enc:α → Value} {gF:Nat} {cp:List Value} {cf:α → α → Int} {N0:Nat} (eg:Enters Try.prog gF) (he1:∀ x,(enc x).oneCell'=true)
include eg he1
set_option linter.unusedSectionVars false
set_option linter.unusedVariables false
end
end Go.Gx
namespace Go.Gx
open Go.Proofs
theorem Sh.ext {a b:Sh} (h1:a.kind=b.kind) (h2:a.of=b.of) (h3:a.name=b.name) (h4:a.names=b.names) (h5:a.parts=b.parts):a=b:=by
  cases a;cases b;simp only [Sh.kind,Sh.of,Sh.name,Sh.names,Sh.parts] at *;subst h1 h2 h3 h4 h5;rfl
end Go.Gx
namespace Go.Gx
open Go.Proofs Go.Sort
def Ordered (ns:List Str) (n:Nat) (idx:List Nat):Prop:=idx.Perm (List.range n)∧(ns=[]→idx=List.range n)∧(ns≠[]→∀ i j,i<j→j<n→ltStr (ns.getD (idx.getD j 0) []) (ns.getD (idx.getD i 0) [])=false)
theorem Ordered.len {ns:List Str} {n:Nat} {idx:List Nat} (h:Ordered ns n idx):idx.length=n:=by have:=h.1.length_eq;simpa using this
theorem Ordered.lt {ns:List Str} {n:Nat} {idx:List Nat} (h:Ordered ns n idx) {k:Nat} (hk:k<n):idx.getD k 0<n:=by
  have hm:idx.getD k 0∈idx:=by rw [List.getD_eq_getElem?_getD,List.getElem?_eq_getElem (by rw [h.len];exact hk)];exact List.getElem_mem _
  exact List.mem_range.1 (h.1.mem_iff.1 hm)
end Go.Gx
namespace Go.Gx
open Go.Proofs
variable {P:Program} {n:Nat} {Q:Post} {D:List Deferred} {E:Env} {w:World}
def kvM (e:MapEntry):Value × Value:=(e.key,e.val)
def MapIs (es:Array MapEntry) (clock:Nat) (l:List (Str × Value)):Prop:=es.toList.map kvM=l.map (fun x=>(S x.1,x.2))∧(es.toList.map (·.born)).Nodup∧∀ n∈es.toList.map (·.born),n<clock
def MapAt (w:World) (b:Nat) (l:List (Str × Value)):Prop:=∃ es clock,w.heap[b]? = some (.map es clock)∧MapIs es clock l
theorem MapAt.lt {b:Nat} {l:List (Str × Value)} (h:MapAt w b l):b<w.heap.size:=by
  obtain ⟨es,c,h,-⟩:=h;exact (Array.getElem?_eq_some_iff.1 h).1
theorem MapAt.carryR {R:Nat→Prop} {w':World} {b:Nat} {l:List (Str × Value)} (h:MapAt w b l) (g:Gr R w w') (hn:¬ R b):MapAt w' b l:=by
  have hlt:=h.lt;obtain ⟨es,c,h,hm⟩:=h;exact ⟨es,c,(g.block b hlt hn).trans h,hm⟩
theorem MapAt.carry {w':World} {b:Nat} {l:List (Str × Value)} (h:MapAt w b l) (g:Bel w w'):MapAt w' b l:=h.carryR g fun f=>f
theorem S_inj {a b:Str} (h:S a=S b):a=b:=by
  unfold S at h;injection h with h
  injection h with h
  simpa using congrArg Array.toList h
section
variable {t kt et:TypeId}
theorem born_modify {es:List MapEntry} {i:Nat} {k v:Value}:(es.modify i fun e=>{ e with key:=k,val:=v }).map (·.born)=es.map (·.born):=by
  induction es generalizing i with
  | nil=>simp
  | cons e es ih=>
    cases i with
    | zero=>simp
    | succ i=>simp only [List.modify_succ_cons,List.map_cons,ih]
end
def fieldsF:Nat→List Str→List (Str × Value)
  | _,[]=>[]
  | n,x :: l=>(x,.int .i64 (n:Nat)) :: fieldsF (n+1) l
def FieldsAt (w:World) (b:Nat) (l:List Str):Prop:=MapAt w b (fieldsF 0 l)
theorem FieldsAt.carryR {R:Nat→Prop} {w':World} {b:Nat} {l:List Str} (h:FieldsAt w b l) (g:Gr R w w') (hn:¬ R b):FieldsAt w' b l:=MapAt.carryR h g hn
theorem FieldsAt.carry {w':World} {b:Nat} {l:List Str} (h:FieldsAt w b l) (g:Bel w w'):FieldsAt w' b l:=MapAt.carry h g
theorem FieldsAt.lt {b:Nat} {l:List Str} (h:FieldsAt w b l):b<w.heap.size:=MapAt.lt h
end Go.Gx
