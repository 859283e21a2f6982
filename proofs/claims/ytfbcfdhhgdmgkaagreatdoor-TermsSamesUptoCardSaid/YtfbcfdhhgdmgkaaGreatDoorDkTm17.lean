/- Texts by the document: code points, decoded. Conditions: none. -/
import Derived.Shelf.Strings.OnBuilder
import Derived.Test.YtfbcfdhhgdmgkaaGreatDoorProg
import Derived.Test.YtfbcfdhhgdmgkaaGreatDoorDkDrawD
import Derived.Test.YtfbcfdhhgdmgkaaGreatDoorDkTm16
import Derived.Test.YtfbcfdhhgdmgkaaGreatDoorDkTake
namespace Go.Gx
open Go.Proofs
theorem ktm17_el5:elT Tryz.prog 5 1=true:=by kernel_rfl
theorem ktm17_en126:Go.Proofs.Enters Tryz.prog 126:=Go.Proofs.enters_of Tryz.func126 kr_ rfl
theorem ktm17_en127:Go.Proofs.Enters Tryz.prog 127:=Go.Proofs.enters_of Tryz.func127 kr_ rfl
theorem ktm17_mixed:Tryz.prog.follows .mixedOrders=true:=by kernel_rfl
theorem point03 (p:Int) (w:World):Ret Tryz.prog 126 #[.int .i64 p] w fun r w'=>r=.bool (pointI p)∧Bel w w':=by
  refine ret_of_W Tryz.func126 rfl (Nat.le_of_ble_eq_true rfl) (res1 rfl) ?_;have hB:=Gr.refl (fun _=>False) w;refine W.seq (W.region (L.val (x_as (v:=.bool _) rfl) rfl ?_));refine L.nil (thn_n (W.seq (W.region (L.val (x_mv (v:=.int _ _) rfl) rfl ?_))));refine L.val (x_geq rfl rfl) rfl ?_;refine L.val (x_mv (v:=.bool _) rfl) rfl ?_;refine' L.group0 2 6 7 7 5 true rfl ?_ ?_ ?_;rotate_left 1
  ·intro g5;have h5:=of_decide_eq_true g5;refine L.gyes' (dj:=5) (b:=_) rfl rfl g5 ?_;refine L.val (x_mv (v:=.int _ _) rfl) rfl ?_;refine L.gyes' (dj:=5) (b:=_) rfl rfl g5 ?_;refine L.val (x_leq rfl rfl) rfl ?_;refine L.nil (thn_n ⟨rfl,rfl,?_,rfl⟩);repeat (first | exact jeq.refl _ _ _ | refine jeq.upd rfl ?_ | refine jeq.jk rfl rfl ?_)
  ·intro g5;refine L.gno (dj:=5) (b:=_) rfl rfl g5 rfl ?_;refine L.gno (dj:=5) (b:=_) rfl rfl g5 rfl ?_;refine L.nil (thn_n ⟨rfl,rfl,?_⟩);repeat (first | exact jeq.refl _ _ _ | refine jeq.upd rfl ?_ | refine jeq.jk rfl rfl ?_)
  intro J5 j5;refine L.val (x_and rfl j5) rfl ?_;refine L.val (x_mv (v:=.bool _) rfl) rfl ?_;refine' L.group0 6 10 15 15 9 true rfl ?_ ?_ ?_;rotate_left 1
  ·intro g9;have h9:=g9;refine L.gyes' (dj:=9) (b:=_) rfl rfl g9 ?_;refine L.val (x_mv (v:=.int _ _) rfl) rfl ?_;refine L.gyes' (dj:=9) (b:=_) rfl rfl g9 ?_;refine L.val (x_lss rfl rfl) rfl ?_;refine L.gyes' (dj:=9) (b:=_) rfl rfl g9 ?_;refine L.val (x_mv (v:=.bool _) rfl) rfl ?_;refine' L.group0 2 13 14 14 12 false rfl ?_ ?_ ?_;rotate_left 1
   ·intro g12;have h12:=dlt_f g12;refine L.gyes' (dj:=12) (b:=_) rfl rfl g12 ?_;refine L.val (x_mv (v:=.int _ _) rfl) rfl ?_;refine L.gyes' (dj:=12) (b:=_) rfl rfl g12 ?_;refine L.val (x_gtr rfl rfl) rfl ?_;refine L.nil (thn_n ⟨rfl,rfl,?_,rfl⟩);repeat (first | exact jeq.refl _ _ _ | refine jeq.upd rfl ?_ | refine jeq.jk rfl rfl ?_)
   ·intro g12;refine L.gno (dj:=12) (b:=_) rfl rfl g12 rfl ?_;refine L.gno (dj:=12) (b:=_) rfl rfl g12 rfl ?_;refine L.nil (thn_n ⟨rfl,rfl,?_⟩);repeat (first | exact jeq.refl _ _ _ | refine jeq.upd rfl ?_ | refine jeq.jk rfl rfl ?_)
   intro J12 j12;refine L.gyes' (dj:=9) (b:=_) rfl rfl g9 ?_;refine L.val (x_or rfl j12) rfl ?_;refine L.nil (thn_n ⟨rfl,rfl,?_,rfl⟩);repeat (first | exact jeq.refl _ _ _ | refine jeq.upd rfl ?_ | refine jeq.jk rfl rfl ?_)
  ·intro g9;(iterate 3 refine L.gno (dj:=9) (b:=_) rfl rfl g9 rfl ?_);refine L.gun (dj:=12) rfl rfl rfl ?_;refine L.gun (dj:=12) rfl rfl rfl ?_;refine L.gno (dj:=9) (b:=_) rfl rfl g9 rfl ?_;refine L.nil (thn_n ⟨rfl,rfl,?_⟩);repeat (first | exact jeq.refl _ _ _ | refine jeq.upd rfl ?_ | refine jeq.jk rfl rfl ?_)
  intro J9 j9;refine L.val (x_and rfl j9) rfl ?_;refine L.val (x_as (v:=.bool _) rfl) rfl ?_;refine L.nil (thn_n (W.ret (fin_mk (.inr rfl) ?_)));exact ⟨vb (by unfold pointI;rfl),hB⟩
def lowN (n:Nat):UInt8:=lowB (n:Nat)
theorem bytes03 (p:Nat) (hp:p≤1114111) (w:World):Ret Tryz.prog 127 #[.int .i64 (p:Nat)] w fun r w'=>r=S ((bytesN p).map lowN)∧Bel w w':=by
  have q1:(p:Int).tdiv 64=((p / 64:Nat):Int):=by rw [Int.tdiv_eq_ediv_of_nonneg om_];omega
  have q2:(p:Int).tdiv 4096=((p / 4096:Nat):Int):=by rw [Int.tdiv_eq_ediv_of_nonneg om_];omega
  have q3:(p:Int).tdiv 262144=((p / 262144:Nat):Int):=by rw [Int.tdiv_eq_ediv_of_nonneg om_];omega
  refine ret_of_W Tryz.func127 rfl (Nat.le_of_ble_eq_true rfl) (res1 rfl) ?_;have hB:=Gr.refl (fun _=>False) w;refine W.seq (W.region (L.val (x_as (v:=S _) rfl) rfl ?_));refine L.nil (thn_n (W.seq (W.block (W.seq (W.region (L.val (x_mv (v:=.int _ _) rfl) rfl ?_))))));refine L.val (x_lss rfl rfl) rfl ?_;refine L.val (x_as (v:=.bool _) rfl) rfl ?_;refine L.nil (thn_n (W.cond (b:=_) rfl (fun g5=>?_) (fun g5=>?_)))
  ·have h5:=of_decide_eq_true g5;have hb:bytesN p=[p]:=by unfold bytesN;rw [if_pos om_]
   refine W.seq (W.region (L.val (x_mv (v:=.int _ _) rfl) rfl ?_));refine L.val (x_convB (by rw [Tryz.underlying3];rfl) Tryz.underlying5 rfl) rfl ?_;refine L.bs (sz:=1) (cells:=[B8 (lowN p)]) Tryz.underlying72 ktm17_el5 rfl rfl rfl rfl (fun w8 bx8 hw hz8=>?_);have hB:=hB.carry hw;refine L.val (x_b2s (l:=[lowN p]) Tryz.underlying72 Tryz.underlying5 Tryz.underlying9 rfl rfl (fun j hj=>bx8.row rfl j hj)) rfl ?_;refine L.val (x_as (v:=S _) rfl) rfl ?_;refine L.nil (thn_n (W.ret (blk_r (thn_r (fin_mk (.inr rfl) ?_)))));exact ⟨by rw [hb];rfl,hB⟩
  ·have h5:=dlt_f g5;refine W.seq (W.region (L.val (x_mv (v:=.int _ _) rfl) rfl ?_));refine L.val (x_lss rfl rfl) rfl ?_;refine L.val (x_as (v:=.bool _) rfl) rfl ?_;refine L.nil (thn_n (W.cond (b:=_) rfl (fun g12=>?_) (fun g12=>?_)))
   ·have h12:=of_decide_eq_true g12;have hb:bytesN p=[192+p / 64,128+p % 64]:=by unfold bytesN;rw [if_neg om_,if_pos om_]
    refine W.seq (W.region (L.val (x_mv (v:=.int _ _) rfl) rfl ?_));refine L.val (x_quo (c:=((p / 64:Nat):Int)) rfl rfl (by decide) (by rw [q1];exact wr64 om_)) rfl ?_;refine L.val (x_add (c:=((192+p / 64:Nat):Int)) rfl rfl (by rw [wr64 om_];omega)) rfl ?_;refine L.val (x_convB (by rw [Tryz.underlying3];rfl) Tryz.underlying5 rfl) rfl ?_;refine L.val (x_mv (v:=.int _ _) rfl) rfl ?_;refine L.val (x_rem (c:=((p % 64:Nat):Int)) rfl rfl om_ (by decide) om_) rfl ?_;refine L.val (x_add (c:=((128+p % 64:Nat):Int)) rfl rfl (by rw [wr64 om_];omega)) rfl ?_;refine L.val (x_convB (by rw [Tryz.underlying3];rfl) Tryz.underlying5 rfl) rfl ?_;refine L.bs (sz:=1) (cells:=[B8 (lowN (192+p / 64)),B8 (lowN (128+p % 64))]) Tryz.underlying72 ktm17_el5 rfl rfl rfl rfl (fun w21 bx21 hw hz21=>?_);have hB:=hB.carry hw;refine L.val (x_b2s (l:=[lowN (192+p / 64),lowN (128+p % 64)]) Tryz.underlying72 Tryz.underlying5 Tryz.underlying9 rfl rfl (fun j hj=>bx21.row rfl j hj)) rfl ?_;refine L.val (x_as (v:=S _) rfl) rfl ?_;refine L.nil (thn_n (W.ret (blk_r (thn_r (fin_mk (.inr rfl) ?_)))));exact ⟨by rw [hb];rfl,hB⟩
   ·have h12:=dlt_f g12;refine W.seq (W.region (L.val (x_mv (v:=.int _ _) rfl) rfl ?_));refine L.val (x_lss rfl rfl) rfl ?_;refine L.val (x_as (v:=.bool _) rfl) rfl ?_;refine L.nil (thn_n (W.cond (b:=_) rfl (fun g25=>?_) (fun g25=>?_)))
    ·have h25:=of_decide_eq_true g25;have hb:bytesN p=[224+p / 4096,128+p / 64 % 64,128+p % 64]:=by unfold bytesN;rw [if_neg om_,if_neg om_,if_pos om_]
     refine W.seq (W.region (L.val (x_mv (v:=.int _ _) rfl) rfl ?_));refine L.val (x_quo (c:=((p / 4096:Nat):Int)) rfl rfl (by decide) (by rw [q2];exact wr64 om_)) rfl ?_;refine L.val (x_add (c:=((224+p / 4096:Nat):Int)) rfl rfl (by rw [wr64 om_];omega)) rfl ?_;refine L.val (x_convB (by rw [Tryz.underlying3];rfl) Tryz.underlying5 rfl) rfl ?_;refine L.val (x_mv (v:=.int _ _) rfl) rfl ?_;refine L.val (x_quo (c:=((p / 64:Nat):Int)) rfl rfl (by decide) (by rw [q1];exact wr64 om_)) rfl ?_;refine L.val (x_rem (c:=((p / 64 % 64:Nat):Int)) rfl rfl om_ (by decide) om_) rfl ?_;refine L.val (x_add (c:=((128+p / 64 % 64:Nat):Int)) rfl rfl (by rw [wr64 om_];omega)) rfl ?_;refine L.val (x_convB (by rw [Tryz.underlying3];rfl) Tryz.underlying5 rfl) rfl ?_;refine L.val (x_mv (v:=.int _ _) rfl) rfl ?_;refine L.val (x_rem (c:=((p % 64:Nat):Int)) rfl rfl om_ (by decide) om_) rfl ?_;refine L.val (x_add (c:=((128+p % 64:Nat):Int)) rfl rfl (by rw [wr64 om_];omega)) rfl ?_;refine L.val (x_convB (by rw [Tryz.underlying3];rfl) Tryz.underlying5 rfl) rfl ?_;refine L.bs (sz:=1) (cells:=[B8 (lowN (224+p / 4096)),B8 (lowN (128+p / 64 % 64)),B8 (lowN (128+p % 64))]) Tryz.underlying72 ktm17_el5 rfl rfl rfl rfl (fun w39 bx39 hw hz39=>?_);have hB:=hB.carry hw;refine L.val (x_b2s (l:=[lowN (224+p / 4096),lowN (128+p / 64 % 64),lowN (128+p % 64)]) Tryz.underlying72 Tryz.underlying5 Tryz.underlying9 rfl rfl (fun j hj=>bx39.row rfl j hj)) rfl ?_;refine L.val (x_as (v:=S _) rfl) rfl ?_;refine L.nil (thn_n (W.ret (blk_r (thn_r (fin_mk (.inr rfl) ?_)))));exact ⟨by rw [hb];rfl,hB⟩
    ·have h25:=dlt_f g25;have hb:bytesN p=[240+p / 262144,128+p / 4096 % 64,128+p / 64 % 64,128+p % 64]:=by unfold bytesN;rw [if_neg om_,if_neg om_,if_neg om_]
     refine W.skip (blk_n (thn_n (W.seq (W.region (L.val (x_mv (v:=.int _ _) rfl) rfl ?_)))));refine L.val (x_quo (c:=((p / 262144:Nat):Int)) rfl rfl (by decide) (by rw [q3];exact wr64 om_)) rfl ?_;refine L.val (x_add (c:=((240+p / 262144:Nat):Int)) rfl rfl (by rw [wr64 om_];omega)) rfl ?_;refine L.val (x_convB (by rw [Tryz.underlying3];rfl) Tryz.underlying5 rfl) rfl ?_;refine L.val (x_mv (v:=.int _ _) rfl) rfl ?_;refine L.val (x_quo (c:=((p / 4096:Nat):Int)) rfl rfl (by decide) (by rw [q2];exact wr64 om_)) rfl ?_;refine L.val (x_rem (c:=((p / 4096 % 64:Nat):Int)) rfl rfl om_ (by decide) om_) rfl ?_;refine L.val (x_add (c:=((128+p / 4096 % 64:Nat):Int)) rfl rfl (by rw [wr64 om_];omega)) rfl ?_;refine L.val (x_convB (by rw [Tryz.underlying3];rfl) Tryz.underlying5 rfl) rfl ?_;refine L.val (x_mv (v:=.int _ _) rfl) rfl ?_;refine L.val (x_quo (c:=((p / 64:Nat):Int)) rfl rfl (by decide) (by rw [q1];exact wr64 om_)) rfl ?_;refine L.val (x_rem (c:=((p / 64 % 64:Nat):Int)) rfl rfl om_ (by decide) om_) rfl ?_;refine L.val (x_add (c:=((128+p / 64 % 64:Nat):Int)) rfl rfl (by rw [wr64 om_];omega)) rfl ?_;refine L.val (x_convB (by rw [Tryz.underlying3];rfl) Tryz.underlying5 rfl) rfl ?_;refine L.val (x_mv (v:=.int _ _) rfl) rfl ?_;refine L.val (x_rem (c:=((p % 64:Nat):Int)) rfl rfl om_ (by decide) om_) rfl ?_;refine L.val (x_add (c:=((128+p % 64:Nat):Int)) rfl rfl (by rw [wr64 om_];omega)) rfl ?_;refine L.val (x_convB (by rw [Tryz.underlying3];rfl) Tryz.underlying5 rfl) rfl ?_;refine L.bs (sz:=1) (cells:=[B8 (lowN (240+p / 262144)),B8 (lowN (128+p / 4096 % 64)),B8 (lowN (128+p / 64 % 64)),B8 (lowN (128+p % 64))]) Tryz.underlying72 ktm17_el5 rfl rfl rfl rfl (fun w59 bx59 hw hz59=>?_);have hB:=hB.carry hw;refine L.val (x_b2s (l:=[lowN (240+p / 262144),lowN (128+p / 4096 % 64),lowN (128+p / 64 % 64),lowN (128+p % 64)]) Tryz.underlying72 Tryz.underlying5 Tryz.underlying9 rfl rfl (fun j hj=>bx59.row rfl j hj)) rfl ?_;refine L.val (x_as (v:=S _) rfl) rfl ?_;refine L.nil (thn_n (W.ret (fin_mk (.inr rfl) ?_)));exact ⟨by rw [hb];rfl,hB⟩
def fstAt (s:Str):Nat→Int
  | 0=>fstB (s.getD 0 0).toNat
  | j+1=>fstAt s j * 64+(s.getD (j+1) 0).toNat - 128
theorem fstB_lt {b : Nat} (h : b < 256) : fstB b < 256 := by unfold fstB;repeat' split
                                                             all_goals omega
theorem fstK_le (b : Nat) : 1 ≤ fstK b ∧ fstK b ≤ 4 := by unfold fstK;repeat' split
                                                          all_goals omega
theorem fstAt_b (s:Str):∀ j:Nat,j≤3→-(10000000 * (j:Int))≤fstAt s j∧fstAt s j≤100000000:=by
  have b0:=fstB_lt (s.getD 0 0).toNat_lt;have b1:=(s.getD 1 0).toNat_lt;have b2:=(s.getD 2 0).toNat_lt;have b3:=(s.getD 3 0).toNat_lt;have c0:fstAt s 0=(fstB (s.getD 0 0).toNat:Nat):=rfl;have c1:fstAt s 1=fstAt s 0 * 64+(s.getD 1 0).toNat - 128:=rfl;have c2:fstAt s 2=fstAt s 1 * 64+(s.getD 2 0).toNat - 128:=rfl;have c3:fstAt s 3=fstAt s 2 * 64+(s.getD 3 0).toNat - 128:=rfl;intro j hj
  match j,hj with
  | 0,_=>omega
  | 1,_=>omega
  | 2,_=>omega
  | 3,_=>omega
theorem fstAt_V (s:Str):fstAt s (fstK (s.getD 0 0).toNat - 1)=fstV (s.getD 0 0).toNat (s.getD 1 0).toNat (s.getD 2 0).toNat (s.getD 3 0).toNat:=by
  have h:=fstK_le (s.getD 0 0).toNat;unfold fstV;generalize fstK (s.getD 0 0).toNat=k at h
  match k,h with
  | 1,_=>rfl
  | 2,_=>rfl
  | 3,_=>rfl
  | 4,_=>rfl
theorem lowN_toNat {n:Nat} (h:n<256):(lowN n).toNat=n:=by
  unfold lowN lowB;rw [show (((n:Nat):Int) % 256).toNat=n by omega];exact UInt8.toNat_ofNat_of_lt' (by simpa using h)
theorem bytesN_lt {p:Nat} (hp:p≤1114111):∀ b∈bytesN p,b<256:=by
  unfold bytesN;intro b hb
  repeat' split at hb
  all_goals (simp only [List.mem_cons,List.not_mem_nil,or_false] at hb;omega)
theorem head_nat (s:Str) {k:Nat} (hk:k≤s.length) (h4:k≤4):(s.take k).map UInt8.toNat=[(s.getD 0 0).toNat,(s.getD 1 0).toNat,(s.getD 2 0).toNat,(s.getD 3 0).toNat].take k:=by
  match k,h4 with
  | 0,_=>rfl
  | 1,_=>match s,hk with
    | a :: _,_=>rfl
  | 2,_=>match s,hk with
    | a :: b :: _,_=>rfl
  | 3,_=>match s,hk with
    | a :: b :: c :: _,_=>rfl
  | 4,_=>match s,hk with
    | a :: b :: c :: d :: _,_=>rfl
theorem bytes_head {p:Nat} (hp:p≤1114111) (s:Str) {k:Nat} (hk:k≤s.length) (h4:k≤4):(bytesN p).map lowN=s.take k↔bytesN p=[(s.getD 0 0).toNat,(s.getD 1 0).toNat,(s.getD 2 0).toNat,(s.getD 3 0).toNat].take k:=by
  rw [← head_nat s hk h4];constructor
  · intro h;have h:=congrArg (List.map UInt8.toNat) h;rw [← h,List.map_map];conv=>lhs;rw [← List.map_id (bytesN p)]
    exact List.map_congr_left fun b hb=>(lowN_toNat (bytesN_lt hp b hb)).symm
  · intro h;rw [h,List.map_map];conv=>rhs;rw [← List.map_id (s.take k)]
    refine List.map_congr_left fun b _=>?_
    show lowN b.toNat=b;exact UInt8.toNat_inj.1 (lowN_toNat b.toNat_lt)
theorem first03 (s:Str) (hs:s.length≤9223372036854775807) (hne:s≠[]) (w:World):Ret Tryz.prog 108 #[S s] w fun r w'=>(∃ (p:Int) (n:Nat),r=.tuple #[.int .i64 p,.int .i64 (n:Nat)]∧(n=0∧¬ fstOkS s∨n=fstK (s.getD 0 0).toNat∧n≤s.length∧fstOkS s))∧Bel w w':=by
  have hl:1≤s.length:=List.length_pos_iff.2 hne;have b0:=(s.getD 0 0).toNat_lt;have hk:=fstK_le (s.getD 0 0).toNat;obtain ⟨K,hK⟩:∃ K,K=fstK (s.getD 0 0).toNat:=⟨_,rfl⟩;rw [← hK] at hk ⊢;have hV:=fstAt_V s;rw [← hK] at hV;have hkk:K=fstK (s.getD 0 0).toNat:=hK;unfold fstK at hkk;have hF:fstAt s 0=(fstB (s.getD 0 0).toNat:Nat):=rfl;unfold fstB at hF;refine ret_of_W Tryz.func108 rfl (Nat.le_of_ble_eq_true rfl) (res2 rfl) ?_;have hB:=Gr.refl (fun _=>False) w;refine W.seq (W.region (L.val (x_as (v:=.int _ _) rfl) rfl ?_));refine L.val (x_as (v:=.int _ _) rfl) rfl ?_;refine L.nil (thn_n (W.seq (W.seq (W.region (L.val (x_mv (v:=S _) rfl) rfl ?_)))));refine L.val (x_eqs rfl rfl) rfl ?_;refine L.nil (thn_n (W.cond (b:=_) rfl (fun g8=>?_) (fun g8=>?_)))
  ·have h8:=seq_t g8;exact absurd h8 hne
  ·have h8:=seq_f g8;refine W.skip (thn_n (W.seq (W.drawB ktm17_mixed kr_ ?_)));refine LQ.val (fun w hw=>x_mv (v:=S _) rfl) rfl ?_;refine LQ.val (fun w hw=>x_ixs (j:=0) Tryz.underlying9 rfl rfl rfl om_) rfl ?_;refine LQ.val (fun w hw=>x_conv (k':=.i64) (by rw [Tryz.underlying5];rfl) Tryz.underlying3 rfl (wr64 om_)) rfl ?_;refine LQ.val (fun w hw=>x_as (v:=.int _ _) rfl) rfl ?_;refine LQ.val (fun w hw=>x_as (v:=.int _ _) rfl) rfl ?_;refine LQ.nil ?_;intro w9 hw;have hB:=hB.carry hw;refine thn_n (W.cut (fun D' E' w'=>D'=[]∧E' 0=S s∧E' 4=.int .i64 (K:Nat)∧E' 5=.int .i64 (fstAt s 0)∧Bel w w') ?_ ?_)
   ·refine W.block (W.seq (W.region (L.val (x_mv (v:=S _) rfl) rfl ?_)));refine L.val (x_ixs (j:=0) Tryz.underlying9 rfl rfl rfl om_) rfl ?_;refine L.val (x_geq rfl rfl) rfl ?_;refine L.val (x_as (v:=.bool _) rfl) rfl ?_;refine L.nil (thn_n (W.cond (b:=_) rfl (fun g15=>?_) (fun g15=>?_)))
    ·have h15:=of_decide_eq_true g15;refine W.seq (W.region (L.val (x_as (v:=.int _ _) rfl) rfl ?_));refine L.nil (thn_n (W.region (L.val (x_mv (v:=S _) rfl) rfl ?_)));refine L.val (x_ixs (j:=0) Tryz.underlying9 rfl rfl rfl om_) rfl ?_;refine L.val (x_conv (k':=.i64) (by rw [Tryz.underlying5];rfl) Tryz.underlying3 rfl (wr64 om_)) rfl ?_;refine L.val (x_sub rfl rfl (wr64 om_)) rfl ?_;refine L.val (x_as (v:=.int _ _) rfl) rfl ?_;refine L.nil (blk_n (thn_n ?_));exact ⟨rfl,rfl,vi (by rw [hkk];(repeat' split) <;> omega),vi (by rw [hF];(repeat' split) <;> omega),hB⟩
    ·have h15:=dle_f g15;refine W.seq (W.region (L.val (x_mv (v:=S _) rfl) rfl ?_));refine L.val (x_ixs (j:=0) Tryz.underlying9 rfl rfl rfl om_) rfl ?_;refine L.val (x_geq rfl rfl) rfl ?_;refine L.val (x_as (v:=.bool _) rfl) rfl ?_;refine L.nil (thn_n (W.cond (b:=_) rfl (fun g23=>?_) (fun g23=>?_)))
     ·have h23:=of_decide_eq_true g23;refine W.seq (W.region (L.val (x_as (v:=.int _ _) rfl) rfl ?_));refine L.nil (thn_n (W.region (L.val (x_mv (v:=S _) rfl) rfl ?_)));refine L.val (x_ixs (j:=0) Tryz.underlying9 rfl rfl rfl om_) rfl ?_;refine L.val (x_conv (k':=.i64) (by rw [Tryz.underlying5];rfl) Tryz.underlying3 rfl (wr64 om_)) rfl ?_;refine L.val (x_sub rfl rfl (wr64 om_)) rfl ?_;refine L.val (x_as (v:=.int _ _) rfl) rfl ?_;refine L.nil (blk_n (thn_n ?_));exact ⟨rfl,rfl,vi (by rw [hkk];(repeat' split) <;> omega),vi (by rw [hF];(repeat' split) <;> omega),hB⟩
     ·have h23:=dle_f g23;refine W.seq (W.region (L.val (x_mv (v:=S _) rfl) rfl ?_));refine L.val (x_ixs (j:=0) Tryz.underlying9 rfl rfl rfl om_) rfl ?_;refine L.val (x_geq rfl rfl) rfl ?_;refine L.val (x_as (v:=.bool _) rfl) rfl ?_;refine L.nil (thn_n (W.cond (b:=_) rfl (fun g31=>?_) (fun g31=>?_)))
      ·have h31:=of_decide_eq_true g31;refine W.seq (W.region (L.val (x_as (v:=.int _ _) rfl) rfl ?_));refine L.nil (thn_n (W.region (L.val (x_mv (v:=S _) rfl) rfl ?_)));refine L.val (x_ixs (j:=0) Tryz.underlying9 rfl rfl rfl om_) rfl ?_;refine L.val (x_conv (k':=.i64) (by rw [Tryz.underlying5];rfl) Tryz.underlying3 rfl (wr64 om_)) rfl ?_;refine L.val (x_sub rfl rfl (wr64 om_)) rfl ?_;refine L.val (x_as (v:=.int _ _) rfl) rfl ?_;refine L.nil (blk_n (thn_n ?_));exact ⟨rfl,rfl,vi (by rw [hkk];(repeat' split) <;> omega),vi (by rw [hF];(repeat' split) <;> omega),hB⟩
      ·have h31:=dle_f g31;refine W.skip (blk_n (thn_n ?_));exact ⟨rfl,rfl,vi (by rw [hkk];(repeat' split) <;> omega),vi (by rw [hF];(repeat' split) <;> omega),hB⟩
   ·rintro D E w36 ⟨rfl,e0,e4,e5,hB⟩;rw [upd_self e0,upd_self e4,upd_self e5];refine W.seq (W.seq (W.region (L.val (x_mv (v:=S _) rfl) rfl ?_)));refine L.val (x_len_str Tryz.underlying9 rfl) rfl ?_;refine L.val (x_mv (v:=.int _ _) rfl) rfl ?_;refine L.val (x_lss rfl rfl) rfl ?_;refine L.nil (thn_n (W.cond (b:=_) rfl (fun g39=>?_) (fun g39=>?_)))
    ·have h39:=of_decide_eq_true g39;refine W.seq (W.region (L.val (x_as (v:=.int _ _) rfl) rfl ?_));refine L.val (x_as (v:=.int _ _) rfl) rfl ?_;refine L.nil (thn_n (W.ret (thn_r (fin_mk (.inr rfl) ?_))));exact ⟨⟨0,0,rfl,.inl ⟨rfl,fun h=>by have:=h.1;omega⟩⟩,hB⟩
    ·have h39:=dlt_f g39;refine W.skip (thn_n (W.seq (W.seq (W.region (L.val (x_as (v:=.int _ _) rfl) rfl ?_)))));refine L.nil (thn_n (W.block (W.loop (fun m' E w'=>∃ (j:Nat),m'=K - j∧E 0=S s∧E 4=.int .i64 (K:Nat)∧E 5=.int .i64 (fstAt s (j - 1))∧E 6=.int .i64 (j:Nat)∧(Bel w w')∧(1≤j)∧(j≤K)) (K - 1) ?_ ?_)))
     ·exact ⟨1,by omega,by first | rfl | exact vi om_ | exact vs (by first | assumption | (rw [hst];done) | (rw [hst];simp only [List.append_assoc])),by first | rfl | exact vi om_ | exact vs (by first | assumption | (rw [hst];done) | (rw [hst];simp only [List.append_assoc])),by first | rfl | exact vi om_ | exact vs (by first | assumption | (rw [hst];done) | (rw [hst];simp only [List.append_assoc])),by first | rfl | exact vi om_ | exact vs (by first | assumption | (rw [hst];done) | (rw [hst];simp only [List.append_assoc])),ao_,ao_,ao_⟩
     ·rintro _ E wL40 ⟨j,em,e0,e4,e5,e6,hB,hj1,hj⟩;rw [upd_self e0,upd_self e4,upd_self e5,upd_self e6];refine W.seq (W.seq (W.region (L.val (x_mv (v:=.int _ _) rfl) rfl ?_)));refine L.val (x_mv (v:=.int _ _) rfl) rfl ?_;refine L.val (x_lss rfl rfl) rfl ?_;refine L.nil (thn_n (W.cond (b:=_) rfl (fun g42=>?_) (fun g42=>?_)))
      ·have h42:=of_decide_eq_true g42;have hjK:j<K:=by omega
       have hb1:=fstAt_b s (j - 1) om_;have hb2:=fstAt_b s j om_;have hbj:=(s.getD j 0).toNat_lt;have hst:fstAt s j=fstAt s (j - 1) * 64+(s.getD j 0).toNat - 128:=by
         conv=>lhs;rw [show j=(j - 1)+1 by omega]
         show fstAt s (j - 1) * 64+(s.getD (j - 1+1) 0).toNat - 128=_;rw [show j - 1+1=j by omega]
       refine W.skip (thn_n (W.seq (W.block (W.region (L.val (x_mv (v:=.int _ _) rfl) rfl ?_)))));refine L.val (x_mul rfl rfl (wr64 om_)) rfl ?_;refine L.val (x_mv (v:=S _) rfl) rfl ?_;refine L.val (x_mv (v:=.int _ _) rfl) rfl ?_;refine L.val (x_ixs (j:=j) Tryz.underlying9 rfl rfl om_ om_) rfl ?_;refine L.val (x_conv (k':=.i64) (by rw [Tryz.underlying5];rfl) Tryz.underlying3 rfl (wr64 om_)) rfl ?_;refine L.val (x_add rfl rfl (wr64 om_)) rfl ?_;refine L.val (x_sub (c:=fstAt s j) rfl rfl (by rw [hst];exact wr64 om_)) rfl ?_;refine L.val (x_as (v:=.int _ _) rfl) rfl ?_;refine L.nil (blk_n (thn_n (W.region (L.val (x_mv (v:=.int _ _) rfl) rfl ?_))));refine L.val (x_add rfl rfl (wr64 om_)) rfl ?_;refine L.val (x_as (v:=.int _ _) rfl) rfl ?_;refine L.nil (thn_n ⟨rfl,?_⟩);refine ⟨_,?_,j+1,rfl,by first | rfl | exact vi om_ | exact vs (by first | assumption | (rw [hst];done) | (rw [hst];simp only [List.append_assoc])),by first | rfl | exact vi om_ | exact vs (by first | assumption | (rw [hst];done) | (rw [hst];simp only [List.append_assoc])),by first | rfl | exact vi om_ | exact vs (by first | assumption | (rw [hst];done) | (rw [hst];simp only [List.append_assoc])),by first | rfl | exact vi om_ | exact vs (by first | assumption | (rw [hst];done) | (rw [hst];simp only [List.append_assoc])),ao_,ao_,ao_⟩;omega
      ·have h42:=dlt_f g42;have hjK:j=K:=by omega
       subst hjK;obtain ⟨V,hVd⟩:∃ V,V=fstV (s.getD 0 0).toNat (s.getD 1 0).toNat (s.getD 2 0).toNat (s.getD 3 0).toNat:=⟨_,rfl⟩;rw [hV,← hVd];refine W.exit (thn_x (thn_x (blk_hit ?_)));refine thn_n (W.seq (W.seq (W.drawF 11 ktm17_mixed (fun wF53 hB0=>?_))));refine LAC.takeN (i:=0) rfl kr_ kr_ kr_ kr_ (fun w hw=>x_mv (v:=.int _ _) rfl) rfl ?_;refine LAC.step (rs:=[1]) (fun _=>hB0) kr_ (by simp) ⟨⟨_,rfl,?_⟩,trivial⟩;refine L.ret (x_call ktm17_en126 rfl) rfl (point03 V _) ?_;rintro _ w54 ⟨rfl,hw⟩;have hB0:=hB0.carry hw;refine L.nil (thn_n (LAC.takeN (i:=2) rfl kr_ kr_ kr_ kr_ (fun w hw=>x_not rfl) rfl ?_));refine LAC.takeN (i:=3) rfl kr_ kr_ kr_ kr_ (fun w hw=>x_mv (v:=.bool _) rfl) rfl ?_;refine LAC.split (dj:=56) (b:=_) rfl (fun g56=>?_) (fun g56=>?_)
       ·have h56:=(not_t g56);have hno:¬ fstOkS s:=fun h=>by have:=h.2.1;rw [← hVd,h56] at this;cases this
        refine LAC.takeU (i:=4) rfl kr_ kr_ kr_ kr_ (dj:=56) (b:=_) rfl rfl g56 rfl ?_;refine LAC.takeU (i:=5) rfl kr_ kr_ kr_ kr_ (dj:=56) (b:=_) rfl rfl g56 rfl ?_;refine LAC.takeU (i:=6) rfl kr_ kr_ kr_ kr_ (dj:=56) (b:=_) rfl rfl g56 rfl ?_;refine LAC.takeU (i:=7) rfl kr_ kr_ kr_ kr_ (dj:=56) (b:=_) rfl rfl g56 rfl ?_;refine LAC.takeU (i:=8) rfl kr_ kr_ kr_ kr_ (dj:=56) (b:=_) rfl rfl g56 rfl ?_;refine LAC.takeU (i:=9) rfl kr_ kr_ kr_ kr_ (dj:=56) (b:=_) rfl rfl g56 rfl ?_;refine LAC.takeN (i:=10) rfl kr_ kr_ kr_ kr_ (fun w hw=>x_pick_t (v:=.bool _) (congrArg Value.bool g56) rfl) rfl ?_;refine LAC.doneF kr_ hB0 ?_;have hB:=hB.carry hB0;refine thn_n (W.cond (b:=true) rfl (fun _=>?_) (fun h=>nomatch h));refine W.seq (W.region (L.val (x_as (v:=.int _ _) rfl) rfl ?_));refine L.val (x_as (v:=.int _ _) rfl) rfl ?_;refine L.nil (thn_n (W.ret (thn_r (fin_mk (.inr rfl) ?_))));exact ⟨⟨0,0,rfl,.inl ⟨rfl,hno⟩⟩,hB⟩
       ·have h56:=(not_f g56);obtain ⟨hp0,hp1,-⟩:=point_iff.1 h56;obtain ⟨P,rfl⟩:∃ P:Nat,V=P:=⟨V.toNat,by omega⟩;refine LAC.takeG (i:=4) rfl kr_ kr_ kr_ kr_ (dj:=56) (b:=_) rfl rfl g56 (fun w hw=>x_mv (v:=.int _ _) rfl) rfl ?_;refine LAC.takeG (i:=6) rfl kr_ kr_ kr_ kr_ (dj:=56) (b:=_) rfl rfl g56 (fun w hw=>x_mv (v:=S _) rfl) rfl ?_;refine LAC.takeG (i:=7) rfl kr_ kr_ kr_ kr_ (dj:=56) (b:=_) rfl rfl g56 (fun w hw=>x_mv (v:=.int _ _) rfl) rfl ?_;refine LAC.takeG (i:=8) rfl kr_ kr_ kr_ kr_ (dj:=56) (b:=_) rfl rfl g56 (fun w hw=>x_slS (j:=j) Tryz.underlying9 rfl rfl rfl om_) rfl ?_;refine LAC.step (rs:=[5]) (fun _=>hB0) kr_ (by simp) ⟨⟨_,rfl,?_⟩,trivial⟩;refine L.gyes' (dj:=56) (b:=_) rfl rfl g56 ?_;refine L.ret (x_call ktm17_en127 rfl) rfl (bytes03 P om_ _) ?_;rintro _ w58 ⟨rfl,hw⟩;have hB0:=hB0.carry hw;refine L.nil (thn_n (LAC.takeG (i:=9) rfl kr_ kr_ kr_ kr_ (dj:=56) (b:=_) rfl rfl g56 (fun w hw=>x_nes rfl rfl) rfl ?_));refine LAC.takeN (i:=10) rfl kr_ kr_ kr_ kr_ (fun w hw=>x_pick_f (v:=.bool _) (congrArg Value.bool g56) rfl) rfl ?_;refine LAC.doneF kr_ hB0 ?_;have hB:=hB.carry hB0;refine thn_n (W.cond (b:=_) rfl (fun g62=>?_) (fun g62=>?_))
        ·have h62:=sne_t g62;have hno:¬ fstOkS s:=fun h=>h62 ((bytes_head om_ s om_ om_).2 (by have h3:=h.2.2;rw [← hVd,← hK] at h3;exact h3))
         refine W.seq (W.region (L.val (x_as (v:=.int _ _) rfl) rfl ?_));refine L.val (x_as (v:=.int _ _) rfl) rfl ?_;refine L.nil (thn_n (W.ret (thn_r (fin_mk (.inr rfl) ?_))));exact ⟨⟨0,0,rfl,.inl ⟨rfl,hno⟩⟩,hB⟩
        ·have h62:=sne_f g62;have hyes:fstOkS s:=⟨by omega,by rw [← hVd];exact h56,by rw [← hVd,← hK];exact (bytes_head om_ s om_ om_).1 h62⟩;refine W.skip (thn_n (W.seq (W.region (L.val (x_mv (v:=.int _ _) rfl) rfl ?_))));refine L.val (x_mv (v:=.int _ _) rfl) rfl ?_;refine L.val (x_as (v:=.int _ _) rfl) rfl ?_;refine L.val (x_as (v:=.int _ _) rfl) rfl ?_;refine L.nil (thn_n (W.ret (fin_mk (.inr rfl) ?_)));exact ⟨⟨_,j,rfl,.inr ⟨rfl,by omega,hyes⟩⟩,hB⟩
end Go.Gx
namespace Go.Gx
open Go.Proofs Go.Sort
theorem ktm18_ag94:aggT Tryz.prog 94 2=true:=by kernel_rfl
theorem ktm18_el3:elT Tryz.prog 3 1=true:=by kernel_rfl
theorem ktm18_en108:Go.Proofs.Enters Tryz.prog 108:=Go.Proofs.enters_of Tryz.func108 kr_ rfl
theorem ktm18_en87:Go.Proofs.Enters Tryz.prog 87:=Go.Proofs.enters_of Tryz.func87 kr_ rfl
theorem ktm18_fo94_0:fieldOff Tryz.prog 94 0=some 0:=by kernel_rfl
theorem ktm18_oc27:oneCellT Tryz.prog 27=true:=by kernel_rfl
theorem ktm18_si94:structInfo Tryz.prog 94=some ([(0,1),(1,1)],[Value.int .i64 0,Value.int .i64 0]):=by kernel_rfl
theorem ktm18_zr94:(Tryz.prog.info? 94).bind (·.zero)=some (Value.agg [Value.int .i64 0,Value.int .i64 0].toArray):=by kernel_rfl
theorem resTS {P:Program} {fn:Func} {t t2:Tmp} {T:TypeId} {E:Env} {w:World} {b n:Nat} {T':TypeId} {cs:List Value} {v:Value} (hr:fn.results=#[.tmp t2,.cell t T]) (ht:aggT P T n=true) (hE:E t=.pointer (some ⟨b,0,none⟩)) (hE2:E t2=v) (hb:Box w b T' cs) (hl:cs.length=n):
    ∀ a:Array Value,(∀ t,a.getD t undef=E t)→(results fn a).run P w=.ok (.tuple #[v,.agg cs.toArray]) w:=by
  intro a ha;have hg:a.getD t undef=.pointer (some ⟨b,0,none⟩):=by rw [ha,hE]
  have hg2:a.getD t2 undef=v:=by rw [ha,hE2]
  have hload:(loadVar T ⟨b,0,none⟩).run P w=.ok (.agg cs.toArray) w:=by
    unfold aggT at ht;simp only [Bool.and_eq_true,beq_iff_eq] at ht;obtain ⟨h1,h2⟩:=ht;cases hu:P.underlying T with
    | none=>simp [hu] at h1
    | some d=>
      rw [hu] at h1;exact run_loadVar_row w b T' T cs.toArray (0,0) d hb hu (by cases d <;> simp_all) (by rw [h2];simp [hl])
  rw [Array.getD_eq_getD_getElem?] at hg hg2;simp [results,hr,hg,hg2,asAddr,hload]
theorem decode03 (s:Str) (hs:s.length≤100000000) (w:World):Ret Tryz.prog 87 #[S s] w fun r w'=>(∃ (p:Option Addr) (n c:Nat) (e a:Int),r=.tuple #[.slice p n c,.agg #[.int .i64 e,.int .i64 a]]∧(decide (e=0))=Lib.validD s)∧Bel w w':=by
  refine ret_of_W_R Tryz.func87 rfl (Nat.le_of_ble_eq_true rfl) ?_;have hB:=Gr.refl (fun _=>False) w;refine W.seq (W.region (L.val (x_as (v:=.slice _ _ _) rfl) rfl ?_));refine L.alloc (cs:=[Value.int .i64 0,Value.int .i64 0]) ktm18_zr94 rfl rfl (fun w3 bx3 hw hz3=>?_);have hB:=hB.carry hw;obtain ⟨base,hbase⟩:∃ base,base=w3.heap.size:=⟨_,rfl⟩;have hb3:=bx3.lt;rw [← hbase] at hb3;refine L.nil (thn_n (W.seq (W.region (L.val (x_as (v:=.slice _ _ _) rfl) rfl ?_))));refine L.nil (thn_n (W.seq (W.region (L.val (x_as (v:=.int _ _) rfl) rfl ?_))));refine L.nil (thn_n (W.seq (W.block (W.loop (fun m' E w'=>∃ (j:Nat) (vo:Value) (k:Nat) (xs:List Value),m'=s.length - j∧E 0=S s∧E 3=.pointer (some ⟨w.heap.size,0,none⟩)∧E 4=vo∧E 5=.int .i64 (j:Nat)∧(Bel w w')∧(Box w' w.heap.size 94 [.int .i64 0,.int .i64 0])∧(Own w' base 3 1 vo k xs)∧(Ge base w')∧(j≤s.length)∧(k≤j)∧(Lib.validD s=Lib.validD (s.drop j))) (s.length) ?_ ?_))))
  ·exact ⟨0,.slice none 0 0,0,[],by omega,vi_,vi_,vi_,vi_,ao_,ao_,(by exact own_nil),(by exact Nat.le_of_eq hbase),ao_,ao_,(by rfl)⟩
  ·rintro _ E wL8 ⟨j,vo,k,xs,em,e0,e3,e4,e5,hB,bx3,hO,hbs,hj,hkj,hv⟩;rw [upd_self e0,upd_self e3,upd_self e4,upd_self e5];refine W.seq (W.seq (W.region ?_));obtain ⟨av,cv,ev,-⟩:=own_shape hO;subst ev;have hql:=fun j hj=>Own.lt hO (j:=j) hj
   refine L.val (x_mv (v:=.int _ _) rfl) rfl ?_;refine L.val (x_mv (v:=S _) rfl) rfl ?_;refine L.val (x_len_str Tryz.underlying9 rfl) rfl ?_;refine L.val (x_lss rfl rfl) rfl ?_;refine L.nil (thn_n (W.cond (b:=_) rfl (fun g11=>?_) (fun g11=>?_)))
   ·have h11:=of_decide_eq_true g11;have hlt:j<s.length:=by omega
    have hdl:(s.drop j).length=s.length - j:=List.length_drop;have hne:s.drop j≠[]:=fun e=>by rw [e] at hdl;simp at hdl;omega
    refine W.skip (thn_n (W.block (W.seq (W.region (L.val (x_mv (v:=S _) rfl) rfl ?_)))));refine L.val (x_mv (v:=.int _ _) rfl) rfl ?_;refine L.val (x_slB (j:=j) Tryz.underlying9 rfl rfl rfl hj) rfl ?_;refine L.ret (x_call ktm18_en108 rfl) rfl (first03 (s.drop j) om_ hne _) ?_;rintro _ w16 ⟨⟨p16,n16,rfl,h16⟩,hw⟩;have hB:=hB.carry hw;have bx3:=bx3.carry hw;have hO:=hO.carry hw;have hbs:=hbs.carry hw;refine L.val (x_mv (v:=_) rfl) rfl ?_;refine L.val (x_ext (v:=.int _ _) rfl rfl) rfl ?_;refine L.val (x_ext (v:=.int _ _) rfl rfl) rfl ?_;refine L.val (x_as (v:=.int _ _) rfl) rfl ?_;refine L.val (x_as (v:=.int _ _) rfl) rfl ?_;refine L.nil (thn_n (W.seq (W.seq (W.region (L.val (x_mv (v:=.int _ _) rfl) rfl ?_)))));refine L.val (x_eql rfl rfl) rfl ?_;refine L.nil (thn_n (W.cond (b:=_) rfl (fun g20=>?_) (fun g20=>?_)))
    ·have h20:=of_decide_eq_true g20;have hno:¬ fstOkS (s.drop j):=by
       rcases h16 with ⟨-,h⟩ | ⟨h,-,-⟩
       · exact h
       · have:=fstK_le ((s.drop j).getD 0 0).toNat;omega
     refine W.seq (W.region (L.val (x_mv (v:=.int _ _) rfl) rfl ?_));refine L.val (x_build (cells:=[.int _ _,.int _ _]) ktm18_si94 rfl rfl) rfl ?_;refine L.val (x_as (v:=.slice _ _ _) rfl) rfl ?_;refine L.setRow ktm18_ag94 rfl rfl bx3 rfl rfl (by simp [Value.oneCell']) (fun wl23 bx3 hw hzl23=>?_);have hsz:=hB.size;have hB:=hB.set hw om_;have hO:=hO.carryR hw (fun j hj e=>by have:=(hql j hj).1;have e:j=w.heap.size:=e;omega);have hbs:=hbs.carryR hw;refine L.nil (thn_n (W.ret (thn_r (blk_r (thn_r (blk_r (thn_r (finR_mk (.inr rfl) ?_))))))));exact ⟨_,resTS rfl ktm18_ag94 rfl rfl bx3 rfl,⟨_,_,_,30,_,rfl,by rw [hv,(valid_fst hne).2 hno];rfl⟩,hB⟩
    ·have h20:=of_decide_eq_false g20;obtain ⟨hn1,hn2,hyes⟩:1≤n16∧n16≤(s.drop j).length∧fstOkS (s.drop j)∧n16=fstK ((s.drop j).getD 0 0).toNat:=by
       rcases h16 with ⟨h,-⟩ | ⟨h,h2,h3⟩
       · omega
       · exact ⟨by omega,h2,h3,h⟩
     have hv2:Lib.validD s=Lib.validD (s.drop (j+n16)):=by rw [hv,(valid_fst hne).1 hyes.1,← hyes.2,List.drop_drop]
     refine W.skip (thn_n (W.seq (W.region (L.val (x_mv (v:=.slice _ _ _) rfl) rfl ?_))));refine L.val (x_mv (v:=.int _ _) rfl) rfl ?_;refine L.bs (sz:=1) (cells:=[.int .i64 p16]) Tryz.underlying92 ktm18_el3 rfl rfl rfl rfl (fun w25 bx25 hw hz25=>?_);have hB:=hB.carry hw;have bx3:=bx3.carry hw;have hO:=hO.carry hw;have hbs:=hbs.carry hw;have hbs2:base≤_:=hbs;refine L.appendN (m:=1) Tryz.underlying92 ktm18_el3 rfl rfl rfl hO rfl (holdsN_box bx25) (by simp [Value.oneCell']) om_ om_ (fun v26 w26 hO26 hg hob26=>?_);have hB:=hB.step hg (fun i hi e=>by have:=(Own.lt hO e).1;omega);have bx3:=bx3.carryR hg (fun e=>by have:=(Own.lt hO e).1;omega);have hbs:Ge base w26:=hbs.carryR hg;obtain ⟨a26,c26,e26,-⟩:=own_shape hO26;subst e26;refine L.val (x_as (v:=.slice _ _ _) rfl) rfl ?_;refine L.nil (thn_n (W.region (L.val (x_mv (v:=.int _ _) rfl) rfl ?_)));refine L.val (x_mv (v:=.int _ _) rfl) rfl ?_;refine L.val (x_add rfl rfl (wr64 om_)) rfl ?_;refine L.val (x_as (v:=.int _ _) rfl) rfl ?_;refine L.nil (blk_n (thn_n ⟨rfl,?_⟩));refine ⟨_,?_,j+n16,_,k+1,_,rfl,vi_,vi_,vi_,vi_,ao_,(by exact bx3),(by exact hO26),ao_,ao_,ao_,(by exact hv2)⟩;omega
   ·have h11:=dlt_f g11;refine W.exit (thn_x (thn_x (blk_hit ?_)));refine thn_n (W.seq (W.region (L.val (x_mv (v:=.slice _ _ _) rfl) rfl ?_)));refine L.val (x_build (cells:=[.int _ _,.int _ _]) ktm18_si94 rfl rfl) rfl ?_;refine L.val (x_as (v:=.slice _ _ _) rfl) rfl ?_;refine L.setRow ktm18_ag94 rfl rfl bx3 rfl rfl (by simp [Value.oneCell']) (fun wl36 bx3 hw hzl36=>?_);have hsz:=hB.size;have hB:=hB.set hw om_;have hO:=hO.carryR hw (fun j hj e=>by have:=(hql j hj).1;have e:j=w.heap.size:=e;omega);have hbs:=hbs.carryR hw;refine L.nil (thn_n (W.ret (finR_mk (.inr rfl) ?_)));exact ⟨_,resTS rfl ktm18_ag94 rfl rfl bx3 rfl,⟨_,_,_,0,_,rfl,by rw [hv,List.drop_of_length_le om_];rfl⟩,hB⟩
theorem text08 (s:Str) (hs:s.length≤100000000) (w:World):Ret Tryz.prog 59 #[S s] w fun v w'=>v=.bool (quotS s)∧Bel w w':=by
  refine ret_of_W Tryz.func59 rfl (Nat.le_of_ble_eq_true rfl) (res1 rfl) ?_;have hB:=Gr.refl (fun _=>False) w;refine W.seq (W.region (L.val (x_as (v:=.bool _) rfl) rfl ?_));refine L.nil (thn_n (W.seq (W.seq (W.region (L.val (x_as (v:=.int _ _) rfl) rfl ?_)))));refine L.nil (thn_n (W.block (W.loop (fun m' E w'=>∃ (j:Nat),m'=s.length - j∧E 0=S s∧E 3=.int .i64 (j:Nat)∧(j≤s.length)∧(Bel w w')∧((s.take j).all quotB=true)) (s.length) ?_ ?_)))
  ·exact ⟨0,by omega,vi_,vi_,ao_,ao_,(by rfl)⟩
  ·rintro _ E wL6 ⟨j,em,e0,e3,hj,hB,ha⟩;rw [upd_self e0,upd_self e3];refine W.seq (W.seq (W.region (L.val (x_mv (v:=.int _ _) rfl) rfl ?_)));refine L.val (x_mv (v:=S _) rfl) rfl ?_;refine L.val (x_len_str Tryz.underlying9 rfl) rfl ?_;refine L.val (x_lss rfl rfl) rfl ?_;refine L.nil (thn_n (W.cond (b:=_) rfl (fun g9=>?_) (fun g9=>?_)))
   ·have h9:=of_decide_eq_true g9;have hlt:j<s.length:=by omega
    have hbt:=(s.getD j 0).toNat_lt;refine W.skip (thn_n (W.seq (W.block (W.seq (W.region (L.val (x_mv (v:=S _) rfl) rfl ?_))))));refine L.val (x_mv (v:=.int _ _) rfl) rfl ?_;refine L.val (x_ixs (j:=j) Tryz.underlying9 rfl rfl om_ om_) rfl ?_;refine L.val (x_lss rfl rfl) rfl ?_;refine L.val (x_mv (v:=.bool _) rfl) rfl ?_;refine' L.group0 4 17 20 20 16 true rfl ?_ ?_ ?_;rotate_left 1
    ·intro g16;have h16:=of_decide_eq_true g16;refine L.gyes' (dj:=16) (b:=_) rfl rfl g16 ?_;refine L.val (x_mv (v:=S _) rfl) rfl ?_;refine L.gyes' (dj:=16) (b:=_) rfl rfl g16 ?_;refine L.val (x_mv (v:=.int _ _) rfl) rfl ?_;refine L.gyes' (dj:=16) (b:=_) rfl rfl g16 ?_;refine L.val (x_ixs (j:=j) Tryz.underlying9 rfl rfl om_ om_) rfl ?_;refine L.gyes' (dj:=16) (b:=_) rfl rfl g16 ?_;refine L.val (x_neq rfl rfl) rfl ?_;refine L.nil (thn_n ⟨rfl,rfl,?_,rfl⟩);repeat (first | exact jeq.refl _ _ _ | refine jeq.upd rfl ?_ | refine jeq.jk rfl rfl ?_)
    ·intro g16;(iterate 4 refine L.gno (dj:=16) (b:=_) rfl rfl g16 rfl ?_);refine L.nil (thn_n ⟨rfl,rfl,?_⟩);repeat (first | exact jeq.refl _ _ _ | refine jeq.upd rfl ?_ | refine jeq.jk rfl rfl ?_)
    intro J16 j16;refine L.val (x_and rfl j16) rfl ?_;refine L.val (x_mv (v:=.bool _) rfl) rfl ?_;refine' L.group0 4 23 26 26 22 true rfl ?_ ?_ ?_;rotate_left 1
    ·intro g22;have h22:=g22;refine L.gyes' (dj:=22) (b:=_) rfl rfl g22 ?_;refine L.val (x_mv (v:=S _) rfl) rfl ?_;refine L.gyes' (dj:=22) (b:=_) rfl rfl g22 ?_;refine L.val (x_mv (v:=.int _ _) rfl) rfl ?_;refine L.gyes' (dj:=22) (b:=_) rfl rfl g22 ?_;refine L.val (x_ixs (j:=j) Tryz.underlying9 rfl rfl om_ om_) rfl ?_;refine L.gyes' (dj:=22) (b:=_) rfl rfl g22 ?_;refine L.val (x_neq rfl rfl) rfl ?_;refine L.nil (thn_n ⟨rfl,rfl,?_,rfl⟩);repeat (first | exact jeq.refl _ _ _ | refine jeq.upd rfl ?_ | refine jeq.jk rfl rfl ?_)
    ·intro g22;(iterate 4 refine L.gno (dj:=22) (b:=_) rfl rfl g22 rfl ?_);refine L.nil (thn_n ⟨rfl,rfl,?_⟩);repeat (first | exact jeq.refl _ _ _ | refine jeq.upd rfl ?_ | refine jeq.jk rfl rfl ?_)
    intro J22 j22;refine L.val (x_and rfl j22) rfl ?_;refine L.nil (thn_n (W.cond (b:=_) rfl (fun g27=>?_) (fun g27=>?_)))
    ·have h27:=g27;have hq:quotB (s.getD j 0)=false:=by
       unfold quotB
       revert g27
       cases decide (((s.getD j 0).toNat:Int)<32) <;> cases decide (((s.getD j 0).toNat:Int)=10) <;> cases decide (((s.getD j 0).toNat:Int)=9) <;> decide
     refine W.seq (W.region (L.val (x_as (v:=.bool _) rfl) rfl ?_));refine L.nil (thn_n (W.ret (blk_r (thn_r (thn_r (blk_r (thn_r (fin_mk (.inr rfl) ?_))))))));exact ⟨vb (by
       have:s.all quotB=false:=by rw [List.all_eq_false];exact ⟨s.getD j 0,by rw [List.getD_eq_getElem?_getD,List.getElem?_eq_getElem hlt];exact List.getElem_mem _,by rw [hq];simp⟩
       unfold quotS;rw [this];rfl),hB⟩
    ·have h27:=g27;have hq:quotB (s.getD j 0)=true:=by
       unfold quotB
       revert g27
       cases decide (((s.getD j 0).toNat:Int)<32) <;> cases decide (((s.getD j 0).toNat:Int)=10) <;> cases decide (((s.getD j 0).toNat:Int)=9) <;> decide
     refine W.skip (blk_n (thn_n (W.region (L.val (x_mv (v:=.int _ _) rfl) rfl ?_))));refine L.val (x_add rfl rfl (wr64 om_)) rfl ?_;refine L.val (x_as (v:=.int _ _) rfl) rfl ?_;refine L.nil (thn_n ⟨rfl,?_⟩);refine ⟨_,?_,j+1,rfl,vi_,vi_,ao_,ao_,(by rw [take_snoc (d:=0) hlt,List.all_append,ha];show (true && (quotB (s.getD j 0) && true))=true;rw [hq];rfl)⟩;omega
   ·have h9:=dlt_f g9;have hjj:j=s.length:=by omega
    rw [hjj,List.take_length] at ha;refine W.exit (thn_x (thn_x (blk_hit ?_)));refine thn_n (W.seq (W.region (L.val (x_mv (v:=S _) rfl) rfl ?_)));refine L.ret (x_call ktm18_en87 rfl) rfl (decode03 s hs _) ?_;rintro _ w30 ⟨⟨p30,n30,c30,e30,a30,rfl,h30⟩,hw⟩;have hB:=hB.carry hw;refine L.val (x_mv (v:=_) rfl) rfl ?_;refine L.val (x_ext (v:=.slice _ _ _) rfl rfl) rfl ?_;refine L.val (x_ext (v:=_) rfl rfl) rfl ?_;have hs5:=hB.size;refine L.alloc (cs:=[Value.int .i64 0,Value.int .i64 0]) ktm18_zr94 rfl rfl (fun w5 bx5 hw hz5=>?_);have hB:=hB.carry hw;refine L.val (x_as (v:=.slice _ _ _) rfl) rfl ?_;refine L.setRow ktm18_ag94 rfl rfl bx5 rfl rfl (by simp [Value.oneCell']) (fun wl34 bx5 hw hzl34=>?_);have hsz:=hB.size;have hB:=hB.set hw om_;refine L.nil (thn_n (W.seq (W.region (L.val (x_fa ktm18_fo94_0 rfl) rfl ?_))));refine L.val (x_ld (v:=.int _ _) ktm18_oc27 rfl (bx5.cell0 rfl)) rfl ?_;refine L.val (x_eql rfl rfl) rfl ?_;refine L.val (x_as (v:=.bool _) rfl) rfl ?_;refine L.nil (thn_n (W.ret (fin_mk (.inr rfl) ?_)));exact ⟨vb (by unfold quotS;rw [ha,← h30];rfl),hB⟩
end Go.Gx
namespace Go.Proofs
open Go.Shelf
def Tryz.lays156_ren:Go.Shelf.Ren:=⟨fun | 156=>44 | 165=>66 | 166=>64 | 169=>65 | 240=>90 | 241=>91 | 276=>113 | 277=>114 | n=>n,fun | 31=>22 | 9=>9 | 3=>3 | 4=>4 | 0=>0 | 20=>20 | 72=>74 | 76=>78 | 70=>71 | 37=>72 | 75=>76 | 127=>98 | 164=>121 | 5=>5 | 80=>80 | n=>n,fun | n=>n⟩
theorem Tryz.lays156:Go.Proofs.Lays.n156 Tryz.prog Tryz.lays156_ren:={
  mixed:=by kernel_rfl
  f156:=Tryz.func44.trans (congrArg some (by kernel_rfl))
  f165:=Tryz.func66.trans (congrArg some (by kernel_rfl))
  f166:=Tryz.func64.trans (congrArg some (by kernel_rfl))
  f169:=Tryz.func65.trans (congrArg some (by kernel_rfl))
  f240:=Tryz.func90.trans (congrArg some (by kernel_rfl))
  f241:=Tryz.func91.trans (congrArg some (by kernel_rfl))
  f276:=Tryz.func113.trans (congrArg some (by kernel_rfl))
  f277:=Tryz.func114.trans (congrArg some (by kernel_rfl))
  t0:=Tryz.underlying0
  a0:=Tryz.isAgg0
  z0:=Tryz.sizeOf0
  v0:=Tryz.zeroValue0
  t3:=Tryz.underlying3
  a3:=Tryz.isAgg3
  z3:=Tryz.sizeOf3
  v3:=Tryz.zeroValue3
  t4:=Tryz.underlying4
  a4:=Tryz.isAgg4
  z4:=Tryz.sizeOf4
  v4:=Tryz.zeroValue4
  t9:=Tryz.underlying9
  a9:=Tryz.isAgg9
  z9:=Tryz.sizeOf9
  v9:=Tryz.zeroValue9
  t20:=Tryz.underlying20
  a20:=Tryz.isAgg20
  z20:=Tryz.sizeOf20
  v20:=Tryz.zeroValue20
  t31:=Tryz.underlying22
  a31:=Tryz.isAgg22
  z31:=Tryz.sizeOf22
  v31:=Tryz.zeroValue22
  t37:=Tryz.underlying72
  a37:=Tryz.isAgg72
  z37:=Tryz.sizeOf72
  v37:=Tryz.zeroValue72
  t70:=Tryz.underlying71
  a70:=Tryz.isAgg71
  z70:=Tryz.sizeOf71
  v70:=Tryz.zeroValue71
  t72:=Tryz.underlying74
  a72:=Tryz.isAgg74
  z72:=Tryz.sizeOf74
  v72:=Tryz.zeroValue74
  t75:=Tryz.underlying76
  a75:=Tryz.isAgg76
  z75:=Tryz.sizeOf76
  v75:=Tryz.zeroValue76
  t76:=Tryz.underlying78
  a76:=Tryz.isAgg78
  z76:=Tryz.sizeOf78
  v76:=Tryz.zeroValue78
  t127:=Tryz.underlying98
  a127:=Tryz.isAgg98
  z127:=Tryz.sizeOf98
  v127:=Tryz.zeroValue98
  t164:=Tryz.underlying121
  a164:=Tryz.isAgg121
  z164:=Tryz.sizeOf121
  v164:=Tryz.zeroValue121 }
theorem Tryz.Builder_Extra_156:Builder.Extra Tryz.prog Tryz.lays156_ren:={
  sizeBuilder:=by kernel_rfl
  liesBuilder:=by kernel_rfl
  t5:=Tryz.underlying5
  a5:=Tryz.isAgg5
  z5:=Tryz.sizeOf5
  v5:=Tryz.zeroValue5
  infoByte:=by kernel_rfl
  cellsByte:=by kernel_rfl
  sizeByte:=by kernel_rfl
  neB5:=by decide }
open Go.RowKit in
theorem Tryz.strings_Join_none (a:Option Addr) (c:Nat) (sep:ByteArray) (w:World):
    Calls Tryz.prog 44 #[.slice a 0 c,.string sep] w fun e w'=>e=.returned (.string ⟨#[]⟩)∧w'=w:=Any.strings_Join_none Tryz.lays156 Tryz.Builder_Extra_156 a c sep w
open Go.RowKit in
theorem Tryz.strings_Join (bk o c:Nat) (xs:List ByteArray) (sep:ByteArray) (w:World) (hcells:∀ (j:Nat) x,xs[j]? = some x→w.cell? ⟨bk,o+j,none⟩=some (.string x)) (hbk:bk<w.heap.size) (hN:xs.length≤140737488355328) (hcap:xs.length≤c) (hlen:(Lib.join (xs.map (·.data.toList)) sep.data.toList).length≤140737488355328):
    Calls Tryz.prog 44 #[.slice (some ⟨bk,o,none⟩) xs.length c,.string sep] w fun e w'=>e=.returned (.string ⟨(Lib.join (xs.map (·.data.toList)) sep.data.toList).toArray⟩)∧Below w.heap.size w w':=Any.strings_Join Tryz.lays156 Tryz.Builder_Extra_156 bk o c xs sep w hcells hbk hN hcap hlen
end Go.Proofs
