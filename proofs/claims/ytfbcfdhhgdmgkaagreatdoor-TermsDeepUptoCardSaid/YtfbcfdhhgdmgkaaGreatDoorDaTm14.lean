/- Some answers that the document fixes. Conditions: none. -/
import Derived.Test.YtfbcfdhhgdmgkaaGreatDoorDaTm13
namespace Go.Gx
open Go.Proofs
theorem ktm14_ag26:aggT Tryz.prog 26 9=true:=by kernel_rfl
theorem ktm14_el26:elT Tryz.prog 26 9=true:=by kernel_rfl
theorem ktm14_el45:elT Tryz.prog 45 5=true:=by kernel_rfl
theorem ktm14_el9:elT Tryz.prog 9 1=true:=by kernel_rfl
theorem ktm14_en10:Go.Proofs.Enters Tryz.prog 10:=Go.Proofs.enters_of Tryz.func10 kr_ rfl
theorem ktm14_en13:Go.Proofs.Enters Tryz.prog 13:=Go.Proofs.enters_of Tryz.func13 kr_ rfl
theorem ktm14_en15:Go.Proofs.Enters Tryz.prog 15:=Go.Proofs.enters_of Tryz.func15 kr_ rfl
theorem ktm14_en16:Go.Proofs.Enters Tryz.prog 16:=Go.Proofs.enters_of Tryz.func16 kr_ rfl
theorem ktm14_en8:Go.Proofs.Enters Tryz.prog 8:=Go.Proofs.enters_of Tryz.func8 kr_ rfl
theorem ktm14_mixed:Tryz.prog.follows .mixedOrders=true:=by kernel_rfl
theorem ktm14_si26:structInfo Tryz.prog 26=some ([(0,1),(1,1),(2,1),(3,1),(4,1),(5,1),(6,1),(7,1),(8,1)],[Value.int .i64 0,S [],S [],Value.int .i64 0,Value.slice none 0 0,Value.slice none 0 0,Value.slice none 0 0,Value.slice none 0 0,Value.int .i64 0]):=by kernel_rfl
theorem ktm14_si45:structInfo Tryz.prog 45=some ([(0,1),(1,1),(2,1),(3,1),(4,1)],[Value.int .i64 0,S [],S [],Value.slice none 0 0,Value.slice none 0 0]):=by kernel_rfl
theorem ktm14_zr26:(Tryz.prog.info? 26).bind (·.zero)=some (Value.agg [Value.int .i64 0,S [],S [],Value.int .i64 0,Value.slice none 0 0,Value.slice none 0 0,Value.slice none 0 0,Value.slice none 0 0,Value.int .i64 0].toArray):=by kernel_rfl
def awX:Tm:=.mk 5 [] [120] 0 [] [] [] [] 3
def awF:Tm:=.mk 6 [] [] 0 [[120]] [] [.mk 1 [] [] [] []] [awX] 0
def awI:Tm:=.mk 1 [] [] 2 [] [] [] [] 0
def awC:Tm:=.mk 7 [] [] 0 [] [] [] [awF,awI] 0
def awL:Tm:=.mk 14 [] [120] 0 [] [] [] [awX] 0
theorem aw_check:checkT awC=0∧checkT awF=0∧checkT awC.bare=0∧checkT awL=80∧awC.size=4:=by decide +kernel
theorem aw_lim:awC.allB limB=true∧awC.allB limN=true∧awF.allB limB=true∧awC.bare.allB limB=true∧awL.allB limB=true:=by decide +kernel
theorem aw_two:Lib.itoa 2=[50]:=by
  unfold Lib.itoa;rw [if_neg (by decide)];exact Lib.decDigits_one (by decide)
theorem aw_text:awC.text=[40,102,117,110,32,40,120,58,32,73,110,116,41,32,45,62,32,120,41,40,50,41]:=by
  have h1:awF.text=[102,117,110,32,40,120,58,32,73,110,116,41,32,45,62,32,120]:=by decide +kernel
  have h2:awI.text=[50]:=by
    rw [Tm.text_eq];show Lib.itoa 2=[50];exact aw_two
  have h3:awC.text=texF 7 [] [] 0 [] [] [] [6,1] [awF.text,awI.text]:=rfl;rw [h3,h1,h2];decide +kernel
theorem bare_bare (s:Tm):s.bare.bare=s.bare:=by
  have key:∀ (N:Nat) (s:Tm),SizeOf.sizeOf s<N→s.bare.bare=s.bare:=by
    intro N;induction N with
    | zero=>intro s h;omega
    | succ N ih=>
      intro s hN;rw [bare_iff];rw [Tm.bare_eq s];refine ⟨rfl,rfl,rfl,rfl,rfl,rfl,rfl,?_⟩;show (s.parts.map Tm.bare).map Tm.bare=s.parts.map Tm.bare;rw [List.map_map];refine List.map_congr_left fun x hx=>?_
      obtain ⟨i,hi,e⟩:=List.getElem_of_mem hx;have h1:=Tm.part_lt hi;rw [List.getD_eq_getElem?_getD,List.getElem?_eq_getElem hi,Option.getD_some,e] at h1;exact ih x om_
  exact key _ s (Nat.lt_succ_self _)
theorem aw_same:sameT [awC,awC.bare]=true∧sameT [awC,awF]=false:=by
  obtain ⟨c1,c2,c3,-⟩:=aw_check;have e0:∀ t,eqT t t=true:=fun t=>eqT_iff.2 rfl
  refine ⟨?_,?_⟩
  · unfold sameT;have e1:eqT awC.bare awC=true:=eqT_iff.2 (bare_bare _);simp [c1,c3,e0,e1]
  · unfold sameT;have e1:eqT awF awC=false:=by
      cases h:eqT awF awC with
      | false=>rfl
      | true=>have:=(bare_iff.1 (eqT_iff.1 h)).1;exact absurd this (by decide)
    simp [e1]
theorem tms_box {w:World} {b:Nat} {T:TypeId} {A:Nat→Prop} (rows:List (List Value)) (l:List Tm) (h:Box w b T rows.flatten) (hA:¬ A b) (hl:l.length≤100) (hr:rows.length=l.length) (h4:∀ i,i<l.length→TmC A w (rows.getD i []) (l.getD i default)):RecsAt TmC 9 A w (.slice (some ⟨b,0,none⟩) l.length l.length) l:=
  recs_of_box rows l h hA om_ hr (fun i hi=>(h4 i hi).len) h4
def xC:List Value:=[.int .i64 5,S [],S [120],.int .i64 0,.slice none 0 0,.slice none 0 0,.slice none 0 0,.slice none 0 0,.int .i64 3]
theorem xC_ok {A:Nat→Prop} {w:World}:TmC A w xC awX:=
  TmC.intro (k:=5) (of:=[]) (nm:=[120]) (n:=0) (at_:=3) (StrsAt.nil _ _ _ _ om_) (StrsAt.nil _ _ _ _ om_) (ShsAt.nil _ _ _ _ om_) (RecsAt.nil om_) (by simp) (by simp) om_
def iC:List Value:=[.int .i64 1,S [],S [],.int .i64 2,.slice none 0 0,.slice none 0 0,.slice none 0 0,.slice none 0 0,.int .i64 0]
theorem iC_ok {A:Nat→Prop} {w:World}:TmC A w iC awI:=
  TmC.intro (k:=1) (of:=[]) (nm:=[]) (n:=2) (at_:=0) (StrsAt.nil _ _ _ _ om_) (StrsAt.nil _ _ _ _ om_) (ShsAt.nil _ _ _ _ om_) (RecsAt.nil om_) (by simp) (by simp) om_
def fC (b7 b9 b11:Nat):List Value:=[.int .i64 6,S [],S [],.int .i64 0,.slice (some ⟨b7,0,none⟩) 1 1,.slice none 0 0,.slice (some ⟨b9,0,none⟩) 1 1,.slice (some ⟨b11,0,none⟩) 1 1,.int .i64 0]
theorem fC_ok {w:World} {b7 b9 b11:Nat} {T7 T9 T11:TypeId} (h7:Box w b7 T7 [S [120]]) (h9:Box w b9 T9 [.int .i64 1,S [],S [],.slice none 0 0,.slice none 0 0]) (h11:Box w b11 T11 xC):TmC (fun _=>False) w (fC b7 b9 b11) awF:=
  TmC.intro (k:=6) (of:=[]) (nm:=[]) (n:=0) (at_:=0) (strs_of_box (A:=fun _=>False) [[120]] h7 (fun f=>f) (by simp) (by simp)) (StrsAt.nil _ _ _ _ om_)
    (shs_of_recs (recs_of_box (C:=ShC) [[.int .i64 1,S [],S [],.slice none 0 0,.slice none 0 0]] [.mk 1 [] [] [] []] (by simpa using h9) (fun f=>f) (by simp) rfl (fun i hi=>by match i,hi with | 0,_=>rfl) (fun i hi=>by
      match i,hi with
      | 0,_=>exact ShC.intro (k:=1) (of:=[]) (nm:=[]) (StrsAt.nil _ _ _ _ om_) (ShsAt.nil _ _ _ _ om_) (by simp) (by simp))))
    (tms_box [xC] [awX] (by simpa using h11) (fun f=>f) (by simp) rfl (fun i hi=>by match i,hi with | 0,_=>exact xC_ok)) (by simp) (by simp) om_
def cC (b:Nat):List Value:=[.int .i64 7,S [],S [],.int .i64 0,.slice none 0 0,.slice none 0 0,.slice none 0 0,.slice (some ⟨b,0,none⟩) 2 2,.int .i64 0]
theorem cC_ok {w:World} {b b7 b9 b11:Nat} {T:TypeId} (hf:TmC (fun _=>False) w (fC b7 b9 b11) awF) (h:Box w b T (fC b7 b9 b11++iC)):TmC (fun _=>False) w (cC b) awC:=
  TmC.intro (k:=7) (of:=[]) (nm:=[]) (n:=0) (at_:=0) (StrsAt.nil _ _ _ _ om_) (StrsAt.nil _ _ _ _ om_) (ShsAt.nil _ _ _ _ om_)
    (tms_box [fC b7 b9 b11,iC] [awF,awI] (by simpa using h) (fun f=>f) (by simp) rfl (fun i hi=>by
      match i,hi with
      | 0,_=>exact hf
      | 1,_=>exact iC_ok)) (by simp) (by simp) om_
theorem two_ok {w:World} {b:Nat} {T:TypeId} {xs ys:List Value} {s t:Tm} (h1:TmC (fun _=>False) w xs s) (h2:TmC (fun _=>False) w ys t) (h:Box w b T (xs++ys)):RecsAt TmC 9 (fun _=>False) w (.slice (some ⟨b,0,none⟩) 2 2) [s,t]:=
  tms_box [xs,ys] [s,t] (by simpa using h) (fun f=>f) (by simp) rfl (fun i hi=>by
    match i,hi with
    | 0,_=>exact h1
    | 1,_=>exact h2)
theorem lC_ok {w:World} {b:Nat} {T:TypeId} (h:Box w b T xC):TmC (fun _=>False) w [.int .i64 14,S [],S [120],.int .i64 0,.slice none 0 0,.slice none 0 0,.slice none 0 0,.slice (some ⟨b,0,none⟩) 1 1,.int .i64 0] awL:=
  TmC.intro (k:=14) (of:=[]) (nm:=[120]) (n:=0) (at_:=0) (StrsAt.nil _ _ _ _ om_) (StrsAt.nil _ _ _ _ om_) (ShsAt.nil _ _ _ _ om_)
    (tms_box [xC] [awX] (by simpa using h) (fun f=>f) (by simp) rfl (fun i hi=>by match i,hi with | 0,_=>exact xC_ok)) (by simp) (by simp) om_
theorem two_bs {a b:List Value} (ha:a.length=9) (hb:b.length=9):(partsOk 9 0 [(0,Value.agg a.toArray),(1,Value.agg b.toArray)] && decide ([((0:Nat),Value.agg a.toArray),(1,Value.agg b.toArray)].length=2) && decide (0<2) && decide (2 * 9≤16777216))=true:=by
  simp [partsOk,ha,hb,Value.cells]
theorem two_cells {a b:List Value}:([((0:Nat),Value.agg a.toArray),(1,Value.agg b.toArray)].map fun x=>x.2.cells.toList).flatten=a++b:=by simp [Value.cells]
set_option maxHeartbeats 4000000 in
theorem awake08 (w:World) (hT:Tabs w):Ret Tryz.prog 12 #[] w fun v w'=>v=.bool true∧Bel w w':=by
  obtain ⟨c1,c2,c3,c4,c5⟩:=aw_check;obtain ⟨d1,d2,d3,d4,d5⟩:=aw_lim;obtain ⟨s1,s2⟩:=aw_same;refine ret_of_W Tryz.func12 rfl (Nat.le_of_ble_eq_true rfl) (res1 rfl) ?_;have hB:=Gr.refl (fun _=>False) w;refine W.seq (W.region (L.val (x_as (v:=.bool _) rfl) rfl ?_));refine L.nil (thn_n (W.seq (W.region (L.val (x_build (cells:=[.int _ _,S _,S _,.int _ _,.slice _ _ _,.slice _ _ _,.slice _ _ _,.slice _ _ _,.int _ _]) ktm14_si26 rfl rfl) rfl ?_))));refine L.alloc (cs:=[Value.int .i64 0,S [],S [],Value.int .i64 0,Value.slice none 0 0,Value.slice none 0 0,Value.slice none 0 0,Value.slice none 0 0,Value.int .i64 0]) ktm14_zr26 rfl rfl (fun w1 bx1 hw hz1=>?_);have hB:=hB.carry hw;refine L.setRow ktm14_ag26 rfl rfl bx1 rfl rfl (by simp [Value.oneCell',S]) (fun wl4 bx1 hw hzl4=>?_);have hsz:=hB.size;have hB:=hB.set hw om_;refine L.nil (thn_n (W.seq (W.region (L.bs (sz:=1) (cells:=[S [120]]) Tryz.underlying22 ktm14_el9 rfl rfl rfl rfl (fun w7 bx7 hw hz7=>?_)))));have hB:=hB.carry hw;have bx1:=bx1.carry hw;refine L.val (x_build (cells:=[.int _ _,S _,S _,.slice _ _ _,.slice _ _ _]) ktm14_si45 rfl rfl) rfl ?_;refine L.bs (sz:=5) (cells:=[.int .i64 1,S [],S [],.slice none 0 0,.slice none 0 0]) Tryz.underlying23 ktm14_el45 rfl rfl rfl rfl (fun w9 bx9 hw hz9=>?_);have hB:=hB.carry hw;have bx1:=bx1.carry hw;have bx7:=bx7.carry hw;refine L.val (x_ldn (vs:=xC) ktm14_ag26 rfl rfl (bx1.row rfl)) rfl ?_;refine L.bs (sz:=9) (cells:=xC) Tryz.underlying24 ktm14_el26 rfl rfl rfl rfl (fun w11 bx11 hw hz11=>?_);have hB:=hB.carry hw;have bx1:=bx1.carry hw;have bx7:=bx7.carry hw;have bx9:=bx9.carry hw;refine L.val (x_build (cells:=[.int _ _,S _,S _,.int _ _,.slice _ _ _,.slice _ _ _,.slice _ _ _,.slice _ _ _,.int _ _]) ktm14_si26 rfl rfl) rfl ?_;refine L.alloc (cs:=[Value.int .i64 0,S [],S [],Value.int .i64 0,Value.slice none 0 0,Value.slice none 0 0,Value.slice none 0 0,Value.slice none 0 0,Value.int .i64 0]) ktm14_zr26 rfl rfl (fun w2 bx2 hw hz2=>?_);have hB:=hB.carry hw;have bx1:=bx1.carry hw;have bx7:=bx7.carry hw;have bx9:=bx9.carry hw;have bx11:=bx11.carry hw;refine L.setRow ktm14_ag26 rfl rfl bx2 rfl rfl (by simp [Value.oneCell',S]) (fun wl12 bx2 hw hzl12=>?_);have hsz:=hB.size;have hB:=hB.set hw om_;have bx1:=bx1.carryR hw om_;have bx7:=bx7.carryR hw om_;have bx9:=bx9.carryR hw om_;have bx11:=bx11.carryR hw om_;refine L.nil (thn_n (W.seq (W.region (L.val (x_ldn (vs:=fC _ _ _) ktm14_ag26 rfl rfl (bx2.row rfl)) rfl ?_))));refine L.val (x_build (cells:=[.int _ _,S _,S _,.int _ _,.slice _ _ _,.slice _ _ _,.slice _ _ _,.slice _ _ _,.int _ _]) ktm14_si26 rfl rfl) rfl ?_;refine L.bs (sz:=9) (cells:=fC _ _ _++iC) Tryz.underlying24 ktm14_el26 rfl rfl rfl rfl (fun w15 bx15 hw hz15=>?_);have hB:=hB.carry hw;have bx1:=bx1.carry hw;have bx7:=bx7.carry hw;have bx9:=bx9.carry hw;have bx11:=bx11.carry hw;have bx2:=bx2.carry hw;refine L.val (x_build (cells:=[.int _ _,S _,S _,.int _ _,.slice _ _ _,.slice _ _ _,.slice _ _ _,.slice _ _ _,.int _ _]) ktm14_si26 rfl rfl) rfl ?_;refine L.alloc (cs:=[Value.int .i64 0,S [],S [],Value.int .i64 0,Value.slice none 0 0,Value.slice none 0 0,Value.slice none 0 0,Value.slice none 0 0,Value.int .i64 0]) ktm14_zr26 rfl rfl (fun w3 bx3 hw hz3=>?_);have hB:=hB.carry hw;have bx1:=bx1.carry hw;have bx7:=bx7.carry hw;have bx9:=bx9.carry hw;have bx11:=bx11.carry hw;have bx2:=bx2.carry hw;have bx15:=bx15.carry hw;refine L.setRow ktm14_ag26 rfl rfl bx3 rfl rfl (by simp [Value.oneCell',S]) (fun wl18 bx3 hw hzl18=>?_);have hsz:=hB.size;have hB:=hB.set hw om_;have bx1:=bx1.carryR hw om_;have bx7:=bx7.carryR hw om_;have bx9:=bx9.carryR hw om_;have bx11:=bx11.carryR hw om_;have bx2:=bx2.carryR hw om_;have bx15:=bx15.carryR hw om_;refine L.nil (thn_n (W.seq (W.region ?_)));have hf:=fC_ok bx7 bx9 bx11;have hc:=cC_ok hf bx15;refine L.val (x_ldn (vs:=cC _) ktm14_ag26 rfl rfl (bx3.row rfl)) rfl ?_;refine L.ret (x_call ktm14_en16 rfl) rfl (Show_tm (fun _=>False) awC _ _ hc (hT.carry hB) d1 d2) ?_;rintro _ w19 ⟨rfl,hw⟩;have hB:=hB.carry hw;have bx1:=bx1.carry hw;have bx2:=bx2.carry hw;have bx3:=bx3.carry hw;have hf:=hf.carry hw;have hc:=hc.carry hw;rw [c1,if_pos rfl,aw_text];refine L.val (x_mv (v:=_) rfl) rfl ?_;refine L.val (x_ext (v:=S _) rfl rfl) rfl ?_;refine L.val (x_ext (v:=.int _ _) rfl rfl) rfl ?_;refine L.val (x_as (v:=S _) rfl) rfl ?_;refine L.val (x_as (v:=.int _ _) rfl) rfl ?_;refine L.nil (thn_n (W.seq (W.drawF 33 ktm14_mixed (fun wF22 hB0=>?_))));refine LAC.takeN (i:=0) rfl kr_ kr_ kr_ kr_ (fun w hw=>x_mv (v:=S _) rfl) rfl ?_;refine LAC.takeN (i:=1) rfl kr_ kr_ kr_ kr_ (fun w hw=>x_eqs rfl rfl) rfl ?_;refine LAC.takeN (i:=2) rfl kr_ kr_ kr_ kr_ (fun w hw=>x_mv (v:=.bool _) rfl) rfl ?_;refine LAC.split (dj:=24) (b:=_) rfl (fun g24=>?_) (fun g24=>?_)
  ·have h24:=seq_t g24;refine LAC.takeG (i:=3) rfl kr_ kr_ kr_ kr_ (dj:=24) (b:=_) rfl rfl g24 (fun w hw=>x_mv (v:=.int _ _) rfl) rfl ?_;refine LAC.takeG (i:=4) rfl kr_ kr_ kr_ kr_ (dj:=24) (b:=_) rfl rfl g24 (fun w hw=>x_eql rfl rfl) rfl ?_;refine LAC.takeN (i:=5) rfl kr_ kr_ kr_ kr_ (fun w hw=>x_pick_t (v:=.bool _) (congrArg Value.bool g24) rfl) rfl ?_;refine LAC.takeN (i:=6) rfl kr_ kr_ kr_ kr_ (fun w hw=>x_mv (v:=.bool _) rfl) rfl ?_;refine LAC.split (dj:=28) (b:=_) rfl (fun g28=>?_) (fun g28=>?_)
   ·have h28:=of_decide_eq_true g28;refine LAC.takeG (i:=7) rfl kr_ kr_ kr_ kr_ (dj:=28) (b:=_) rfl rfl g28 (fun w hw=>x_ldn (vs:=cC _) ktm14_ag26 rfl rfl (hw.keepRow rfl (bx3.row rfl))) rfl ?_;refine LAC.step (rs:=[8]) (fun _=>hB0) kr_ (by simp) ⟨⟨_,rfl,?_⟩,trivial⟩;refine L.gyes' (dj:=28) (b:=_) rfl rfl g28 ?_;refine L.ret (x_call ktm14_en10 rfl) rfl (tsize_ok (fun _=>False) awC _ _ (hc.carry hB0)) ?_;rintro _ w30 ⟨rfl,hw⟩;have hB0:=hB0.carry hw;refine L.nil (thn_n (LAC.takeG (i:=9) rfl kr_ kr_ kr_ kr_ (dj:=28) (b:=_) rfl rfl g28 (fun w hw=>x_eql rfl rfl) rfl ?_));refine LAC.takeN (i:=10) rfl kr_ kr_ kr_ kr_ (fun w hw=>x_pick_t (v:=.bool _) (congrArg Value.bool g28) rfl) rfl ?_;refine LAC.takeN (i:=11) rfl kr_ kr_ kr_ kr_ (fun w hw=>x_mv (v:=.bool _) rfl) rfl ?_;refine LAC.split (dj:=33) (b:=_) rfl (fun g33=>?_) (fun g33=>?_)
    ·have h33:=of_decide_eq_true g33;refine LAC.takeG (i:=12) rfl kr_ kr_ kr_ kr_ (dj:=33) (b:=_) rfl rfl g33 (fun w hw=>x_ldn (vs:=cC _) ktm14_ag26 rfl rfl (hw.keepRow rfl (bx3.row rfl))) rfl ?_;refine LAC.takeG (i:=13) rfl kr_ kr_ kr_ kr_ (dj:=33) (b:=_) rfl rfl g33 (fun w hw=>x_ldn (vs:=cC _) ktm14_ag26 rfl rfl (hw.keepRow rfl (bx3.row rfl))) rfl ?_;refine LAC.step (rs:=[14]) (fun _=>hB0) kr_ (by simp) ⟨⟨_,rfl,?_⟩,trivial⟩;refine L.gyes' (dj:=33) (b:=_) rfl rfl g33 ?_;refine L.ret (x_call ktm14_en15 rfl) rfl (Bare_tm (fun _=>False) awC _ _ (hc.carry hB0) ((hT.carry hB).carry hB0) d1 c1) ?_;rintro _ w36 ⟨⟨cs36,rfl,h36⟩,hw⟩;have hB0:=hB0.carry hw;have h36:=h36.up;refine L.nil (thn_n (LAC.step (rs:=[15]) (fun _=>hB0) kr_ (by simp) ⟨⟨_,rfl,?_⟩,trivial⟩));refine L.gyes' (dj:=33) (b:=_) rfl rfl g33 ?_;refine L.bs (sz:=9) (cells:=cC _++cs36) Tryz.underlying24 ktm14_el26 rfl (two_bs rfl h36.len) two_cells rfl (fun w37 bx37 hw hz37=>?_);have hB0:=hB0.carry hw;have h36:=h36.carry hw;refine L.nil (thn_n (LAC.step (rs:=[16]) (fun _=>hB0) kr_ (by simp) ⟨⟨_,rfl,?_⟩,trivial⟩));refine L.gyes' (dj:=33) (b:=_) rfl rfl g33 ?_;refine L.ret (x_call ktm14_en13 rfl) rfl (same_tm _ _ [awC,awC.bare] _ (two_ok (hc.carry hB0) (h36.mono fun _ _ h=>h.elim) bx37) ((hT.carry hB).carry hB0) (fun i hi=>by match i,hi with | 0,_=>exact d1 | 1,_=>exact d4)) ?_;rintro _ w38 ⟨rfl,hw⟩;have hB0:=hB0.carry hw;have h36:=h36.carry hw;have bx37:=bx37.carry hw;refine L.nil (thn_n (LAC.takeN (i:=17) rfl kr_ kr_ kr_ kr_ (fun w hw=>x_pick_t (v:=.bool _) (congrArg Value.bool g33) rfl) rfl ?_));refine LAC.takeN (i:=18) rfl kr_ kr_ kr_ kr_ (fun w hw=>x_mv (v:=.bool _) rfl) rfl ?_;refine LAC.split (dj:=40) (b:=_) rfl (fun g40=>?_) (fun g40=>?_)
     ·have h40:=g40;refine LAC.takeG (i:=19) rfl kr_ kr_ kr_ kr_ (dj:=40) (b:=_) rfl rfl g40 (fun w hw=>x_ldn (vs:=cC _) ktm14_ag26 rfl rfl (hw.keepRow rfl (bx3.row rfl))) rfl ?_;refine LAC.takeG (i:=20) rfl kr_ kr_ kr_ kr_ (dj:=40) (b:=_) rfl rfl g40 (fun w hw=>x_ldn (vs:=fC _ _ _) ktm14_ag26 rfl rfl (hw.keepRow rfl (bx2.row rfl))) rfl ?_;refine LAC.step (rs:=[21]) (fun _=>hB0) kr_ (by simp) ⟨⟨_,rfl,?_⟩,trivial⟩;refine L.gyes' (dj:=40) (b:=_) rfl rfl g40 ?_;refine L.bs (sz:=9) (cells:=cC _++fC _ _ _) Tryz.underlying24 ktm14_el26 rfl rfl rfl rfl (fun w43 bx43 hw hz43=>?_);have hB0:=hB0.carry hw;have h36:=h36.carry hw;have bx37:=bx37.carry hw;refine L.nil (thn_n (LAC.step (rs:=[22]) (fun _=>hB0) kr_ (by simp) ⟨⟨_,rfl,?_⟩,trivial⟩));refine L.gyes' (dj:=40) (b:=_) rfl rfl g40 ?_;refine L.ret (x_call ktm14_en13 rfl) rfl (same_tm _ _ [awC,awF] _ (two_ok (hc.carry hB0) (hf.carry hB0) bx43) ((hT.carry hB).carry hB0) (fun i hi=>by match i,hi with | 0,_=>exact d1 | 1,_=>exact d3)) ?_;rintro _ w44 ⟨rfl,hw⟩;have hB0:=hB0.carry hw;have h36:=h36.carry hw;have bx37:=bx37.carry hw;have bx43:=bx43.carry hw;refine L.nil (thn_n (LAC.takeG (i:=23) rfl kr_ kr_ kr_ kr_ (dj:=40) (b:=_) rfl rfl g40 (fun w hw=>x_not rfl) rfl ?_));refine LAC.takeN (i:=24) rfl kr_ kr_ kr_ kr_ (fun w hw=>x_pick_t (v:=.bool _) (congrArg Value.bool g40) rfl) rfl ?_;refine LAC.takeN (i:=25) rfl kr_ kr_ kr_ kr_ (fun w hw=>x_mv (v:=.bool _) rfl) rfl ?_;refine LAC.split (dj:=47) (b:=_) rfl (fun g47=>?_) (fun g47=>?_)
      ·have h47:=(not_t g47);refine LAC.takeG (i:=26) rfl kr_ kr_ kr_ kr_ (dj:=47) (b:=_) rfl rfl g47 (fun w hw=>x_ldn (vs:=xC) ktm14_ag26 rfl rfl (hw.keepRow rfl (bx1.row rfl))) rfl ?_;refine LAC.step (rs:=[27]) (fun _=>hB0) kr_ (by simp) ⟨⟨_,rfl,?_⟩,trivial⟩;refine L.gyes' (dj:=47) (b:=_) rfl rfl g47 ?_;refine L.bs (sz:=9) (cells:=xC) Tryz.underlying24 ktm14_el26 rfl rfl rfl rfl (fun w49 bx49 hw hz49=>?_);have hB0:=hB0.carry hw;have h36:=h36.carry hw;have bx37:=bx37.carry hw;have bx43:=bx43.carry hw;refine L.nil (thn_n (LAC.takeG (i:=28) rfl kr_ kr_ kr_ kr_ (dj:=47) (b:=_) rfl rfl g47 (fun w hw=>x_build (cells:=[.int _ _,S _,S _,.int _ _,.slice _ _ _,.slice _ _ _,.slice _ _ _,.slice _ _ _,.int _ _]) ktm14_si26 rfl rfl) rfl ?_));refine LAC.step (rs:=[29]) (fun _=>hB0) kr_ (by simp) ⟨⟨_,rfl,?_⟩,trivial⟩;refine L.gyes' (dj:=47) (b:=_) rfl rfl g47 ?_;refine L.ret (x_call ktm14_en8 rfl) rfl (check_tm (fun _=>False) awL _ _ (lC_ok bx49) ((hT.carry hB).carry hB0) d5) ?_;rintro _ w51 ⟨rfl,hw⟩;have hB0:=hB0.carry hw;have h36:=h36.carry hw;have bx37:=bx37.carry hw;have bx43:=bx43.carry hw;have bx49:=bx49.carry hw;refine L.nil (thn_n (LAC.takeG (i:=30) rfl kr_ kr_ kr_ kr_ (dj:=47) (b:=_) rfl rfl g47 (fun w hw=>x_eql rfl rfl) rfl ?_));refine LAC.takeN (i:=31) rfl kr_ kr_ kr_ kr_ (fun w hw=>x_pick_t (v:=.bool _) (congrArg Value.bool g47) rfl) rfl ?_;refine LAC.takeN (i:=32) rfl kr_ kr_ kr_ kr_ (fun w hw=>x_as (v:=.bool _) rfl) rfl ?_;refine LAC.doneF kr_ hB0 ?_;have hB:=hB.carry hB0;have bx1:=bx1.carry hB0;have bx2:=bx2.carry hB0;have bx3:=bx3.carry hB0;have hf:=hf.carry hB0;have hc:=hc.carry hB0;refine thn_n (W.ret (fin_mk (.inr rfl) ?_));exact ⟨vb (by rw [c4];rfl),hB⟩
      ·have h47:=(not_f g47);rw [s2] at g47;simp at g47
     ·have h40:=g40;rw [s1] at g40;cases g40
    ·have h33:=of_decide_eq_false g33;rw [c5] at h33;exact absurd (by rfl) h33
   ·have h28:=of_decide_eq_false g28;simp at g28
  ·have h24:=seq_f g24;simp at g24
end Go.Gx
namespace Go.Gx
open Go.Proofs
theorem klawtmd_ag26:aggT Tryz.prog 26 9=true:=by kernel_rfl
theorem klawtmd_el26:elT Tryz.prog 26 9=true:=by kernel_rfl
theorem klawtmd_en10:Go.Proofs.Enters Tryz.prog 10:=Go.Proofs.enters_of Tryz.func10 kr_ rfl
theorem klawtmd_en12:Go.Proofs.Enters Tryz.prog 12:=Go.Proofs.enters_of Tryz.func12 kr_ rfl
theorem klawtmd_en8:Go.Proofs.Enters Tryz.prog 8:=Go.Proofs.enters_of Tryz.func8 kr_ rfl
theorem klawtmd_mixed:Tryz.prog.follows .mixedOrders=true:=by kernel_rfl
theorem klawtmd_si26:structInfo Tryz.prog 26=some ([(0,1),(1,1),(2,1),(3,1),(4,1),(5,1),(6,1),(7,1),(8,1)],[Value.int .i64 0,S [],S [],Value.int .i64 0,Value.slice none 0 0,Value.slice none 0 0,Value.slice none 0 0,Value.slice none 0 0,Value.int .i64 0]):=by kernel_rfl
theorem klawtmd_zr26:(Tryz.prog.info? 26).bind (·.zero)=some (Value.agg [Value.int .i64 0,S [],S [],Value.int .i64 0,Value.slice none 0 0,Value.slice none 0 0,Value.slice none 0 0,Value.slice none 0 0,Value.int .i64 0].toArray):=by kernel_rfl
def stepT (nm:Str) (s:Tm):Tm:=.mk 10 [] nm 0 [] [] [] [s] 0
def leafT (nm:Str):Tm:=.mk 5 [] nm 0 [] [] [] [] 0
theorem fits_step (nm:Str) (s:Tm):fitsT (stepT nm s)=nameS nm:=by
  unfold fitsT stepT roomIs;simp [Tm.kind,Tm.of,Tm.name,Tm.n,Tm.names,Tm.vars,Tm.shapes,Tm.parts,Tm.place]
theorem fits_leaf (nm:Str):fitsT (leafT nm)=nameS nm:=by
  unfold fitsT leafT roomIs;simp [Tm.kind,Tm.of,Tm.name,Tm.n,Tm.names,Tm.vars,Tm.shapes,Tm.parts,Tm.place]
theorem size_step (nm:Str) (s:Tm):(stepT nm s).size=s.size+1:=by
  rw [Tm.size_eq];show 1+(s.size+0)=s.size+1;omega
theorem all_step (f:Tm→Bool) (nm:Str) (s:Tm):(stepT nm s).allB f=(f (stepT nm s) && s.allB f):=by
  rw [Tm.allB_eq];show (f (stepT nm s) && (s.allB f && true))=_;rw [Bool.and_true]
theorem all_leaf (f:Tm→Bool) (nm:Str):(leafT nm).allB f=f (leafT nm):=by
  rw [Tm.allB_eq];show (f (leafT nm) && true)=_;rw [Bool.and_true]
theorem check_leaf (nm:Str):checkT (leafT nm)=if nameS nm then 0 else 80:=by
  have h1:(leafT nm).size=1:=by rw [Tm.size_eq];rfl
  have h2:(leafT nm).deep=1:=by rw [Tm.deep_eq];rfl
  unfold checkT;rw [h1,h2,all_leaf,fits_leaf,if_neg om_,if_neg om_];cases nameS nm <;> rfl
theorem check_step_no {nm:Str} {s:Tm} (hs:s.size<4096) (hn:nameS nm=false):checkT (stepT nm s)=80∨checkT (stepT nm s)=91:=by
  unfold checkT;rw [size_step,if_neg om_,all_step,fits_step,hn];by_cases h:40<(stepT nm s).deep
  · rw [if_pos h];exact .inr rfl
  · rw [if_neg h];exact .inl rfl
theorem check_step_ok {nm:Str} {s:Tm} (hs:s.size<4096) (hn:nameS nm=true) (hc:checkT s=0):checkT (stepT nm s)=0∨checkT (stepT nm s)=91:=by
  obtain ⟨k1,k2,k3⟩:=check_ok hc;unfold checkT;rw [size_step,if_neg om_,all_step,fits_step,hn,k3];by_cases h:40<(stepT nm s).deep
  · rw [if_pos h];exact .inr rfl
  · rw [if_neg h];exact .inl rfl
def stepC (nm:Str) (b:Nat):List Value:=[.int .i64 10,S [],S nm,.int .i64 0,.slice none 0 0,.slice none 0 0,.slice none 0 0,.slice (some ⟨b,0,none⟩) 1 1,.int .i64 0]
theorem stepC_ok {w:World} {b:Nat} {T:TypeId} {nm:Str} {cs:List Value} {s:Tm} (hn:nm.length≤140737488351232) (h:Box w b T cs) (hs:TmC (fun _=>False) w cs s):TmC (fun _=>False) w (stepC nm b) (stepT nm s):=
  TmC.intro (k:=10) (of:=[]) (nm:=nm) (n:=0) (at_:=0) (StrsAt.nil _ _ _ _ om_) (StrsAt.nil _ _ _ _ om_) (ShsAt.nil _ _ _ _ om_)
    (tms_box [cs] [s] (by simpa using h) (fun f=>f) (by simp) rfl (fun i hi=>by match i,hi with | 0,_=>exact hs)) (by simp) hn om_
def leafC (nm:Str):List Value:=[.int .i64 5,S [],S nm,.int .i64 0,.slice none 0 0,.slice none 0 0,.slice none 0 0,.slice none 0 0,.int .i64 0]
theorem leafC_ok {A:Nat→Prop} {w:World} {nm:Str} (hn:nm.length≤140737488351232):TmC A w (leafC nm) (leafT nm):=
  TmC.intro (k:=5) (of:=[]) (nm:=nm) (n:=0) (at_:=0) (StrsAt.nil _ _ _ _ om_) (StrsAt.nil _ _ _ _ om_) (ShsAt.nil _ _ _ _ om_) (RecsAt.nil om_) (by simp) hn om_
theorem lim_step {nm:Str} {s:Tm} (h:s.allB limB=true):(stepT nm s).allB limB=true:=by
  rw [all_step,h];rfl
theorem lim_leaf {nm:Str}:(leafT nm).allB limB=true:=by rw [all_leaf];rfl
theorem one_bs {a:List Value} (ha:a.length=9):(partsOk 9 0 [(0,Value.agg a.toArray)] && decide ([((0:Nat),Value.agg a.toArray)].length=1) && decide (0<1) && decide (1 * 9≤16777216))=true:=by
  simp [partsOk,ha,Value.cells]
theorem one_cells {a:List Value}:([((0:Nat),Value.agg a.toArray)].map fun x=>x.2.cells.toList).flatten=a:=by simp [Value.cells]
set_option maxHeartbeats 4000000 in
theorem deep_law (s:Tm) (cs:List Value) (nm:Str) (w:World) (hs0:TmC (fun _=>False) w cs s) (hn:nm.length≤140737488351232) (hT:Tabs w) (hM:s.allB limB=true):
    Ret Tryz.prog 7 #[.agg cs.toArray,S nm] w fun v w'=>v=.bool true∧Bel w w':=by
  obtain ⟨A,hs,hU⟩:∃ A:Nat→Prop,TmC A w cs s∧(∀ k,w.heap.size≤k→A k):=⟨_,hs0.up,fun _=>.inr⟩;have hlen:=hs.len;refine ret_of_W Tryz.func7 rfl (Nat.le_of_ble_eq_true rfl) (res1 rfl) ?_;have hB:=Gr.refl (fun _=>False) w;refine W.seq (W.region (L.box (cs:=cs) rfl rfl (fun w2 bx2 hw hz2=>?_)));have hB:=hB.carry hw;have hs:=hs.carry hw;refine L.val (x_as (v:=.bool _) rfl) rfl ?_;refine L.nil (thn_n (W.seq (W.seq (W.region (L.val (x_ldn (vs:=cs) klawtmd_ag26 rfl hlen (bx2.row hlen)) rfl ?_)))));refine L.ret (x_call klawtmd_en8 rfl) rfl (check_tm _ s _ _ hs (hT.carry hB) hM) ?_;rintro _ w9 ⟨rfl,hw⟩;have hB:=hB.carry hw;have hs:=hs.carry hw;have bx2:=bx2.carry hw;refine L.val (x_neq rfl rfl) rfl ?_;refine L.val (x_mv (v:=.bool _) rfl) rfl ?_;refine' L.group 3 12 14 14 11 false rfl ?_ ?_ ?_;rotate_left 1
  ·intro g11 hg11;have h11:=dne_f g11;refine L.gyes' (dj:=11) (b:=_) rfl rfl g11 ?_;refine L.val (x_ldn (vs:=cs) klawtmd_ag26 rfl hlen (bx2.row hlen)) rfl ?_;refine L.gyes' (dj:=11) (b:=_) rfl rfl g11 ?_;refine L.ret (x_call klawtmd_en10 rfl) rfl (tsize_ok _ s _ _ hs) ?_;rintro _ w13 ⟨rfl,hw⟩;have hB:=hB.carry hw;have hs:=hs.carry hw;have bx2:=bx2.carry hw;have hg11:=hg11.carry hw;refine L.gyes' (dj:=11) (b:=_) rfl rfl g11 ?_;refine L.val (x_geq rfl rfl) rfl ?_;refine L.nil (thn_n ⟨rfl,?_,?_,fun _=>rfl⟩)
   ·exact hg11
   ·repeat (first | exact jeq.refl _ _ _ | refine jeq.upd rfl ?_ | refine jeq.jk rfl rfl ?_)
  ·intro g11;(iterate 3 refine L.gno (dj:=11) (b:=_) rfl rfl g11 rfl ?_);refine L.nil (thn_n ⟨rfl,Gr.refl _ _,?_⟩);refine ⟨?_,fun h=>h.elim⟩;repeat (first | exact jeq.refl _ _ _ | refine jeq.upd rfl ?_ | refine jeq.jk rfl rfl ?_)
  intro J11 w11 hw j11;have hB:=hB.carry hw;have hs:=hs.carry hw;have bx2:=bx2.carry hw;refine L.val (x_or rfl j11) rfl ?_;refine L.nil (thn_n (W.cond (b:=_) rfl (fun g15=>?_) (fun g15=>?_)))
  ·have h15:=g15;refine W.seq (W.region (L.ret (x_call klawtmd_en12 rfl) rfl (awake08 _ (hT.carry hB)) ?_));rintro _ w16 ⟨rfl,hw⟩;have hB:=hB.carry hw;have hs:=hs.carry hw;have bx2:=bx2.carry hw;refine L.val (x_as (v:=.bool _) rfl) rfl ?_;refine L.nil (thn_n (W.ret (thn_r (fin_mk (.inr rfl) ?_))));exact ⟨rfl,hB⟩
  ·have h15:=g15;obtain ⟨hq0,hq1⟩:checkT s=0∧s.size<4096:=by simp at g15;exact ⟨g15.1,by omega⟩
   have hq2:=size_step nm s;refine W.skip (thn_n (W.seq (W.region (L.val (x_mv (v:=S _) rfl) rfl ?_))));refine L.val (x_ldn (vs:=cs) klawtmd_ag26 rfl hlen (bx2.row hlen)) rfl ?_;refine L.bs (sz:=9) (cells:=cs) Tryz.underlying24 klawtmd_el26 rfl (one_bs hlen) one_cells rfl (fun w19 bx19 hw hz19=>?_);have hB:=hB.carry hw;have hs:=hs.carry hw;have bx2:=bx2.carry hw;refine L.val (x_build (cells:=[.int _ _,S _,S _,.int _ _,.slice _ _ _,.slice _ _ _,.slice _ _ _,.slice _ _ _,.int _ _]) klawtmd_si26 rfl rfl) rfl ?_;have hs5:=hB.size;have hx2:=bx2.lt;have hx19:=bx19.lt;refine L.alloc (cs:=[Value.int .i64 0,S [],S [],Value.int .i64 0,Value.slice none 0 0,Value.slice none 0 0,Value.slice none 0 0,Value.slice none 0 0,Value.int .i64 0]) klawtmd_zr26 rfl rfl (fun w5 bx5 hw hz5=>?_);have hB:=hB.carry hw;have hs:=hs.carry hw;have bx2:=bx2.carry hw;have bx19:=bx19.carry hw;refine L.setRow klawtmd_ag26 rfl rfl bx5 rfl rfl (by simp [Value.oneCell',S]) (fun wl18 bx5 hw hzl18=>?_);have hsz:=hB.size;have hB:=hB.set hw om_;have hs:=hs.carryR hw (fun k e=>hU k (by have:k=_:=e;omega));have bx2:=bx2.carryR hw om_;have bx19:=bx19.carryR hw om_;refine L.nil (thn_n (W.seq (W.region (L.val (x_mv (v:=S _) rfl) rfl ?_))));refine L.val (x_build (cells:=[.int _ _,S _,S _,.int _ _,.slice _ _ _,.slice _ _ _,.slice _ _ _,.slice _ _ _,.int _ _]) klawtmd_si26 rfl rfl) rfl ?_;have hs6:=hB.size;have hx2':=bx2.lt;have hx19':=bx19.lt;have hx5:=bx5.lt;refine L.alloc (cs:=[Value.int .i64 0,S [],S [],Value.int .i64 0,Value.slice none 0 0,Value.slice none 0 0,Value.slice none 0 0,Value.slice none 0 0,Value.int .i64 0]) klawtmd_zr26 rfl rfl (fun w6 bx6 hw hz6=>?_);have hB:=hB.carry hw;have hs:=hs.carry hw;have bx2:=bx2.carry hw;have bx19:=bx19.carry hw;have bx5:=bx5.carry hw;refine L.setRow klawtmd_ag26 rfl rfl bx6 rfl rfl (by simp [Value.oneCell',S]) (fun wl22 bx6 hw hzl22=>?_);have hsz:=hB.size;have hB:=hB.set hw om_;have hs:=hs.carryR hw (fun k e=>hU k (by have:k=_:=e;omega));have bx2:=bx2.carryR hw om_;have bx19:=bx19.carryR hw om_;have bx5:=bx5.carryR hw om_;refine L.nil (thn_n (W.seq (W.region (L.val (x_ldn (vs:=stepC nm _) klawtmd_ag26 rfl rfl (bx5.row rfl)) rfl ?_))));refine L.ret (x_call klawtmd_en8 rfl) rfl (check_tm _ (stepT nm s) _ _ (stepC_ok hn bx19 (hs.mono fun _ _ h=>h.elim)) (hT.carry hB) (lim_step hM)) ?_;rintro _ w24 ⟨rfl,hw⟩;have hB:=hB.carry hw;have hs:=hs.carry hw;have bx2:=bx2.carry hw;have bx19:=bx19.carry hw;have bx5:=bx5.carry hw;have bx6:=bx6.carry hw;refine L.val (x_as (v:=.int _ _) rfl) rfl ?_;refine L.nil (thn_n (W.seq (W.seq (W.region (L.val (x_ldn (vs:=leafC nm) klawtmd_ag26 rfl rfl (bx6.row rfl)) rfl ?_)))));refine L.ret (x_call klawtmd_en8 rfl) rfl (check_tm (fun _=>False) (leafT nm) _ _ (leafC_ok hn) (hT.carry hB) lim_leaf) ?_;rintro _ w26 ⟨rfl,hw⟩;have hB:=hB.carry hw;have hs:=hs.carry hw;have bx2:=bx2.carry hw;have bx19:=bx19.carry hw;have bx5:=bx5.carry hw;have bx6:=bx6.carry hw;refine L.val (x_neq rfl rfl) rfl ?_;refine L.nil (thn_n (W.cond (b:=_) rfl (fun g27=>?_) (fun g27=>?_)))
   ·have h27:=dne_t g27;have hnm:nameS nm=false:=by
        cases hc:nameS nm with
        | false=>rfl
        | true=>rw [check_leaf,hc] at h27;exact absurd rfl h27
    have hq3:=check_step_no hq1 hnm;refine W.seq (W.region (L.val (x_mv (v:=.int _ _) rfl) rfl ?_));refine L.val (x_eql rfl rfl) rfl ?_;refine L.val (x_mv (v:=.bool _) rfl) rfl ?_;refine' L.group0 2 31 32 32 30 false rfl ?_ ?_ ?_;rotate_left 1
    ·intro g30;have h30:=of_decide_eq_false g30;refine L.gyes' (dj:=30) (b:=_) rfl rfl g30 ?_;refine L.val (x_mv (v:=.int _ _) rfl) rfl ?_;refine L.gyes' (dj:=30) (b:=_) rfl rfl g30 ?_;refine L.val (x_eql rfl rfl) rfl ?_;refine L.nil (thn_n ⟨rfl,rfl,?_,rfl⟩);repeat (first | exact jeq.refl _ _ _ | refine jeq.upd rfl ?_ | refine jeq.jk rfl rfl ?_)
    ·intro g30;refine L.gno (dj:=30) (b:=_) rfl rfl g30 rfl ?_;refine L.gno (dj:=30) (b:=_) rfl rfl g30 rfl ?_;refine L.nil (thn_n ⟨rfl,rfl,?_⟩);repeat (first | exact jeq.refl _ _ _ | refine jeq.upd rfl ?_ | refine jeq.jk rfl rfl ?_)
    intro J30 j30;refine L.val (x_or rfl j30) rfl ?_;refine L.val (x_mv (v:=.bool _) rfl) rfl ?_;refine' L.group 1 35 35 35 34 true rfl ?_ ?_ ?_;rotate_left 1
    ·intro g34 hg34;have h34:=g34;refine L.gyes' (dj:=34) (b:=_) rfl rfl g34 ?_;refine L.ret (x_call klawtmd_en12 rfl) rfl (awake08 _ (hT.carry hB)) ?_;rintro _ w35 ⟨rfl,hw⟩;have hB:=hB.carry hw;have hs:=hs.carry hw;have bx2:=bx2.carry hw;have bx19:=bx19.carry hw;have bx5:=bx5.carry hw;have bx6:=bx6.carry hw;have hg34:=hg34.carry hw;refine L.nil (thn_n ⟨rfl,?_,?_,fun _=>rfl⟩)
     ·exact hg34
     ·repeat (first | exact jeq.refl _ _ _ | refine jeq.upd rfl ?_ | refine jeq.jk rfl rfl ?_)
    ·intro g34;refine L.gno (dj:=34) (b:=_) rfl rfl g34 rfl ?_;refine L.nil (thn_n ⟨rfl,Gr.refl _ _,?_⟩);refine ⟨?_,fun h=>h.elim⟩;repeat (first | exact jeq.refl _ _ _ | refine jeq.upd rfl ?_ | refine jeq.jk rfl rfl ?_)
    intro J34 w34 hw j34;have hB:=hB.carry hw;have hs:=hs.carry hw;have bx2:=bx2.carry hw;have bx19:=bx19.carry hw;have bx5:=bx5.carry hw;have bx6:=bx6.carry hw;refine L.val (x_and rfl j34) rfl ?_;refine L.val (x_as (v:=.bool _) rfl) rfl ?_;refine L.nil (thn_n (W.ret (thn_r (fin_mk (.inr rfl) ?_))));exact ⟨vb (by rcases hq3 with e | e <;> rw [e] <;> rfl),hB⟩
   ·have h27:=dne_f g27;have hnm:nameS nm=true:=by
        cases hc:nameS nm with
        | true=>rfl
        | false=>rw [check_leaf,hc] at h27;exact absurd h27 (by decide)
    have hq3:=check_step_ok hq1 hnm hq0;refine W.skip (thn_n (W.seq (W.drawF 18 klawtmd_mixed (fun wF37 hB0=>?_))));refine LAC.takeN (i:=0) rfl kr_ kr_ kr_ kr_ (fun w hw=>x_ldn (vs:=stepC nm _) klawtmd_ag26 rfl rfl (hw.keepRow rfl (bx5.row rfl))) rfl ?_;refine LAC.takeN (i:=2) rfl kr_ kr_ kr_ kr_ (fun w hw=>x_ldn (vs:=cs) klawtmd_ag26 rfl hlen (hw.keepRow hlen (bx2.row hlen))) rfl ?_;refine LAC.step (rs:=[1]) (fun _=>hB0) kr_ (by simp) ⟨⟨_,rfl,?_⟩,trivial⟩;refine L.ret (x_call klawtmd_en10 rfl) rfl (tsize_ok _ (stepT nm s) _ _ ((stepC_ok hn bx19 (hs.mono fun _ _ h=>h.elim)).carry hB0)) ?_;rintro _ w38 ⟨rfl,hw⟩;have hB0:=hB0.carry hw;refine L.nil (thn_n (LAC.step (rs:=[3]) (fun _=>hB0) kr_ (by simp) ⟨⟨_,rfl,?_⟩,trivial⟩));refine L.ret (x_call klawtmd_en10 rfl) rfl (tsize_ok _ s _ _ (hs.carry hB0)) ?_;rintro _ w40 ⟨rfl,hw⟩;have hB0:=hB0.carry hw;refine L.nil (thn_n (LAC.takeN (i:=4) rfl kr_ kr_ kr_ kr_ (fun w hw=>x_add rfl rfl (wr64 om_)) rfl ?_));refine LAC.takeN (i:=5) rfl kr_ kr_ kr_ kr_ (fun w hw=>x_eql rfl rfl) rfl ?_;refine LAC.takeN (i:=6) rfl kr_ kr_ kr_ kr_ (fun w hw=>x_mv (v:=.bool _) rfl) rfl ?_;refine LAC.split (dj:=43) (b:=_) rfl (fun g43=>?_) (fun g43=>?_)
    ·have h43:=of_decide_eq_true g43;refine LAC.takeG (i:=7) rfl kr_ kr_ kr_ kr_ (dj:=43) (b:=_) rfl rfl g43 (fun w hw=>x_mv (v:=.int _ _) rfl) rfl ?_;refine LAC.takeG (i:=8) rfl kr_ kr_ kr_ kr_ (dj:=43) (b:=_) rfl rfl g43 (fun w hw=>x_eql rfl rfl) rfl ?_;refine LAC.takeG (i:=9) rfl kr_ kr_ kr_ kr_ (dj:=43) (b:=_) rfl rfl g43 (fun w hw=>x_mv (v:=.bool _) rfl) rfl ?_;refine LAC.split (dj:=46) (b:=_) rfl (fun g46=>?_) (fun g46=>?_)
     ·have h46:=of_decide_eq_true g46;refine LAC.takeU (i:=10) rfl kr_ kr_ kr_ kr_ (dj:=46) (b:=_) rfl rfl g46 rfl ?_;refine LAC.takeU (i:=11) rfl kr_ kr_ kr_ kr_ (dj:=46) (b:=_) rfl rfl g46 rfl ?_;refine LAC.takeG (i:=12) rfl kr_ kr_ kr_ kr_ (dj:=43) (b:=_) rfl rfl g43 (fun w hw=>x_pick_t (v:=.bool _) (congrArg Value.bool g46) rfl) rfl ?_;refine LAC.takeN (i:=13) rfl kr_ kr_ kr_ kr_ (fun w hw=>x_pick_t (v:=.bool _) (congrArg Value.bool g43) rfl) rfl ?_;refine LAC.takeN (i:=14) rfl kr_ kr_ kr_ kr_ (fun w hw=>x_mv (v:=.bool _) rfl) rfl ?_;refine LAC.step (rs:=[15]) (fun _=>hB0) kr_ (by simp) ⟨⟨_,rfl,?_⟩,trivial⟩;refine L.gyes' (dj:=51) (b:=_) rfl rfl rfl ?_;refine L.ret (x_call klawtmd_en12 rfl) rfl (awake08 _ ((hT.carry hB).carry hB0)) ?_;rintro _ w52 ⟨rfl,hw⟩;have hB0:=hB0.carry hw;refine L.nil (thn_n (LAC.takeN (i:=16) rfl kr_ kr_ kr_ kr_ (fun w hw=>x_pick_t (v:=.bool _) rfl rfl) rfl ?_));refine LAC.takeN (i:=17) rfl kr_ kr_ kr_ kr_ (fun w hw=>x_as (v:=.bool _) rfl) rfl ?_;refine LAC.doneF kr_ hB0 ?_;have hB:=hB.carry hB0;have hs:=hs.carry hB0;have bx2:=bx2.carry hB0;have bx19:=bx19.carry hB0;have bx5:=bx5.carry hB0;have bx6:=bx6.carry hB0;refine thn_n (W.ret (fin_mk (.inr rfl) ?_));exact ⟨rfl,hB⟩
     ·have h46:=of_decide_eq_false g46;refine LAC.takeG (i:=10) rfl kr_ kr_ kr_ kr_ (dj:=46) (b:=_) rfl rfl g46 (fun w hw=>x_mv (v:=.int _ _) rfl) rfl ?_;refine LAC.takeG (i:=11) rfl kr_ kr_ kr_ kr_ (dj:=46) (b:=_) rfl rfl g46 (fun w hw=>x_eql rfl rfl) rfl ?_;refine LAC.takeG (i:=12) rfl kr_ kr_ kr_ kr_ (dj:=43) (b:=_) rfl rfl g43 (fun w hw=>x_pick_f (v:=.bool _) (congrArg Value.bool g46) rfl) rfl ?_;refine LAC.takeN (i:=13) rfl kr_ kr_ kr_ kr_ (fun w hw=>x_pick_t (v:=.bool _) (congrArg Value.bool g43) rfl) rfl ?_;refine LAC.takeN (i:=14) rfl kr_ kr_ kr_ kr_ (fun w hw=>x_mv (v:=.bool _) rfl) rfl ?_;refine LAC.split (dj:=51) (b:=_) rfl (fun g51=>?_) (fun g51=>?_)
      ·have h51:=of_decide_eq_true g51;refine LAC.step (rs:=[15]) (fun _=>hB0) kr_ (by simp) ⟨⟨_,rfl,?_⟩,trivial⟩;refine L.gyes' (dj:=51) (b:=_) rfl rfl g51 ?_;refine L.ret (x_call klawtmd_en12 rfl) rfl (awake08 _ ((hT.carry hB).carry hB0)) ?_;rintro _ w52 ⟨rfl,hw⟩;have hB0:=hB0.carry hw;refine L.nil (thn_n (LAC.takeN (i:=16) rfl kr_ kr_ kr_ kr_ (fun w hw=>x_pick_t (v:=.bool _) (congrArg Value.bool g51) rfl) rfl ?_));refine LAC.takeN (i:=17) rfl kr_ kr_ kr_ kr_ (fun w hw=>x_as (v:=.bool _) rfl) rfl ?_;refine LAC.doneF kr_ hB0 ?_;have hB:=hB.carry hB0;have hs:=hs.carry hB0;have bx2:=bx2.carry hB0;have bx19:=bx19.carry hB0;have bx5:=bx5.carry hB0;have bx6:=bx6.carry hB0;refine thn_n (W.ret (fin_mk (.inr rfl) ?_));exact ⟨rfl,hB⟩
      ·have h51:=of_decide_eq_false g51;rcases hq3 with e | e
       · exact absurd e h46
       · exact absurd e h51
    ·have h43:=of_decide_eq_false g43;omega
end Go.Gx
