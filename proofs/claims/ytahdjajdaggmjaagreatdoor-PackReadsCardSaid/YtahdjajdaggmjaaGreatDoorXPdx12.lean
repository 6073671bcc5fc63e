-- Written for this claim by a program of ours (wip/xp.py),out of the translation and of hand-written contracts.
import Derived.Test.YtahdjajdaggmjaaGreatDoorXPdx6
set_option maxRecDepth 100000
section
namespace Go.Proofs.YtahdjajdaggmjaaGreatDoor.XPd
noncomputable section
open Go.RowKit Go.Proofs.YtahdjajdaggmjaaGreatDoorW.PrintWords Go.Proofs.YtahdjajdaggmjaaGreatDoorW.PrintLast Go.Proofs.YtahdjajdaggmjaaGreatDoorW.PrintMore
attribute [local go_sem] max2_int min2_int max_two min_two max_three min_three max_four min_four
set_option linter.unusedVariables false
set_option linter.unusedSimpArgs false
def te_Right.j0:Nat→Int→Int→Bool→Int→Int→ByteArray→List (S113)→List (S49)→List (S90)→Option (Int)
  | 0,_,_,_,_,_,_,_,_,_=>none
  | k+1,x1,x2,x17,x159000,x159001,x159002,x159003,x159004,x159005=>if x17=true then(some 2) else((te_sized.f x159000 x159001 x159002 x159003 x159004 x159005).bind fun t159=>(if t159=0 then((term_all.f x159000 x159001 x159002 x159003 x159004 x159005 x1 x2 true).bind fun t160=>(if t160=true then(some 0) else(some 100))) else(some t159)))
def te_Right.f(k:Nat)(a0_0:Int)(a0_1:Int)(a0_2:ByteArray)(l0_3:List (S113))(l0_4:List (S49))(l0_5:List (S90))(a1:Int)(a2:Int):Option (Int):=if a1<0 then(te_Right.j0 k a1 a2 true a0_0 a0_1 a0_2 l0_3 l0_4 l0_5) else(if a2<0 then(te_Right.j0 k a1 a2 true a0_0 a0_1 a0_2 l0_3 l0_4 l0_5) else(te_Right.j0 k a1 a2 (decide (a2 > 24)) a0_0 a0_1 a0_2 l0_3 l0_4 l0_5))
theorem te_Right.mono_l:∀k,(∀y0 y1 y2 y3 y4 y5 y6 y7 y8,LeO (te_Right.j0 k y0 y1 y2 y3 y4 y5 y6 y7 y8) (te_Right.j0 (k+1) y0 y1 y2 y3 y4 y5 y6 y7 y8))
  | 0=>fun _ _ _ _ _ _ _ _ _ r h=>by simp [te_Right.j0] at h
  | k+1=>by
    have ih0:=te_Right.mono_l k
    · intros;unfold te_Right.j0;exact tMo
theorem te_Right.mono:∀a0 a1 a2 a3 a4 a5 a6 a7 k,LeO (te_Right.f k a0 a1 a2 a3 a4 a5 a6 a7) (te_Right.f (k+1) a0 a1 a2 a3 a4 a5 a6 a7):=by
  intro a0 a1 a2 a3 a4 a5 a6 a7 k
  have ih0:=te_Right.mono_l k
  unfold te_Right.f
  exact tMo
theorem te_Right.z0{p:Prop}(h_:p:=by obtain rfl:=Option.some.inj H;(try (have hcz:=cz6 BK158.out));go_wp2_with (first | ((with_reducible refine gf_ 54 rfl ?_);refine gC_ (some 19) Tryz.func54 #[.agg #[.int .i64 a0_0,.int .i64 a0_1,.string a0_2,.slice A0_3 l0_3.length c0_3,.slice A0_4 l0_4.length c0_4,.slice A0_5 l0_5.length c0_5]] ?_;(with_reducible refine(te_sized.calls a0_0 a0_1 a0_2 _ _ l0_3 _ _ l0_4 _ _ l0_5 t159 _ ?side1 ?side2 ?side3 ?side4 ?side5 ?side6 A9.out).mono ?_);(case side1=>exact tCb HR0_3 HB);(case side2=>exact HC0_3.out);(case side3=>exact tCb HR0_4 HB);(case side4=>exact HC0_4.out);(case side5=>exact tCb HR0_5 HB);(case side6=>exact HC0_5.out);rintro e wa ⟨rfl,hb⟩;refine⟨_,rfl, ?_⟩;replace BK158:=ak (blk_below (g:=gb158) (o:=.cells #[.int .i64 a0_0,.int .i64 a0_1,.string a0_2,.slice A0_3 l0_3.length c0_3,.slice A0_4 l0_4.length c0_4,.slice A0_5 l0_5.length c0_5] 49 (0,0)) (tK BK158) hb);replace HB:=ak (below_step (tBs GE158) hb);(try clear hb);have hcza:=cz6 BK158.out) | ((with_reducible refine gf_ 55 rfl ?_);refine gC_ (some 26) Tryz.func55 #[.agg #[.int .i64 a0_0,.int .i64 a0_1,.string a0_2,.slice A0_3 l0_3.length c0_3,.slice A0_4 l0_4.length c0_4,.slice A0_5 l0_5.length c0_5],.int .i64 a1,.int .i64 a2,.bool true] ?_;(with_reducible refine(term_all.calls a0_0 a0_1 a0_2 _ _ l0_3 _ _ l0_4 _ _ l0_5 a1 a2 true false _ ?side1 ?side2 ?side3 ?side4 ?side5 ?side6 A11.out).mono ?_);(case side1=>exact tCb HR0_3 HB);(case side2=>exact HC0_3.out);(case side3=>exact tCb HR0_4 HB);(case side4=>exact HC0_4.out);(case side5=>exact tCb HR0_5 HB);(case side6=>exact HC0_5.out);rintro e wa ⟨rfl,hb⟩;refine⟨_,rfl, ?_⟩;replace BK158:=ak (blk_below (g:=gb158) (o:=.cells #[.int .i64 a0_0,.int .i64 a0_1,.string a0_2,.slice A0_3 l0_3.length c0_3,.slice A0_4 l0_4.length c0_4,.slice A0_5 l0_5.length c0_5] 49 (0,0)) (tK BK158) hb);replace HB:=ak (below_step (tBs GE158) hb);(try clear hb)) | ((with_reducible refine gf_ 55 rfl ?_);refine gC_ (some 26) Tryz.func55 #[.agg #[.int .i64 a0_0,.int .i64 a0_1,.string a0_2,.slice A0_3 l0_3.length c0_3,.slice A0_4 l0_4.length c0_4,.slice A0_5 l0_5.length c0_5],.int .i64 a1,.int .i64 a2,.bool true] ?_;(with_reducible refine(term_all.calls a0_0 a0_1 a0_2 _ _ l0_3 _ _ l0_4 _ _ l0_5 a1 a2 true true _ ?side1 ?side2 ?side3 ?side4 ?side5 ?side6 A11.out).mono ?_);(case side1=>exact tCb HR0_3 HB);(case side2=>exact HC0_3.out);(case side3=>exact tCb HR0_4 HB);(case side4=>exact HC0_4.out);(case side5=>exact tCb HR0_5 HB);(case side6=>exact HC0_5.out);rintro e wa ⟨rfl,hb⟩;refine⟨_,rfl, ?_⟩;replace BK158:=ak (blk_below (g:=gb158) (o:=.cells #[.int .i64 a0_0,.int .i64 a0_1,.string a0_2,.slice A0_3 l0_3.length c0_3,.slice A0_4 l0_4.length c0_4,.slice A0_5 l0_5.length c0_5] 49 (0,0)) (tK BK158) hb);replace HB:=ak (below_step (tBs GE158) hb);(try clear hb)));go_ret;exact⟨tE,by repeat (first | (with_reducible first | exact HB.out | apply below_alloc | apply pw_below_drewN | apply below_drew1 | refine below_set ?_ GE158.out) | exact HB.out)⟩):p:=h_
set_option maxHeartbeats 8000000 in
theorem te_Right.calls(k:Nat)(a0_0:Int)(a0_1:Int)(a0_2:ByteArray)(A0_3:Option Addr)(c0_3:Nat)(l0_3:List (S113))(A0_4:Option Addr)(c0_4:Nat)(l0_4:List (S49))(A0_5:Option Addr)(c0_5:Nat)(l0_5:List (S90))(a1:Int)(a2:Int)(r:Int)(w:World)(hr0_3:Kd.C k113 w A0_3 l0_3.length l0_3)(hc0_3:l0_3.length≤c0_3)(hr0_4:Kd.C k49 w A0_4 l0_4.length l0_4)(hc0_4:l0_4.length≤c0_4)(hr0_5:Kd.C k90 w A0_5 l0_5.length l0_5)(hc0_5:l0_5.length≤c0_5)(h:te_Right.f k a0_0 a0_1 a0_2 l0_3 l0_4 l0_5 a1 a2=some r) :
  Calls Tryz.prog 39 #[.agg #[.int .i64 a0_0,.int .i64 a0_1,.string a0_2,.slice A0_3 l0_3.length c0_3,.slice A0_4 l0_4.length c0_4,.slice A0_5 l0_5.length c0_5],.int .i64 a1,.int .i64 a2] w fun e w'=>e=.returned (.int .i64 r)∧Below w.heap.size w w':=by
 have hu49:=Tryz.underlying49
 have HR0_3:=ak hr0_3
 have HC0_3:=ak hc0_3
 clear hr0_3 hc0_3
 have HR0_4:=ak hr0_4
 have HC0_4:=ak hc0_4
 clear hr0_4 hc0_4
 have HR0_5:=ak hr0_5
 have HC0_5:=ak hc0_5
 clear hr0_5 hc0_5
 have HB:=ak (Below.refl w.heap.size w)
 have H:(if a1<0 then(te_Right.j0 k a1 a2 true a0_0 a0_1 a0_2 l0_3 l0_4 l0_5) else(if a2<0 then(te_Right.j0 k a1 a2 true a0_0 a0_1 a0_2 l0_3 l0_4 l0_5) else(te_Right.j0 k a1 a2 (decide (a2 > 24)) a0_0 a0_1 a0_2 l0_3 l0_4 l0_5)))=some r:=h
 clear h
 have HC4:=ak H
 clear H
 go_enter Tryz.func39,Tryz.ntmps39
 go_upto_region 1 with(first | ((with_reducible refine gd_ 3 rfl ?_);refine boxE 3 #[.int .i64 a0_0,.int .i64 a0_1,.string a0_2,.slice A0_3 l0_3.length c0_3,.slice A0_4 l0_4.length c0_4,.slice A0_5 l0_5.length c0_5] 49 ?_;intro gb158 hg w5 hbox hb;have BK158:=ak (hbox);have GW158:=ak (tG:w.heap.size≤gb158);have GE158:=ak (tG:w.heap.size≤gb158);replace HB:=ak (below_step tB hb);clear hb hbox hg))
 (try simp only [Act.put,List.setIfInBounds_toArray,List.set_cons_zero,List.set_cons_succ])
 go_cut [17] (fun v17 wc=>∃(kq:Nat) (x17_3:Bool),v17=.bool x17_3∧Aside0 (te_Right.j0 kq a1 a2 x17_3 a0_0 a0_1 a0_2 l0_3 l0_4 l0_5=some r)∧Aside0 (kq≤k)∧Aside0 (wc.heap[gb158]? = some (.cells #[.int .i64 a0_0,.int .i64 a0_1,.string a0_2,(.slice A0_3 l0_3.length c0_3),(.slice A0_4 l0_4.length c0_4),(.slice A0_5 l0_5.length c0_5)] 49 (0,0)))∧Aside0 (Below w.heap.size w wc))
 case first =>
  have H:=HC4.out
  clear HC4
  replace H:=iD H
  rcases H with⟨c6b0,H⟩ | ⟨c6b0,H⟩
  ·(first | rw [c6b0] | (simp only [i64_w,i32_w];rw [c6b0]) | skip)
   exact zz15
  (first | rw [c6b0] | (simp only [i64_w,i32_w];rw [c6b0]) | skip)
  replace H:=iD H
  rcases H with⟨c7b0,H⟩ | ⟨c7b0,H⟩
  ·exact zz15
  have H':=ak H
  clear H
  go_wp2
  go_meet
  case rel=>exact⟨_,(decide (a2 > 24)),tS,H',⟨by first | omega | exact Nat.le_refl _⟩,⟨tK BK158⟩,⟨tBs GE158⟩⟩
 case rest =>
  clear HC4
  obtain⟨kq,x17_3,rfl,HA,HJ3,BK158,HB⟩:=hcut
  cases kq with
  | zero=>exact absurd HA.out (by simp [te_Right.j0])
  | succ kj3 =>
   have H:=HA.out
   clear HA
   simp only [te_Right.j0] at H
   replace H:=iB H
   rcases H with⟨rfl,H⟩ | ⟨rfl,H⟩
   ·obtain rfl:=Option.some.inj H
    go_wp2
    go_ret
    exact⟨tE,by repeat (first | (with_reducible first | exact HB.out | apply below_alloc | apply pw_below_drewN | apply below_drew1 | refine below_set ?_ GE158.out) | exact HB.out)⟩
   replace H:=iX H
   obtain⟨t159,A9,H⟩:=H
   replace H:=iE H
   rcases H with⟨c10b0,c10b1,H⟩ | ⟨c10,c10b0,c10b1,H⟩
   ·replace H:=iX H
    obtain⟨t160,A11,H⟩:=H
    replace H:=iB H
    rcases H with⟨rfl,H⟩ | ⟨rfl,H⟩
    ·exact te_Right.z0
    exact te_Right.z0
   obtain rfl:=Option.some.inj H
   have hcz21:=cz6 BK158.out
   go_wp2_with (first | ((with_reducible refine gf_ 54 rfl ?_);refine gC_ (some 19) Tryz.func54 #[.agg #[.int .i64 a0_0,.int .i64 a0_1,.string a0_2,.slice A0_3 l0_3.length c0_3,.slice A0_4 l0_4.length c0_4,.slice A0_5 l0_5.length c0_5]] ?_;(with_reducible refine(te_sized.calls a0_0 a0_1 a0_2 _ _ l0_3 _ _ l0_4 _ _ l0_5 t159 _ ?side1 ?side2 ?side3 ?side4 ?side5 ?side6 A9.out).mono ?_);(case side1=>exact tCb HR0_3 HB);(case side2=>exact HC0_3.out);(case side3=>exact tCb HR0_4 HB);(case side4=>exact HC0_4.out);(case side5=>exact tCb HR0_5 HB);(case side6=>exact HC0_5.out);rintro e w22 ⟨rfl,hb⟩;refine⟨_,rfl, ?_⟩;replace BK158:=ak (blk_below (g:=gb158) (o:=.cells #[.int .i64 a0_0,.int .i64 a0_1,.string a0_2,.slice A0_3 l0_3.length c0_3,.slice A0_4 l0_4.length c0_4,.slice A0_5 l0_5.length c0_5] 49 (0,0)) (tK BK158) hb);replace HB:=ak (below_step (tBs GE158) hb);(try clear hb)))
   go_ret
   exact⟨tE,by repeat (first | (with_reducible first | exact HB.out | apply below_alloc | apply pw_below_drewN | apply below_drew1 | refine below_set ?_ GE158.out) | exact HB.out)⟩
noncomputable def nbP(s:ByteArray):Bool:=valO false fun k=>pa_named.f k s
noncomputable def rtP(t:Tm):Int:=valO 0 fun k=>te_Right.f k t.f0 t.f1 t.f2 t.f3 t.f4 t.f5 0 0
noncomputable def slP(l:List Int):List Int:=valO [] fun k=>pa_sealed.f k l
def PNb(s:ByteArray):Prop:=hasO fun k=>pa_named.f k s
def PTp(t:Tm):Prop:=hasO fun k=>te_Right.f k t.f0 t.f1 t.f2 t.f3 t.f4 t.f5 0 0
def PSp(l:List Int):Prop:=hasO fun k=>pa_sealed.f k l
theorem encP_all:EncQ PNb PTp PSp nbP rtP slP where
  named s w hT hp:=by
    obtain⟨k,hk⟩:=valO_some (d:=false) (pa_named.mono s) hp
    exact pa_named.calls k s _ w ⟨hT⟩ hk
  right t cs w hK hp:=by
    obtain⟨k,hk⟩:=valO_some (d:=0) (te_Right.mono t.f0 t.f1 t.f2 t.f3 t.f4 t.f5 0 0) hp
    obtain⟨A3,c3,A4,c4,A5,c5,rfl,l3,g3,l4,g4,l5,g5⟩:=k49_open hK
    exact te_Right.calls k t.f0 t.f1 t.f2 A3 c3 t.f3 A4 c4 t.f4 A5 c5 t.f5 0 0 _ w g3 l3 g4 l4 g5 l5 hk
  parts:=parts_all
  sealed_ u l w0 w hB hR hp:=by
    obtain⟨k,hk⟩:=valO_some (d:=[]) (pa_sealed.mono l) hp
    refine(pa_sealed.calls k (fun _=>True) u l _ w0 w hB hR hk).mono ?_
    rintro e w' ⟨v,he,hv,hb,_⟩
    exact⟨v,he,Kd.R_mono hv (fun _ _=>trivial),hb⟩
def encG0(l:List En):Prop:=l=[]∧PSp [72,67,1,0]
noncomputable def pa_Encode.f(l0:List S59):Option (List Int×Int):=@ite _ (encG0 l0) (Classical.propDecidable _) (some (slP [72,67,1,0],0)) none
theorem pa_Encode.calls(A0:Option Addr)(c0:Nat)(l0:List (S59))(r1:List Int)(r2:Int)(w:World)(hr0:Kd.C k59 w A0 l0.length l0)(hc0:l0.length≤c0)(h:pa_Encode.f l0=some (r1,r2)) :
    Calls Tryz.prog 8 #[.slice A0 l0.length c0] w fun e w'=>∃v0_:Value,e=.returned (.tuple #[v0_,.int .i64 r2])∧Kd.R (Kd.int .u8) 5 w' w.heap.size (fun _=>True) v0_ r1∧Below w.heap.size w w':=by
 unfold pa_Encode.f at h
 by_cases hr:encG0 l0
 ·rw [if_pos hr] at h
  have h2:=Option.some.inj h
  injection h2 with h3 h4
  subst h3 h4
  obtain⟨rfl,hp⟩:=hr
  exact pa_Encode1 encP_all A0 c0 w hp
 ·rw [if_neg hr] at h
  exact absurd h (by simp)
def PFd(l:List Cl):Prop:=(hasO fun k=>fo_Right.f k l)∧(hasO fun _=>fa_Right.f l)
def readG:Prop:=(∀s:ByteArray,s.size≤1048576→PNb s)∧∀(f:List Cl),f.length≤64→(∀x∈f,0≤x.f0∧x.f0≤2147483647∧0≤x.f1∧x.f1≤2147483647)→PFd f
theorem readP_all(hg:readG):ReadP PNb PFd nbP frP faP where
  named s w hT hp:=encP_all.named s w hT hp
  fright A c l w hC hl hp:=by
    obtain⟨k,hk⟩:=valO_some (d:=false) (fo_Right.mono l) hp.1
    exact fo_Right.calls k A c l _ w hC hl hk
  faright A c l w hC hl hp:=by
    obtain⟨k,hk⟩:=valO_some (d:=false) (fun _=>LeO.refl _) hp.2
    exact fa_Right.calls A c l _ w hC hl hk
  kids a w:=(te_Kids.calls 8 a _ w (kidsx a)).mono fun e w' ⟨he,hb⟩=>⟨he,hb.below⟩
  parts:=parts_all
  pn:=hg.1
  pf:=hg.2
def decG(l:List Int):Prop:=readG∧(∀x∈l,0≤x∧x<256)∧(l.length≤1000000∨1048576<l.length)∧PSp (l.take (l.length-4))∧(∀x∈slP (l.take (l.length-4)),0≤x∧x<256)∧∀(s:Nat) (t:Tm) (s1:Nat),termS nbP frP faP (l.take (l.length-4)) 200 s=.ok (t,s1)→PTp t
noncomputable def pa_Decode.f(l0:List Int):Option (List S59×Int×Int):=@ite _ (decG l0) (Classical.propDecidable _) (some (decI nbP frP faP rtP slP l0)) none
theorem pa_Decode.calls(A0:Option Addr)(c0:Nat)(l0:List Int)(r1:List S59)(r2:Int)(r3:Int)(w:World)(HT:Aside0 (Tab w))(hr0:Kd.C (Kd.int .u8) w A0 l0.length l0)(hc0:l0.length≤c0)(h:pa_Decode.f l0=some (r1,r2,r3)) :
    Calls Tryz.prog 13 #[.slice A0 l0.length c0] w fun e w'=>∃v0_:Value,e=.returned (.tuple #[v0_,.int .i64 r2,.int .i64 r3])∧Kd.R k59 59 w' w.heap.size (fun _=>True) v0_ r1∧Below w.heap.size w w':=by
 unfold pa_Decode.f at h
 by_cases hr:decG l0
 ·rw [if_pos hr] at h
  have h2:=Option.some.inj h
  have hc:=pa_Decode (readP_all hr.1) encP_all.right encP_all.sealed_ A0 c0 l0 w HT.out hr0 hc0 hr.2.2.1 hr.2.1 hr.2.2.2.1 hr.2.2.2.2.1 hr.2.2.2.2.2
  rw [h2] at hc
  exact hc
 ·rw [if_neg hr] at h
  exact absurd h (by simp)
def w36works.f(k:Nat)  : Option (Bool):=(pa_Encode.f ([]:List (S59))).bind fun bt161=>((pa_Decode.f bt161.1).bind fun bt165=>(if bt161.2=0 then(if (bt161.1.length:Int)=8 then(if 0<(bt161.1.length:Int) then(if (rd bt161.1 0)=72 then(if 1<(bt161.1.length:Int) then(if (rd bt161.1 1)=67 then(if 2<(bt161.1.length:Int) then(if (rd bt161.1 2)=1 then(if 3<(bt161.1.length:Int) then(if (rd bt161.1 3)=0 then(if bt165.2.2=0 then(if (bt165.1.length:Int)=0 then((pack_Sum.f k ([]:List Int)).bind fun t174=>(some (t174==2166136261))) else(some false)) else(some false)) else(some false)) else(none)) else(some false)) else(none)) else(some false)) else(none)) else(some false)) else(none)) else(some false)) else(some false)))
set_option maxHeartbeats 8000000 in
theorem w36works.calls(k:Nat)  (r:Bool)(w:World)(HT:Aside0 (Tab w))(hr_:Aside0 (r=true))(h:w36works.f k  = some r) :
  Calls Tryz.prog 7 #[] w fun e w'=>e=.returned (.bool r)∧Below w.heap.size w w':=by
 have HB:=ak (Below.refl w.heap.size w)
 have H:((pa_Encode.f ([]:List (S59))).bind fun bt161=>((pa_Decode.f bt161.1).bind fun bt165=>(if bt161.2=0 then(if (bt161.1.length:Int)=8 then(if 0<(bt161.1.length:Int) then(if (rd bt161.1 0)=72 then(if 1<(bt161.1.length:Int) then(if (rd bt161.1 1)=67 then(if 2<(bt161.1.length:Int) then(if (rd bt161.1 2)=1 then(if 3<(bt161.1.length:Int) then(if (rd bt161.1 3)=0 then(if bt165.2.2=0 then(if (bt165.1.length:Int)=0 then((pack_Sum.f k ([]:List Int)).bind fun t174=>(some (t174==2166136261))) else(some false)) else(some false)) else(some false)) else(none)) else(some false)) else(none)) else(some false)) else(none)) else(some false)) else(none)) else(some false)) else(some false))))=some r:=h
 clear h
 replace H:=iX H
 obtain⟨⟨t161,t162⟩,A1,H⟩:=H
 try dsimp only at H
 replace H:=iX H
 obtain⟨⟨t165,t166,t167⟩,A2,H⟩:=H
 try dsimp only at H
 replace H:=iE H
 rcases H with⟨c3b0,c3b1,H⟩ | ⟨c3,c3b0,c3b1,H⟩
 ·replace H:=iE H
  rcases H with⟨c4b0,c4b1,H⟩ | ⟨c4,c4b0,c4b1,H⟩
  ·by_cases c5:0<(t161.length:Int)
   ·rw [if_pos c5] at H
    have c5b0:decide (0<(t161.length:Int))=true:=decide_eq_true c5
    have c5b1:decide (0<t161.length)=true:=decide_eq_true (by omega)
    clear c5
    replace H:=iE H
    rcases H with⟨c6b0,c6b1,H⟩ | ⟨c6,c6b0,c6b1,H⟩
    ·by_cases c7:1<(t161.length:Int)
     ·rw [if_pos c7] at H
      have c7b0:decide (1<(t161.length:Int))=true:=decide_eq_true c7
      have c7b1:decide (1<t161.length)=true:=decide_eq_true (by omega)
      clear c7
      replace H:=iE H
      rcases H with⟨c8b0,c8b1,H⟩ | ⟨c8,c8b0,c8b1,H⟩
      ·by_cases c9:2<(t161.length:Int)
       ·rw [if_pos c9] at H
        have c9b0:decide (2<(t161.length:Int))=true:=decide_eq_true c9
        have c9b1:decide (2<t161.length)=true:=decide_eq_true (by omega)
        clear c9
        replace H:=iE H
        rcases H with⟨c10b0,c10b1,H⟩ | ⟨c10,c10b0,c10b1,H⟩
        ·by_cases c11:3<(t161.length:Int)
         ·rw [if_pos c11] at H
          have c11b0:decide (3<(t161.length:Int))=true:=decide_eq_true c11
          have c11b1:decide (3<t161.length)=true:=decide_eq_true (by omega)
          clear c11
          replace H:=iE H
          rcases H with⟨c12b0,c12b1,H⟩ | ⟨c12,c12b0,c12b1,H⟩
          ·replace H:=iE H
           rcases H with⟨c13b0,c13b1,H⟩ | ⟨c13,c13b0,c13b1,H⟩
           ·replace H:=iE H
            rcases H with⟨c14b0,c14b1,H⟩ | ⟨c14,c14b0,c14b1,H⟩
            ·replace H:=iX H
             obtain⟨t174,A15,H⟩:=H
             obtain rfl:=Option.some.inj H
             go_enter Tryz.func7,Tryz.ntmps7
             go_wp2_with (first | ((with_reducible refine gf_ 8 rfl ?_);refine gC_ (some 7) Tryz.func8 #[.slice none 0 0] ?_;(refine(pa_Encode.calls _ _ ([]:List (S59)) t161 t162 _ ?side1 ?side2 A1.out).mono ?_);(case side1=>exact Kd.C_nil _ _);(case side2=>exact Nat.le_refl _);rintro e w16 ⟨v163,rfl,ho0,hb⟩;refine⟨_,rfl, ?_⟩;have HO164:=ak (Kd.R_lower ho0 (below_size tB));replace HB:=ak (below_step tB hb);(try clear hb);(try clear ho0);obtain⟨Aoh164,coh164,eoh164⟩:=Kd.R_slice HO164.out;subst eoh164) | ((with_reducible refine gf_ 13 rfl ?_);refine gC_ (some 12) Tryz.func13 #[.slice Aoh164 t161.length coh164] ?_;(with_reducible refine(pa_Decode.calls (HT:=⟨Tab.below HT.out tB⟩) _ _ t161 t165 t166 t167 _ ?side1 ?side2 A2.out).mono ?_);(case side1=>exact tCr HO164);(case side2=>exact(Kd.R_reads' HO164.out).2.1);rintro e w18 ⟨v168,rfl,ho0,hb⟩;refine⟨_,rfl, ?_⟩;replace HO164:=ak (Kd.R_below (tR HO164) hb);have HO169:=ak (Kd.R_lower ho0 (below_size tB));replace HB:=ak (below_step tB hb);(try clear hb);(try clear ho0);have p170:0≤(0:Int):=(by omega);have q170:0<(t161.length:Int):=tA;obtain⟨ad170,e170,hx170_0⟩:=Kd.at_int (Kd.R_reads' HO164.out).2.2 0 p170 q170;cases e170;have qi170:(0<t161.length)=True:=eq_true (by omega);(try rw [show((0:Int)).toNat=0 from rfl] at hx170_0);(try rw [Addr.add_zero'] at hx170_0);replace p170:=eq_true p170;replace q170:=eq_true q170;have p171:0≤(1:Int):=(by omega);have q171:1<(t161.length:Int):=tA;obtain⟨ad171,e171,hx171_0⟩:=Kd.at_int (Kd.R_reads' HO164.out).2.2 1 p171 q171;obtain rfl:ad170=ad171:=(by injection e171);(try simp only [show(1:Int).toNat=1 from rfl,Nat.reduceMul,Nat.reduceEqDiff,Go.Addr.add,↓reduceIte] at hx171_0);have qi171:(1<t161.length)=True:=eq_true (by omega);(try rw [show((1:Int)).toNat=1 from rfl] at hx171_0);replace p171:=eq_true p171;replace q171:=eq_true q171;have p172:0≤(2:Int):=(by omega);have q172:2<(t161.length:Int):=tA;obtain⟨ad172,e172,hx172_0⟩:=Kd.at_int (Kd.R_reads' HO164.out).2.2 2 p172 q172;obtain rfl:ad170=ad172:=(by injection e172);(try simp only [show(2:Int).toNat=2 from rfl,Nat.reduceMul,Nat.reduceEqDiff,Go.Addr.add,↓reduceIte] at hx172_0);have qi172:(2<t161.length)=True:=eq_true (by omega);(try rw [show((2:Int)).toNat=2 from rfl] at hx172_0);replace p172:=eq_true p172;replace q172:=eq_true q172;have p173:0≤(3:Int):=(by omega);have q173:3<(t161.length:Int):=tA;obtain⟨ad173,e173,hx173_0⟩:=Kd.at_int (Kd.R_reads' HO164.out).2.2 3 p173 q173;obtain rfl:ad170=ad173:=(by injection e173);(try simp only [show(3:Int).toNat=3 from rfl,Nat.reduceMul,Nat.reduceEqDiff,Go.Addr.add,↓reduceIte] at hx173_0);have qi173:(3<t161.length)=True:=eq_true (by omega);(try rw [show((3:Int)).toNat=3 from rfl] at hx173_0);replace p173:=eq_true p173;replace q173:=eq_true q173;obtain⟨Aoh169,coh169,eoh169⟩:=Kd.R_slice HO169.out;subst eoh169) | (go_at_call 11;(refine(pack_Sum.calls k _ _ ([]:List Int) t174 _ ?side1 ?side2 A15.out).mono ?_);(case side1=>exact Kd.C_nil _ _);(case side2=>exact Nat.le_refl _);rintro e w' ⟨rfl,⟨nd,rfl⟩⟩))
             go_ret
             exact⟨tE,tB⟩
            have c14b2:¬(t165=[]):=fun h_=>c14 (by rw [h_];rfl)
            exact absurd ((Option.some.inj H).trans hr_.out) Bool.false_ne_true
           exact absurd ((Option.some.inj H).trans hr_.out) Bool.false_ne_true
          exact absurd ((Option.some.inj H).trans hr_.out) Bool.false_ne_true
         ·rw [if_neg c11] at H
          exact absurd H (by simp)
        exact absurd ((Option.some.inj H).trans hr_.out) Bool.false_ne_true
       ·rw [if_neg c9] at H
        exact absurd H (by simp)
      exact absurd ((Option.some.inj H).trans hr_.out) Bool.false_ne_true
     ·rw [if_neg c7] at H
      exact absurd H (by simp)
    exact absurd ((Option.some.inj H).trans hr_.out) Bool.false_ne_true
   ·rw [if_neg c5] at H
    exact absurd H (by simp)
  exact absurd ((Option.some.inj H).trans hr_.out) Bool.false_ne_true
 exact absurd ((Option.some.inj H).trans hr_.out) Bool.false_ne_true
def r36Sum.l0:Nat→List Int→Int→Int→Option (Int)
  | 0,_,_,_=>none
  | k+1,x0,x3,x4=>if x4<(x0.length:Int) then(if 0≤x4 then(r36Sum.l0 k x0 (Int.tmod (wrap64 ((wrap64 ((wrap64 (x3-(Int.tmod x3 256)))+(Go.bits .xor .i64 (Int.tmod x3 256) (wrap64 (rd x0 x4))))) * 16777619)) 4294967296) (wrap64 (x4+1))) else(none)) else(some x3)
def r36Sum.f(k:Nat)(l0:List Int):Option (Int):=r36Sum.l0 k l0 2166136261 0
theorem r36Sum.mono_l:∀k,(∀y0 y1 y2,LeO (r36Sum.l0 k y0 y1 y2) (r36Sum.l0 (k+1) y0 y1 y2))
  | 0=>fun _ _ _ r h=>by simp [r36Sum.l0] at h
  | k+1=>by
    have ih0:=r36Sum.mono_l k
    · intros;unfold r36Sum.l0;exact tMo
theorem r36Sum.mono:∀a0 k,LeO (r36Sum.f k a0) (r36Sum.f (k+1) a0):=by
  intro a0 k
  have ih0:=r36Sum.mono_l k
  unfold r36Sum.f
  exact tMo
set_option maxHeartbeats 8000000 in
theorem r36Sum.calls(k:Nat)(A0:Option Addr)(c0:Nat)(l0:List Int)(r:Int)(w:World)(hr0:Kd.C (Kd.int .u8) w A0 l0.length l0)(hc0:l0.length≤c0)(h:r36Sum.f k l0=some r) :
  Calls Tryz.prog 12 #[.slice A0 l0.length c0] w fun e w'=>e=.returned (.int .i64 r)∧Drawn0 w w':=by
 have HR0:=ak hr0
 have HC0:=ak hc0
 clear hr0 hc0
 have H:(r36Sum.l0 k l0 2166136261 0)=some r:=h
 clear h
 have H':=ak H
 clear H
 go_enter Tryz.func12,Tryz.ntmps12
 go_wp2
 go_loopg [3,4] k (fun kq v3 v4 w'=>∃(x3_1:Int) (x4_1:Int),v3=.int .i64 x3_1∧v4=.int .i64 x4_1∧Aside0 (r36Sum.l0 kq l0 x3_1 x4_1=some r)∧Aside0 (kq≤k)∧Drawn0 w w')
 case atStart=>exact⟨(2166136261),(0),tS,tS,H',⟨Nat.le_refl _⟩,tD⟩
 case round =>
  clear H'
  obtain⟨x3_1,x4_1,rfl,rfl,HA,HK1,⟨m1,rfl⟩⟩:=hrel
  cases gk with
  | zero=>exact absurd HA.out (by simp [r36Sum.l0])
  | succ k1 =>
   have H:=HA.out
   clear HA
   simp only [r36Sum.l0] at H
   replace H:=iD H
   rcases H with⟨c2b0,H⟩ | ⟨c2b0,H⟩
   ·replace H:=niD H
    obtain⟨c3b0,H⟩:=H
    have H':=ak H
    clear H
    have p175:0≤(x4_1:Int):=tA
    have q175:x4_1<(l0.length:Int):=tA
    obtain⟨ad175,e175,hx175_0⟩:=Kd.at_int HR0.out x4_1 p175 q175
    cases e175
    replace p175:=eq_true p175
    replace q175:=eq_true q175
    go_wp2
    go_roundg k1
    case measure=>have:=HK1.out;omega
    case rel=>exact⟨(Int.tmod (wrap64 ((wrap64 ((wrap64 (x3_1-(Int.tmod x3_1 256)))+(Go.bits .xor .i64 (Int.tmod x3_1 256) (wrap64 (rd l0 x4_1))))) * 16777619)) 4294967296),(wrap64 (x4_1+1)),tS,tS,H',⟨by have:=HK1.out;omega⟩,tD⟩
   exact zz1
mutual
def r06more.j0:Nat→Int→Bool→Option (Int×Int)
  | 0,_,_=>none
  | k+1,x0,x11=>if x11=true then(some (1,128)) else(if x0≥224 then(r06more.j1 k x0 (decide (x0≤239))) else(r06more.j1 k x0 false))
def r06more.j1:Nat→Int→Bool→Option (Int×Int)
  | 0,_,_=>none
  | k+1,x0,x17=>if x17=true then(some (2,2048)) else(if x0≥240 then(if x0≤244 then(some (3,65536)) else(some ((-1),0))) else(some ((-1),0)))
end
def r06more.f(k:Nat)(a0:Int):Option (Int×Int):=if a0<128 then(some (0,0)) else(if a0≥194 then(r06more.j0 k a0 (decide (a0≤223))) else(r06more.j0 k a0 false))
set_option maxHeartbeats 8000000 in
theorem r06more.calls(k:Nat)(a0:Int)(r1:Int)(r2:Int)(w:World)(h:r06more.f k a0=some (r1,r2)) :
  Calls Tryz.prog 80 #[.int .u8 a0] w fun e w'=>e=.returned (.tuple #[.int .i64 r1,.int .i64 r2])∧Drawn0 w w':=by
 have H:(if a0<128 then(some (0,0)) else(if a0≥194 then(r06more.j0 k a0 (decide (a0≤223))) else(r06more.j0 k a0 false)))=some (r1,r2):=h
 clear h
 replace H:=iD H
 rcases H with⟨c2b0,H⟩ | ⟨c2b0,H⟩
 ·simp only [Option.some.injEq,Prod.mk.injEq] at H
  obtain⟨rfl,rfl⟩:=H
  go_enter Tryz.func80,Tryz.ntmps80
  go_wp2
  go_ret2
  exact⟨tS,tD⟩
 have HC3:=ak H
 clear H
 go_enter Tryz.func80,Tryz.ntmps80
 go_upto_region 3 with(fail)
 go_cut [11] (fun v11 wc=>∃(kq:Nat) (x11_2:Bool),v11=.bool x11_2∧Aside0 (r06more.j0 kq a0 x11_2=some (r1,r2))∧Aside0 (kq≤k)∧Drawn0 w wc)
 case first =>
  have H:=HC3.out
  clear HC3
  replace H:=iG H
  rcases H with⟨c4b0,H⟩ | ⟨c4b0,H⟩
  ·(first | rw [c4b0] | (simp only [i64_w,i32_w];rw [c4b0]) | skip)
   have H':=ak H
   clear H
   go_wp2
   go_meet
   case rel=>exact⟨_,(decide (a0≤223)),tS,H',⟨by first | omega | exact Nat.le_refl _⟩,tD⟩
  (first | rw [c4b0] | (simp only [i64_w,i32_w];rw [c4b0]) | skip)
  exact zz5
 case rest =>
  clear HC3
  try clear c2b0
  obtain⟨kq,x11_2,rfl,HA,HJ2,⟨mc2,rfl⟩⟩:=hcut
  cases kq with
  | zero=>exact absurd HA.out (by simp [r06more.j0])
  | succ kj2 =>
   have H:=HA.out
   clear HA
   simp only [r06more.j0] at H
   replace H:=iB H
   rcases H with⟨rfl,H⟩ | ⟨rfl,H⟩
   ·exact zz7
   have HC6:=ak H
   clear H
   go_upto_region 5 with(fail)
   go_cut [17] (fun v17 wc=>∃(kq:Nat) (x17_5:Bool),v17=.bool x17_5∧Aside0 (r06more.j1 kq a0 x17_5=some (r1,r2))∧Aside0 (kq≤kj2)∧Drawn0 w wc)
   case first =>
    have H:=HC6.out
    clear HC6
    replace H:=iG H
    rcases H with⟨c7b0,H⟩ | ⟨c7b0,H⟩
    ·(first | rw [c7b0] | (simp only [i64_w,i32_w];rw [c7b0]) | skip)
     have H':=ak H
     clear H
     go_wp2
     go_meet
     case rel=>exact⟨_,(decide (a0≤239)),tS,H',⟨by have:=HJ2.out;first | omega | exact Nat.le_refl _⟩,tD⟩
    (first | rw [c7b0] | (simp only [i64_w,i32_w];rw [c7b0]) | skip)
    exact zz8
   case rest =>
    clear HC6
    try clear c2b0
    obtain⟨kq,x17_5,rfl,HA,HJ5,⟨mc5,rfl⟩⟩:=hcut
    cases kq with
    | zero=>exact absurd HA.out (by simp [r06more.j1])
    | succ kj5 =>
     have H:=HA.out
     clear HA
     simp only [r06more.j1] at H
     replace H:=iB H
     rcases H with⟨rfl,H⟩ | ⟨rfl,H⟩
     ·exact zz7
     replace H:=iG H
     rcases H with⟨c9b0,H⟩ | ⟨c9b0,H⟩
     ·replace H:=iD H
      rcases H with⟨c10b0,H⟩ | ⟨c10b0,H⟩
      ·exact zz7
      exact zz7
     exact zz7
def moreI2(c:Int):Int×Int:=match moreN c.toNat with | some (n,low)=>((n:Int),(low:Int)) | none=>(-1,0)
theorem morex(c:UInt8):r06more.f 6 (c.toNat:Int)=some (moreI2 (c.toNat:Int)):=by
  have key:∀n:Fin 256,r06more.f 6 ((n.val:Nat):Int)=some (moreI2 ((n.val:Nat):Int)):=by decide
  exact key ⟨c.toNat,c.toNat_lt⟩
def r06Utf.f(a0:ByteArray):Option Int:=if a0.size≤1000000 then some (utfN a0.size a0.data.toList 0) else none
theorem r06Utf.calls(a0:ByteArray)(r:Int)(w:World)(h:r06Utf.f a0=some r) :
    Calls Tryz.prog 56 #[.string a0] w fun e w'=>e=.returned (.int .i64 r)∧Below w.heap.size w w':=by
 unfold r06Utf.f at h
 by_cases hr:a0.size≤1000000
 ·rw [if_pos hr] at h
  obtain rfl:=Option.some.inj h
  refine ref06_Utf (fun c w=>?_) a0 w hr
  refine(r06more.calls 6 (c.toNat:Int) _ _ w (morex c)).mono ?_
  rintro e w' ⟨rfl,hd⟩
  refine⟨?_,hd.below⟩
  try unfold moreI2
  rw [Int.toNat_natCast]
  cases moreN c.toNat with
  | none=>rfl
  | some p=>rfl
 ·rw [if_neg hr] at h
  exact absurd h (by simp)
def r06blank.f(a0:Int):Option (Bool):=if a0=32 then(some true) else(if a0=9 then(some true) else(if a0=10 then(some true) else(some (a0==13))))
set_option maxHeartbeats 8000000 in
theorem r06blank.calls(a0:Int)(r:Bool)(w:World)(h:r06blank.f a0=some r) :
  Calls Tryz.prog 57 #[.int .u8 a0] w fun e w'=>e=.returned (.bool r)∧Drawn0 w w':=by
 have H:(if a0=32 then(some true) else(if a0=9 then(some true) else(if a0=10 then(some true) else(some (a0==13)))))=some r:=h
 clear h
 replace H:=iE H
 rcases H with⟨c2b0,c2b1,H⟩ | ⟨c2,c2b0,c2b1,H⟩
 ·obtain rfl:=Option.some.inj H
  go_enter Tryz.func57,Tryz.ntmps57
  exact zz0
 replace H:=iE H
 rcases H with⟨c3b0,c3b1,H⟩ | ⟨c3,c3b0,c3b1,H⟩
 ·obtain rfl:=Option.some.inj H
  go_enter Tryz.func57,Tryz.ntmps57
  exact zz0
 replace H:=iE H
 rcases H with⟨c4b0,c4b1,H⟩ | ⟨c4,c4b0,c4b1,H⟩
 ·obtain rfl:=Option.some.inj H
  go_enter Tryz.func57,Tryz.ntmps57
  exact zz0
 obtain rfl:=Option.some.inj H
 go_enter Tryz.func57,Tryz.ntmps57
 exact zz0
def r06letter.f(a0:Int):Option (Bool):=if a0=95 then(some true) else(if a0≥97 then(if a0≤122 then(some true) else(if a0≥65 then(some (decide (a0≤90))) else(some false))) else(if a0≥65 then(some (decide (a0≤90))) else(some false)))
set_option maxHeartbeats 8000000 in
theorem r06letter.calls(a0:Int)(r:Bool)(w:World)(h:r06letter.f a0=some r) :
  Calls Tryz.prog 58 #[.int .u8 a0] w fun e w'=>e=.returned (.bool r)∧Drawn0 w w':=by
 have H:(if a0=95 then(some true) else(if a0≥97 then(if a0≤122 then(some true) else(if a0≥65 then(some (decide (a0≤90))) else(some false))) else(if a0≥65 then(some (decide (a0≤90))) else(some false))))=some r:=h
 clear h
 replace H:=iE H
 rcases H with⟨c2b0,c2b1,H⟩ | ⟨c2,c2b0,c2b1,H⟩
 ·obtain rfl:=Option.some.inj H
  go_enter Tryz.func58,Tryz.ntmps58
  exact zz0
 replace H:=iG H
 rcases H with⟨c3b0,H⟩ | ⟨c3b0,H⟩
 ·replace H:=iD H
  rcases H with⟨c4b0,H⟩ | ⟨c4b0,H⟩
  ·obtain rfl:=Option.some.inj H
   go_enter Tryz.func58,Tryz.ntmps58
   exact zz0
  replace H:=iG H
  rcases H with⟨c5b0,H⟩ | ⟨c5b0,H⟩
  ·obtain rfl:=Option.some.inj H
   go_enter Tryz.func58,Tryz.ntmps58
   exact zz0
  obtain rfl:=Option.some.inj H
  go_enter Tryz.func58,Tryz.ntmps58
  exact zz0
 replace H:=iG H
 rcases H with⟨c6b0,H⟩ | ⟨c6b0,H⟩
 ·obtain rfl:=Option.some.inj H
  go_enter Tryz.func58,Tryz.ntmps58
  exact zz0
 obtain rfl:=Option.some.inj H
 go_enter Tryz.func58,Tryz.ntmps58
 exact zz0
def r06digit.f(a0:Int):Option (Bool):=if a0≥48 then(some (decide (a0≤57))) else(some false)
set_option maxHeartbeats 8000000 in
theorem r06digit.calls(a0:Int)(r:Bool)(w:World)(h:r06digit.f a0=some r) :
  Calls Tryz.prog 59 #[.int .u8 a0] w fun e w'=>e=.returned (.bool r)∧Drawn0 w w':=by
 have H:(if a0≥48 then(some (decide (a0≤57))) else(some false))=some r:=h
 clear h
 replace H:=iG H
 rcases H with⟨c2b0,H⟩ | ⟨c2b0,H⟩
 ·obtain rfl:=Option.some.inj H
  go_enter Tryz.func59,Tryz.ntmps59
  exact zz0
 obtain rfl:=Option.some.inj H
 go_enter Tryz.func59,Tryz.ntmps59
 exact zz0
mutual
def r06sign.j0:Nat→ByteArray→Int→Option (Int)
  | 0,_,_=>none
  | k+1,x0,x1=>r06sign.l0 k x0 x1 (⟨#[40,41,91,93,44,46,58,59,61,92,60,62,64,126,42,48,49]⟩:ByteArray) 0
def r06sign.l0:Nat→ByteArray→Int→ByteArray→Int→Option (Int)
  | 0,_,_,_,_=>none
  | k+1,x0,x1,x6,x7=>if x7<(x6.size:Int) then(if 0≤x1 then(if x1<(x0.size:Int) then(if 0≤x7 then(if (bt x0 x1)=(bt x6 x7) then(some 1) else(r06sign.l0 k x0 x1 x6 (wrap64 (x7+1)))) else(none)) else(none)) else(none)) else(some 0)
end
def r06sign.f(k:Nat)(a0:ByteArray)(a1:Int):Option (Int):=if (wrap64 (a1+1))<(a0.size:Int) then(if 0≤a1 then(if a1≤(wrap64 (a1+2)) then(if (wrap64 (a1+2))≤(a0.size:Int) then(if (a0.extract (a1:Int).toNat ((wrap64 (a1+2)):Int).toNat).toList=([45,62]:List UInt8) then(some 2) else(if (a0.extract (a1:Int).toNat ((wrap64 (a1+2)):Int).toNat).toList=([47,92]:List UInt8) then(some 2) else(if (a0.extract (a1:Int).toNat ((wrap64 (a1+2)):Int).toNat).toList=([92,47]:List UInt8) then(some 2) else(r06sign.j0 k a0 a1)))) else(none)) else(none)) else(none)) else(r06sign.j0 k a0 a1)
theorem r06sign.mono_l:∀k,(∀y0 y1,LeO (r06sign.j0 k y0 y1) (r06sign.j0 (k+1) y0 y1))∧(∀y0 y1 y2 y3,LeO (r06sign.l0 k y0 y1 y2 y3) (r06sign.l0 (k+1) y0 y1 y2 y3))
  | 0=>⟨fun _ _ r h=>by simp [r06sign.j0] at h,fun _ _ _ _ r h=>by simp [r06sign.l0] at h⟩
  | k+1=>by
    obtain⟨ih0,ih1⟩:=r06sign.mono_l k
    refine⟨?_, ?_⟩
    · intros;unfold r06sign.j0;exact tMo
    · intros;unfold r06sign.l0;exact tMo
theorem r06sign.mono:∀a0 a1 k,LeO (r06sign.f k a0 a1) (r06sign.f (k+1) a0 a1):=by
  intro a0 a1 k
  obtain⟨ih0,ih1⟩:=r06sign.mono_l k
  unfold r06sign.f
  exact tMo
set_option maxHeartbeats 8000000 in
theorem r06sign.calls(k:Nat)(a0:ByteArray)(a1:Int)(r:Int)(w:World)(h:r06sign.f k a0 a1=some r) :
  Calls Tryz.prog 60 #[.string a0,.int .i64 a1] w fun e w'=>e=.returned (.int .i64 r)∧Drawn0 w w':=by
 have H:(if (wrap64 (a1+1))<(a0.size:Int) then(if 0≤a1 then(if a1≤(wrap64 (a1+2)) then(if (wrap64 (a1+2))≤(a0.size:Int) then(if (a0.extract (a1:Int).toNat ((wrap64 (a1+2)):Int).toNat).toList=([45,62]:List UInt8) then(some 2) else(if (a0.extract (a1:Int).toNat ((wrap64 (a1+2)):Int).toNat).toList=([47,92]:List UInt8) then(some 2) else(if (a0.extract (a1:Int).toNat ((wrap64 (a1+2)):Int).toNat).toList=([92,47]:List UInt8) then(some 2) else(r06sign.j0 k a0 a1)))) else(none)) else(none)) else(none)) else(r06sign.j0 k a0 a1))=some r:=h
 clear h
 have HC3:=ak H
 clear H
 go_enter Tryz.func60,Tryz.ntmps60
 go_upto_if 12 with(fail)
 repeat (go_quiet (fail);go_upto_if 12 with(fail))
 go_cut [] (fun wc=>∃(kq:Nat),Aside0 (r06sign.j0 kq a0 a1=some r)∧Aside0 (kq≤k)∧Drawn0 w wc)
 case first =>
  have H:=HC3.out
  clear HC3
  replace H:=iD H
  rcases H with⟨c4b0,H⟩ | ⟨c4b0,H⟩
  ·(first | rw [c4b0] | (simp only [i64_w,i32_w];rw [c4b0]) | skip)
   replace H:=niT H
   obtain⟨c5b0,c5b1,H⟩:=H
   by_cases c6:a1≤(wrap64 (a1+2))
   ·rw [if_pos c6] at H
    have c6b0:=eq_true c6
    have c6b1:decide (a1≤(wrap64 (a1+2)))=true:=decide_eq_true c6
    by_cases c7:(wrap64 (a1+2))≤(a0.size:Int)
    ·rw [if_pos c7] at H
     have c7b0:=eq_true c7
     have c7b1:decide ((wrap64 (a1+2))≤(a0.size:Int))=true:=decide_eq_true c7
     replace H:=iE H
     rcases H with⟨c8b0,c8b1,H⟩ | ⟨c8,c8b0,c8b1,H⟩
     ·exact zz17
     replace H:=iE H
     rcases H with⟨c9b0,c9b1,H⟩ | ⟨c9,c9b0,c9b1,H⟩
     ·exact zz17
     replace H:=iE H
     rcases H with⟨c10b0,c10b1,H⟩ | ⟨c10,c10b0,c10b1,H⟩
     ·exact zz17
     exact zz16
    ·rw [if_neg c7] at H
     exact absurd H (by simp)
   ·rw [if_neg c6] at H
    exact absurd H (by simp)
  (first | rw [c4b0] | (simp only [i64_w,i32_w];rw [c4b0]) | skip)
  exact zz16
 case rest =>
  clear HC3
  obtain⟨kq,HA,HJ2,⟨mc2,rfl⟩⟩:=hcut
  cases kq with
  | zero=>exact absurd HA.out (by simp [r06sign.j0])
  | succ kj2 =>
   have H:=HA.out
   clear HA
   simp only [r06sign.j0] at H
   have H':=ak H
   clear H
   go_wp2
   repeat (go_quiet (fail);try go_wp2)
   go_loopg [7] kj2 (fun kq v7 w'=>∃(x7_2:Int),v7=.int .i64 x7_2∧Aside0 (r06sign.l0 kq a0 a1 (⟨#[40,41,91,93,44,46,58,59,61,92,60,62,64,126,42,48,49]⟩:ByteArray) x7_2=some r)∧Aside0 (kq≤kj2)∧Drawn0 w w')
   case atStart=>exact⟨(0),tZ,H',⟨Nat.le_refl _⟩,tD⟩
   case round =>
    clear H'
    obtain⟨x7_2,rfl,HA,HK2,⟨m2,rfl⟩⟩:=hrel
    cases gk with
    | zero=>exact absurd HA.out (by simp [r06sign.l0])
    | succ k2 =>
     have H:=HA.out
     clear HA
     simp only [r06sign.l0] at H
     replace H:=iDkk H
     rcases H with⟨c11,c11b0,H⟩ | ⟨c11,c11b0,H⟩
     ·(try have c11b9:decide (x7_2<(17:Int))=true:=c11b0)
      clear c11
      replace H:=niD H
      obtain⟨c12b0,H⟩:=H
      replace H:=niD H
      obtain⟨c13b0,H⟩:=H
      replace H:=niD H
      obtain⟨c15b0,H⟩:=H
      replace H:=iE H
      rcases H with⟨c17b0,c17b1,H⟩ | ⟨c17,c17b0,c17b1,H⟩
      ·obtain rfl:=Option.some.inj H
       have p14:0≤(a1:Int):=tA
       have q14:a1<(a0.size:Int):=tA
       have hx14:=bt_at a0 a1
       replace p14:=eq_true p14
       replace q14:=eq_true q14
       have p16:0≤(x7_2:Int):=tA
       have q16:x7_2<(17:Int):=tA
       have hx16:=bt_at (⟨#[40,41,91,93,44,46,58,59,61,92,60,62,64,126,42,48,49]⟩:ByteArray) x7_2
       replace p16:=eq_true p16
       replace q16:=eq_true q16
       go_wp2
       repeat (go_quiet (fail);try go_wp2)
       go_ret
       exact⟨tZ,tD⟩
      have H':=ak H
      clear H
      have p14:0≤(a1:Int):=tA
      have q14:a1<(a0.size:Int):=tA
      have hx14:=bt_at a0 a1
      replace p14:=eq_true p14
      replace q14:=eq_true q14
      have p16:0≤(x7_2:Int):=tA
      have q16:x7_2<(17:Int):=tA
      have hx16:=bt_at (⟨#[40,41,91,93,44,46,58,59,61,92,60,62,64,126,42,48,49]⟩:ByteArray) x7_2
      replace p16:=eq_true p16
      replace q16:=eq_true q16
      go_wp2
      repeat (go_quiet (fail);try go_wp2)
      go_roundg k2
      case measure=>have:=HJ2.out;have:=HK2.out;omega
      case rel=>exact⟨(wrap64 (x7_2+1)),tZ,H',⟨by have:=HJ2.out;have:=HK2.out;omega⟩,tD⟩
     (try have c11b9:decide (x7_2<(17:Int))=false:=c11b0)
     clear c11
     exact zz17
mutual
def r06Scan.l0:Nat→ByteArray→List (S98)→Int→Option ((List (S98))×Int×Int)
  | 0,_,_,_=>none
  | k+1,x0,x6,x7=>if x7<(x0.size:Int) then(if 0≤x7 then((r06blank.f (bt x0 x7)).bind fun t180=>(if t180=true then(r06Scan.l0 k x0 x6 (wrap64 (x7+1))) else(if (bt x0 x7)=45 then(if (wrap64 (x7+1))<(x0.size:Int) then(if 0≤(wrap64 (x7+1)) then(r06Scan.j1 k x0 x6 x7 ((bt x0 (wrap64 (x7+1)))==45)) else(none)) else(r06Scan.j1 k x0 x6 x7 false)) else(r06Scan.j1 k x0 x6 x7 false)))) else(none)) else(if x6.length<4398046511104 then(some ((x6++[(⟨0,(⟨#[]⟩:ByteArray),(x0.size:Int)⟩:S98)]),0,0)) else(none))
def r06Scan.j1:Nat→ByteArray→List (S98)→Int→Bool→Option ((List (S98))×Int×Int)
  | 0,_,_,_,_=>none
  | k+1,x0,x6,x7,x45=>if x45=true then(r06Scan.l1 k x0 x6 x7) else(if 0≤x7 then(if x7<(x0.size:Int) then((r06letter.f (bt x0 x7)).bind fun t181=>(if t181=true then(r06Scan.l2 k x0 x6 x7 x7 1) else((r06sign.f k x0 x7).bind fun t190=>(if (wrap64 (x7+t190))=x7 then(some (([]:List (S98)),x7,61)) else(if x7≤(wrap64 (x7+t190)) then(if (wrap64 (x7+t190))≤(x0.size:Int) then(if x6.length<4398046511104 then(r06Scan.l0 k x0 (x6++[(⟨2,x0.extract (x7:Int).toNat ((wrap64 (x7+t190)):Int).toNat,x7⟩:S98)]) (wrap64 (x7+t190))) else(none)) else(none)) else(none)))))) else(none)) else(none))
def r06Scan.l1:Nat→ByteArray→List (S98)→Int→Option ((List (S98))×Int×Int)
  | 0,_,_,_=>none
  | k+1,x0,x6,x7=>if x7<(x0.size:Int) then(if 0≤x7 then(if (bt x0 x7)=10 then(r06Scan.l0 k x0 x6 x7) else(r06Scan.l1 k x0 x6 (wrap64 (x7+1)))) else(none)) else(r06Scan.l0 k x0 x6 x7)
def r06Scan.l2:Nat→ByteArray→List (S98)→Int→Int→Int→Option ((List (S98))×Int×Int)
  | 0,_,_,_,_,_=>none
  | k+1,x0,x6,x7,x8,x9=>if x8<(x0.size:Int) then(if 0≤x8 then((r06letter.f (bt x0 x8)).bind fun t182=>(if t182=true then(r06Scan.l2 k x0 x6 x7 (wrap64 (x8+1)) x9) else((r06digit.f (bt x0 x8)).bind fun t183=>(if t183=true then(r06Scan.l2 k x0 x6 x7 (wrap64 (x8+1)) x9) else(if x8=x7 then(some (([]:List (S98)),x7,61)) else(if 0≤x7 then(if x7≤x8 then(if x8≤(x0.size:Int) then(if x6.length<4398046511104 then(r06Scan.l0 k x0 (x6++[(⟨x9,x0.extract (x7:Int).toNat (x8:Int).toNat,x7⟩:S98)]) x8) else(none)) else(none)) else(none)) else(none))))))) else(none)) else(if x8=x7 then(some (([]:List (S98)),x7,61)) else(if 0≤x7 then(if x7≤x8 then(if x8≤(x0.size:Int) then(if x6.length<4398046511104 then(r06Scan.l0 k x0 (x6++[(⟨x9,x0.extract (x7:Int).toNat (x8:Int).toNat,x7⟩:S98)]) x8) else(none)) else(none)) else(none)) else(none)))
end
def r06Scan.f(k:Nat)(a0:ByteArray):Option ((List (S98))×Int×Int):=if (a0.size:Int) > 65536 then(some (([]:List (S98)),0,3)) else((r06Utf.f a0).bind fun t176=>(if t176≥0 then(some (([]:List (S98)),t176,60)) else(r06Scan.l0 k a0 ([]:List (S98)) 0)))
theorem r06Scan.mono_l:∀k,(∀y0 y1 y2,LeO (r06Scan.l0 k y0 y1 y2) (r06Scan.l0 (k+1) y0 y1 y2))∧(∀y0 y1 y2 y3,LeO (r06Scan.j1 k y0 y1 y2 y3) (r06Scan.j1 (k+1) y0 y1 y2 y3))∧(∀y0 y1 y2,LeO (r06Scan.l1 k y0 y1 y2) (r06Scan.l1 (k+1) y0 y1 y2))∧(∀y0 y1 y2 y3 y4,LeO (r06Scan.l2 k y0 y1 y2 y3 y4) (r06Scan.l2 (k+1) y0 y1 y2 y3 y4))
  | 0=>⟨fun _ _ _ r h=>by simp [r06Scan.l0] at h,fun _ _ _ _ r h=>by simp [r06Scan.j1] at h,fun _ _ _ r h=>by simp [r06Scan.l1] at h,fun _ _ _ _ _ r h=>by simp [r06Scan.l2] at h⟩
  | k+1=>by
    obtain⟨ih0,ih1,ih2,ih3⟩:=r06Scan.mono_l k
    refine⟨?_, ?_, ?_, ?_⟩
    · intros;unfold r06Scan.l0;have m0_:=@r06sign.mono;exact tMo
    · intros;unfold r06Scan.j1;have m0_:=@r06sign.mono;exact tMo
    · intros;unfold r06Scan.l1;have m0_:=@r06sign.mono;exact tMo
    · intros;unfold r06Scan.l2;have m0_:=@r06sign.mono;exact tMo
theorem r06Scan.mono:∀a0 k,LeO (r06Scan.f k a0) (r06Scan.f (k+1) a0):=by
  intro a0 k
  obtain⟨ih0,ih1,ih2,ih3⟩:=r06Scan.mono_l k
  unfold r06Scan.f
  have m0_:=@r06sign.mono
  exact tMo
theorem r06Scan.z0{p:Prop}(h_:p:=by (first | (simp only [Option.some.injEq,Prod.mk.injEq] at H;obtain⟨rfl,rfl,rfl⟩:=H) | (have H':=ak H;clear H));(try (have p31:0≤(x8_3:Int):=tA;have q31:x8_3<(a0.size:Int):=tA;have hx31:=bt_at a0 x8_3;replace p31:=eq_true p31;replace q31:=eq_true q31));go_wp2_with (first | (go_at_call 58;(with_reducible refine(r06letter.calls (bt a0 x8_3) false _ A32.out).mono ?_);rintro e w' ⟨rfl,⟨nd,rfl⟩⟩;have p34:0≤(x8_3:Int):=tA;have q34:x8_3<(a0.size:Int):=tA;have hx34:=bt_at a0 x8_3;replace p34:=eq_true p34;replace q34:=eq_true q34) | (go_at_call 59;(with_reducible refine(r06digit.calls (bt a0 x8_3) false _ A35.out).mono ?_);rintro e w' ⟨rfl,⟨nd,rfl⟩⟩) | ((with_reducible refine gate_builtin (b:=.append) (xs:=#[.tmp 90,.tmp 98]) rfl ?_);(try (refine gate_guard (by rfl) ?_;dsimp only));at_builtin;refine Kd.R_append k98 (w0:=w) w.heap.size rfl (.tmp 90) (.tmp 98) 94 98 (.agg #[(.int .i64 0),(.string ⟨#[]⟩),(.int .i64 0)]) 32 rfl Tryz.underlying94 info98 rfl (by decide) (by omega) u6 x6_1 (⟨1,a0.extract (x7_1:Int).toNat (x8_3:Int).toNat,x7_1⟩:S98) [.int .i64 1,.string (a0.extract (x7_1:Int).toNat (x8_3:Int).toNat),.int .i64 x7_1] (fun _=>True) (fun _=>False) rfl rfl ?aP (fun _ hk=>hk.elim) ?aF ?aO ?aB ?aS ?aL ?_;(case aP=>exact k98_mkM _ _ _ (⟨1,a0.extract (x7_1:Int).toNat (x8_3:Int).toNat,x7_1⟩:S98));(case aB=>exact tB);(case aF=>exact(fun _ _=>trivial));(case aO=>exact(tR HO_6));(case aS=>exact(below_size tB));(case aL=>have:=LMc41.out;omega);intro v185 wa ho hb hg hat;rw [←Ny184.out] at ho;replace HB:=ak (hb);have HO186:=ak (ho);clear HO_6 ho hb hg hat) | (go_at_call 59;(with_reducible refine(r06digit.calls (bt a0 x8_3) true _ A35.out).mono ?_);rintro e w' ⟨rfl,⟨nd,rfl⟩⟩));first | (go_roundg k3;(case measure=>have:=HK1.out;have:=HJ11.out;have:=HK3.out;omega);(case rel=>exact⟨(y184),(x8_3),tS,H',⟨by have:=HK1.out;have:=HJ11.out;have:=HK3.out;omega⟩,⟨tR HO186⟩,⟨tB⟩⟩)) | (go_roundg k3;(case measure=>have:=HK1.out;have:=HJ11.out;have:=HK3.out;omega);(case rel=>exact⟨(wrap64 (x8_3+1)),tS,H',⟨by have:=HK1.out;have:=HJ11.out;have:=HK3.out;omega⟩,⟨tR HO_6⟩,⟨tB⟩⟩)) | (go_ret3;exact⟨_,tE,by first | exact Kd.R_nil _ _ _ _ _ | exact Kd.N_nil _ _ _ _ _ | exact Kd.V_nil _ _ _ _ _ | exact Kd.Q_nil _ _ _ _ _ | exact Kd.S_nil _ _ _ _ _,tB⟩)):p:=h_
theorem r06Scan.z1{p:Prop}(h_:p:=by (first | (simp only [Option.some.injEq,Prod.mk.injEq] at H;obtain⟨rfl,rfl,rfl⟩:=H) | (have H':=ak H;clear H));(try (have p26:0≤(x7_1:Int):=tA;have q26:x7_1<(a0.size:Int):=tA;have hx26:=bt_at a0 x7_1;replace p26:=eq_true p26;replace q26:=eq_true q26));go_wp2_with (first | ((with_reducible refine gf_ 58 rfl ?_);refine gC_ (some 62) Tryz.func58 #[.int .u8 (bt a0 x7_1)] ?_;(with_reducible refine(r06letter.calls (bt a0 x7_1) false _ A27.out).mono ?_);rintro e w' ⟨rfl,⟨nd,rfl⟩⟩;refine⟨_,rfl, ?_⟩) | ((with_reducible refine gf_ 60 rfl ?_);refine gC_ (some 84) Tryz.func60 #[.string a0,.int .i64 x7_1] ?_;(with_reducible refine(r06sign.calls kj11 a0 x7_1 t190 _ A49.out).mono ?_);rintro e w' ⟨rfl,⟨nd,rfl⟩⟩;refine⟨_,rfl, ?_⟩) | ((with_reducible refine gate_builtin (b:=.append) (xs:=#[.tmp 90,.tmp 98]) rfl ?_);(try (refine gate_guard (by rfl) ?_;dsimp only));at_builtin;refine Kd.R_append k98 (w0:=w) w.heap.size rfl (.tmp 90) (.tmp 98) 94 98 (.agg #[(.int .i64 0),(.string ⟨#[]⟩),(.int .i64 0)]) 32 rfl Tryz.underlying94 info98 rfl (by decide) (by omega) u6 x6_1 (⟨2,a0.extract (x7_1:Int).toNat ((wrap64 (x7_1+t190)):Int).toNat,x7_1⟩:S98) [.int .i64 2,.string (a0.extract (x7_1:Int).toNat ((wrap64 (x7_1+t190)):Int).toNat),.int .i64 x7_1] (fun _=>True) (fun _=>False) rfl rfl ?aP (fun _ hk=>hk.elim) ?aF ?aO ?aB ?aS ?aL ?_;(case aP=>exact k98_mkM _ _ _ (⟨2,a0.extract (x7_1:Int).toNat ((wrap64 (x7_1+t190)):Int).toNat,x7_1⟩:S98));(case aB=>exact tB);(case aF=>exact(fun _ _=>trivial));(case aO=>exact(tR HO_6));(case aS=>exact(below_size tB));(case aL=>have:=LMc54.out;omega);intro v192 wa ho hb hg hat;rw [←Ny191.out] at ho;replace HB:=ak (hb);have HO193:=ak (ho);clear HO_6 ho hb hg hat));first | (go_ret3;exact⟨_,tE,by first | exact Kd.R_nil _ _ _ _ _ | exact Kd.N_nil _ _ _ _ _ | exact Kd.V_nil _ _ _ _ _ | exact Kd.Q_nil _ _ _ _ _ | exact Kd.S_nil _ _ _ _ _,tB⟩) | (go_roundg kj11;(case measure=>have:=HK1.out;have:=HJ11.out;omega);(case rel=>exact⟨(y191),(wrap64 (x7_1+t190)),tS,H',⟨by have:=HK1.out;have:=HJ11.out;omega⟩,⟨tR HO193⟩,⟨tB⟩⟩))):p:=h_
set_option maxHeartbeats 8000000 in
theorem r06Scan.calls(k:Nat)(a0:ByteArray)(r1:List (S98))(r2:Int)(r3:Int)(w:World)(h:r06Scan.f k a0=some (r1,r2,r3)) :
  Calls Tryz.prog 42 #[.string a0] w fun e w'=>∃v0_:Value,e=.returned (.tuple #[v0_,.int .i64 r2,.int .i64 r3])∧Kd.R k98 98 w' w.heap.size (fun _=>True) v0_ r1∧Below w.heap.size w w':=by
 have hu98:=Tryz.underlying98
 have HB:=ak (Below.refl w.heap.size w)
 have H:(if (a0.size:Int) > 65536 then(some (([]:List (S98)),0,3)) else((r06Utf.f a0).bind fun t176=>(if t176≥0 then(some (([]:List (S98)),t176,60)) else(r06Scan.l0 k a0 ([]:List (S98)) 0))))=some (r1,r2,r3):=h
 clear h
 replace H:=iHkk H
 rcases H with⟨c2,c2b0,H⟩ | ⟨c2,c2b0,H⟩
 ·have c2b1:decide (65536<a0.size)=true:=decide_eq_true (by omega)
  clear c2
  simp only [Option.some.injEq,Prod.mk.injEq] at H
  obtain⟨rfl,rfl,rfl⟩:=H
  go_enter Tryz.func42,Tryz.ntmps42
  exact zz11
 have c2b1:decide (65536<a0.size)=false:=decide_eq_false (by omega)
 clear c2
 replace H:=iX H
 obtain⟨t176,A3,H⟩:=H
 replace H:=iG H
 rcases H with⟨c4b0,H⟩ | ⟨c4b0,H⟩
 ·simp only [Option.some.injEq,Prod.mk.injEq] at H
  obtain⟨rfl,rfl,rfl⟩:=H
  go_enter Tryz.func42,Tryz.ntmps42
  go_wp2_with (first | ((with_reducible refine gf_ 56 rfl ?_);refine gC_ (some 14) Tryz.func56 #[.string a0] ?_;(with_reducible refine(r06Utf.calls a0 t176 _ A3.out).mono ?_);rintro e w5 ⟨rfl,hb⟩;refine⟨_,rfl, ?_⟩;replace HB:=ak (below_step tB hb);(try clear hb)))
  go_ret3
  exact⟨_,tE,by first | exact Kd.R_nil _ _ _ _ _ | exact Kd.N_nil _ _ _ _ _ | exact Kd.V_nil _ _ _ _ _ | exact Kd.Q_nil _ _ _ _ _ | exact Kd.S_nil _ _ _ _ _,tB⟩
 have H':=ak H
 clear H
 go_enter Tryz.func42,Tryz.ntmps42
 go_wp2_with (first | ((with_reducible refine gf_ 56 rfl ?_);refine gC_ (some 14) Tryz.func56 #[.string a0] ?_;(with_reducible refine(r06Utf.calls a0 t176 _ A3.out).mono ?_);rintro e w6 ⟨rfl,hb⟩;refine⟨_,rfl, ?_⟩;replace HB:=ak (below_step tB hb);(try clear hb)))
 go_loopg [6,7] k (fun kq v6 v7 w'=>∃(x6_1:List (S98)) (x7_1:Int),v7=.int .i64 x7_1∧Aside0 (r06Scan.l0 kq a0 x6_1 x7_1=some (r1,r2,r3))∧Aside0 (kq≤k)∧Aside0 (Kd.R k98 98 w' w.heap.size (fun _=>True) v6 x6_1)∧Aside0 (Below w.heap.size w w'))
 case atStart=>exact⟨(([]:List (S98))),(0),tS,H',⟨Nat.le_refl _⟩,⟨by first | exact Kd.R_nil _ _ _ _ _ | exact Kd.N_nil _ _ _ _ _ | exact Kd.V_nil _ _ _ _ _ | exact Kd.Q_nil _ _ _ _ _ | exact Kd.S_nil _ _ _ _ _⟩,⟨tB⟩⟩
 case round =>
  clear H'
  try clear c2
  try clear c2b0
  try clear c2b1
  try clear c4b0
  obtain⟨x6_1,x7_1,rfl,HA,HK1,HO_6,HB⟩:=hrel
  cases gk with
  | zero=>exact absurd HA.out (by simp [r06Scan.l0])
  | succ k1 =>
   have H:=HA.out
   clear HA
   simp only [r06Scan.l0] at H
   replace H:=iD H
   rcases H with⟨c7b0,H⟩ | ⟨c7b0,H⟩
   ·replace H:=niD H
    obtain⟨c8b0,H⟩:=H
    replace H:=iX H
    obtain⟨t180,A10,H⟩:=H
    replace H:=iB H
    rcases H with⟨rfl,H⟩ | ⟨rfl,H⟩
    ·have H':=ak H
     clear H
     have p9:0≤(x7_1:Int):=tA
     have q9:x7_1<(a0.size:Int):=tA
     have hx9:=bt_at a0 x7_1
     replace p9:=eq_true p9
     replace q9:=eq_true q9
     go_wp2_with (first | ((with_reducible refine gf_ 57 rfl ?_);refine gC_ (some 25) Tryz.func57 #[.int .u8 (bt a0 x7_1)] ?_;(with_reducible refine(r06blank.calls (bt a0 x7_1) true _ A10.out).mono ?_);rintro e w' ⟨rfl,⟨nd,rfl⟩⟩;refine⟨_,rfl, ?_⟩))
     go_roundg k1
     case measure=>have:=HK1.out;omega
     case rel=>exact⟨(x6_1),(wrap64 (x7_1+1)),tS,H',⟨by have:=HK1.out;omega⟩,⟨tR HO_6⟩,⟨tB⟩⟩
    have HC12:=ak H
    clear H
    have p9:0≤(x7_1:Int):=tA
    have q9:x7_1<(a0.size:Int):=tA
    have hx9:=bt_at a0 x7_1
    replace p9:=eq_true p9
    replace q9:=eq_true q9
    go_upto_region 11 with(first | ((with_reducible refine gf_ 57 rfl ?_);refine gC_ (some 25) Tryz.func57 #[.int .u8 (bt a0 x7_1)] ?_;(with_reducible refine(r06blank.calls (bt a0 x7_1) false _ A10.out).mono ?_);rintro e w' ⟨rfl,⟨nd,rfl⟩⟩;refine⟨_,rfl, ?_⟩))
    (try simp only [Act.put,List.setIfInBounds_toArray,List.set_cons_zero,List.set_cons_succ])
    go_cut [45] (fun v45 wc=>∃(kq:Nat) (x45_11:Bool),v45=.bool x45_11∧Aside0 (r06Scan.j1 kq a0 x6_1 x7_1 x45_11=some (r1,r2,r3))∧Aside0 (kq≤k1)∧Aside0 (Kd.R k98 98 wc w.heap.size (fun _=>True) u6 x6_1)∧Aside0 (Below w.heap.size w wc))
    case first =>
     have H:=HC12.out
     clear HC12
     replace H:=iE H
     rcases H with⟨c14b0,c14b1,H⟩ | ⟨c14,c14b0,c14b1,H⟩
     ·(first | rw [c14b0] | (simp only [i64_w,i32_w];rw [c14b0]) | skip)
      replace H:=iD H
      rcases H with⟨c15b0,H⟩ | ⟨c15b0,H⟩
      ·obtain⟨ji16,hji16⟩:∃j_:Int,(wrap64 (x7_1+1))=j_:=⟨_,rfl⟩
       replace H:(if 0≤(ji16) then(r06Scan.j1 k1 a0 x6_1 x7_1 ((bt a0 (ji16))==45)) else(none))=some (r1,r2,r3):=by first | (rw [hji16] at H;exact H) | (simp only [hji16] at H ⊢;exact H)
       (try rw [hji16] at c15b0)
       have hji16w:(IntKind.i64.wrap (x7_1+1))=ji16:=(i64_w _).trans hji16
       replace H:=niD H
       obtain⟨c17b0,H⟩:=H
       have H':=ak H
       clear H
       have p13:0≤(x7_1:Int):=tA
       have q13:x7_1<(a0.size:Int):=tA
       have hx13:=bt_at a0 x7_1
       replace p13:=eq_true p13
       replace q13:=eq_true q13
       have p18:0≤((ji16):Int):=tA
       have q18:(ji16)<(a0.size:Int):=tA
       have hx18:=bt_at a0 (ji16)
       replace p18:=eq_true p18
       replace q18:=eq_true q18
       go_wp2
       go_meet
       case rel=>exact⟨_,(((bt a0 (ji16))==45)),(by first | rfl | (simp;done) | (simp only [←hji16]<;>(first | rfl | simp)) | (simp [*];done)),H',⟨by have:=HK1.out;first | omega | exact Nat.le_refl _⟩,⟨tR HO_6⟩,⟨tB⟩⟩
      exact zz18
     (first | rw [c14b0] | (simp only [i64_w,i32_w];rw [c14b0]) | skip)
     exact zz18
    case rest =>
     clear HC12
     try clear c2
     try clear c2b0
     try clear c2b1
     try clear c4b0
     try clear c7b0
     try clear c8b0
     try clear p9
     try clear q9
     try clear hx9
     try clear p9
     try clear q9
     obtain⟨kq,x45_11,rfl,HA,HJ11,HO_6,HB⟩:=hcut
     cases kq with
     | zero=>exact absurd HA.out (by simp [r06Scan.j1])
     | succ kj11 =>
      have H:=HA.out
      clear HA
      simp only [r06Scan.j1] at H
      replace H:=iB H
      rcases H with⟨rfl,H⟩ | ⟨rfl,H⟩
      ·have H':=ak H
       clear H
       go_wp2
       go_loopg [7] kj11 (fun kq v7 w'=>∃(x7_3:Int),v7=.int .i64 x7_3∧Aside0 (r06Scan.l1 kq a0 x6_1 x7_3=some (r1,r2,r3))∧Aside0 (kq≤kj11)∧Aside0 (Kd.R k98 98 w' w.heap.size (fun _=>True) u6 x6_1)∧Aside0 (Below w.heap.size w w'))
       case atStart=>exact⟨(x7_1),tS,H',⟨Nat.le_refl _⟩,⟨tR HO_6⟩,⟨tB⟩⟩
       case round =>
        clear H'
        try clear c2
        try clear c2b0
        try clear c2b1
        try clear c4b0
        try clear c7b0
        try clear c8b0
        try clear p9
        try clear q9
        try clear hx9
        try clear p9
        try clear q9
        obtain⟨x7_3,rfl,HA,HK3,HO_6,HB⟩:=hrel
        cases gk with
        | zero=>exact absurd HA.out (by simp [r06Scan.l1])
        | succ k3 =>
         have H:=HA.out
         clear HA
         simp only [r06Scan.l1] at H
         replace H:=iD H
         rcases H with⟨c20b0,H⟩ | ⟨c20b0,H⟩
         ·replace H:=niD H
          obtain⟨c21b0,H⟩:=H
          replace H:=iE H
          rcases H with⟨c23b0,c23b1,H⟩ | ⟨c23,c23b0,c23b1,H⟩
          ·have H':=ak H
           clear H
           have p22:0≤(x7_3:Int):=tA
           have q22:x7_3<(a0.size:Int):=tA
           have hx22:=bt_at a0 x7_3
           replace p22:=eq_true p22
           replace q22:=eq_true q22
           go_wp2
           go_roundg k3
           case measure=>have:=HK1.out;have:=HJ11.out;have:=HK3.out;omega
           case rel=>exact⟨(x6_1),(x7_3),tS,H',⟨by have:=HK1.out;have:=HJ11.out;have:=HK3.out;omega⟩,⟨tR HO_6⟩,⟨tB⟩⟩
          have H':=ak H
          clear H
          have p22:0≤(x7_3:Int):=tA
          have q22:x7_3<(a0.size:Int):=tA
          have hx22:=bt_at a0 x7_3
          replace p22:=eq_true p22
          replace q22:=eq_true q22
          go_wp2
          go_roundg k3
          case measure=>have:=HK1.out;have:=HJ11.out;have:=HK3.out;omega
          case rel=>exact⟨(wrap64 (x7_3+1)),tS,H',⟨by have:=HK1.out;have:=HJ11.out;have:=HK3.out;omega⟩,⟨tR HO_6⟩,⟨tB⟩⟩
         have H':=ak H
         clear H
         go_wp2
         go_roundg k3
         case measure=>have:=HK1.out;have:=HJ11.out;have:=HK3.out;omega
         case rel=>exact⟨(x6_1),(x7_3),tS,H',⟨by have:=HK1.out;have:=HJ11.out;have:=HK3.out;omega⟩,⟨tR HO_6⟩,⟨tB⟩⟩
      replace H:=niD H
      obtain⟨c24b0,H⟩:=H
      replace H:=niD H
      obtain⟨c25b0,H⟩:=H
      replace H:=iX H
      obtain⟨t181,A27,H⟩:=H
      replace H:=iB H
      rcases H with⟨rfl,H⟩ | ⟨rfl,H⟩
      ·have H':=ak H
       clear H
       have p26:0≤(x7_1:Int):=tA
       have q26:x7_1<(a0.size:Int):=tA
       have hx26:=bt_at a0 x7_1
       replace p26:=eq_true p26
       replace q26:=eq_true q26
       go_wp2_with (first | ((with_reducible refine gf_ 58 rfl ?_);refine gC_ (some 62) Tryz.func58 #[.int .u8 (bt a0 x7_1)] ?_;(with_reducible refine(r06letter.calls (bt a0 x7_1) true _ A27.out).mono ?_);rintro e w' ⟨rfl,⟨nd,rfl⟩⟩;refine⟨_,rfl, ?_⟩))
       go_loopg [8] kj11 (fun kq v8 w'=>∃(x8_3:Int),v8=.int .i64 x8_3∧Aside0 (r06Scan.l2 kq a0 x6_1 x7_1 x8_3 1=some (r1,r2,r3))∧Aside0 (kq≤kj11)∧Aside0 (Kd.R k98 98 w' w.heap.size (fun _=>True) u6 x6_1)∧Aside0 (Below w.heap.size w w'))
       case atStart=>exact⟨(x7_1),tS,H',⟨Nat.le_refl _⟩,⟨tR HO_6⟩,⟨tB⟩⟩
       case round =>
        clear H'
        try clear c2
        try clear c2b0
        try clear c2b1
        try clear c4b0
        try clear c7b0
        try clear c8b0
        try clear p9
        try clear q9
        try clear hx9
        try clear c24b0
        try clear c25b0
        try clear p26
        try clear q26
        try clear hx26
        try clear p26
        try clear p9
        try clear q26
        try clear q9
        obtain⟨x8_3,rfl,HA,HK3,HO_6,HB⟩:=hrel
        cases gk with
        | zero=>exact absurd HA.out (by simp [r06Scan.l2])
        | succ k3 =>
         have H:=HA.out
         clear HA
         simp only [r06Scan.l2] at H
         replace H:=iD H
         rcases H with⟨c29b0,H⟩ | ⟨c29b0,H⟩
         ·replace H:=niD H
          obtain⟨c30b0,H⟩:=H
          replace H:=iX H
          obtain⟨t182,A32,H⟩:=H
          replace H:=iB H
          rcases H with⟨rfl,H⟩ | ⟨rfl,H⟩
          ·have H':=ak H
           clear H
           have p31:0≤(x8_3:Int):=tA
           have q31:x8_3<(a0.size:Int):=tA
           have hx31:=bt_at a0 x8_3
           replace p31:=eq_true p31
           replace q31:=eq_true q31
           go_wp2_with (first | (go_at_call 58;(with_reducible refine(r06letter.calls (bt a0 x8_3) true _ A32.out).mono ?_);rintro e w' ⟨rfl,⟨nd,rfl⟩⟩))
           go_roundg k3
           case measure=>have:=HK1.out;have:=HJ11.out;have:=HK3.out;omega
           case rel=>exact⟨(wrap64 (x8_3+1)),tS,H',⟨by have:=HK1.out;have:=HJ11.out;have:=HK3.out;omega⟩,⟨tR HO_6⟩,⟨tB⟩⟩
          replace H:=iX H
          obtain⟨t183,A35,H⟩:=H
          replace H:=iB H
          rcases H with⟨rfl,H⟩ | ⟨rfl,H⟩
          ·exact r06Scan.z0
          replace H:=iE H
          rcases H with⟨c37b0,c37b1,H⟩ | ⟨c37,c37b0,c37b1,H⟩
          ·exact r06Scan.z0
          replace H:=niT H
          obtain⟨c38b0,c38b1,H⟩:=H
          replace H:=niT H
          obtain⟨c39b0,c39b1,H⟩:=H
          replace H:=niT H
          obtain⟨c40b0,c40b1,H⟩:=H
          replace H:=niC H
          obtain⟨c41,H⟩:=H
          have LMc41:=ak c41
          clear c41
          obtain⟨y184,hy184⟩:∃y_:List (S98),y_=(x6_1++[(⟨1,a0.extract (x7_1:Int).toNat (x8_3:Int).toNat,x7_1⟩:S98)]):=⟨_,rfl⟩
          replace H:(r06Scan.l0 k3 a0 y184 x8_3)=some (r1,r2,r3):=tY hy184 H
          have Ny184:=ak hy184
          clear hy184
          exact r06Scan.z0
         replace H:=iE H
         rcases H with⟨c43b0,c43b1,H⟩ | ⟨c43,c43b0,c43b1,H⟩
         ·simp only [Option.some.injEq,Prod.mk.injEq] at H
          obtain⟨rfl,rfl,rfl⟩:=H
          go_wp2
          go_ret3
          exact⟨_,tE,by first | exact Kd.R_nil _ _ _ _ _ | exact Kd.N_nil _ _ _ _ _ | exact Kd.V_nil _ _ _ _ _ | exact Kd.Q_nil _ _ _ _ _ | exact Kd.S_nil _ _ _ _ _,tB⟩
         replace H:=niT H
         obtain⟨c44b0,c44b1,H⟩:=H
         replace H:=niT H
         obtain⟨c45b0,c45b1,H⟩:=H
         replace H:=niT H
         obtain⟨c46b0,c46b1,H⟩:=H
         replace H:=niC H
         obtain⟨c47,H⟩:=H
         have LMc47:=ak c47
         clear c47
         obtain⟨y187,hy187⟩:∃y_:List (S98),y_=(x6_1++[(⟨1,a0.extract (x7_1:Int).toNat (x8_3:Int).toNat,x7_1⟩:S98)]):=⟨_,rfl⟩
         replace H:(r06Scan.l0 k3 a0 y187 x8_3)=some (r1,r2,r3):=tY hy187 H
         have Ny187:=ak hy187
         clear hy187
         have H':=ak H
         clear H
         go_wp2_with (first | ((with_reducible refine gate_builtin (b:=.append) (xs:=#[.tmp 90,.tmp 98]) rfl ?_);(try (refine gate_guard (by rfl) ?_;dsimp only));at_builtin;refine Kd.R_append k98 (w0:=w) w.heap.size rfl (.tmp 90) (.tmp 98) 94 98 (.agg #[(.int .i64 0),(.string ⟨#[]⟩),(.int .i64 0)]) 32 rfl Tryz.underlying94 info98 rfl (by decide) (by omega) u6 x6_1 (⟨1,a0.extract (x7_1:Int).toNat (x8_3:Int).toNat,x7_1⟩:S98) [.int .i64 1,.string (a0.extract (x7_1:Int).toNat (x8_3:Int).toNat),.int .i64 x7_1] (fun _=>True) (fun _=>False) rfl rfl ?aP (fun _ hk=>hk.elim) ?aF ?aO ?aB ?aS ?aL ?_;(case aP=>exact k98_mkM _ _ _ (⟨1,a0.extract (x7_1:Int).toNat (x8_3:Int).toNat,x7_1⟩:S98));(case aB=>exact tB);(case aF=>exact(fun _ _=>trivial));(case aO=>exact(tR HO_6));(case aS=>exact(below_size tB));(case aL=>have:=LMc47.out;omega);intro v188 w48 ho hb hg hat;rw [←Ny187.out] at ho;replace HB:=ak (hb);have HO189:=ak (ho);clear HO_6 ho hb hg hat))
         go_roundg k3
         case measure=>have:=HK1.out;have:=HJ11.out;have:=HK3.out;omega
         case rel=>exact⟨(y187),(x8_3),tS,H',⟨by have:=HK1.out;have:=HJ11.out;have:=HK3.out;omega⟩,⟨tR HO189⟩,⟨tB⟩⟩
      replace H:=iX H
      obtain⟨t190,A49,H⟩:=H
      replace H:=iE H
      rcases H with⟨c50b0,c50b1,H⟩ | ⟨c50,c50b0,c50b1,H⟩
      ·exact r06Scan.z1
      have c51b0:=eq_true (tA:0≤x7_1)
      by_cases c52:x7_1≤(wrap64 (x7_1+t190))
      ·rw [if_pos c52] at H
       have c52b0:=eq_true c52
       have c52b1:decide (x7_1≤(wrap64 (x7_1+t190)))=true:=decide_eq_true c52
       by_cases c53:(wrap64 (x7_1+t190))≤(a0.size:Int)
       ·rw [if_pos c53] at H
        have c53b0:=eq_true c53
        have c53b1:decide ((wrap64 (x7_1+t190))≤(a0.size:Int))=true:=decide_eq_true c53
        replace H:=niC H
        obtain⟨c54,H⟩:=H
        have LMc54:=ak c54
        clear c54
        obtain⟨y191,hy191⟩:∃y_:List (S98),y_=(x6_1++[(⟨2,a0.extract (x7_1:Int).toNat ((wrap64 (x7_1+t190)):Int).toNat,x7_1⟩:S98)]):=⟨_,rfl⟩
        replace H:(r06Scan.l0 kj11 a0 y191 (wrap64 (x7_1+t190)))=some (r1,r2,r3):=tY hy191 H
        have Ny191:=ak hy191
        clear hy191
        exact r06Scan.z1
       ·rw [if_neg c53] at H
        exact absurd H (by simp)
      ·rw [if_neg c52] at H
       exact absurd H (by simp)
   replace H:=niC H
   obtain⟨c56,H⟩:=H
   have LMc56:=ak c56
   clear c56
   obtain⟨y177,hy177⟩:∃y_:List (S98),y_=(x6_1++[(⟨0,(⟨#[]⟩:ByteArray),(a0.size:Int)⟩:S98)]):=⟨_,rfl⟩
   replace H:(some (y177,0,0))=some (r1,r2,r3):=tY hy177 H
   have Ny177:=ak hy177
   clear hy177
   simp only [Option.some.injEq,Prod.mk.injEq] at H
   obtain⟨rfl,rfl,rfl⟩:=H
   go_wp2_with (first | ((with_reducible refine gate_builtin (b:=.append) (xs:=#[.tmp 101,.tmp 105]) rfl ?_);(try (refine gate_guard (by rfl) ?_;dsimp only));at_builtin;refine Kd.R_append k98 (w0:=w) w.heap.size rfl (.tmp 101) (.tmp 105) 94 98 (.agg #[(.int .i64 0),(.string ⟨#[]⟩),(.int .i64 0)]) 32 rfl Tryz.underlying94 info98 rfl (by decide) (by omega) u6 x6_1 (⟨0,(⟨#[]⟩:ByteArray),(a0.size:Int)⟩:S98) [.int .i64 0,.string (⟨#[]⟩:ByteArray),.int .i64 (a0.size:Int)] (fun _=>True) (fun _=>False) rfl rfl ?aP (fun _ hk=>hk.elim) ?aF ?aO ?aB ?aS ?aL ?_;(case aP=>exact k98_mkM _ _ _ (⟨0,(⟨#[]⟩:ByteArray),(a0.size:Int)⟩:S98));(case aB=>exact tB);(case aF=>exact(fun _ _=>trivial));(case aO=>exact(tR HO_6));(case aS=>exact(below_size tB));(case aL=>have:=LMc56.out;omega);intro v178 w57 ho hb hg hat;rw [←Ny177.out] at ho;replace HB:=ak (hb);have HO179:=ak (ho);clear HO_6 ho hb hg hat))
   go_ret3
   exact⟨_,tE,by (with_reducible repeat (first | apply Kd.R_alloc | apply Kd.R_drewN | apply Kd.R_drew));exact HO179.out,tB⟩
def r08Named.f(k:Nat)(a0:ByteArray):Option (Bool):=(r06Scan.f k a0).bind fun bt194=>(if bt194.2.2=0 then(if (bt194.1.length:Int)=2 then(if 0<(bt194.1.length:Int) then(if ((rd_T98 bt194.1 0).f0)=1 then(some (((rd_T98 bt194.1 0).f1).toList==a0.toList)) else(some false)) else(none)) else(some false)) else(some false))
theorem r08Named.mono:∀a0 k,LeO (r08Named.f k a0) (r08Named.f (k+1) a0):=by
  intro a0 k
  unfold r08Named.f
  have m0_:=@r06Scan.mono
  exact tMo
set_option maxHeartbeats 8000000 in
theorem r08Named.calls(k:Nat)(a0:ByteArray)(r:Bool)(w:World)(h:r08Named.f k a0=some r) :
  Calls Tryz.prog 23 #[.string a0] w fun e w'=>e=.returned (.bool r)∧Below w.heap.size w w':=by
 have HB:=ak (Below.refl w.heap.size w)
 have H:((r06Scan.f k a0).bind fun bt194=>(if bt194.2.2=0 then(if (bt194.1.length:Int)=2 then(if 0<(bt194.1.length:Int) then(if ((rd_T98 bt194.1 0).f0)=1 then(some (((rd_T98 bt194.1 0).f1).toList==a0.toList)) else(some false)) else(none)) else(some false)) else(some false)))=some r:=h
 clear h
 replace H:=iX H
 obtain⟨⟨t194,t195,t196⟩,A2,H⟩:=H
 try dsimp only at H
 replace H:=iE H
 rcases H with⟨c3b0,c3b1,H⟩ | ⟨c3,c3b0,c3b1,H⟩
 ·replace H:=iE H
  rcases H with⟨c4b0,c4b1,H⟩ | ⟨c4,c4b0,c4b1,H⟩
  ·by_cases c5:0<(t194.length:Int)
   ·rw [if_pos c5] at H
    have c5b0:decide (0<(t194.length:Int))=true:=decide_eq_true c5
    have c5b1:decide (0<t194.length)=true:=decide_eq_true (by omega)
    clear c5
    replace H:=iE H
    rcases H with⟨c6b0,c6b1,H⟩ | ⟨c6,c6b0,c6b1,H⟩
    ·obtain rfl:=Option.some.inj H
     go_enter Tryz.func23,Tryz.ntmps23
     go_wp2_with (first | ((with_reducible refine gf_ 42 rfl ?_);refine gC_ (some 8) Tryz.func42 #[.string a0] ?_;(with_reducible refine(r06Scan.calls k a0 t194 t195 t196 _ A2.out).mono ?_);rintro e w7 ⟨v197,rfl,ho0,hb⟩;refine⟨_,rfl, ?_⟩;have HO198:=ak (Kd.R_lower ho0 (below_size tB));replace HB:=ak (below_step tB hb);(try clear hb);(try clear ho0);obtain⟨Aoh198,coh198,eoh198⟩:=Kd.R_slice HO198.out;subst eoh198;have p199:0≤(0:Int):=(by omega);have q199:0<(t194.length:Int):=tA;obtain⟨ad199,e199,hx199_0,hx199_1,hx199_2⟩:=at_T98 (Kd.R_reads' HO198.out).2.2 0 p199 q199;cases e199;have qi199:(0<t194.length)=True:=eq_true (by omega);(try rw [show((0:Int)).toNat=0 from rfl] at hx199_0);(try rw [show 0 * 3=0 from rfl] at hx199_0);(try rw [Addr.add_zero'] at hx199_0);(try rw [show((0:Int)).toNat=0 from rfl] at hx199_1);(try rw [show 0 * 3=0 from rfl] at hx199_1);(try rw [Addr.add_zero'] at hx199_1);(try rw [show((0:Int)).toNat=0 from rfl] at hx199_2);(try rw [show 0 * 3=0 from rfl] at hx199_2);(try rw [Addr.add_zero'] at hx199_2);replace p199:=eq_true p199;replace q199:=eq_true q199;have p200:0≤(0:Int):=(by omega);have q200:0<(t194.length:Int):=tA;obtain⟨ad200,e200,hx200_0,hx200_1,hx200_2⟩:=at_T98 (Kd.R_reads' HO198.out).2.2 0 p200 q200;obtain rfl:ad199=ad200:=(by injection e200);have qi200:(0<t194.length)=True:=eq_true (by omega);(try rw [show((0:Int)).toNat=0 from rfl] at hx200_0);(try rw [show 0 * 3=0 from rfl] at hx200_0);(try rw [Addr.add_zero'] at hx200_0);(try rw [show((0:Int)).toNat=0 from rfl] at hx200_1);(try rw [show 0 * 3=0 from rfl] at hx200_1);(try rw [Addr.add_zero'] at hx200_1);(try rw [show((0:Int)).toNat=0 from rfl] at hx200_2);(try rw [show 0 * 3=0 from rfl] at hx200_2);(try rw [Addr.add_zero'] at hx200_2);replace p200:=eq_true p200;replace q200:=eq_true q200))
     go_ret
     exact⟨tE,tB⟩
    obtain rfl:=Option.some.inj H
    go_enter Tryz.func23,Tryz.ntmps23
    go_wp2_with (first | ((with_reducible refine gf_ 42 rfl ?_);refine gC_ (some 8) Tryz.func42 #[.string a0] ?_;(with_reducible refine(r06Scan.calls k a0 t194 t195 t196 _ A2.out).mono ?_);rintro e w9 ⟨v197,rfl,ho0,hb⟩;refine⟨_,rfl, ?_⟩;have HO198:=ak (Kd.R_lower ho0 (below_size tB));replace HB:=ak (below_step tB hb);(try clear hb);(try clear ho0);obtain⟨Aoh198,coh198,eoh198⟩:=Kd.R_slice HO198.out;subst eoh198;have p199:0≤(0:Int):=(by omega);have q199:0<(t194.length:Int):=tA;obtain⟨ad199,e199,hx199_0,hx199_1,hx199_2⟩:=at_T98 (Kd.R_reads' HO198.out).2.2 0 p199 q199;cases e199;have qi199:(0<t194.length)=True:=eq_true (by omega);(try rw [show((0:Int)).toNat=0 from rfl] at hx199_0);(try rw [show 0 * 3=0 from rfl] at hx199_0);(try rw [Addr.add_zero'] at hx199_0);(try rw [show((0:Int)).toNat=0 from rfl] at hx199_1);(try rw [show 0 * 3=0 from rfl] at hx199_1);(try rw [Addr.add_zero'] at hx199_1);(try rw [show((0:Int)).toNat=0 from rfl] at hx199_2);(try rw [show 0 * 3=0 from rfl] at hx199_2);(try rw [Addr.add_zero'] at hx199_2);replace p199:=eq_true p199;replace q199:=eq_true q199))
    go_ret
    exact⟨tE,tB⟩
   ·rw [if_neg c5] at H
    exact absurd H (by simp)
  obtain rfl:=Option.some.inj H
  go_enter Tryz.func23,Tryz.ntmps23
  go_wp2_with (first | ((with_reducible refine gf_ 42 rfl ?_);refine gC_ (some 8) Tryz.func42 #[.string a0] ?_;(with_reducible refine(r06Scan.calls k a0 t194 t195 t196 _ A2.out).mono ?_);rintro e w11 ⟨v197,rfl,ho0,hb⟩;refine⟨_,rfl, ?_⟩;have HO198:=ak (Kd.R_lower ho0 (below_size tB));replace HB:=ak (below_step tB hb);(try clear hb);(try clear ho0);obtain⟨Aoh198,coh198,eoh198⟩:=Kd.R_slice HO198.out;subst eoh198))
  go_ret
  exact⟨tE,tB⟩
 obtain rfl:=Option.some.inj H
 go_enter Tryz.func23,Tryz.ntmps23
 go_wp2_with (first | ((with_reducible refine gf_ 42 rfl ?_);refine gC_ (some 8) Tryz.func42 #[.string a0] ?_;(with_reducible refine(r06Scan.calls k a0 t194 t195 t196 _ A2.out).mono ?_);rintro e w13 ⟨v197,rfl,ho0,hb⟩;refine⟨_,rfl, ?_⟩;have HO198:=ak (Kd.R_lower ho0 (below_size tB));replace HB:=ak (below_step tB hb);(try clear hb);(try clear ho0)))
 go_ret
 exact⟨tE,tB⟩
mutual
def r10Depth.l0:Nat→Int→Int→Int→Int→ByteArray→List (S113)→List (S49)→List (S90)→Option (Int)
  | 0,_,_,_,_,_,_,_,_=>none
  | k+1,x3,x4,x202000,x202001,x202002,x202003,x202004,x202005=>if x4<(x202004.length:Int) then(if 0≤x4 then((r10Depth.f k ((rd_T49 x202004 x4).f0) ((rd_T49 x202004 x4).f1) ((rd_T49 x202004 x4).f2) ((rd_T49 x202004 x4).f3) ((rd_T49 x202004 x4).f4) ((rd_T49 x202004 x4).f5)).bind fun t203=>(if t203 > x3 then(r10Depth.l0 k t203 (wrap64 (x4+1)) x202000 x202001 x202002 x202003 x202004 x202005) else(r10Depth.l0 k x3 (wrap64 (x4+1)) x202000 x202001 x202002 x202003 x202004 x202005))) else(none)) else(r10Depth.l1 k x3 0 x202000 x202001 x202002 x202003 x202004 x202005)
def r10Depth.l1:Nat→Int→Int→Int→Int→ByteArray→List (S113)→List (S49)→List (S90)→Option (Int)
  | 0,_,_,_,_,_,_,_,_=>none
  | k+1,x3,x6,x202000,x202001,x202002,x202003,x202004,x202005=>if x6<(x202005.length:Int) then(r10Depth.l2 k x3 x6 0 x202000 x202001 x202002 x202003 x202004 x202005) else(some (wrap64 (x3+1)))
def r10Depth.l2:Nat→Int→Int→Int→Int→Int→ByteArray→List (S113)→List (S49)→List (S90)→Option (Int)
  | 0,_,_,_,_,_,_,_,_,_=>none
  | k+1,x3,x6,x7,x202000,x202001,x202002,x202003,x202004,x202005=>if 0≤x6 then(if x6<(x202005.length:Int) then(if x7<(((rd_T90 x202005 x6).f1).length:Int) then(if 0≤x7 then((r10Depth.f k ((rd_T49 ((rd_T90 x202005 x6).f1) x7).f0) ((rd_T49 ((rd_T90 x202005 x6).f1) x7).f1) ((rd_T49 ((rd_T90 x202005 x6).f1) x7).f2) ((rd_T49 ((rd_T90 x202005 x6).f1) x7).f3) ((rd_T49 ((rd_T90 x202005 x6).f1) x7).f4) ((rd_T49 ((rd_T90 x202005 x6).f1) x7).f5)).bind fun t207=>(if t207 > x3 then(r10Depth.l2 k t207 x6 (wrap64 (x7+1)) x202000 x202001 x202002 x202003 x202004 x202005) else(r10Depth.l2 k x3 x6 (wrap64 (x7+1)) x202000 x202001 x202002 x202003 x202004 x202005))) else(none)) else(r10Depth.l1 k x3 (wrap64 (x6+1)) x202000 x202001 x202002 x202003 x202004 x202005)) else(none)) else(none)
def r10Depth.f:Nat→Int→Int→ByteArray→List (S113)→List (S49)→List (S90)→Option (Int)
  | 0,_,_,_,_,_,_=>none
  | k+1,a0_0,a0_1,a0_2,l0_3,l0_4,l0_5=>r10Depth.l0 k 0 0 a0_0 a0_1 a0_2 l0_3 l0_4 l0_5
end
theorem r10Depth.mono_l:∀k,(∀y0 y1 y2 y3 y4 y5,LeO (r10Depth.f k y0 y1 y2 y3 y4 y5) (r10Depth.f (k+1) y0 y1 y2 y3 y4 y5))∧(∀y0 y1 y2 y3 y4 y5 y6 y7,LeO (r10Depth.l0 k y0 y1 y2 y3 y4 y5 y6 y7) (r10Depth.l0 (k+1) y0 y1 y2 y3 y4 y5 y6 y7))∧(∀y0 y1 y2 y3 y4 y5 y6 y7,LeO (r10Depth.l1 k y0 y1 y2 y3 y4 y5 y6 y7) (r10Depth.l1 (k+1) y0 y1 y2 y3 y4 y5 y6 y7))∧(∀y0 y1 y2 y3 y4 y5 y6 y7 y8,LeO (r10Depth.l2 k y0 y1 y2 y3 y4 y5 y6 y7 y8) (r10Depth.l2 (k+1) y0 y1 y2 y3 y4 y5 y6 y7 y8))
  | 0=>⟨fun _ _ _ _ _ _ r h=>by simp [r10Depth.f] at h,fun _ _ _ _ _ _ _ _ r h=>by simp [r10Depth.l0] at h,fun _ _ _ _ _ _ _ _ r h=>by simp [r10Depth.l1] at h,fun _ _ _ _ _ _ _ _ _ r h=>by simp [r10Depth.l2] at h⟩
  | k+1=>by
    obtain⟨ih0,ih1,ih2,ih3⟩:=r10Depth.mono_l k
    refine⟨?_, ?_, ?_, ?_⟩
    · intros;unfold r10Depth.f;exact tMo
    · intros;unfold r10Depth.l0;exact tMo
    · intros;unfold r10Depth.l1;exact tMo
    · intros;unfold r10Depth.l2;exact tMo
theorem r10Depth.mono:∀a0 a1 a2 a3 a4 a5 k,LeO (r10Depth.f k a0 a1 a2 a3 a4 a5) (r10Depth.f (k+1) a0 a1 a2 a3 a4 a5):=by
  intro a0 a1 a2 a3 a4 a5 k
  obtain⟨ih0,ih1,ih2,ih3⟩:=r10Depth.mono_l k
  exact ih0 a0 a1 a2 a3 a4 a5
theorem r10Depth.z0{p:Prop}(h_:p:=by have H':=ak H;clear H;(try (have hcz:=cz6 BK201.out));(try (obtain⟨p202,q202,ad202,A202_3,c202_3,A202_4,c202_4,A202_5,c202_5,rfl,hx202_0,hx202_1,hx202_2,hx202_3,hx202_4,hx202_5,HC202_3,HR202_3,HC202_4,HR202_4,HC202_5,HR202_5⟩:=at_B49 HR0_4 HB x4_1));go_wp2_with (first | ((with_reducible refine gf_ 61 rfl ?_);refine gC_ (some 21) Tryz.func61 #[.agg #[.int .i64 ((rd_T49 l0_4 x4_1).f0),.int .i64 ((rd_T49 l0_4 x4_1).f1),.string ((rd_T49 l0_4 x4_1).f2),.slice A202_3 ((rd_T49 l0_4 x4_1).f3).length c202_3,.slice A202_4 ((rd_T49 l0_4 x4_1).f4).length c202_4,.slice A202_5 ((rd_T49 l0_4 x4_1).f5).length c202_5]] ?_;(with_reducible refine(ih k1 (by have:=HK1.out;omega) ((rd_T49 l0_4 x4_1).f0) ((rd_T49 l0_4 x4_1).f1) ((rd_T49 l0_4 x4_1).f2) _ _ ((rd_T49 l0_4 x4_1).f3) _ _ ((rd_T49 l0_4 x4_1).f4) _ _ ((rd_T49 l0_4 x4_1).f5) t203 _ ?side1 ?side2 ?side3 ?side4 ?side5 ?side6 A5.out).mono ?_);(case side1=>exact tCb HR202_3 HB);(case side2=>exact HC202_3.out);(case side3=>exact tCb HR202_4 HB);(case side4=>exact HC202_4.out);(case side5=>exact tCb HR202_5 HB);(case side6=>exact HC202_5.out);rintro e wa ⟨rfl,hb⟩;refine⟨_,rfl, ?_⟩;replace BK201:=ak (blk_below (g:=gb201) (o:=.cells #[.int .i64 a0_0,.int .i64 a0_1,.string a0_2,.slice A0_3 l0_3.length c0_3,.slice (some ad202) l0_4.length c0_4,.slice A0_5 l0_5.length c0_5] 49 (0,0)) (tK BK201) hb);replace HB:=ak (below_step (tBs GE201) hb);(try clear hb)));first | (go_roundg k1;(case measure=>have:=HK1.out;omega);(case rel=>exact⟨(x3_1),(wrap64 (x4_1+1)),tS,tS,H',⟨by have:=HK1.out;omega⟩,⟨tK BK201⟩,⟨tBs GE201⟩⟩)) | (go_roundg k1;(case measure=>have:=HK1.out;omega);(case rel=>exact⟨(t203),(wrap64 (x4_1+1)),tS,tS,H',⟨by have:=HK1.out;omega⟩,⟨tK BK201⟩,⟨tBs GE201⟩⟩))):p:=h_
theorem r10Depth.z1{p:Prop}(h_:p:=by have H':=ak H;clear H;(try (have hcz:=cz6 BK201.out));(try (obtain⟨p204,q204,ad204,A204_0,c204_0,A204_1,c204_1,rfl,hx204_0,hx204_1,HC204_0,HR204_0,HC204_1,HR204_1⟩:=at_B90 HR0_5 HB x6_2));(try (obtain⟨p205,q205,ad205,A205_0,c205_0,A205_1,c205_1,e205,hx205_0,hx205_1,HC205_0,HR205_0,HC205_1,HR205_1⟩:=at_B90 HR0_5 HB x6_2;obtain rfl:ad204=ad205:=(by injection e205)));(try (obtain⟨rfl,rfl⟩:=slI hx204_0 hx205_0));(try (obtain⟨rfl,rfl⟩:=slI hx204_1 hx205_1));(try (obtain⟨p206,q206,ad206,A206_3,c206_3,A206_4,c206_4,A206_5,c206_5,rfl,hx206_0,hx206_1,hx206_2,hx206_3,hx206_4,hx206_5,HC206_3,HR206_3,HC206_4,HR206_4,HC206_5,HR206_5⟩:=at_B49 HR205_1 HB x7_3));go_wp2_with (first | ((with_reducible refine gf_ 61 rfl ?_);refine gC_ (some 53) Tryz.func61 #[.agg #[.int .i64 ((rd_T49 ((rd_T90 l0_5 x6_2).f1) x7_3).f0),.int .i64 ((rd_T49 ((rd_T90 l0_5 x6_2).f1) x7_3).f1),.string ((rd_T49 ((rd_T90 l0_5 x6_2).f1) x7_3).f2),.slice A206_3 ((rd_T49 ((rd_T90 l0_5 x6_2).f1) x7_3).f3).length c206_3,.slice A206_4 ((rd_T49 ((rd_T90 l0_5 x6_2).f1) x7_3).f4).length c206_4,.slice A206_5 ((rd_T49 ((rd_T90 l0_5 x6_2).f1) x7_3).f5).length c206_5]] ?_;(with_reducible refine(ih k3 (by have:=HK1.out;have:=HK2.out;have:=HK3.out;omega) ((rd_T49 ((rd_T90 l0_5 x6_2).f1) x7_3).f0) ((rd_T49 ((rd_T90 l0_5 x6_2).f1) x7_3).f1) ((rd_T49 ((rd_T90 l0_5 x6_2).f1) x7_3).f2) _ _ ((rd_T49 ((rd_T90 l0_5 x6_2).f1) x7_3).f3) _ _ ((rd_T49 ((rd_T90 l0_5 x6_2).f1) x7_3).f4) _ _ ((rd_T49 ((rd_T90 l0_5 x6_2).f1) x7_3).f5) t207 _ ?side1 ?side2 ?side3 ?side4 ?side5 ?side6 A18.out).mono ?_);(case side1=>exact tCb HR206_3 HB);(case side2=>exact HC206_3.out);(case side3=>exact tCb HR206_4 HB);(case side4=>exact HC206_4.out);(case side5=>exact tCb HR206_5 HB);(case side6=>exact HC206_5.out);rintro e wa ⟨rfl,hb⟩;refine⟨_,rfl, ?_⟩;replace BK201:=ak (blk_below (g:=gb201) (o:=.cells #[.int .i64 a0_0,.int .i64 a0_1,.string a0_2,.slice A0_3 l0_3.length c0_3,.slice A0_4 l0_4.length c0_4,.slice (some ad204) l0_5.length c0_5] 49 (0,0)) (tK BK201) hb);replace HB:=ak (below_step (tBs GE201) hb);(try clear hb)));first | (go_roundg k3;(case measure=>have:=HK1.out;have:=HK2.out;have:=HK3.out;omega);(case rel=>exact⟨(x3_3),(wrap64 (x7_3+1)),tS,tS,H',⟨by have:=HK1.out;have:=HK2.out;have:=HK3.out;omega⟩,⟨tK BK201⟩,⟨tBs GE201⟩⟩)) | (go_roundg k3;(case measure=>have:=HK1.out;have:=HK2.out;have:=HK3.out;omega);(case rel=>exact⟨(t207),(wrap64 (x7_3+1)),tS,tS,H',⟨by have:=HK1.out;have:=HK2.out;have:=HK3.out;omega⟩,⟨tK BK201⟩,⟨tBs GE201⟩⟩))):p:=h_
set_option maxHeartbeats 8000000 in
theorem r10Depth.calls(k:Nat):∀(a0_0:Int) (a0_1:Int) (a0_2:ByteArray) (A0_3:Option Addr) (c0_3:Nat) (l0_3:List (S113)) (A0_4:Option Addr) (c0_4:Nat) (l0_4:List (S49)) (A0_5:Option Addr) (c0_5:Nat) (l0_5:List (S90)) (r:Int) (w:World) (hr0_3:Kd.C k113 w A0_3 l0_3.length l0_3) (hc0_3:l0_3.length≤c0_3) (hr0_4:Kd.C k49 w A0_4 l0_4.length l0_4) (hc0_4:l0_4.length≤c0_4) (hr0_5:Kd.C k90 w A0_5 l0_5.length l0_5) (hc0_5:l0_5.length≤c0_5) (h:r10Depth.f k a0_0 a0_1 a0_2 l0_3 l0_4 l0_5=some r),
  Calls Tryz.prog 61 #[.agg #[.int .i64 a0_0,.int .i64 a0_1,.string a0_2,.slice A0_3 l0_3.length c0_3,.slice A0_4 l0_4.length c0_4,.slice A0_5 l0_5.length c0_5]] w fun e w'=>e=.returned (.int .i64 r)∧Below w.heap.size w w':=by
 induction k using Nat.strongRecOn with
 | _ k ih =>
 intro a0_0 a0_1 a0_2 A0_3 c0_3 l0_3 A0_4 c0_4 l0_4 A0_5 c0_5 l0_5 r w hr0_3 hc0_3 hr0_4 hc0_4 hr0_5 hc0_5 h
 cases k with
 | zero=>exact absurd h (by simp [r10Depth.f])
 | succ k =>
 simp only [r10Depth.f] at h
 have hu49:=Tryz.underlying49
 have HR0_3:=ak hr0_3
 have HC0_3:=ak hc0_3
 clear hr0_3 hc0_3
 have HR0_4:=ak hr0_4
 have HC0_4:=ak hc0_4
 clear hr0_4 hc0_4
 have HR0_5:=ak hr0_5
 have HC0_5:=ak hc0_5
 clear hr0_5 hc0_5
 have HB:=ak (Below.refl w.heap.size w)
 have H:(r10Depth.l0 k 0 0 a0_0 a0_1 a0_2 l0_3 l0_4 l0_5)=some r:=h
 clear h
 have H':=ak H
 clear H
 go_enter Tryz.func61,Tryz.ntmps61
 go_wp2_with (first | ((with_reducible refine gd_ 1 rfl ?_);refine boxE 1 #[.int .i64 a0_0,.int .i64 a0_1,.string a0_2,.slice A0_3 l0_3.length c0_3,.slice A0_4 l0_4.length c0_4,.slice A0_5 l0_5.length c0_5] 49 ?_;intro gb201 hg w2 hbox hb;have BK201:=ak (hbox);have GW201:=ak (tG:w.heap.size≤gb201);have GE201:=ak (tG:w.heap.size≤gb201);replace HB:=ak (below_step tB hb);clear hb hbox hg))
 go_loopg [3,4] k (fun kq v3 v4 w'=>∃(x3_1:Int) (x4_1:Int),v3=.int .i64 x3_1∧v4=.int .i64 x4_1∧Aside0 (r10Depth.l0 kq x3_1 x4_1 a0_0 a0_1 a0_2 l0_3 l0_4 l0_5=some r)∧Aside0 (kq≤k)∧Aside0 (w'.heap[gb201]? = some (.cells #[.int .i64 a0_0,.int .i64 a0_1,.string a0_2,(.slice A0_3 l0_3.length c0_3),(.slice A0_4 l0_4.length c0_4),(.slice A0_5 l0_5.length c0_5)] 49 (0,0)))∧Aside0 (Below w.heap.size w w'))
 case atStart=>exact⟨(0),(0),tS,tS,H',⟨Nat.le_refl _⟩,⟨tK BK201⟩,⟨tBs GE201⟩⟩
 case round =>
  clear H'
  obtain⟨x3_1,x4_1,rfl,rfl,HA,HK1,BK201,HB⟩:=hrel
  cases gk with
  | zero=>exact absurd HA.out (by simp [r10Depth.l0])
  | succ k1 =>
   have H:=HA.out
   clear HA
   simp only [r10Depth.l0] at H
   replace H:=iD H
   rcases H with⟨c3b0,H⟩ | ⟨c3b0,H⟩
   ·replace H:=niD H
    obtain⟨c4b0,H⟩:=H
    replace H:=iX H
    obtain⟨t203,A5,H⟩:=H
    replace H:=iH H
    rcases H with⟨c6b0,H⟩ | ⟨c6b0,H⟩
    ·exact r10Depth.z0
    exact r10Depth.z0
   have H':=ak H
   clear H
   have hcz11:=cz6 BK201.out
   go_wp2
   go_loopg [3,6] k1 (fun kq v3 v6 w'=>∃(x3_2:Int) (x6_2:Int),v3=.int .i64 x3_2∧v6=.int .i64 x6_2∧Aside0 (r10Depth.l1 kq x3_2 x6_2 a0_0 a0_1 a0_2 l0_3 l0_4 l0_5=some r)∧Aside0 (kq≤k1)∧Aside0 (w'.heap[gb201]? = some (.cells #[.int .i64 a0_0,.int .i64 a0_1,.string a0_2,(.slice A0_3 l0_3.length c0_3),(.slice A0_4 l0_4.length c0_4),(.slice A0_5 l0_5.length c0_5)] 49 (0,0)))∧Aside0 (Below w.heap.size w w'))
   case atStart=>exact⟨(x3_1),(0),tS,tS,H',⟨Nat.le_refl _⟩,⟨tK BK201⟩,⟨tBs GE201⟩⟩
   case round =>
    clear H'
    try clear c3b0
    try clear hcz11
    obtain⟨x3_2,x6_2,rfl,rfl,HA,HK2,BK201,HB⟩:=hrel
    cases gk with
    | zero=>exact absurd HA.out (by simp [r10Depth.l1])
    | succ k2 =>
     have H:=HA.out
     clear HA
     simp only [r10Depth.l1] at H
     replace H:=iD H
     rcases H with⟨c12b0,H⟩ | ⟨c12b0,H⟩
     ·have H':=ak H
      clear H
      have hcz13:=cz6 BK201.out
      go_wp2
      go_loopg [3,7] k2 (fun kq v3 v7 w'=>∃(x3_3:Int) (x7_3:Int),v3=.int .i64 x3_3∧v7=.int .i64 x7_3∧Aside0 (r10Depth.l2 kq x3_3 x6_2 x7_3 a0_0 a0_1 a0_2 l0_3 l0_4 l0_5=some r)∧Aside0 (kq≤k2)∧Aside0 (w'.heap[gb201]? = some (.cells #[.int .i64 a0_0,.int .i64 a0_1,.string a0_2,(.slice A0_3 l0_3.length c0_3),(.slice A0_4 l0_4.length c0_4),(.slice A0_5 l0_5.length c0_5)] 49 (0,0)))∧Aside0 (Below w.heap.size w w'))
      case atStart=>exact⟨(x3_2),(0),tS,tS,H',⟨Nat.le_refl _⟩,⟨tK BK201⟩,⟨tBs GE201⟩⟩
      case round =>
       clear H'
       try clear c3b0
       try clear c12b0
       try clear hcz11
       try clear hcz13
       obtain⟨x3_3,x7_3,rfl,rfl,HA,HK3,BK201,HB⟩:=hrel
       cases gk with
       | zero=>exact absurd HA.out (by simp [r10Depth.l2])
       | succ k3 =>
        have H:=HA.out
        clear HA
        simp only [r10Depth.l2] at H
        replace H:=niD H
        obtain⟨c14b0,H⟩:=H
        replace H:=niD H
        obtain⟨c15b0,H⟩:=H
        replace H:=iD H
        rcases H with⟨c16b0,H⟩ | ⟨c16b0,H⟩
        ·replace H:=niD H
         obtain⟨c17b0,H⟩:=H
         replace H:=iX H
         obtain⟨t207,A18,H⟩:=H
         replace H:=iH H
         rcases H with⟨c19b0,H⟩ | ⟨c19b0,H⟩
         ·exact r10Depth.z1
         exact r10Depth.z1
        have H':=ak H
        clear H
        have hcz24:=cz6 BK201.out
        obtain⟨p204,q204,ad204,A204_0,c204_0,A204_1,c204_1,rfl,hx204_0,hx204_1,HC204_0,HR204_0,HC204_1,HR204_1⟩:=at_B90 HR0_5 HB x6_2
        go_wp2
        go_roundg k3
        case measure=>have:=HK1.out;have:=HK2.out;have:=HK3.out;omega
        case rel=>exact⟨(x3_3),(wrap64 (x6_2+1)),tS,tS,H',⟨by have:=HK1.out;have:=HK2.out;have:=HK3.out;omega⟩,⟨tK BK201⟩,⟨tBs GE201⟩⟩
     obtain rfl:=Option.some.inj H
     have hcz25:=cz6 BK201.out
     go_wp2
     go_ret
     exact⟨tE,by repeat (first | (with_reducible first | exact HB.out | apply below_alloc | apply pw_below_drewN | apply below_drew1 | refine below_set ?_ GE201.out) | exact HB.out)⟩
mutual
def r10Size.l0:Nat→Int→Int→Int→Int→ByteArray→List (S113)→List (S49)→List (S90)→Option (Int)
  | 0,_,_,_,_,_,_,_,_=>none
  | k+1,x3,x4,x209000,x209001,x209002,x209003,x209004,x209005=>if x4<(x209004.length:Int) then(if 0≤x4 then((r10Size.f k ((rd_T49 x209004 x4).f0) ((rd_T49 x209004 x4).f1) ((rd_T49 x209004 x4).f2) ((rd_T49 x209004 x4).f3) ((rd_T49 x209004 x4).f4) ((rd_T49 x209004 x4).f5)).bind fun t210=>(r10Size.l0 k (wrap64 (x3+t210)) (wrap64 (x4+1)) x209000 x209001 x209002 x209003 x209004 x209005)) else(none)) else(r10Size.l1 k x3 0 x209000 x209001 x209002 x209003 x209004 x209005)
def r10Size.l1:Nat→Int→Int→Int→Int→ByteArray→List (S113)→List (S49)→List (S90)→Option (Int)
  | 0,_,_,_,_,_,_,_,_=>none
  | k+1,x3,x5,x209000,x209001,x209002,x209003,x209004,x209005=>if x5<(x209005.length:Int) then(r10Size.l2 k x3 x5 0 x209000 x209001 x209002 x209003 x209004 x209005) else(some x3)
def r10Size.l2:Nat→Int→Int→Int→Int→Int→ByteArray→List (S113)→List (S49)→List (S90)→Option (Int)
  | 0,_,_,_,_,_,_,_,_,_=>none
  | k+1,x3,x5,x6,x209000,x209001,x209002,x209003,x209004,x209005=>if 0≤x5 then(if x5<(x209005.length:Int) then(if x6<(((rd_T90 x209005 x5).f1).length:Int) then(if 0≤x6 then((r10Size.f k ((rd_T49 ((rd_T90 x209005 x5).f1) x6).f0) ((rd_T49 ((rd_T90 x209005 x5).f1) x6).f1) ((rd_T49 ((rd_T90 x209005 x5).f1) x6).f2) ((rd_T49 ((rd_T90 x209005 x5).f1) x6).f3) ((rd_T49 ((rd_T90 x209005 x5).f1) x6).f4) ((rd_T49 ((rd_T90 x209005 x5).f1) x6).f5)).bind fun t214=>(r10Size.l2 k (wrap64 (x3+t214)) x5 (wrap64 (x6+1)) x209000 x209001 x209002 x209003 x209004 x209005)) else(none)) else(r10Size.l1 k x3 (wrap64 (x5+1)) x209000 x209001 x209002 x209003 x209004 x209005)) else(none)) else(none)
def r10Size.f:Nat→Int→Int→ByteArray→List (S113)→List (S49)→List (S90)→Option (Int)
  | 0,_,_,_,_,_,_=>none
  | k+1,a0_0,a0_1,a0_2,l0_3,l0_4,l0_5=>r10Size.l0 k 1 0 a0_0 a0_1 a0_2 l0_3 l0_4 l0_5
end
theorem r10Size.mono_l:∀k,(∀y0 y1 y2 y3 y4 y5,LeO (r10Size.f k y0 y1 y2 y3 y4 y5) (r10Size.f (k+1) y0 y1 y2 y3 y4 y5))∧(∀y0 y1 y2 y3 y4 y5 y6 y7,LeO (r10Size.l0 k y0 y1 y2 y3 y4 y5 y6 y7) (r10Size.l0 (k+1) y0 y1 y2 y3 y4 y5 y6 y7))∧(∀y0 y1 y2 y3 y4 y5 y6 y7,LeO (r10Size.l1 k y0 y1 y2 y3 y4 y5 y6 y7) (r10Size.l1 (k+1) y0 y1 y2 y3 y4 y5 y6 y7))∧(∀y0 y1 y2 y3 y4 y5 y6 y7 y8,LeO (r10Size.l2 k y0 y1 y2 y3 y4 y5 y6 y7 y8) (r10Size.l2 (k+1) y0 y1 y2 y3 y4 y5 y6 y7 y8))
  | 0=>⟨fun _ _ _ _ _ _ r h=>by simp [r10Size.f] at h,fun _ _ _ _ _ _ _ _ r h=>by simp [r10Size.l0] at h,fun _ _ _ _ _ _ _ _ r h=>by simp [r10Size.l1] at h,fun _ _ _ _ _ _ _ _ _ r h=>by simp [r10Size.l2] at h⟩
  | k+1=>by
    obtain⟨ih0,ih1,ih2,ih3⟩:=r10Size.mono_l k
    refine⟨?_, ?_, ?_, ?_⟩
    · intros;unfold r10Size.f;exact tMo
    · intros;unfold r10Size.l0;exact tMo
    · intros;unfold r10Size.l1;exact tMo
    · intros;unfold r10Size.l2;exact tMo
theorem r10Size.mono:∀a0 a1 a2 a3 a4 a5 k,LeO (r10Size.f k a0 a1 a2 a3 a4 a5) (r10Size.f (k+1) a0 a1 a2 a3 a4 a5):=by
  intro a0 a1 a2 a3 a4 a5 k
  obtain⟨ih0,ih1,ih2,ih3⟩:=r10Size.mono_l k
  exact ih0 a0 a1 a2 a3 a4 a5
set_option maxHeartbeats 8000000 in
theorem r10Size.calls(k:Nat):∀(a0_0:Int) (a0_1:Int) (a0_2:ByteArray) (A0_3:Option Addr) (c0_3:Nat) (l0_3:List (S113)) (A0_4:Option Addr) (c0_4:Nat) (l0_4:List (S49)) (A0_5:Option Addr) (c0_5:Nat) (l0_5:List (S90)) (r:Int) (w:World) (hr0_3:Kd.C k113 w A0_3 l0_3.length l0_3) (hc0_3:l0_3.length≤c0_3) (hr0_4:Kd.C k49 w A0_4 l0_4.length l0_4) (hc0_4:l0_4.length≤c0_4) (hr0_5:Kd.C k90 w A0_5 l0_5.length l0_5) (hc0_5:l0_5.length≤c0_5) (h:r10Size.f k a0_0 a0_1 a0_2 l0_3 l0_4 l0_5=some r),
  Calls Tryz.prog 62 #[.agg #[.int .i64 a0_0,.int .i64 a0_1,.string a0_2,.slice A0_3 l0_3.length c0_3,.slice A0_4 l0_4.length c0_4,.slice A0_5 l0_5.length c0_5]] w fun e w'=>e=.returned (.int .i64 r)∧Below w.heap.size w w':=by
 induction k using Nat.strongRecOn with
 | _ k ih =>
 intro a0_0 a0_1 a0_2 A0_3 c0_3 l0_3 A0_4 c0_4 l0_4 A0_5 c0_5 l0_5 r w hr0_3 hc0_3 hr0_4 hc0_4 hr0_5 hc0_5 h
 cases k with
 | zero=>exact absurd h (by simp [r10Size.f])
 | succ k =>
 simp only [r10Size.f] at h
 have hu49:=Tryz.underlying49
 have HR0_3:=ak hr0_3
 have HC0_3:=ak hc0_3
 clear hr0_3 hc0_3
 have HR0_4:=ak hr0_4
 have HC0_4:=ak hc0_4
 clear hr0_4 hc0_4
 have HR0_5:=ak hr0_5
 have HC0_5:=ak hc0_5
 clear hr0_5 hc0_5
 have HB:=ak (Below.refl w.heap.size w)
 have H:(r10Size.l0 k 1 0 a0_0 a0_1 a0_2 l0_3 l0_4 l0_5)=some r:=h
 clear h
 have H':=ak H
 clear H
 go_enter Tryz.func62,Tryz.ntmps62
 go_wp2_with (first | ((with_reducible refine gd_ 1 rfl ?_);refine boxE 1 #[.int .i64 a0_0,.int .i64 a0_1,.string a0_2,.slice A0_3 l0_3.length c0_3,.slice A0_4 l0_4.length c0_4,.slice A0_5 l0_5.length c0_5] 49 ?_;intro gb208 hg w2 hbox hb;have BK208:=ak (hbox);have GW208:=ak (tG:w.heap.size≤gb208);have GE208:=ak (tG:w.heap.size≤gb208);replace HB:=ak (below_step tB hb);clear hb hbox hg))
 go_loopg [3,4] k (fun kq v3 v4 w'=>∃(x3_1:Int) (x4_1:Int),v3=.int .i64 x3_1∧v4=.int .i64 x4_1∧Aside0 (r10Size.l0 kq x3_1 x4_1 a0_0 a0_1 a0_2 l0_3 l0_4 l0_5=some r)∧Aside0 (kq≤k)∧Aside0 (w'.heap[gb208]? = some (.cells #[.int .i64 a0_0,.int .i64 a0_1,.string a0_2,(.slice A0_3 l0_3.length c0_3),(.slice A0_4 l0_4.length c0_4),(.slice A0_5 l0_5.length c0_5)] 49 (0,0)))∧Aside0 (Below w.heap.size w w'))
 case atStart=>exact⟨(1),(0),tS,tS,H',⟨Nat.le_refl _⟩,⟨tK BK208⟩,⟨tBs GE208⟩⟩
 case round =>
  clear H'
  obtain⟨x3_1,x4_1,rfl,rfl,HA,HK1,BK208,HB⟩:=hrel
  cases gk with
  | zero=>exact absurd HA.out (by simp [r10Size.l0])
  | succ k1 =>
   have H:=HA.out
   clear HA
   simp only [r10Size.l0] at H
   replace H:=iD H
   rcases H with⟨c3b0,H⟩ | ⟨c3b0,H⟩
   ·replace H:=niD H
    obtain⟨c4b0,H⟩:=H
    replace H:=iX H
    obtain⟨t210,A5,H⟩:=H
    have H':=ak H
    clear H
    have hcz6:=cz6 BK208.out
    obtain⟨p209,q209,ad209,A209_3,c209_3,A209_4,c209_4,A209_5,c209_5,rfl,hx209_0,hx209_1,hx209_2,hx209_3,hx209_4,hx209_5,HC209_3,HR209_3,HC209_4,HR209_4,HC209_5,HR209_5⟩:=at_B49 HR0_4 HB x4_1
    go_wp2_with (first | ((with_reducible refine gf_ 62 rfl ?_);refine gC_ (some 20) Tryz.func62 #[.agg #[.int .i64 ((rd_T49 l0_4 x4_1).f0),.int .i64 ((rd_T49 l0_4 x4_1).f1),.string ((rd_T49 l0_4 x4_1).f2),.slice A209_3 ((rd_T49 l0_4 x4_1).f3).length c209_3,.slice A209_4 ((rd_T49 l0_4 x4_1).f4).length c209_4,.slice A209_5 ((rd_T49 l0_4 x4_1).f5).length c209_5]] ?_;(with_reducible refine(ih k1 (by have:=HK1.out;omega) ((rd_T49 l0_4 x4_1).f0) ((rd_T49 l0_4 x4_1).f1) ((rd_T49 l0_4 x4_1).f2) _ _ ((rd_T49 l0_4 x4_1).f3) _ _ ((rd_T49 l0_4 x4_1).f4) _ _ ((rd_T49 l0_4 x4_1).f5) t210 _ ?side1 ?side2 ?side3 ?side4 ?side5 ?side6 A5.out).mono ?_);(case side1=>exact tCb HR209_3 HB);(case side2=>exact HC209_3.out);(case side3=>exact tCb HR209_4 HB);(case side4=>exact HC209_4.out);(case side5=>exact tCb HR209_5 HB);(case side6=>exact HC209_5.out);rintro e w7 ⟨rfl,hb⟩;refine⟨_,rfl, ?_⟩;replace BK208:=ak (blk_below (g:=gb208) (o:=.cells #[.int .i64 a0_0,.int .i64 a0_1,.string a0_2,.slice A0_3 l0_3.length c0_3,.slice (some ad209) l0_4.length c0_4,.slice A0_5 l0_5.length c0_5] 49 (0,0)) (tK BK208) hb);replace HB:=ak (below_step (tBs GE208) hb);(try clear hb)))
    go_roundg k1
    case measure=>have:=HK1.out;omega
    case rel=>exact⟨(wrap64 (x3_1+t210)),(wrap64 (x4_1+1)),tS,tS,H',⟨by have:=HK1.out;omega⟩,⟨tK BK208⟩,⟨tBs GE208⟩⟩
   have H':=ak H
   clear H
   have hcz8:=cz6 BK208.out
   go_wp2
   go_loopg [3,5] k1 (fun kq v3 v5 w'=>∃(x3_2:Int) (x5_2:Int),v3=.int .i64 x3_2∧v5=.int .i64 x5_2∧Aside0 (r10Size.l1 kq x3_2 x5_2 a0_0 a0_1 a0_2 l0_3 l0_4 l0_5=some r)∧Aside0 (kq≤k1)∧Aside0 (w'.heap[gb208]? = some (.cells #[.int .i64 a0_0,.int .i64 a0_1,.string a0_2,(.slice A0_3 l0_3.length c0_3),(.slice A0_4 l0_4.length c0_4),(.slice A0_5 l0_5.length c0_5)] 49 (0,0)))∧Aside0 (Below w.heap.size w w'))
   case atStart=>exact⟨(x3_1),(0),tS,tS,H',⟨Nat.le_refl _⟩,⟨tK BK208⟩,⟨tBs GE208⟩⟩
   case round =>
    clear H'
    try clear c3b0
    try clear hcz8
    obtain⟨x3_2,x5_2,rfl,rfl,HA,HK2,BK208,HB⟩:=hrel
    cases gk with
    | zero=>exact absurd HA.out (by simp [r10Size.l1])
    | succ k2 =>
     have H:=HA.out
     clear HA
     simp only [r10Size.l1] at H
     replace H:=iD H
     rcases H with⟨c9b0,H⟩ | ⟨c9b0,H⟩
     ·have H':=ak H
      clear H
      have hcz10:=cz6 BK208.out
      go_wp2
      go_loopg [3,6] k2 (fun kq v3 v6 w'=>∃(x3_3:Int) (x6_3:Int),v3=.int .i64 x3_3∧v6=.int .i64 x6_3∧Aside0 (r10Size.l2 kq x3_3 x5_2 x6_3 a0_0 a0_1 a0_2 l0_3 l0_4 l0_5=some r)∧Aside0 (kq≤k2)∧Aside0 (w'.heap[gb208]? = some (.cells #[.int .i64 a0_0,.int .i64 a0_1,.string a0_2,(.slice A0_3 l0_3.length c0_3),(.slice A0_4 l0_4.length c0_4),(.slice A0_5 l0_5.length c0_5)] 49 (0,0)))∧Aside0 (Below w.heap.size w w'))
      case atStart=>exact⟨(x3_2),(0),tS,tS,H',⟨Nat.le_refl _⟩,⟨tK BK208⟩,⟨tBs GE208⟩⟩
      case round =>
       clear H'
       try clear c3b0
       try clear c9b0
       try clear hcz10
       try clear hcz8
       obtain⟨x3_3,x6_3,rfl,rfl,HA,HK3,BK208,HB⟩:=hrel
       cases gk with
       | zero=>exact absurd HA.out (by simp [r10Size.l2])
       | succ k3 =>
        have H:=HA.out
        clear HA
        simp only [r10Size.l2] at H
        replace H:=niD H
        obtain⟨c11b0,H⟩:=H
        replace H:=niD H
        obtain⟨c12b0,H⟩:=H
        replace H:=iD H
        rcases H with⟨c13b0,H⟩ | ⟨c13b0,H⟩
        ·replace H:=niD H
         obtain⟨c14b0,H⟩:=H
         replace H:=iX H
         obtain⟨t214,A15,H⟩:=H
         have H':=ak H
         clear H
         have hcz16:=cz6 BK208.out
         obtain⟨p211,q211,ad211,A211_0,c211_0,A211_1,c211_1,rfl,hx211_0,hx211_1,HC211_0,HR211_0,HC211_1,HR211_1⟩:=at_B90 HR0_5 HB x5_2
         obtain⟨p212,q212,ad212,A212_0,c212_0,A212_1,c212_1,e212,hx212_0,hx212_1,HC212_0,HR212_0,HC212_1,HR212_1⟩:=at_B90 HR0_5 HB x5_2
         obtain rfl:ad211=ad212:=(by injection e212)
         obtain⟨rfl,rfl⟩:=slI hx211_0 hx212_0
         obtain⟨rfl,rfl⟩:=slI hx211_1 hx212_1
         obtain⟨p213,q213,ad213,A213_3,c213_3,A213_4,c213_4,A213_5,c213_5,rfl,hx213_0,hx213_1,hx213_2,hx213_3,hx213_4,hx213_5,HC213_3,HR213_3,HC213_4,HR213_4,HC213_5,HR213_5⟩:=at_B49 HR212_1 HB x6_3
         go_wp2_with (first | ((with_reducible refine gf_ 62 rfl ?_);refine gC_ (some 50) Tryz.func62 #[.agg #[.int .i64 ((rd_T49 ((rd_T90 l0_5 x5_2).f1) x6_3).f0),.int .i64 ((rd_T49 ((rd_T90 l0_5 x5_2).f1) x6_3).f1),.string ((rd_T49 ((rd_T90 l0_5 x5_2).f1) x6_3).f2),.slice A213_3 ((rd_T49 ((rd_T90 l0_5 x5_2).f1) x6_3).f3).length c213_3,.slice A213_4 ((rd_T49 ((rd_T90 l0_5 x5_2).f1) x6_3).f4).length c213_4,.slice A213_5 ((rd_T49 ((rd_T90 l0_5 x5_2).f1) x6_3).f5).length c213_5]] ?_;(with_reducible refine(ih k3 (by have:=HK1.out;have:=HK2.out;have:=HK3.out;omega) ((rd_T49 ((rd_T90 l0_5 x5_2).f1) x6_3).f0) ((rd_T49 ((rd_T90 l0_5 x5_2).f1) x6_3).f1) ((rd_T49 ((rd_T90 l0_5 x5_2).f1) x6_3).f2) _ _ ((rd_T49 ((rd_T90 l0_5 x5_2).f1) x6_3).f3) _ _ ((rd_T49 ((rd_T90 l0_5 x5_2).f1) x6_3).f4) _ _ ((rd_T49 ((rd_T90 l0_5 x5_2).f1) x6_3).f5) t214 _ ?side1 ?side2 ?side3 ?side4 ?side5 ?side6 A15.out).mono ?_);(case side1=>exact tCb HR213_3 HB);(case side2=>exact HC213_3.out);(case side3=>exact tCb HR213_4 HB);(case side4=>exact HC213_4.out);(case side5=>exact tCb HR213_5 HB);(case side6=>exact HC213_5.out);rintro e w17 ⟨rfl,hb⟩;refine⟨_,rfl, ?_⟩;replace BK208:=ak (blk_below (g:=gb208) (o:=.cells #[.int .i64 a0_0,.int .i64 a0_1,.string a0_2,.slice A0_3 l0_3.length c0_3,.slice A0_4 l0_4.length c0_4,.slice (some ad211) l0_5.length c0_5] 49 (0,0)) (tK BK208) hb);replace HB:=ak (below_step (tBs GE208) hb);(try clear hb)))
         go_roundg k3
         case measure=>have:=HK1.out;have:=HK2.out;have:=HK3.out;omega
         case rel=>exact⟨(wrap64 (x3_3+t214)),(wrap64 (x6_3+1)),tS,tS,H',⟨by have:=HK1.out;have:=HK2.out;have:=HK3.out;omega⟩,⟨tK BK208⟩,⟨tBs GE208⟩⟩
        have H':=ak H
        clear H
        have hcz18:=cz6 BK208.out
        obtain⟨p211,q211,ad211,A211_0,c211_0,A211_1,c211_1,rfl,hx211_0,hx211_1,HC211_0,HR211_0,HC211_1,HR211_1⟩:=at_B90 HR0_5 HB x5_2
        go_wp2
        go_roundg k3
        case measure=>have:=HK1.out;have:=HK2.out;have:=HK3.out;omega
        case rel=>exact⟨(x3_3),(wrap64 (x5_2+1)),tS,tS,H',⟨by have:=HK1.out;have:=HK2.out;have:=HK3.out;omega⟩,⟨tK BK208⟩,⟨tBs GE208⟩⟩
     obtain rfl:=Option.some.inj H
     have hcz19:=cz6 BK208.out
     go_wp2
     go_ret
     exact⟨tE,by repeat (first | (with_reducible first | exact HB.out | apply below_alloc | apply pw_below_drewN | apply below_drew1 | refine below_set ?_ GE208.out) | exact HB.out)⟩
def r10sized.f(k:Nat)(a0_0:Int)(a0_1:Int)(a0_2:ByteArray)(l0_3:List (S113))(l0_4:List (S49))(l0_5:List (S90)):Option (Int):=(r10Depth.f k a0_0 a0_1 a0_2 l0_3 l0_4 l0_5).bind fun t216=>(if t216 > 200 then(some 62) else((r10Size.f k a0_0 a0_1 a0_2 l0_3 l0_4 l0_5).bind fun t217=>(if t217 > 20000 then(some 221) else(some 0))))
theorem r10sized.mono:∀a0 a1 a2 a3 a4 a5 k,LeO (r10sized.f k a0 a1 a2 a3 a4 a5) (r10sized.f (k+1) a0 a1 a2 a3 a4 a5):=by
  intro a0 a1 a2 a3 a4 a5 k
  unfold r10sized.f
  have m0_:=@r10Depth.mono
  have m1_:=@r10Size.mono
  exact tMo
theorem r10sized.z0{p:Prop}(h_:p:=by go_wp2_with (first | ((with_reducible refine gd_ 1 rfl ?_);refine boxE 1 #[.int .i64 a0_0,.int .i64 a0_1,.string a0_2,.slice A0_3 l0_3.length c0_3,.slice A0_4 l0_4.length c0_4,.slice A0_5 l0_5.length c0_5] 49 ?_;intro gb215 hg wa hbox hb;have BK215:=ak (hbox);have GW215:=ak (tG:w.heap.size≤gb215);have GE215:=ak (tG:w.heap.size≤gb215);replace HB:=ak (below_step tB hb);clear hb hbox hg;have hcza:=cz6 BK215.out) | ((with_reducible refine gf_ 61 rfl ?_);refine gC_ (some 4) Tryz.func61 #[.agg #[.int .i64 a0_0,.int .i64 a0_1,.string a0_2,.slice A0_3 l0_3.length c0_3,.slice A0_4 l0_4.length c0_4,.slice A0_5 l0_5.length c0_5]] ?_;(with_reducible refine(r10Depth.calls k a0_0 a0_1 a0_2 _ _ l0_3 _ _ l0_4 _ _ l0_5 t216 _ ?side1 ?side2 ?side3 ?side4 ?side5 ?side6 A2.out).mono ?_);(case side1=>exact tCb HR0_3 HB);(case side2=>exact HC0_3.out);(case side3=>exact tCb HR0_4 HB);(case side4=>exact HC0_4.out);(case side5=>exact tCb HR0_5 HB);(case side6=>exact HC0_5.out);rintro e wa ⟨rfl,hb⟩;refine⟨_,rfl, ?_⟩;replace BK215:=ak (blk_below (g:=gb215) (o:=.cells #[.int .i64 a0_0,.int .i64 a0_1,.string a0_2,.slice A0_3 l0_3.length c0_3,.slice A0_4 l0_4.length c0_4,.slice A0_5 l0_5.length c0_5] 49 (0,0)) (tK BK215) hb);replace HB:=ak (below_step (tBs GE215) hb);(try clear hb);have hcza:=cz6 BK215.out) | ((with_reducible refine gf_ 62 rfl ?_);refine gC_ (some 7) Tryz.func62 #[.agg #[.int .i64 a0_0,.int .i64 a0_1,.string a0_2,.slice A0_3 l0_3.length c0_3,.slice A0_4 l0_4.length c0_4,.slice A0_5 l0_5.length c0_5]] ?_;(with_reducible refine(r10Size.calls k a0_0 a0_1 a0_2 _ _ l0_3 _ _ l0_4 _ _ l0_5 t217 _ ?side1 ?side2 ?side3 ?side4 ?side5 ?side6 A7.out).mono ?_);(case side1=>exact tCb HR0_3 HB);(case side2=>exact HC0_3.out);(case side3=>exact tCb HR0_4 HB);(case side4=>exact HC0_4.out);(case side5=>exact tCb HR0_5 HB);(case side6=>exact HC0_5.out);rintro e wa ⟨rfl,hb⟩;refine⟨_,rfl, ?_⟩;replace BK215:=ak (blk_below (g:=gb215) (o:=.cells #[.int .i64 a0_0,.int .i64 a0_1,.string a0_2,.slice A0_3 l0_3.length c0_3,.slice A0_4 l0_4.length c0_4,.slice A0_5 l0_5.length c0_5] 49 (0,0)) (tK BK215) hb);replace HB:=ak (below_step (tBs GE215) hb);(try clear hb)) | ((with_reducible refine gf_ 61 rfl ?_);refine gC_ (some 4) Tryz.func61 #[.agg #[.int .i64 a0_0,.int .i64 a0_1,.string a0_2,.slice A0_3 l0_3.length c0_3,.slice A0_4 l0_4.length c0_4,.slice A0_5 l0_5.length c0_5]] ?_;(with_reducible refine(r10Depth.calls k a0_0 a0_1 a0_2 _ _ l0_3 _ _ l0_4 _ _ l0_5 t216 _ ?side1 ?side2 ?side3 ?side4 ?side5 ?side6 A2.out).mono ?_);(case side1=>exact tCb HR0_3 HB);(case side2=>exact HC0_3.out);(case side3=>exact tCb HR0_4 HB);(case side4=>exact HC0_4.out);(case side5=>exact tCb HR0_5 HB);(case side6=>exact HC0_5.out);rintro e wa ⟨rfl,hb⟩;refine⟨_,rfl, ?_⟩;replace BK215:=ak (blk_below (g:=gb215) (o:=.cells #[.int .i64 a0_0,.int .i64 a0_1,.string a0_2,.slice A0_3 l0_3.length c0_3,.slice A0_4 l0_4.length c0_4,.slice A0_5 l0_5.length c0_5] 49 (0,0)) (tK BK215) hb);replace HB:=ak (below_step (tBs GE215) hb);(try clear hb)));go_ret;exact⟨tE,by repeat (first | (with_reducible first | exact HB.out | apply below_alloc | apply pw_below_drewN | apply below_drew1 | refine below_set ?_ GE215.out) | exact HB.out)⟩):p:=h_
set_option maxHeartbeats 8000000 in
theorem r10sized.calls(k:Nat)(a0_0:Int)(a0_1:Int)(a0_2:ByteArray)(A0_3:Option Addr)(c0_3:Nat)(l0_3:List (S113))(A0_4:Option Addr)(c0_4:Nat)(l0_4:List (S49))(A0_5:Option Addr)(c0_5:Nat)(l0_5:List (S90))(r:Int)(w:World)(hr0_3:Kd.C k113 w A0_3 l0_3.length l0_3)(hc0_3:l0_3.length≤c0_3)(hr0_4:Kd.C k49 w A0_4 l0_4.length l0_4)(hc0_4:l0_4.length≤c0_4)(hr0_5:Kd.C k90 w A0_5 l0_5.length l0_5)(hc0_5:l0_5.length≤c0_5)(h:r10sized.f k a0_0 a0_1 a0_2 l0_3 l0_4 l0_5=some r) :
  Calls Tryz.prog 43 #[.agg #[.int .i64 a0_0,.int .i64 a0_1,.string a0_2,.slice A0_3 l0_3.length c0_3,.slice A0_4 l0_4.length c0_4,.slice A0_5 l0_5.length c0_5]] w fun e w'=>e=.returned (.int .i64 r)∧Below w.heap.size w w':=by
 have hu49:=Tryz.underlying49
 have HR0_3:=ak hr0_3
 have HC0_3:=ak hc0_3
 clear hr0_3 hc0_3
 have HR0_4:=ak hr0_4
 have HC0_4:=ak hc0_4
 clear hr0_4 hc0_4
 have HR0_5:=ak hr0_5
 have HC0_5:=ak hc0_5
 clear hr0_5 hc0_5
 have HB:=ak (Below.refl w.heap.size w)
 have H:((r10Depth.f k a0_0 a0_1 a0_2 l0_3 l0_4 l0_5).bind fun t216=>(if t216 > 200 then(some 62) else((r10Size.f k a0_0 a0_1 a0_2 l0_3 l0_4 l0_5).bind fun t217=>(if t217 > 20000 then(some 221) else(some 0)))))=some r:=h
 clear h
 replace H:=iX H
 obtain⟨t216,A2,H⟩:=H
 replace H:=iH H
 rcases H with⟨c3b0,H⟩ | ⟨c3b0,H⟩
 ·obtain rfl:=Option.some.inj H
  go_enter Tryz.func43,Tryz.ntmps43
  exact r10sized.z0
 replace H:=iX H
 obtain⟨t217,A7,H⟩:=H
 replace H:=iH H
 rcases H with⟨c8b0,H⟩ | ⟨c8b0,H⟩
 ·obtain rfl:=Option.some.inj H
  go_enter Tryz.func43,Tryz.ntmps43
  exact r10sized.z0
 obtain rfl:=Option.some.inj H
 go_enter Tryz.func43,Tryz.ntmps43
 exact r10sized.z0
def r10Parts.f(a0:Int):Option (Int):=if a0=16 then(some 2) else(if a0=15 then(some 1) else(if a0=17 then(some 1) else(if a0=18 then(some 1) else(some 0))))
set_option maxHeartbeats 8000000 in
theorem r10Parts.calls(a0:Int)(r:Int)(w:World)(h:r10Parts.f a0=some r) :
  Calls Tryz.prog 47 #[.int .i64 a0] w fun e w'=>e=.returned (.int .i64 r)∧Drawn0 w w':=by
 have H:(if a0=16 then(some 2) else(if a0=15 then(some 1) else(if a0=17 then(some 1) else(if a0=18 then(some 1) else(some 0)))))=some r:=h
 clear h
 replace H:=iE H
 rcases H with⟨c2b0,c2b1,H⟩ | ⟨c2,c2b0,c2b1,H⟩
 ·obtain rfl:=Option.some.inj H
  go_enter Tryz.func47,Tryz.ntmps47
  exact zz0
 replace H:=iE H
 rcases H with⟨c3b0,c3b1,H⟩ | ⟨c3,c3b0,c3b1,H⟩
 ·obtain rfl:=Option.some.inj H
  go_enter Tryz.func47,Tryz.ntmps47
  exact zz0
 replace H:=iE H
 rcases H with⟨c4b0,c4b1,H⟩ | ⟨c4,c4b0,c4b1,H⟩
 ·obtain rfl:=Option.some.inj H
  go_enter Tryz.func47,Tryz.ntmps47
  exact zz0
 replace H:=iE H
 rcases H with⟨c5b0,c5b1,H⟩ | ⟨c5,c5b0,c5b1,H⟩
 ·obtain rfl:=Option.some.inj H
  go_enter Tryz.func47,Tryz.ntmps47
  exact zz0
 obtain rfl:=Option.some.inj H
 go_enter Tryz.func47,Tryz.ntmps47
 exact zz0
def r10Kids.f(a0:Int):Option Int:=some (kidsI a0)
theorem r10Kids.calls(a0:Int)(r:Int)(w:World)(h:r10Kids.f a0=some r) :
    Calls Tryz.prog 63 #[.int .i64 a0] w fun e w'=>e=.returned (.int .i64 r)∧Below w.heap.size w w':=by
 obtain rfl:=Option.some.inj h
 exact ref10_Kids a0 w
end
end Go.Proofs.YtahdjajdaggmjaaGreatDoor.XPd
end
section
namespace Go.Proofs.YtahdjajdaggmjaaGreatDoor.XPd
noncomputable section
open Go.RowKit Go.Proofs.YtahdjajdaggmjaaGreatDoorW.PrintWords Go.Proofs.YtahdjajdaggmjaaGreatDoorW.PrintLast Go.Proofs.YtahdjajdaggmjaaGreatDoorW.PrintMore
attribute [local go_sem] max2_int min2_int max_two min_two max_three min_three max_four min_four
set_option linter.unusedVariables false
set_option linter.unusedSimpArgs false
attribute [local go_sem high] eqA113
mutual
def r10name.l0:Nat→ByteArray→Int→Option (Bool)
  | 0,_,_=>none
  | k+1,x0,x3=>if x3<(x0.size:Int) then(if 0≤x3 then(if (bt x0 x3)≥48 then(if (bt x0 x3)≤57 then(r10name.j1 k x0 x3 (bt x0 x3) (decide (x3 > 0))) else(r10name.j1 k x0 x3 (bt x0 x3) false)) else(r10name.j1 k x0 x3 (bt x0 x3) false)) else(none)) else(some (decide ((x0.size:Int) > 0)))
def r10name.j1:Nat→ByteArray→Int→Int→Bool→Option (Bool)
  | 0,_,_,_,_=>none
  | k+1,x0,x3,x4,x23=>if x23=true then(r10name.l0 k x0 (wrap64 (x3+1))) else(if x4=95 then(r10name.l0 k x0 (wrap64 (x3+1))) else(if x4<97 then(if x4<65 then(some false) else(if x4 > 90 then(some false) else(r10name.l0 k x0 (wrap64 (x3+1))))) else(if x4 > 122 then(if x4<65 then(some false) else(if x4 > 90 then(some false) else(r10name.l0 k x0 (wrap64 (x3+1))))) else(r10name.l0 k x0 (wrap64 (x3+1))))))
end
def r10name.f(k:Nat)(a0:ByteArray):Option (Bool):=r10name.l0 k a0 0
theorem r10name.mono_l:∀k,(∀y0 y1,LeO (r10name.l0 k y0 y1) (r10name.l0 (k+1) y0 y1))∧(∀y0 y1 y2 y3,LeO (r10name.j1 k y0 y1 y2 y3) (r10name.j1 (k+1) y0 y1 y2 y3))
  | 0=>⟨fun _ _ r h=>by simp [r10name.l0] at h,fun _ _ _ _ r h=>by simp [r10name.j1] at h⟩
  | k+1=>by
    obtain⟨ih0,ih1⟩:=r10name.mono_l k
    refine⟨?_, ?_⟩
    · intros;unfold r10name.l0;exact tMo
    · intros;unfold r10name.j1;exact tMo
theorem r10name.mono:∀a0 k,LeO (r10name.f k a0) (r10name.f (k+1) a0):=by
  intro a0 k
  obtain⟨ih0,ih1⟩:=r10name.mono_l k
  unfold r10name.f
  exact tMo
set_option maxHeartbeats 8000000 in
theorem r10name.calls(k:Nat)(a0:ByteArray)(r:Bool)(w:World)(h:r10name.f k a0=some r) :
  Calls Tryz.prog 64 #[.string a0] w fun e w'=>e=.returned (.bool r)∧Drawn0 w w':=by
 have H:(r10name.l0 k a0 0)=some r:=h
 clear h
 have H':=ak H
 clear H
 go_enter Tryz.func64,Tryz.ntmps64
 go_wp2
 go_loopg [3] k (fun kq v3 w'=>∃(x3_1:Int),v3=.int .i64 x3_1∧Aside0 (r10name.l0 kq a0 x3_1=some r)∧Aside0 (kq≤k)∧Drawn0 w w')
 case atStart=>exact⟨(0),tS,H',⟨Nat.le_refl _⟩,tD⟩
 case round =>
  clear H'
  obtain⟨x3_1,rfl,HA,HK1,⟨m1,rfl⟩⟩:=hrel
  cases gk with
  | zero=>exact absurd HA.out (by simp [r10name.l0])
  | succ k1 =>
   have H:=HA.out
   clear HA
   simp only [r10name.l0] at H
   replace H:=iD H
   rcases H with⟨c2b0,H⟩ | ⟨c2b0,H⟩
   ·replace H:=niD H
    obtain⟨c3b0,H⟩:=H
    have HC5:=ak H
    clear H
    have p4:0≤(x3_1:Int):=tA
    have q4:x3_1<(a0.size:Int):=tA
    have hx4:=bt_at a0 x3_1
    replace p4:=eq_true p4
    replace q4:=eq_true q4
    go_upto_region 5 with(fail)
    go_cut [23] (fun v23 wc=>∃(kq:Nat) (x23_4:Bool),v23=.bool x23_4∧Aside0 (r10name.j1 kq a0 x3_1 (bt a0 x3_1) x23_4=some r)∧Aside0 (kq≤k1)∧Drawn0 w wc)
    case first =>
     have H:=HC5.out
     clear HC5
     replace H:=iG H
     rcases H with⟨c6b0,H⟩ | ⟨c6b0,H⟩
     ·(first | rw [c6b0] | (simp only [i64_w,i32_w];rw [c6b0]) | skip)
      replace H:=iD H
      rcases H with⟨c7b0,H⟩ | ⟨c7b0,H⟩
      ·have H':=ak H
       clear H
       go_wp2
       go_meet
       case rel=>exact⟨_,(decide (x3_1 > 0)),tS,H',⟨by have:=HK1.out;first | omega | exact Nat.le_refl _⟩,tD⟩
      exact zz2
     (first | rw [c6b0] | (simp only [i64_w,i32_w];rw [c6b0]) | skip)
     exact zz2
    case rest =>
     clear HC5
     try clear c2b0
     try clear c3b0
     try clear p4
     try clear q4
     try clear hx4
     try clear p4
     try clear q4
     obtain⟨kq,x23_4,rfl,HA,HJ4,⟨mc4,rfl⟩⟩:=hcut
     cases kq with
     | zero=>exact absurd HA.out (by simp [r10name.j1])
     | succ kj4 =>
      have H:=HA.out
      clear HA
      simp only [r10name.j1] at H
      replace H:=iB H
      rcases H with⟨rfl,H⟩ | ⟨rfl,H⟩
      ·exact zz3
      replace H:=iE H
      rcases H with⟨c9b0,c9b1,H⟩ | ⟨c9,c9b0,c9b1,H⟩
      ·exact zz3
      replace H:=iD H
      rcases H with⟨c10b0,H⟩ | ⟨c10b0,H⟩
      ·replace H:=iD H
       rcases H with⟨c11b0,H⟩ | ⟨c11b0,H⟩
       ·exact zz1
       replace H:=iH H
       rcases H with⟨c12b0,H⟩ | ⟨c12b0,H⟩
       ·exact zz1
       exact zz3
      replace H:=iH H
      rcases H with⟨c13b0,H⟩ | ⟨c13b0,H⟩
      ·replace H:=iD H
       rcases H with⟨c14b0,H⟩ | ⟨c14b0,H⟩
       ·exact zz1
       replace H:=iH H
       rcases H with⟨c15b0,H⟩ | ⟨c15b0,H⟩
       ·exact zz1
       exact zz3
      exact zz3
   exact zz1
def r02Same.l0:Nat→List (S113)→List (S113)→Int→Option (Bool)
  | 0,_,_,_=>none
  | k+1,x0,x1,x5=>if x5<(x0.length:Int) then(if 0≤x5 then(if x5<(x1.length:Int) then(if (!(((rd_T113 x0 x5).f0)==((rd_T113 x1 x5).f0))||(!(((rd_T113 x0 x5).f1)==((rd_T113 x1 x5).f1))))=true then(some false) else(r02Same.l0 k x0 x1 (wrap64 (x5+1)))) else(none)) else(none)) else(some true)
def r02Same.f(k:Nat)(l0:List (S113))(l1:List (S113)):Option (Bool):=if (l0.length:Int)=(l1.length:Int) then(r02Same.l0 k l0 l1 0) else(some false)
theorem r02Same.mono_l:∀k,(∀y0 y1 y2,LeO (r02Same.l0 k y0 y1 y2) (r02Same.l0 (k+1) y0 y1 y2))
  | 0=>fun _ _ _ r h=>by simp [r02Same.l0] at h
  | k+1=>by
    have ih0:=r02Same.mono_l k
    · intros;unfold r02Same.l0;exact tMo
theorem r02Same.mono:∀a0 a1 k,LeO (r02Same.f k a0 a1) (r02Same.f (k+1) a0 a1):=by
  intro a0 a1 k
  have ih0:=r02Same.mono_l k
  unfold r02Same.f
  exact tMo
set_option maxHeartbeats 8000000 in
theorem r02Same.calls(k:Nat)(A0:Option Addr)(c0:Nat)(l0:List (S113))(A1:Option Addr)(c1:Nat)(l1:List (S113))(r:Bool)(w:World)(hr0:Kd.C k113 w A0 l0.length l0)(hc0:l0.length≤c0)(hr1:Kd.C k113 w A1 l1.length l1)(hc1:l1.length≤c1)(h:r02Same.f k l0 l1=some r) :
  Calls Tryz.prog 51 #[.slice A0 l0.length c0,.slice A1 l1.length c1] w fun e w'=>e=.returned (.bool r)∧Drawn0 w w':=by
 have hu113:=Tryz.underlying113
 have HR0:=ak hr0
 have HC0:=ak hc0
 clear hr0 hc0
 have HR1:=ak hr1
 have HC1:=ak hc1
 clear hr1 hc1
 have H:(if (l0.length:Int)=(l1.length:Int) then(r02Same.l0 k l0 l1 0) else(some false))=some r:=h
 clear h
 replace H:=iEk H
 rcases H with⟨c3,c3b0,c3b1,H⟩ | ⟨c3,c3b0,c3b1,H⟩
 ·have c3b2:(l0.length==l1.length)=true:=by first | simpa using c3 | (simp at c3 ⊢;omega)
  clear c3
  have H':=ak H
  clear H
  go_enter Tryz.func51,Tryz.ntmps51
  go_wp2
  repeat (go_quiet (fail);try go_wp2)
  go_loopg [5] k (fun kq v5 w'=>∃(x5_1:Int),v5=.int .i64 x5_1∧Aside0 (r02Same.l0 kq l0 l1 x5_1=some r)∧Aside0 (kq≤k)∧Drawn0 w w')
  case atStart=>exact⟨(0),tS,H',⟨Nat.le_refl _⟩,tD⟩
  case round =>
   clear H'
   try clear c3
   try clear c3b0
   try clear c3b1
   try clear c3b2
   obtain⟨x5_1,rfl,HA,HK1,⟨m1,rfl⟩⟩:=hrel
   cases gk with
   | zero=>exact absurd HA.out (by simp [r02Same.l0])
   | succ k1 =>
    have H:=HA.out
    clear HA
    simp only [r02Same.l0] at H
    replace H:=iD H
    rcases H with⟨c4b0,H⟩ | ⟨c4b0,H⟩
    ·replace H:=niD H
     obtain⟨c5b0,H⟩:=H
     replace H:=niD H
     obtain⟨c6b0,H⟩:=H
     replace H:=iC H
     rcases H with⟨c7,H⟩ | ⟨c7,H⟩
     ·have c7b0:(!(((rd_T113 l0 x5_1).f0)==((rd_T113 l1 x5_1).f0))||(!(((rd_T113 l0 x5_1).f1)==((rd_T113 l1 x5_1).f1))))=true:=c7
      clear c7
      obtain rfl:=Option.some.inj H
      have p218:0≤(x5_1:Int):=tA
      have q218:x5_1<(l0.length:Int):=tA
      obtain⟨ad218,e218,hx218_0,hx218_1⟩:=at_T113 HR0.out x5_1 p218 q218
      cases e218
      replace p218:=eq_true p218
      replace q218:=eq_true q218
      have p219:0≤(x5_1:Int):=tA
      have q219:x5_1<(l1.length:Int):=tA
      obtain⟨ad219,e219,hx219_0,hx219_1⟩:=at_T113 HR1.out x5_1 p219 q219
      cases e219
      replace p219:=eq_true p219
      replace q219:=eq_true q219
      go_wp2
      repeat (go_quiet (fail);try go_wp2)
      go_ret
      exact⟨tS,tD⟩
     have c7b0:(!(((rd_T113 l0 x5_1).f0)==((rd_T113 l1 x5_1).f0))||(!(((rd_T113 l0 x5_1).f1)==((rd_T113 l1 x5_1).f1))))=false:=by simpa using c7
     clear c7
     have H':=ak H
     clear H
     have p218:0≤(x5_1:Int):=tA
     have q218:x5_1<(l0.length:Int):=tA
     obtain⟨ad218,e218,hx218_0,hx218_1⟩:=at_T113 HR0.out x5_1 p218 q218
     cases e218
     replace p218:=eq_true p218
     replace q218:=eq_true q218
     have p219:0≤(x5_1:Int):=tA
     have q219:x5_1<(l1.length:Int):=tA
     obtain⟨ad219,e219,hx219_0,hx219_1⟩:=at_T113 HR1.out x5_1 p219 q219
     cases e219
     replace p219:=eq_true p219
     replace q219:=eq_true q219
     go_wp2
     repeat (go_quiet (fail);try go_wp2)
     go_roundg k1
     case measure=>have:=HK1.out;omega
     case rel=>exact⟨(wrap64 (x5_1+1)),tS,H',⟨by have:=HK1.out;omega⟩,tD⟩
    exact zz4
 have c3b2:(l0.length==l1.length)=false:=by first | simpa using c3 | (simp at c3 ⊢;omega)
 obtain rfl:=Option.some.inj H
 go_enter Tryz.func51,Tryz.ntmps51
 go_wp2
 repeat (go_quiet (fail);try go_wp2)
 go_ret
 exact⟨tS,tD⟩
def r01power.l0:Nat→Int→Int→Int→Option (Int)
  | 0,_,_,_=>none
  | k+1,x0,x3,x4=>if x4<x0 then(r01power.l0 k x0 (wrap64 (x3 * 2)) (wrap64 (x4+1))) else(some x3)
def r01power.f(k:Nat)(a0:Int):Option (Int):=r01power.l0 k a0 1 0
theorem r01power.mono_l:∀k,(∀y0 y1 y2,LeO (r01power.l0 k y0 y1 y2) (r01power.l0 (k+1) y0 y1 y2))
  | 0=>fun _ _ _ r h=>by simp [r01power.l0] at h
  | k+1=>by
    have ih0:=r01power.mono_l k
    · intros;unfold r01power.l0;exact tMo
theorem r01power.mono:∀a0 k,LeO (r01power.f k a0) (r01power.f (k+1) a0):=by
  intro a0 k
  have ih0:=r01power.mono_l k
  unfold r01power.f
  exact tMo
set_option maxHeartbeats 8000000 in
theorem r01power.calls(k:Nat)(a0:Int)(r:Int)(w:World)(h:r01power.f k a0=some r) :
  Calls Tryz.prog 112 #[.int .i64 a0] w fun e w'=>e=.returned (.int .i64 r)∧Drawn0 w w':=by
 have H:(r01power.l0 k a0 1 0)=some r:=h
 clear h
 have H':=ak H
 clear H
 go_enter Tryz.func112,Tryz.ntmps112
 go_wp2
 go_loopg [3,4] k (fun kq v3 v4 w'=>∃(x3_1:Int) (x4_1:Int),v3=.int .i64 x3_1∧v4=.int .i64 x4_1∧Aside0 (r01power.l0 kq a0 x3_1 x4_1=some r)∧Aside0 (kq≤k)∧Drawn0 w w')
 case atStart=>exact⟨(1),(0),tS,tS,H',⟨Nat.le_refl _⟩,tD⟩
 case round =>
  clear H'
  obtain⟨x3_1,x4_1,rfl,rfl,HA,HK1,⟨m1,rfl⟩⟩:=hrel
  cases gk with
  | zero=>exact absurd HA.out (by simp [r01power.l0])
  | succ k1 =>
   have H:=HA.out
   clear HA
   simp only [r01power.l0] at H
   replace H:=iD H
   rcases H with⟨c2b0,H⟩ | ⟨c2b0,H⟩
   ·have H':=ak H
    clear H
    go_wp2
    go_roundg k1
    case measure=>have:=HK1.out;omega
    case rel=>exact⟨(wrap64 (x3_1 * 2)),(wrap64 (x4_1+1)),tS,tS,H',⟨by have:=HK1.out;omega⟩,tD⟩
   exact zz1
def r01Right.f(k:Nat)(a0:Int):Option (Bool):=(r01power.f k 24).bind fun t220=>(some (decide ((wrap64 (a0))<t220)))
set_option maxHeartbeats 8000000 in
theorem r01Right.calls(k:Nat)(a0:Int)(r:Bool)(w:World)(h:r01Right.f k a0=some r) :
  Calls Tryz.prog 110 #[.int .u32 a0] w fun e w'=>e=.returned (.bool r)∧Drawn0 w w':=by
 have H:((r01power.f k 24).bind fun t220=>(some (decide ((wrap64 (a0))<t220))))=some r:=h
 clear h
 replace H:=iX H
 obtain⟨t220,A2,H⟩:=H
 obtain rfl:=Option.some.inj H
 go_enter Tryz.func110,Tryz.ntmps110
 go_wp2_with (first | ((with_reducible refine gf_ 112 rfl ?_);refine gC_ (some 5) Tryz.func112 #[.int .i64 24] ?_;(with_reducible refine(r01power.calls k 24 t220 _ A2.out).mono ?_);rintro e w' ⟨rfl,⟨nd,rfl⟩⟩;refine⟨_,rfl, ?_⟩))
 go_ret
 exact⟨tS,tD⟩
def r02Right.f(k:Nat)(a0_0:Int)(a0_1:Int):Option (Bool):=(r01Right.f k a0_0).bind fun t222=>(if t222=true then((r01Right.f k a0_1).bind fun t223=>(some t223)) else(some false))
theorem r02Right.z0{p:Prop}(h_:p:=by go_wp2_with (first | ((with_reducible refine gd_ 1 rfl ?_);refine boxE 1 #[.int .u32 a0_0,.int .u32 a0_1] 113 ?_;intro gb221 hg wa hbox hb;have BK221:=ak (hbox);have GW221:=ak (tG:w.heap.size≤gb221);have GE221:=ak (tG:w.heap.size≤gb221);replace HB:=ak (below_step tB hb);clear hb hbox hg;have hcza:=cz2 BK221.out) | ((with_reducible refine gf_ 110 rfl ?_);refine gC_ (some 5) Tryz.func110 #[.int .u32 a0_0] ?_;(with_reducible refine(r01Right.calls k a0_0 false _ A2.out).mono ?_);rintro e w' ⟨rfl,⟨nd,rfl⟩⟩;refine⟨_,rfl, ?_⟩) | ((with_reducible refine gf_ 110 rfl ?_);refine gC_ (some 5) Tryz.func110 #[.int .u32 a0_0] ?_;(with_reducible refine(r01Right.calls k a0_0 true _ A2.out).mono ?_);rintro e w' ⟨rfl,⟨nd,rfl⟩⟩;refine⟨_,rfl, ?_⟩) | (go_at_call 110;(with_reducible refine(r01Right.calls k a0_1 t223 _ A4.out).mono ?_);rintro e w' ⟨rfl,⟨nd,rfl⟩⟩));go_ret;exact⟨tE,by repeat (first | (with_reducible first | exact HB.out | apply below_alloc | apply pw_below_drewN | apply below_drew1 | refine below_set ?_ GE221.out) | exact HB.out)⟩):p:=h_
set_option maxHeartbeats 8000000 in
theorem r02Right.calls(k:Nat)(a0_0:Int)(a0_1:Int)(r:Bool)(w:World)(h:r02Right.f k a0_0 a0_1=some r) :
  Calls Tryz.prog 98 #[.agg #[.int .u32 a0_0,.int .u32 a0_1]] w fun e w'=>e=.returned (.bool r)∧Below w.heap.size w w':=by
 have hu113:=Tryz.underlying113
 have HB:=ak (Below.refl w.heap.size w)
 have H:((r01Right.f k a0_0).bind fun t222=>(if t222=true then((r01Right.f k a0_1).bind fun t223=>(some t223)) else(some false)))=some r:=h
 clear h
 replace H:=iX H
 obtain⟨t222,A2,H⟩:=H
 replace H:=iB H
 rcases H with⟨rfl,H⟩ | ⟨rfl,H⟩
 ·replace H:=iX H
  obtain⟨t223,A4,H⟩:=H
  obtain rfl:=Option.some.inj H
  go_enter Tryz.func98,Tryz.ntmps98
  exact r02Right.z0
 obtain rfl:=Option.some.inj H
 go_enter Tryz.func98,Tryz.ntmps98
 exact r02Right.z0
def r02Below.f(a0_0:Int)(a0_1:Int)(a1_0:Int)(a1_1:Int):Option (Bool):=if (Go.bits .or .u32 a0_0 a1_0)=a0_0 then(some ((Go.bits .or .u32 a0_1 a1_1)==a0_1)) else(some false)
theorem r02Below.z0{p:Prop}(h_:p:=by go_wp2_with (first | ((with_reducible refine gd_ 2 rfl ?_);refine boxE 2 #[.int .u32 a0_0,.int .u32 a0_1] 113 ?_;intro gb224 hg wa hbox hb;have BK224:=ak (hbox);have GW224:=ak (tG:w.heap.size≤gb224);have GE224:=ak (tG:w.heap.size≤gb224);replace HB:=ak (below_step tB hb);clear hb hbox hg) | ((with_reducible refine gd_ 3 rfl ?_);refine boxE 3 #[.int .u32 a1_0,.int .u32 a1_1] 113 ?_;intro gb225 hg wa hbox hb;have BK225:=ak (hbox);have GW225:=ak ((by rw [hg];exact(below_size (tBs GE224)):w.heap.size≤gb225));have GE225:=ak ((by rw [hg];exact(below_size (tBs GE224)):w.heap.size≤gb225));replace HB:=ak (below_step (tBs GE224) hb);have NB224_225:=ak ((by rw [hg];exact Nat.ne_of_lt (blk_lt (g:=gb224) (o:=.cells #[.int .u32 a0_0,.int .u32 a0_1] 113 (0,0)) (tK BK224)):gb224≠gb225));have NB225_224:=ak ((by rw [hg];exact Nat.ne_of_gt (blk_lt (g:=gb224) (o:=.cells #[.int .u32 a0_0,.int .u32 a0_1] 113 (0,0)) (tK BK224)):gb225≠gb224));replace BK224:=ak (blk_below (g:=gb224) (o:=.cells #[.int .u32 a0_0,.int .u32 a0_1] 113 (0,0)) (tK BK224) hb);clear hb hbox hg;have hnba:=NB224_225.out;have hnca:=NB225_224.out;have hcza:=cz2 BK224.out;have hczb:=cz2 BK225.out));go_ret;exact⟨tE,by repeat (first | (with_reducible first | exact HB.out | apply below_alloc | apply pw_below_drewN | apply below_drew1 | refine below_set ?_ GE224.out | refine below_set ?_ GE225.out) | exact HB.out)⟩):p:=h_
set_option maxHeartbeats 8000000 in
theorem r02Below.calls(a0_0:Int)(a0_1:Int)(a1_0:Int)(a1_1:Int)(r:Bool)(w:World)(h:r02Below.f a0_0 a0_1 a1_0 a1_1=some r) :
  Calls Tryz.prog 111 #[.agg #[.int .u32 a0_0,.int .u32 a0_1],.agg #[.int .u32 a1_0,.int .u32 a1_1]] w fun e w'=>e=.returned (.bool r)∧Below w.heap.size w w':=by
 have hu113:=Tryz.underlying113
 have HB:=ak (Below.refl w.heap.size w)
 have H:(if (Go.bits .or .u32 a0_0 a1_0)=a0_0 then(some ((Go.bits .or .u32 a0_1 a1_1)==a0_1)) else(some false))=some r:=h
 clear h
 replace H:=iE H
 rcases H with⟨c3b0,c3b1,H⟩ | ⟨c3,c3b0,c3b1,H⟩
 ·obtain rfl:=Option.some.inj H
  go_enter Tryz.func111,Tryz.ntmps111
  exact r02Below.z0
 obtain rfl:=Option.some.inj H
 go_enter Tryz.func111,Tryz.ntmps111
 exact r02Below.z0
end
end Go.Proofs.YtahdjajdaggmjaaGreatDoor.XPd
end
