-- Written for this claim by a program of ours (wip/xp.py),out of the translation and of hand-written contracts.
import Derived.Test.YtahdjajdaggmjaaGreatDoorShz
set_option maxRecDepth 100000
section
namespace Go.Proofs.YtahdjajdaggmjaaGreatDoor.XPd
noncomputable section
open Go.RowKit Go.Proofs.YtahdjajdaggmjaaGreatDoorW.PrintWords Go.Proofs.YtahdjajdaggmjaaGreatDoorW.PrintLast Go.Proofs.YtahdjajdaggmjaaGreatDoorW.PrintMore
attribute [local go_sem] max2_int min2_int max_two min_two max_three min_three max_four min_four
set_option linter.unusedVariables false
set_option linter.unusedSimpArgs false
def pack_Sum.l0:Nat→Int→List Int→Int→Int→Option (Int)
  | 0,_,_,_,_=>none
  | k+1,x3,x6,x7,x8=>if x8<x7 then(if 0≤x8 then(if x8<(x6.length:Int) then(pack_Sum.l0 k (((Go.bits .xor .u32 x3 ((rd x6 x8) % 4294967296)) * 16777619) % 4294967296) x6 x7 (wrap64 (x8+1))) else(none)) else(none)) else(some x3)
def pack_Sum.f(k:Nat)(l0:List Int):Option (Int):=pack_Sum.l0 k 2166136261 l0 (l0.length:Int) 0
theorem pack_Sum.mono_l:∀k,(∀y0 y1 y2 y3,LeO (pack_Sum.l0 k y0 y1 y2 y3) (pack_Sum.l0 (k+1) y0 y1 y2 y3))
  | 0=>fun _ _ _ _ r h=>by simp [pack_Sum.l0] at h
  | k+1=>by
    have ih0:=pack_Sum.mono_l k
    · intros;unfold pack_Sum.l0;exact tMo
theorem pack_Sum.mono:∀a0 k,LeO (pack_Sum.f k a0) (pack_Sum.f (k+1) a0):=by
  intro a0 k
  have ih0:=pack_Sum.mono_l k
  unfold pack_Sum.f
  exact tMo
set_option maxHeartbeats 8000000 in
theorem pack_Sum.calls(k:Nat)(A0:Option Addr)(c0:Nat)(l0:List Int)(r:Int)(w:World)(hr0:Kd.C (Kd.int .u8) w A0 l0.length l0)(hc0:l0.length≤c0)(h:pack_Sum.f k l0=some r) :
  Calls Tryz.prog 11 #[.slice A0 l0.length c0] w fun e w'=>e=.returned (.int .u32 r)∧Drawn0 w w':=by
 have HR0:=ak hr0
 have HC0:=ak hc0
 clear hr0 hc0
 have H:(pack_Sum.l0 k 2166136261 l0 (l0.length:Int) 0)=some r:=h
 clear h
 have H':=ak H
 clear H
 go_enter Tryz.func11,Tryz.ntmps11
 go_wp2
 go_loopg [3,8] k (fun kq v3 v8 w'=>∃(x3_1:Int) (x8_1:Int),v3=.int .u32 x3_1∧v8=.int .i64 x8_1∧Aside0 (pack_Sum.l0 kq x3_1 l0 (l0.length:Int) x8_1=some r)∧Aside0 (kq≤k)∧Drawn0 w w')
 case atStart=>exact⟨(2166136261),(0),tS,tS,H',⟨Nat.le_refl _⟩,tD⟩
 case round =>
  clear H'
  obtain⟨x3_1,x8_1,rfl,rfl,HA,HK1,⟨m1,rfl⟩⟩:=hrel
  cases gk with
  | zero=>exact absurd HA.out (by simp [pack_Sum.l0])
  | succ k1 =>
   have H:=HA.out
   clear HA
   simp only [pack_Sum.l0] at H
   replace H:=iD H
   rcases H with⟨c2b0,H⟩ | ⟨c2b0,H⟩
   ·replace H:=niD H
    obtain⟨c3b0,H⟩:=H
    replace H:=niD H
    obtain⟨c4b0,H⟩:=H
    have H':=ak H
    clear H
    have p101:0≤(x8_1:Int):=tA
    have q101:x8_1<(l0.length:Int):=tA
    obtain⟨ad101,e101,hx101_0⟩:=Kd.at_int HR0.out x8_1 p101 q101
    cases e101
    replace p101:=eq_true p101
    replace q101:=eq_true q101
    go_wp2
    go_roundg k1
    case measure=>have:=HK1.out;omega
    case rel=>exact⟨(((Go.bits .xor .u32 x3_1 ((rd l0 x8_1) % 4294967296)) * 16777619) % 4294967296),(wrap64 (x8_1+1)),tS,tS,H',⟨by have:=HK1.out;omega⟩,tD⟩
   exact zz1
def pa_sealed.f(k:Nat)(l0:List Int):Option (List Int):=(pack_Sum.f k l0).bind fun t102=>((some (([(t102 / 16777216) % 256,(t102 / 65536) % 256,(t102 / 256) % 256,(t102) % 256]:List Int):List Int)).bind fun y103=>(if l0.length+y103.length<140737488355328 then(some (l0++y103)) else(none)))
theorem pa_sealed.mono:∀a0 k,LeO (pa_sealed.f k a0) (pa_sealed.f (k+1) a0):=by
  intro a0 k
  unfold pa_sealed.f
  have m0_:=@pack_Sum.mono
  exact tMo
set_option maxHeartbeats 8000000 in
theorem pa_sealed.calls(k:Nat)(P0_:Nat→Prop)(u9000_:Value)(l0:List Int)(r:List Int)(w0 w:World)(hB:Below w0.heap.size w0 w)(ho0:Kd.R (Kd.int .u8) 5 w w0.heap.size P0_ u9000_ l0)(h:pa_sealed.f k l0=some r) :
  Calls Tryz.prog 22 #[u9000_] w fun e w'=>∃v0_:Value,e=.returned (v0_)∧Kd.R (Kd.int .u8) 5 w' w0.heap.size (fun k_=>(P0_ k_∨w.heap.size≤k_)) v0_ r∧Below w0.heap.size w0 w'∧Kept w w' (fun k_=>P0_ k_):=by
 have HO0:=ak (show Kd.R (Kd.int .u8) 5 w w0.heap.size (fun k_=>(P0_ k_∨w.heap.size≤k_)) u9000_ l0 from Kd.R_mono ho0 (fun k_ hk=>(.inl hk)))
 have HK:=ak (Kept.refl w (fun k_=>P0_ k_))
 have HW0:=ak hB.size
 have HB:=ak hB
 clear hB
 have H:((pack_Sum.f k l0).bind fun t102=>((some (([(t102 / 16777216) % 256,(t102 / 65536) % 256,(t102 / 256) % 256,(t102) % 256]:List Int):List Int)).bind fun y103=>(if l0.length+y103.length<140737488355328 then(some (l0++y103)) else(none))))=some r:=h
 clear h
 replace H:=iX H
 obtain⟨t102,A2,H⟩:=H
 obtain⟨y103,hy103⟩:∃y_:List Int,y_=(([(t102 / 16777216) % 256,(t102 / 65536) % 256,(t102 / 256) % 256,(t102) % 256]:List Int)):=⟨_,rfl⟩
 replace H:(if l0.length+y103.length<140737488355328 then(some (l0++y103)) else(none))=some r:=tY hy103 H
 have Ny103:=ak hy103
 clear hy103
 replace H:=niC H
 obtain⟨c3,H⟩:=H
 have LMc3:=ak c3
 clear c3
 obtain⟨y106,hy106⟩:∃y_:List Int,y_=(l0++y103):=⟨_,rfl⟩
 replace H:(some y106)=some r:=tY hy106 H
 have Ny106:=ak hy106
 clear hy106
 obtain rfl:=Option.some.inj H
 obtain⟨Aoh0,coh0,eoh0⟩:=Kd.R_slice HO0.out
 subst eoh0
 go_enter Tryz.func22,Tryz.ntmps22
 go_wp2_with (first | ((with_reducible refine gf_ 11 rfl ?_);refine gC_ (some 5) Tryz.func11 #[.slice Aoh0 l0.length coh0] ?_;(with_reducible refine(pack_Sum.calls k _ _ l0 t102 _ ?side1 ?side2 A2.out).mono ?_);(case side1=>exact tCr HO0);(case side2=>exact(Kd.R_reads' HO0.out).2.1);rintro e w' ⟨rfl,⟨nd,rfl⟩⟩;refine⟨_,rfl, ?_⟩) | ((with_reducible refine gate_dst (N:=18) rfl ?_);refine Kd.R_lit (Kd.int .u8) _ 5 ?hg (N:=18) ?hd (xs:=([(t102 / 16777216) % 256,(t102 / 65536) % 256,(t102 / 256) % 256,(t102) % 256]:List Int)) (inner:=[.int .u8 ((t102 / 16777216) % 256),.int .u8 ((t102 / 65536) % 256),.int .u8 ((t102 / 256) % 256),.int .u8 ((t102) % 256)]) (ok:=fun _=>True) (okp:=fun _=>True) ?hr ?hp (fun _ hk=>hk) trivial (Below.refl _ _) (Nat.le_refl _) (by simp) ?_;(case hd=>rfl);(case hg=>rfl);(case hr=>first | (go_simp;done) | (go_simp;rfl));(case hp=>exact(Reps.one (show Kd.M (Kd.int .u8) _ _ _ ((t102 / 16777216) % 256) [.int .u8 ((t102 / 16777216) % 256)] from rfl) (Reps.one (show Kd.M (Kd.int .u8) _ _ _ ((t102 / 65536) % 256) [.int .u8 ((t102 / 65536) % 256)] from rfl) (Reps.one (show Kd.M (Kd.int .u8) _ _ _ ((t102 / 256) % 256) [.int .u8 ((t102 / 256) % 256)] from rfl) (Reps.one (show Kd.M (Kd.int .u8) _ _ _ ((t102) % 256) [.int .u8 ((t102) % 256)] from rfl) (Reps.none _ _))))));intro v104 w5 ho6 hb hg_ hnew_;clear hg_ hnew_;(first | rw [←Ny103.out] at ho6 | (simp only [Int.reduceToNat] at ho6;rw [←Ny103.out] at ho6));have HO105:=ak (Kd.R_lower (Kd.R_new' (Kd.R_newM (M:=fun k_=>(P0_ k_∨w.heap.size≤k_)) ho6 (by first | exact HK.out.1 | exact(show Kept w _ (fun k_=>P0_ k_) from tKe).1) (fun k_ h_=>.inr h_)) (Kd.R_lt (tR HO0))) (below_size tB));replace HO0:=ak (Kd.R_elder' (tR HO0) (Kd.R_base ho6) hb);replace HK:=ak (Kept.below (S:=(fun k_=>P0_ k_)) tKe hb);replace HB:=ak (below_step tB hb);clear hb ho6;obtain⟨Aoh105,coh105,eoh105⟩:=Kd.R_slice HO105.out;subst eoh105) | ((with_reducible refine gate_builtin (b:=.append) (xs:=#[.tmp 6,.tmp 18]) rfl ?_);at_builtin;refine Kd.R_append_rows (Kd.int .u8) (w0:=w0) w0.heap.size rfl (.tmp 6) (.tmp 18) 23 5 (.int .u8 0) 1 rfl Tryz.underlying23 info5 rfl (by decide) (by omega) (.slice Aoh0 l0.length coh0) l0 y103 _ _ _ (fun k_=>(P0_ k_∨w.heap.size≤k_)∧some k_≠(.slice Aoh105 y103.length coh105:Value).ownBlock) (fun _=>False) rfl rfl ?aO ?aR (fun _ _ h=>h) (fun _ h=>h.elim) ?aF ?aB ?aS ?aL ?_;(case aR=>exact tCr HO105);(case aB=>exact tB);(case aF=>exact(fun k_ hk=>⟨(.inr (Nat.le_trans (by first | exact HK.out.1 | exact(show Kept w _ (fun k_=>P0_ k_) from tKe).1) hk)),Kd.fresh' (Kd.R_lt (tR HO105)) k_ hk⟩));(case aO=>exact(tR HO0));(case aS=>exact(below_size tB));(case aL=>have:=LMc3.out;omega);intro v107 w7 ho hb hg hat;rw [←Ny106.out] at ho;replace HO105:=ak (Kd.R_after (ok:=(fun k_=>(P0_ k_∨w.heap.size≤k_))) (by (with_reducible repeat (first | apply Kd.R_alloc | apply Kd.R_drewN | apply Kd.R_drew));exact Kd.R_mono HO105.out (fun _ hk=>⟨hk.1.1,hk.2⟩)) hg hat);replace HB:=ak (hb);replace HK:=ak (Kept.of_grown (S:=(fun k_=>P0_ k_)) hg tKe (fun k_ e_=>(HO0.out.1 k_ e_).1));have HO108:=ak (ho);clear HO0 ho hb hg hat))
 go_ret
 exact⟨_,tE,by (with_reducible repeat (first | apply Kd.R_alloc | apply Kd.R_drewN | apply Kd.R_drew));exact Kd.R_mono HO108.out (fun _ hk=>hk.1),tB,tKe⟩
def ut_Decode1.f(a0:ByteArray):Option (Int×Int):=some (((Lib.decodeGo a0).1:Int),((Lib.decodeGo a0).2:Int))
theorem ut_Decode1.calls(a0:ByteArray)(r1:Int)(r2:Int)(w:World)(HT:Aside0 (Tab w))(h:ut_Decode1.f a0=some (r1,r2)) :
    Calls Tryz.prog 72 #[.string a0] w fun e w'=>e=.returned (.tuple #[.int .i32 r1,.int .i64 r2])∧Below w.heap.size w w':=by
 have h':=Option.some.inj h
 obtain⟨rfl,rfl⟩:=Prod.mk.inj h'
 exact ut_Decode a0 w HT.out
def st_HasPre1.f(a0:ByteArray)(a1:ByteArray):Option (Bool):=if (a0.size:Int)≥(a1.size:Int) then(if 0≤(a1.size:Int) then(if (a1.size:Int)≤(a0.size:Int) then(some ((a0.extract 0 ((a1.size:Int):Int).toNat).toList==a1.toList)) else(none)) else(none)) else(some false)
set_option maxHeartbeats 8000000 in
theorem st_HasPre1.calls(a0:ByteArray)(a1:ByteArray)(r:Bool)(w:World)(h:st_HasPre1.f a0 a1=some r) :
  Calls Tryz.prog 107 #[.string a0,.string a1] w fun e w'=>e=.returned (.bool r)∧Drawn0 w w':=by
 have H:(if (a0.size:Int)≥(a1.size:Int) then(if 0≤(a1.size:Int) then(if (a1.size:Int)≤(a0.size:Int) then(some ((a0.extract 0 ((a1.size:Int):Int).toNat).toList==a1.toList)) else(none)) else(none)) else(some false))=some r:=h
 clear h
 replace H:=iGkk H
 rcases H with⟨c3,c3b0,H⟩ | ⟨c3,c3b0,H⟩
 ·have c3b1:decide (a1.size≤a0.size)=true:=decide_eq_true (Int.ofNat_le.mp c3)
  clear c3
  replace H:=niT H
  obtain⟨c4b0,c4b1,H⟩:=H
  replace H:=niT H
  obtain⟨c5b0,c5b1,H⟩:=H
  obtain rfl:=Option.some.inj H
  go_enter Tryz.func107,Tryz.ntmps107
  exact zz0
 have c3b1:decide (a1.size≤a0.size)=false:=decide_eq_false (fun h=>c3 (Int.ofNat_le.mpr h))
 clear c3
 obtain rfl:=Option.some.inj H
 go_enter Tryz.func107,Tryz.ntmps107
 exact zz0
def st_HasPre.f(a0:ByteArray)(a1:ByteArray):Option (Bool):=(st_HasPre1.f a0 a1).bind fun t109=>(some t109)
set_option maxHeartbeats 8000000 in
theorem st_HasPre.calls(a0:ByteArray)(a1:ByteArray)(r:Bool)(w:World)(h:st_HasPre.f a0 a1=some r) :
  Calls Tryz.prog 90 #[.string a0,.string a1] w fun e w'=>e=.returned (.bool r)∧Drawn0 w w':=by
 have H:((st_HasPre1.f a0 a1).bind fun t109=>(some t109))=some r:=h
 clear h
 replace H:=iX H
 obtain⟨t109,A3,H⟩:=H
 obtain rfl:=Option.some.inj H
 go_enter Tryz.func90,Tryz.ntmps90
 go_wp2_with (first | ((with_reducible refine gf_ 107 rfl ?_);refine gC_ (some 7) Tryz.func107 #[.string a0,.string a1] ?_;(with_reducible refine(st_HasPre1.calls a0 a1 t109 _ A3.out).mono ?_);rintro e w' ⟨rfl,⟨nd,rfl⟩⟩;refine⟨_,rfl, ?_⟩))
 go_ret
 exact⟨tS,tD⟩
theorem hpre_f(a b:ByteArray):st_HasPre.f a b=some (hpre a b):=by
  unfold st_HasPre.f st_HasPre1.f
  by_cases h:b.size≤a.size
  · rw [if_pos (by omega),if_pos (by omega),if_pos (by omega),Int.toNat_natCast,hpre_eq a b]
    rfl
  · rw [if_neg (by omega),hpre_short a b h]
    rfl
theorem hpre_calls(a b:ByteArray)(w:World):Calls Tryz.prog 90 #[.string a,.string b] w fun e w'=>e=.returned (.bool (hpre a b))∧Below w.heap.size w w':=by
  refine(st_HasPre.calls a b _ w (hpre_f a b)).mono ?_
  rintro e w' ⟨rfl,hd⟩
  exact⟨rfl,hd.below⟩
def le_past.f(a0:ByteArray)(a1:Int):Option Int:=if a0.size≤1000000∧0≤a1∧a1≤a0.size then some ((a1.toNat+skip false (a0.data.toList.drop a1.toNat):Nat):Int) else none
theorem le_past.calls(a0:ByteArray)(a1:Int)(r:Int)(w:World)(h:le_past.f a0 a1=some r) :
    Calls Tryz.prog 73 #[.string a0,.int .i64 a1] w fun e w'=>e=.returned (.int .i64 r)∧Below w.heap.size w w':=by
 unfold le_past.f at h
 by_cases hr:a0.size≤1000000∧0≤a1∧a1≤a0.size
 ·rw [if_pos hr] at h
  obtain rfl:=Option.some.inj h
  have hc:=le_past1 hpre_calls a0 a1.toNat w hr.1 (by omega)
  rw [show((a1.toNat:Nat):Int)=a1 by omega] at hc
  exact hc
 ·rw [if_neg hr] at h
  exact absurd h (by simp)
def le_letter.f(a0:Int):Option (Bool):=if a0≥97 then(if a0≤122 then(some true) else(if a0≥65 then(if a0≤90 then(some true) else(some (a0==95))) else(some (a0==95)))) else(if a0≥65 then(if a0≤90 then(some true) else(some (a0==95))) else(some (a0==95)))
set_option maxHeartbeats 8000000 in
theorem le_letter.calls(a0:Int)(r:Bool)(w:World)(h:le_letter.f a0=some r) :
  Calls Tryz.prog 108 #[.int .u8 a0] w fun e w'=>e=.returned (.bool r)∧Drawn0 w w':=by
 have H:(if a0≥97 then(if a0≤122 then(some true) else(if a0≥65 then(if a0≤90 then(some true) else(some (a0==95))) else(some (a0==95)))) else(if a0≥65 then(if a0≤90 then(some true) else(some (a0==95))) else(some (a0==95))))=some r:=h
 clear h
 replace H:=iG H
 rcases H with⟨c2b0,H⟩ | ⟨c2b0,H⟩
 ·replace H:=iD H
  rcases H with⟨c3b0,H⟩ | ⟨c3b0,H⟩
  ·obtain rfl:=Option.some.inj H
   go_enter Tryz.func108,Tryz.ntmps108
   exact zz0
  replace H:=iG H
  rcases H with⟨c4b0,H⟩ | ⟨c4b0,H⟩
  ·replace H:=iD H
   rcases H with⟨c5b0,H⟩ | ⟨c5b0,H⟩
   ·obtain rfl:=Option.some.inj H
    go_enter Tryz.func108,Tryz.ntmps108
    exact zz0
   obtain rfl:=Option.some.inj H
   go_enter Tryz.func108,Tryz.ntmps108
   exact zz0
  obtain rfl:=Option.some.inj H
  go_enter Tryz.func108,Tryz.ntmps108
  exact zz0
 replace H:=iG H
 rcases H with⟨c6b0,H⟩ | ⟨c6b0,H⟩
 ·replace H:=iD H
  rcases H with⟨c7b0,H⟩ | ⟨c7b0,H⟩
  ·obtain rfl:=Option.some.inj H
   go_enter Tryz.func108,Tryz.ntmps108
   exact zz0
  obtain rfl:=Option.some.inj H
  go_enter Tryz.func108,Tryz.ntmps108
  exact zz0
 obtain rfl:=Option.some.inj H
 go_enter Tryz.func108,Tryz.ntmps108
 exact zz0
def le_name.l0:Nat→ByteArray→Int→Option (Int)
  | 0,_,_=>none
  | k+1,x0,x3=>if x3<(x0.size:Int) then(if 0≤x3 then((le_letter.f (bt x0 x3)).bind fun t110=>(if t110=true then(le_name.l0 k x0 (wrap64 (x3+1))) else(if x3 > 0 then(if (bt x0 x3)≥48 then(if (bt x0 x3)≤57 then(le_name.l0 k x0 (wrap64 (x3+1))) else(some x3)) else(some x3)) else(some x3)))) else(none)) else(some x3)
def le_name.f(k:Nat)(a0:ByteArray):Option (Int):=le_name.l0 k a0 0
theorem le_name.z0{p:Prop}(h_:p:=by (first | (obtain rfl:=Option.some.inj H) | (have H':=ak H;clear H));(try (have p4:0≤(x3_1:Int):=tA;have q4:x3_1<(a0.size:Int):=tA;have hx4:=bt_at a0 x3_1;replace p4:=eq_true p4;replace q4:=eq_true q4));go_wp2_with (first | (go_at_call 108;(with_reducible refine(le_letter.calls (bt a0 x3_1) false _ A5.out).mono ?_);rintro e w' ⟨rfl,⟨nd,rfl⟩⟩;have p8:0≤(x3_1:Int):=tA;have q8:x3_1<(a0.size:Int):=tA;have hx8:=bt_at a0 x3_1;replace p8:=eq_true p8;replace q8:=eq_true q8;have p10:0≤(x3_1:Int):=tA;have q10:x3_1<(a0.size:Int):=tA;have hx10:=bt_at a0 x3_1;replace p10:=eq_true p10;replace q10:=eq_true q10));first | (go_ret;exact⟨tS,tD⟩) | (go_roundg k1;(case measure=>have:=HK1.out;omega);(case rel=>exact⟨(wrap64 (x3_1+1)),tS,H',⟨by have:=HK1.out;omega⟩,tD⟩))):p:=h_
set_option maxHeartbeats 8000000 in
theorem le_name.calls(k:Nat)(a0:ByteArray)(r:Int)(w:World)(h:le_name.f k a0=some r) :
  Calls Tryz.prog 91 #[.string a0] w fun e w'=>e=.returned (.int .i64 r)∧Drawn0 w w':=by
 have H:(le_name.l0 k a0 0)=some r:=h
 clear h
 have H':=ak H
 clear H
 go_enter Tryz.func91,Tryz.ntmps91
 go_wp2
 go_loopg [3] k (fun kq v3 w'=>∃(x3_1:Int),v3=.int .i64 x3_1∧Aside0 (le_name.l0 kq a0 x3_1=some r)∧Aside0 (kq≤k)∧Drawn0 w w')
 case atStart=>exact⟨(0),tS,H',⟨Nat.le_refl _⟩,tD⟩
 case round =>
  clear H'
  obtain⟨x3_1,rfl,HA,HK1,⟨m1,rfl⟩⟩:=hrel
  cases gk with
  | zero=>exact absurd HA.out (by simp [le_name.l0])
  | succ k1 =>
   have H:=HA.out
   clear HA
   simp only [le_name.l0] at H
   replace H:=iD H
   rcases H with⟨c2b0,H⟩ | ⟨c2b0,H⟩
   ·replace H:=niD H
    obtain⟨c3b0,H⟩:=H
    replace H:=iX H
    obtain⟨t110,A5,H⟩:=H
    replace H:=iB H
    rcases H with⟨rfl,H⟩ | ⟨rfl,H⟩
    ·have H':=ak H
     clear H
     have p4:0≤(x3_1:Int):=tA
     have q4:x3_1<(a0.size:Int):=tA
     have hx4:=bt_at a0 x3_1
     replace p4:=eq_true p4
     replace q4:=eq_true q4
     go_wp2_with (first | (go_at_call 108;(with_reducible refine(le_letter.calls (bt a0 x3_1) true _ A5.out).mono ?_);rintro e w' ⟨rfl,⟨nd,rfl⟩⟩))
     go_roundg k1
     case measure=>have:=HK1.out;omega
     case rel=>exact⟨(wrap64 (x3_1+1)),tS,H',⟨by have:=HK1.out;omega⟩,tD⟩
    replace H:=iH H
    rcases H with⟨c7b0,H⟩ | ⟨c7b0,H⟩
    ·replace H:=iG H
     rcases H with⟨c9b0,H⟩ | ⟨c9b0,H⟩
     ·replace H:=iD H
      rcases H with⟨c11b0,H⟩ | ⟨c11b0,H⟩
      ·exact le_name.z0
      exact le_name.z0
     obtain rfl:=Option.some.inj H
     have p4:0≤(x3_1:Int):=tA
     have q4:x3_1<(a0.size:Int):=tA
     have hx4:=bt_at a0 x3_1
     replace p4:=eq_true p4
     replace q4:=eq_true q4
     go_wp2_with (first | (go_at_call 108;(with_reducible refine(le_letter.calls (bt a0 x3_1) false _ A5.out).mono ?_);rintro e w' ⟨rfl,⟨nd,rfl⟩⟩;have p8:0≤(x3_1:Int):=tA;have q8:x3_1<(a0.size:Int):=tA;have hx8:=bt_at a0 x3_1;replace p8:=eq_true p8;replace q8:=eq_true q8))
     go_ret
     exact⟨tS,tD⟩
    obtain rfl:=Option.some.inj H
    have p4:0≤(x3_1:Int):=tA
    have q4:x3_1<(a0.size:Int):=tA
    have hx4:=bt_at a0 x3_1
    replace p4:=eq_true p4
    replace q4:=eq_true q4
    go_wp2_with (first | (go_at_call 108;(with_reducible refine(le_letter.calls (bt a0 x3_1) false _ A5.out).mono ?_);rintro e w' ⟨rfl,⟨nd,rfl⟩⟩))
    go_ret
    exact⟨tS,tD⟩
   exact zz1
theorem letter_f(c:UInt8):le_letter.f (c.toNat:Int)=some (letB c):=by
  unfold le_letter.f letB
  have h95:((c.toNat:Int)==95)=(c.toNat==95):=by
    rw [Bool.eq_iff_iff,beq_iff_eq,beq_iff_eq];omega
  rw [h95]
  by_cases h1:97≤c.toNat
  · rw [if_pos (by omega),decide_eq_true h1]
    by_cases h2:c.toNat≤122
    · rw [if_pos (by omega),decide_eq_true h2];rfl
    · rw [if_neg (by omega),if_pos (by omega),if_neg (by omega),decide_eq_false h2,decide_eq_false (show ¬c.toNat≤90 by omega)]
      simp
  · rw [if_neg (by omega),decide_eq_false h1]
    by_cases h2:65≤c.toNat
    · rw [if_pos (by omega),decide_eq_true h2]
      by_cases h3:c.toNat≤90
      · rw [if_pos (by omega),decide_eq_true h3];rfl
      · rw [if_neg (by omega),decide_eq_false h3];simp
    · rw [if_neg (by omega),decide_eq_false h2];simp
theorem name_l0(s:ByteArray)(hs:s.size≤1000000):∀(d k i:Nat),0<i→i+d=s.size→d<k→le_name.l0 k s (i:Int)=some ((i+((s.data.toList.drop i).takeWhile alnB).length:Nat):Int)
  | _,0,_,_,_,hk=>absurd hk (by omega)
  | 0,k+1,i,h0,hi,_=>by
    rw [le_name.l0,if_neg (by omega),drop_end s i (by omega)]
    rfl
  | d+1,k+1,i,h0,hi,hk=>by
    obtain⟨c,hb,hd⟩:=bt_drop s i (by omega)
    have e2:wrap64 ((i:Int)+1)=((i+1:Nat):Int):=by
      unfold wrap64
      omega
    rw [le_name.l0,if_pos (by omega),if_pos (by omega),hb,letter_f,Option.bind_some,e2,name_l0 s hs d k (i+1) (by omega) (by omega) (by omega),hd,List.takeWhile_cons]
    unfold alnB digB
    by_cases hl:letB c=true
    · rw [if_pos hl,hl,Bool.true_or,if_pos rfl,List.length_cons]
      congr 2
      omega
    · rw [if_neg hl,Bool.eq_false_iff.2 hl,Bool.false_or,if_pos (by omega)]
      by_cases h1:48≤c.toNat
      · rw [if_pos (by omega),decide_eq_true h1,Bool.true_and]
        by_cases h2:c.toNat≤57
        · rw [if_pos (by omega),if_pos (decide_eq_true h2),List.length_cons]
          congr 2
          omega
        · rw [if_neg (by omega),if_neg (by simp [h2])]
          rfl
      · rw [if_neg (by omega),decide_eq_false h1,Bool.false_and,if_neg (by simp)]
        rfl
theorem name_f(s:ByteArray)(k:Nat)(hs:s.size≤1000000)(hk:s.size<k):le_name.f k s=some ((nameLen s.data.toList:Nat):Int):=by
  unfold le_name.f
  obtain⟨k,rfl⟩:∃k',k=k'+1:=⟨k-1,by omega⟩
  by_cases h0:s.size=0
  · have e:=drop_end s 0 (by omega)
    rw [List.drop_zero] at e
    rw [le_name.l0,if_neg (by omega),e]
    rfl
  · obtain⟨c,hb,hd⟩:=bt_drop s 0 (by omega)
    rw [List.drop_zero] at hd
    have hb':bt s 0=(c.toNat:Int):=hb
    have e2:wrap64 ((0:Int)+1)=((1:Nat):Int):=by
      unfold wrap64
      omega
    rw [le_name.l0,if_pos (by omega),if_pos (by omega),hb',letter_f,Option.bind_some,e2,name_l0 s hs (s.size-1) k 1 (by omega) (by omega) (by omega),hd]
    rw [show nameLen (c :: s.data.toList.drop (0+1))=if letB c=true then 1+((s.data.toList.drop (0+1)).takeWhile alnB).length else 0 from rfl]
    by_cases hl:letB c=true
    · rw [if_pos hl,if_pos hl]
      rfl
    · rw [if_neg hl,if_neg (by omega),if_neg hl]
      rfl
theorem name_calls(s:ByteArray)(hs:s.size≤1000000)(w:World):Calls Tryz.prog 91 #[.string s] w fun e w'=>e=.returned (.int .i64 ((nameLen s.data.toList:Nat):Int))∧Below w.heap.size w w':=by
  refine(le_name.calls (s.size+1) s _ w (name_f s _ hs (by omega))).mono ?_
  rintro e w' ⟨rfl,hd⟩
  exact⟨rfl,hd.below⟩
def lex_one.f(a0:ByteArray):Option (Int×ByteArray×Int):=if a0.size≤1000000 then some ((oneT (nameLen a0.data.toList) a0).1,(oneT (nameLen a0.data.toList) a0).2,0) else none
theorem lex_one.calls(a0:ByteArray)(r1:Int)(r2:ByteArray)(r3:Int)(w:World)(HT:Aside0 (Tab w))(h:lex_one.f a0=some (r1,r2,r3)) :
    Calls Tryz.prog 74 #[.string a0] w fun e w'=>e=.returned (.agg #[.int .i64 r1,.string r2,.int .i64 r3])∧Below w.heap.size w w':=by
 unfold lex_one.f at h
 by_cases hr:a0.size≤1000000
 ·rw [if_pos hr] at h
  simp only [Option.some.injEq,Prod.mk.injEq] at h
  obtain⟨rfl,rfl,rfl⟩:=h
  exact le_one hpre_calls a0 (nameLen a0.data.toList) w HT.out (by rw [Lib.size_eq];exact nameLen_le _) (name_calls a0 hr)
 ·rw [if_neg hr] at h
  exact absurd h (by simp)
mutual
def le_Scan.l0:Nat→ByteArray→Int→Option ((List (S110))×Int×Int)
  | 0,_,_=>none
  | k+1,x0,x5=>if x5<(x0.size:Int) then(if 0≤x5 then(if x5≤(x0.size:Int) then((ut_Decode1.f (x0.extract (x5:Int).toNat x0.size)).bind fun bt111=>(if bt111.1=65533 then(if bt111.2<2 then(some (([]:List (S110)),x5,60)) else(le_Scan.l0 k x0 (wrap64 (x5+bt111.2)))) else(le_Scan.l0 k x0 (wrap64 (x5+bt111.2))))) else(none)) else(none)) else((le_past.f x0 0).bind fun t113=>(le_Scan.l1 k x0 ([]:List (S110)) t113))
def le_Scan.l1:Nat→ByteArray→List (S110)→Int→Option ((List (S110))×Int×Int)
  | 0,_,_,_=>none
  | k+1,x0,x8,x9=>if x9<(x0.size:Int) then(if 0≤x9 then(if x9≤(x0.size:Int) then((lex_one.f (x0.extract (x9:Int).toNat x0.size)).bind fun bt117=>(if bt117.2.1.toList=([]:List UInt8) then(some (([]:List (S110)),x9,61)) else(if x8.length<4398046511104 then((le_past.f x0 (wrap64 (x9+(bt117.2.1.size:Int)))).bind fun t124=>(le_Scan.l1 k x0 (x8++[(⟨bt117.1,bt117.2.1,x9⟩:S110)]) t124)) else(none)))) else(none)) else(none)) else(if x8.length<4398046511104 then(some ((x8++[(⟨0,(⟨#[]⟩:ByteArray),(x0.size:Int)⟩:S110)]),0,0)) else(none))
end
def le_Scan.f(k:Nat)(a0:ByteArray):Option ((List (S110))×Int×Int):=if (a0.size:Int) > 65536 then(some (([]:List (S110)),0,3)) else(le_Scan.l0 k a0 0)
theorem le_Scan.mono_l:∀k,(∀y0 y1,LeO (le_Scan.l0 k y0 y1) (le_Scan.l0 (k+1) y0 y1))∧(∀y0 y1 y2,LeO (le_Scan.l1 k y0 y1 y2) (le_Scan.l1 (k+1) y0 y1 y2))
  | 0=>⟨fun _ _ r h=>by simp [le_Scan.l0] at h,fun _ _ _ r h=>by simp [le_Scan.l1] at h⟩
  | k+1=>by
    obtain⟨ih0,ih1⟩:=le_Scan.mono_l k
    refine⟨?_, ?_⟩
    · intros;unfold le_Scan.l0;exact tMo
    · intros;unfold le_Scan.l1;exact tMo
theorem le_Scan.mono:∀a0 k,LeO (le_Scan.f k a0) (le_Scan.f (k+1) a0):=by
  intro a0 k
  obtain⟨ih0,ih1⟩:=le_Scan.mono_l k
  unfold le_Scan.f
  exact tMo
theorem le_Scan.z0{p:Prop}(h_:p:=by (first | (simp only [Option.some.injEq,Prod.mk.injEq] at H;obtain⟨rfl,rfl,rfl⟩:=H) | (have H':=ak H;clear H));go_wp2_with (first | ((with_reducible refine gf_ 72 rfl ?_);refine gC_ (some 22) Tryz.func72 #[.string (a0.extract (x5_1:Int).toNat a0.size)] ?_;(with_reducible refine(ut_Decode1.calls (HT:=⟨Tab.below HT.out tB⟩) (a0.extract (x5_1:Int).toNat a0.size) t111 t112 _ A6.out).mono ?_);rintro e wa ⟨rfl,hb⟩;refine⟨_,rfl, ?_⟩;replace HB:=ak (below_step tB hb);(try clear hb)));first | (go_roundg k1;(case measure=>have:=HK1.out;omega);(case rel=>exact⟨(wrap64 (x5_1+t112)),tZ,H',⟨by have:=HK1.out;omega⟩,⟨tB⟩⟩)) | (go_ret3;exact⟨_,tE,by first | exact Kd.R_nil _ _ _ _ _ | exact Kd.N_nil _ _ _ _ _ | exact Kd.V_nil _ _ _ _ _ | exact Kd.Q_nil _ _ _ _ _ | exact Kd.S_nil _ _ _ _ _,tB⟩)):p:=h_
theorem le_Scan.z1{p:Prop}(h_:p:=by (first | (simp only [Option.some.injEq,Prod.mk.injEq] at H;obtain⟨rfl,rfl,rfl⟩:=H) | (have H':=ak H;clear H));go_wp2_with (first | ((with_reducible refine gf_ 74 rfl ?_);refine gC_ (some 44) Tryz.func74 #[.string (a0.extract (x9_2:Int).toNat a0.size)] ?_;(with_reducible refine(lex_one.calls (HT:=⟨Tab.below HT.out tB⟩) (a0.extract (x9_2:Int).toNat a0.size) t117 t118 t119 _ A17.out).mono ?_);rintro e wa ⟨rfl,hb⟩;refine⟨_,rfl, ?_⟩;replace HO_8:=ak (Kd.R_below (tR HO_8) hb);replace HB:=ak (below_step tB hb);(try clear hb)) | ((with_reducible refine gd_ 10 rfl ?_);refine boxE 10 #[.int .i64 0,.string (⟨#[]⟩:ByteArray),.int .i64 0] 110 ?_;intro gb120 hg wa hbox hb;replace HO_8:=ak (Kd.R_below (Kd.R_elderB (tR HO_8) gb120 (Nat.le_of_eq hg.symm)) hb);have BK120:=ak (hbox);have GW120:=ak (tG:w.heap.size≤gb120);have GE120:=ak (tG:w.heap.size≤gb120);replace HB:=ak (below_step tB hb);clear hb hbox hg;have hcza:=cz3 BK120.out) | ((with_reducible refine gate_builtin (b:=.append) (xs:=#[.tmp 51,.tmp 53]) rfl ?_);at_builtin;refine Kd.R_append k110 (w0:=w) w.heap.size rfl (.tmp 51) (.tmp 53) 107 110 (.agg #[(.int .i64 0),(.string ⟨#[]⟩),(.int .i64 0)]) 32 rfl Tryz.underlying107 info110 rfl (by decide) (by omega) u8 x8_2 (⟨t117,t118,x9_2⟩:S110) [.int .i64 t117,.string t118,.int .i64 x9_2] (fun k_=>k_≠gb120) (fun _=>False) rfl (by first | (go_simp;done) | (go_simp;rfl)) ?aP (fun _ hk=>hk.elim) ?aF ?aO ?aB ?aS ?aL ?_;(case aP=>exact k110_mkM _ _ _ (⟨t117,t118,x9_2⟩:S110));(case aB=>exact(tBs GE120));(case aF=>exact(fun k_ hk=>Kd.freshB (g:=gb120) (o:=.cells #[.int .i64 t117,.string t118,.int .i64 x9_2] 110 (0,0)) (tPt BK120) k_ hk));(case aO=>exact(by (with_reducible repeat (first | apply Kd.R_alloc | apply Kd.R_drewN | apply Kd.R_drew));exact Kd.R_mono (tRf (Kd.R_mono HO_8.out (fun k_ hk=>(⟨hk,hk.2⟩:_∧k_≠gb120)))) (fun _ hk=>hk.1.2)));(case aS=>exact(below_size (tBs GE120)));(case aL=>have:=LMc22.out;omega);intro v122 wa ho hb hg hat;rw [←Ny121.out] at ho;replace BK120:=ak (blk_grown (g:=gb120) (o:=.cells #[.int .i64 t117,.string t118,.int .i64 x9_2] 110 (0,0)) (tPt BK120) hg (Kd.R_away HO_8.out (fun _ hk=>hk.2)));replace HB:=ak (hb);have HO123:=ak (ho);clear HO_8 ho hb hg hat;have hcza:=cz3 BK120.out) | ((with_reducible refine gf_ 73 rfl ?_);refine gC_ (some 61) Tryz.func73 #[.string a0,.int .i64 (wrap64 (x9_2+(t118.size:Int)))] ?_;(with_reducible refine(le_past.calls a0 (wrap64 (x9_2+(t118.size:Int))) t124 _ A23.out).mono ?_);rintro e wa ⟨rfl,hb⟩;refine⟨_,rfl, ?_⟩;replace HO123:=ak (Kd.R_below (tR HO123) hb);replace BK120:=ak (blk_below (g:=gb120) (o:=.cells #[.int .i64 t117,.string t118,.int .i64 x9_2] 110 (0,0)) (tK BK120) hb);replace HB:=ak (below_step (tBs GE120) hb);(try clear hb)));first | (go_roundg k2;(case measure=>have:=HK1.out;have:=HK2.out;omega);(case rel=>exact⟨(y121),(t124),tZ,H',⟨by have:=HK1.out;have:=HK2.out;omega⟩,⟨by (with_reducible repeat (first | apply Kd.R_alloc | apply Kd.R_drewN | apply Kd.R_drew));exact Kd.R_mono HO123.out (fun _ hk=>trivial)⟩,⟨tBs GE120⟩⟩)) | (go_ret3;exact⟨_,tE,by first | exact Kd.R_nil _ _ _ _ _ | exact Kd.N_nil _ _ _ _ _ | exact Kd.V_nil _ _ _ _ _ | exact Kd.Q_nil _ _ _ _ _ | exact Kd.S_nil _ _ _ _ _,by repeat (first | (with_reducible first | exact HB.out | apply below_alloc | apply pw_below_drewN | apply below_drew1 | refine below_set ?_ GE120.out) | exact HB.out)⟩)):p:=h_
set_option maxHeartbeats 8000000 in
theorem le_Scan.calls(k:Nat)(a0:ByteArray)(r1:List (S110))(r2:Int)(r3:Int)(w:World)(HT:Aside0 (Tab w))(h:le_Scan.f k a0=some (r1,r2,r3)) :
  Calls Tryz.prog 53 #[.string a0] w fun e w'=>∃v0_:Value,e=.returned (.tuple #[v0_,.int .i64 r2,.int .i64 r3])∧Kd.R k110 110 w' w.heap.size (fun _=>True) v0_ r1∧Below w.heap.size w w':=by
 have hu110:=Tryz.underlying110
 have HB:=ak (Below.refl w.heap.size w)
 have H:(if (a0.size:Int) > 65536 then(some (([]:List (S110)),0,3)) else(le_Scan.l0 k a0 0))=some (r1,r2,r3):=h
 clear h
 replace H:=iHkk H
 rcases H with⟨c2,c2b0,H⟩ | ⟨c2,c2b0,H⟩
 ·have c2b1:decide (65536<a0.size)=true:=decide_eq_true (by omega)
  clear c2
  simp only [Option.some.injEq,Prod.mk.injEq] at H
  obtain⟨rfl,rfl,rfl⟩:=H
  have hss_:=@cell_twice
  go_enter Tryz.func53,Tryz.ntmps53
  exact zz11
 have c2b1:decide (65536<a0.size)=false:=decide_eq_false (by omega)
 clear c2
 have H':=ak H
 clear H
 have hss_:=@cell_twice
 go_enter Tryz.func53,Tryz.ntmps53
 go_wp2
 go_loopg [5] k (fun kq v5 w'=>∃(x5_1:Int),v5=.int .i64 x5_1∧Aside0 (le_Scan.l0 kq a0 x5_1=some (r1,r2,r3))∧Aside0 (kq≤k)∧Aside0 (Below w.heap.size w w'))
 case atStart=>exact⟨(0),tZ,H',⟨Nat.le_refl _⟩,⟨tB⟩⟩
 case round =>
  clear H'
  try clear c2
  try clear c2b0
  try clear c2b1
  obtain⟨x5_1,rfl,HA,HK1,HB⟩:=hrel
  cases gk with
  | zero=>exact absurd HA.out (by simp [le_Scan.l0])
  | succ k1 =>
   have H:=HA.out
   clear HA
   simp only [le_Scan.l0] at H
   replace H:=iD H
   rcases H with⟨c3b0,H⟩ | ⟨c3b0,H⟩
   ·replace H:=niT H
    obtain⟨c4b0,c4b1,H⟩:=H
    replace H:=niT H
    obtain⟨c5b0,c5b1,H⟩:=H
    replace H:=iX H
    obtain⟨⟨t111,t112⟩,A6,H⟩:=H
    try dsimp only at H
    replace H:=iE H
    rcases H with⟨c7b0,c7b1,H⟩ | ⟨c7,c7b0,c7b1,H⟩
    ·replace H:=iD H
     rcases H with⟨c8b0,H⟩ | ⟨c8b0,H⟩
     ·exact le_Scan.z0
     exact le_Scan.z0
    exact le_Scan.z0
   replace H:=iX H
   obtain⟨t113,A12,H⟩:=H
   have H':=ak H
   clear H
   go_wp2_with (first | ((with_reducible refine gf_ 73 rfl ?_);refine gC_ (some 36) Tryz.func73 #[.string a0,.int .i64 0] ?_;(with_reducible refine(le_past.calls a0 0 t113 _ A12.out).mono ?_);rintro e w13 ⟨rfl,hb⟩;refine⟨_,rfl, ?_⟩;replace HB:=ak (below_step tB hb);(try clear hb)))
   go_loopg [8,9] k1 (fun kq v8 v9 w'=>∃(x8_2:List (S110)) (x9_2:Int),v9=.int .i64 x9_2∧Aside0 (le_Scan.l1 kq a0 x8_2 x9_2=some (r1,r2,r3))∧Aside0 (kq≤k1)∧Aside0 (Kd.R k110 110 w' w.heap.size (fun _=>True) v8 x8_2)∧Aside0 (Below w.heap.size w w'))
   case atStart=>exact⟨(([]:List (S110))),(t113),tZ,H',⟨Nat.le_refl _⟩,⟨by first | exact Kd.R_nil _ _ _ _ _ | exact Kd.N_nil _ _ _ _ _ | exact Kd.V_nil _ _ _ _ _ | exact Kd.Q_nil _ _ _ _ _ | exact Kd.S_nil _ _ _ _ _⟩,⟨tB⟩⟩
   case round =>
    clear H'
    try clear c2
    try clear c2b0
    try clear c2b1
    try clear c3b0
    obtain⟨x8_2,x9_2,rfl,HA,HK2,HO_8,HB⟩:=hrel
    cases gk with
    | zero=>exact absurd HA.out (by simp [le_Scan.l1])
    | succ k2 =>
     have H:=HA.out
     clear HA
     simp only [le_Scan.l1] at H
     replace H:=iD H
     rcases H with⟨c14b0,H⟩ | ⟨c14b0,H⟩
     ·replace H:=niT H
      obtain⟨c15b0,c15b1,H⟩:=H
      replace H:=niT H
      obtain⟨c16b0,c16b1,H⟩:=H
      replace H:=iX H
      obtain⟨⟨t117,t118,t119⟩,A17,H⟩:=H
      try dsimp only at H
      replace H:=iE H
      rcases H with⟨c18b0,c18b1,H⟩ | ⟨c18,c18b0,c18b1,H⟩
      ·exact le_Scan.z1
      replace H:=niC H
      obtain⟨c22,H⟩:=H
      have LMc22:=ak c22
      clear c22
      obtain⟨y121,hy121⟩:∃y_:List (S110),y_=(x8_2++[(⟨t117,t118,x9_2⟩:S110)]):=⟨_,rfl⟩
      replace H:((le_past.f a0 (wrap64 (x9_2+(t118.size:Int)))).bind fun t124=>(le_Scan.l1 k2 a0 y121 t124))=some (r1,r2,r3):=tY hy121 H
      have Ny121:=ak hy121
      clear hy121
      replace H:=iX H
      obtain⟨t124,A23,H⟩:=H
      exact le_Scan.z1
     replace H:=niC H
     obtain⟨c30,H⟩:=H
     have LMc30:=ak c30
     clear c30
     obtain⟨y114,hy114⟩:∃y_:List (S110),y_=(x8_2++[(⟨0,(⟨#[]⟩:ByteArray),(a0.size:Int)⟩:S110)]):=⟨_,rfl⟩
     replace H:(some (y114,0,0))=some (r1,r2,r3):=tY hy114 H
     have Ny114:=ak hy114
     clear hy114
     simp only [Option.some.injEq,Prod.mk.injEq] at H
     obtain⟨rfl,rfl,rfl⟩:=H
     go_wp2_with (first | ((with_reducible refine gate_builtin (b:=.append) (xs:=#[.tmp 62,.tmp 66]) rfl ?_);at_builtin;refine Kd.R_append k110 (w0:=w) w.heap.size rfl (.tmp 62) (.tmp 66) 107 110 (.agg #[(.int .i64 0),(.string ⟨#[]⟩),(.int .i64 0)]) 32 rfl Tryz.underlying107 info110 rfl (by decide) (by omega) u8 x8_2 (⟨0,(⟨#[]⟩:ByteArray),(a0.size:Int)⟩:S110) [.int .i64 0,.string (⟨#[]⟩:ByteArray),.int .i64 (a0.size:Int)] (fun _=>True) (fun _=>False) rfl rfl ?aP (fun _ hk=>hk.elim) ?aF ?aO ?aB ?aS ?aL ?_;(case aP=>exact k110_mkM _ _ _ (⟨0,(⟨#[]⟩:ByteArray),(a0.size:Int)⟩:S110));(case aB=>exact tB);(case aF=>exact(fun _ _=>trivial));(case aO=>exact(tR HO_8));(case aS=>exact(below_size tB));(case aL=>have:=LMc30.out;omega);intro v115 w31 ho hb hg hat;rw [←Ny114.out] at ho;replace HB:=ak (hb);have HO116:=ak (ho);clear HO_8 ho hb hg hat))
     go_ret3
     exact⟨_,tE,by (with_reducible repeat (first | apply Kd.R_alloc | apply Kd.R_drewN | apply Kd.R_drew));exact HO116.out,tB⟩
def pa_named.f(k:Nat)(a0:ByteArray):Option (Bool):=(le_Scan.f k a0).bind fun bt125=>(if bt125.2.2=0 then(if (bt125.1.length:Int)=2 then(if 0<(bt125.1.length:Int) then(if ((rd_T110 bt125.1 0).f0)=1 then(some (((rd_T110 bt125.1 0).f1).toList==a0.toList)) else(some false)) else(none)) else(some false)) else(some false))
theorem pa_named.mono:∀a0 k,LeO (pa_named.f k a0) (pa_named.f (k+1) a0):=by
  intro a0 k
  unfold pa_named.f
  have m0_:=@le_Scan.mono
  exact tMo
set_option maxHeartbeats 8000000 in
theorem pa_named.calls(k:Nat)(a0:ByteArray)(r:Bool)(w:World)(HT:Aside0 (Tab w))(h:pa_named.f k a0=some r) :
  Calls Tryz.prog 38 #[.string a0] w fun e w'=>e=.returned (.bool r)∧Below w.heap.size w w':=by
 have HB:=ak (Below.refl w.heap.size w)
 have H:((le_Scan.f k a0).bind fun bt125=>(if bt125.2.2=0 then(if (bt125.1.length:Int)=2 then(if 0<(bt125.1.length:Int) then(if ((rd_T110 bt125.1 0).f0)=1 then(some (((rd_T110 bt125.1 0).f1).toList==a0.toList)) else(some false)) else(none)) else(some false)) else(some false)))=some r:=h
 clear h
 replace H:=iX H
 obtain⟨⟨t125,t126,t127⟩,A2,H⟩:=H
 try dsimp only at H
 replace H:=iE H
 rcases H with⟨c3b0,c3b1,H⟩ | ⟨c3,c3b0,c3b1,H⟩
 ·replace H:=iE H
  rcases H with⟨c4b0,c4b1,H⟩ | ⟨c4,c4b0,c4b1,H⟩
  ·by_cases c5:0<(t125.length:Int)
   ·rw [if_pos c5] at H
    have c5b0:decide (0<(t125.length:Int))=true:=decide_eq_true c5
    have c5b1:decide (0<t125.length)=true:=decide_eq_true (by omega)
    clear c5
    replace H:=iE H
    rcases H with⟨c6b0,c6b1,H⟩ | ⟨c6,c6b0,c6b1,H⟩
    ·obtain rfl:=Option.some.inj H
     go_enter Tryz.func38,Tryz.ntmps38
     go_wp2_with (first | ((with_reducible refine gf_ 53 rfl ?_);refine gC_ (some 8) Tryz.func53 #[.string a0] ?_;(with_reducible refine(le_Scan.calls (HT:=⟨Tab.below HT.out tB⟩) k a0 t125 t126 t127 _ A2.out).mono ?_);rintro e w7 ⟨v128,rfl,ho0,hb⟩;refine⟨_,rfl, ?_⟩;have HO129:=ak (Kd.R_lower ho0 (below_size tB));replace HB:=ak (below_step tB hb);(try clear hb);(try clear ho0);obtain⟨Aoh129,coh129,eoh129⟩:=Kd.R_slice HO129.out;subst eoh129;have p130:0≤(0:Int):=(by omega);have q130:0<(t125.length:Int):=tA;obtain⟨ad130,e130,hx130_0,hx130_1,hx130_2⟩:=at_T110 (Kd.R_reads' HO129.out).2.2 0 p130 q130;cases e130;have qi130:(0<t125.length)=True:=eq_true (by omega);(try rw [show((0:Int)).toNat=0 from rfl] at hx130_0);(try rw [show 0 * 3=0 from rfl] at hx130_0);(try rw [Addr.add_zero'] at hx130_0);(try rw [show((0:Int)).toNat=0 from rfl] at hx130_1);(try rw [show 0 * 3=0 from rfl] at hx130_1);(try rw [Addr.add_zero'] at hx130_1);(try rw [show((0:Int)).toNat=0 from rfl] at hx130_2);(try rw [show 0 * 3=0 from rfl] at hx130_2);(try rw [Addr.add_zero'] at hx130_2);replace p130:=eq_true p130;replace q130:=eq_true q130;have p131:0≤(0:Int):=(by omega);have q131:0<(t125.length:Int):=tA;obtain⟨ad131,e131,hx131_0,hx131_1,hx131_2⟩:=at_T110 (Kd.R_reads' HO129.out).2.2 0 p131 q131;obtain rfl:ad130=ad131:=(by injection e131);have qi131:(0<t125.length)=True:=eq_true (by omega);(try rw [show((0:Int)).toNat=0 from rfl] at hx131_0);(try rw [show 0 * 3=0 from rfl] at hx131_0);(try rw [Addr.add_zero'] at hx131_0);(try rw [show((0:Int)).toNat=0 from rfl] at hx131_1);(try rw [show 0 * 3=0 from rfl] at hx131_1);(try rw [Addr.add_zero'] at hx131_1);(try rw [show((0:Int)).toNat=0 from rfl] at hx131_2);(try rw [show 0 * 3=0 from rfl] at hx131_2);(try rw [Addr.add_zero'] at hx131_2);replace p131:=eq_true p131;replace q131:=eq_true q131))
     go_ret
     exact⟨tE,tB⟩
    obtain rfl:=Option.some.inj H
    go_enter Tryz.func38,Tryz.ntmps38
    go_wp2_with (first | ((with_reducible refine gf_ 53 rfl ?_);refine gC_ (some 8) Tryz.func53 #[.string a0] ?_;(with_reducible refine(le_Scan.calls (HT:=⟨Tab.below HT.out tB⟩) k a0 t125 t126 t127 _ A2.out).mono ?_);rintro e w9 ⟨v128,rfl,ho0,hb⟩;refine⟨_,rfl, ?_⟩;have HO129:=ak (Kd.R_lower ho0 (below_size tB));replace HB:=ak (below_step tB hb);(try clear hb);(try clear ho0);obtain⟨Aoh129,coh129,eoh129⟩:=Kd.R_slice HO129.out;subst eoh129;have p130:0≤(0:Int):=(by omega);have q130:0<(t125.length:Int):=tA;obtain⟨ad130,e130,hx130_0,hx130_1,hx130_2⟩:=at_T110 (Kd.R_reads' HO129.out).2.2 0 p130 q130;cases e130;have qi130:(0<t125.length)=True:=eq_true (by omega);(try rw [show((0:Int)).toNat=0 from rfl] at hx130_0);(try rw [show 0 * 3=0 from rfl] at hx130_0);(try rw [Addr.add_zero'] at hx130_0);(try rw [show((0:Int)).toNat=0 from rfl] at hx130_1);(try rw [show 0 * 3=0 from rfl] at hx130_1);(try rw [Addr.add_zero'] at hx130_1);(try rw [show((0:Int)).toNat=0 from rfl] at hx130_2);(try rw [show 0 * 3=0 from rfl] at hx130_2);(try rw [Addr.add_zero'] at hx130_2);replace p130:=eq_true p130;replace q130:=eq_true q130))
    go_ret
    exact⟨tE,tB⟩
   ·rw [if_neg c5] at H
    exact absurd H (by simp)
  obtain rfl:=Option.some.inj H
  go_enter Tryz.func38,Tryz.ntmps38
  go_wp2_with (first | ((with_reducible refine gf_ 53 rfl ?_);refine gC_ (some 8) Tryz.func53 #[.string a0] ?_;(with_reducible refine(le_Scan.calls (HT:=⟨Tab.below HT.out tB⟩) k a0 t125 t126 t127 _ A2.out).mono ?_);rintro e w11 ⟨v128,rfl,ho0,hb⟩;refine⟨_,rfl, ?_⟩;have HO129:=ak (Kd.R_lower ho0 (below_size tB));replace HB:=ak (below_step tB hb);(try clear hb);(try clear ho0);obtain⟨Aoh129,coh129,eoh129⟩:=Kd.R_slice HO129.out;subst eoh129))
  go_ret
  exact⟨tE,tB⟩
 obtain rfl:=Option.some.inj H
 go_enter Tryz.func38,Tryz.ntmps38
 go_wp2_with (first | ((with_reducible refine gf_ 53 rfl ?_);refine gC_ (some 8) Tryz.func53 #[.string a0] ?_;(with_reducible refine(le_Scan.calls (HT:=⟨Tab.below HT.out tB⟩) k a0 t125 t126 t127 _ A2.out).mono ?_);rintro e w13 ⟨v128,rfl,ho0,hb⟩;refine⟨_,rfl, ?_⟩;have HO129:=ak (Kd.R_lower ho0 (below_size tB));replace HB:=ak (below_step tB hb);(try clear hb);(try clear ho0)))
 go_ret
 exact⟨tE,tB⟩
mutual
def te_Binds.j2:Nat→Int→Option (Int×Int)
  | 0,_=>none
  | k+1,x1=>if x1=0 then(some (1,0)) else(some (0,0))
def te_Binds.j0:Nat→Int→Int→Bool→Option (Int×Int)
  | 0,_,_,_=>none
  | k+1,x1,x6,x7=>if x7=true then(if x1=1 then(some (1,0)) else(some (0,0))) else(if x6=5 then(te_Binds.j2 k x1) else(if x6=22 then(te_Binds.j2 k x1) else(if x6=27 then(te_Binds.j2 k x1) else(if x6=11 then(te_Binds.j1 k x1 (x6==11)) else(if x6=12 then(te_Binds.j1 k x1 (x6==12)) else(te_Binds.j1 k x1 (x6==14)))))))
def te_Binds.j1:Nat→Int→Bool→Option (Int×Int)
  | 0,_,_=>none
  | k+1,x1,x16=>if x16=true then(if x1=0 then(some (0,1)) else(some (0,0))) else(some (0,0))
end
def te_Binds.f(k:Nat)(a0:Int)(a1:Int):Option (Int×Int):=if a0=4 then(te_Binds.j0 k a1 a0 (a0==4)) else(te_Binds.j0 k a1 a0 (a0==7))
set_option maxHeartbeats 8000000 in
theorem te_Binds.calls(k:Nat)(a0:Int)(a1:Int)(r1:Int)(r2:Int)(w:World)(h:te_Binds.f k a0 a1=some (r1,r2)) :
  Calls Tryz.prog 97 #[.int .i64 a0,.int .i64 a1] w fun e w'=>e=.returned (.tuple #[.int .i64 r1,.int .i64 r2])∧Drawn0 w w':=by
 have H:(if a0=4 then(te_Binds.j0 k a1 a0 (a0==4)) else(te_Binds.j0 k a1 a0 (a0==7)))=some (r1,r2):=h
 clear h
 have HC3:=ak H
 clear H
 go_enter Tryz.func97,Tryz.ntmps97
 go_upto_block 4 with(fail)
 go_cut [] (fun wc=>∃(kq:Nat),Aside0 (te_Binds.j2 kq a1=some (r1,r2))∧Aside0 (kq≤k)∧Drawn0 w wc)
 case first =>
  have H:=HC3.out
  clear HC3
  have HC4:=ak H
  clear H
  go_upto_if 7 with(fail)
  go_cut [7] (fun v7 wc=>∃(kq:Nat) (x7_3:Bool),v7=.bool x7_3∧Aside0 (te_Binds.j0 kq a1 a0 x7_3=some (r1,r2))∧Aside0 (kq≤k)∧Drawn0 w wc)
  case first =>
   have H:=HC4.out
   clear HC4
   replace H:=iE H
   rcases H with⟨c5b0,c5b1,H⟩ | ⟨c5,c5b0,c5b1,H⟩
   ·(first | rw [c5b0] | (simp only [i64_w,i32_w];rw [c5b0]) | skip)
    have H':=ak H
    clear H
    go_wp2
    go_meet
    case rel=>exact⟨_,((a0==4)),tS,H',⟨by first | omega | exact Nat.le_refl _⟩,tD⟩
   (first | rw [c5b0] | (simp only [i64_w,i32_w];rw [c5b0]) | skip)
   exact zz6
  case rest =>
   clear HC4
   obtain⟨kq,x7_3,rfl,HA,HJ3,⟨mc3,rfl⟩⟩:=hcut
   cases kq with
   | zero=>exact absurd HA.out (by simp [te_Binds.j0])
   | succ kj3 =>
    have H:=HA.out
    clear HA
    simp only [te_Binds.j0] at H
    replace H:=iB H
    rcases H with⟨rfl,H⟩ | ⟨rfl,H⟩
    ·replace H:=iE H
     rcases H with⟨c7b0,c7b1,H⟩ | ⟨c7,c7b0,c7b1,H⟩
     ·exact zz7
     exact zz7
    replace H:=iE H
    rcases H with⟨c8b0,c8b1,H⟩ | ⟨c8,c8b0,c8b1,H⟩
    ·exact zz12
    replace H:=iE H
    rcases H with⟨c9b0,c9b1,H⟩ | ⟨c9,c9b0,c9b1,H⟩
    ·exact zz12
    replace H:=iE H
    rcases H with⟨c10b0,c10b1,H⟩ | ⟨c10,c10b0,c10b1,H⟩
    ·exact zz12
    have HC11:=ak H
    clear H
    go_upto_if 16 with(fail)
    go_cut [16] (fun v16 wc=>∃(kq:Nat) (x16_10:Bool),v16=.bool x16_10∧Aside0 (te_Binds.j1 kq a1 x16_10=some (r1,r2))∧Aside0 (kq≤kj3)∧Drawn0 w wc)
    case first =>
     have H:=HC11.out
     clear HC11
     replace H:=iE H
     rcases H with⟨c12b0,c12b1,H⟩ | ⟨c12,c12b0,c12b1,H⟩
     ·(first | rw [c12b0] | (simp only [i64_w,i32_w];rw [c12b0]) | skip)
      have H':=ak H
      clear H
      go_wp2
      go_meet
      case rel=>exact⟨_,((a0==11)),tS,H',⟨by have:=HJ3.out;first | omega | exact Nat.le_refl _⟩,tD⟩
     (first | rw [c12b0] | (simp only [i64_w,i32_w];rw [c12b0]) | skip)
     replace H:=iE H
     rcases H with⟨c13b0,c13b1,H⟩ | ⟨c13,c13b0,c13b1,H⟩
     ·have H':=ak H
      clear H
      go_wp2
      go_meet
      case rel=>exact⟨_,((a0==12)),tS,H',⟨by have:=HJ3.out;first | omega | exact Nat.le_refl _⟩,tD⟩
     have H':=ak H
     clear H
     go_wp2
     go_meet
     case rel=>exact⟨_,((a0==14)),tS,H',⟨by have:=HJ3.out;first | omega | exact Nat.le_refl _⟩,tD⟩
    case rest =>
     clear HC11
     try clear c8
     try clear c8b0
     try clear c8b1
     try clear c9
     try clear c9b0
     try clear c9b1
     try clear c10
     try clear c10b0
     try clear c10b1
     obtain⟨kq,x16_10,rfl,HA,HJ10,⟨mc10,rfl⟩⟩:=hcut
     cases kq with
     | zero=>exact absurd HA.out (by simp [te_Binds.j1])
     | succ kj10 =>
      have H:=HA.out
      clear HA
      simp only [te_Binds.j1] at H
      replace H:=iB H
      rcases H with⟨rfl,H⟩ | ⟨rfl,H⟩
      ·replace H:=iE H
       rcases H with⟨c15b0,c15b1,H⟩ | ⟨c15,c15b0,c15b1,H⟩
       ·exact zz7
       exact zz7
      exact zz7
 case rest =>
  clear HC3
  obtain⟨kq,HA,HJ2,⟨mc2,rfl⟩⟩:=hcut
  cases kq with
  | zero=>exact absurd HA.out (by simp [te_Binds.j2])
  | succ kj2 =>
   have H:=HA.out
   clear HA
   simp only [te_Binds.j2] at H
   replace H:=iE H
   rcases H with⟨c16b0,c16b1,H⟩ | ⟨c16,c16b0,c16b1,H⟩
   ·exact zz7
   exact zz7
theorem bindsx(a i:Int):te_Binds.f 6 a i=some (bindsI a i):=by
  have h:a=4∨a=7∨a=5∨a=22∨a=27∨a=11∨a=12∨a=14∨(a≠4∧a≠7∧a≠5∧a≠22∧a≠27∧a≠11∧a≠12∧a≠14):=by omega
  rcases h with rfl | rfl | rfl | rfl | rfl | rfl | rfl | rfl | ⟨h4,h7,h5,h22,h27,h11,h12,h14⟩
  · by_cases h1:i=1<;>by_cases h0:i=0<;>first | (simp [te_Binds.f,te_Binds.j0,te_Binds.j1,te_Binds.j2,bindsI,h0,h1];done) | omega
  · by_cases h1:i=1<;>by_cases h0:i=0<;>first | (simp [te_Binds.f,te_Binds.j0,te_Binds.j1,te_Binds.j2,bindsI,h0,h1];done) | omega
  · by_cases h1:i=1<;>by_cases h0:i=0<;>first | (simp [te_Binds.f,te_Binds.j0,te_Binds.j1,te_Binds.j2,bindsI,h0,h1];done) | omega
  · by_cases h1:i=1<;>by_cases h0:i=0<;>first | (simp [te_Binds.f,te_Binds.j0,te_Binds.j1,te_Binds.j2,bindsI,h0,h1];done) | omega
  · by_cases h1:i=1<;>by_cases h0:i=0<;>first | (simp [te_Binds.f,te_Binds.j0,te_Binds.j1,te_Binds.j2,bindsI,h0,h1];done) | omega
  · by_cases h1:i=1<;>by_cases h0:i=0<;>first | (simp [te_Binds.f,te_Binds.j0,te_Binds.j1,te_Binds.j2,bindsI,h0,h1];done) | omega
  · by_cases h1:i=1<;>by_cases h0:i=0<;>first | (simp [te_Binds.f,te_Binds.j0,te_Binds.j1,te_Binds.j2,bindsI,h0,h1];done) | omega
  · by_cases h1:i=1<;>by_cases h0:i=0<;>first | (simp [te_Binds.f,te_Binds.j0,te_Binds.j1,te_Binds.j2,bindsI,h0,h1];done) | omega
  · simp [te_Binds.f,te_Binds.j0,te_Binds.j1,te_Binds.j2,bindsI,h4,h7,h5,h22,h27,h11,h12,h14]
theorem binds_all:Aside0 (∀(a i:Int) (w:World),Calls Tryz.prog 97 #[.int .i64 a,.int .i64 i] w fun e w'=>e=.returned (.tuple #[.int .i64 (bindsI a i).1,.int .i64 (bindsI a i).2])∧Below w.heap.size w w') :=
  ⟨fun a i w=>(te_Binds.calls 6 a i _ _ w (bindsx a i)).mono fun e w' ⟨he,hb⟩=>⟨he,hb.below⟩⟩
def te_shallo.f(a0_0 a0_1:Int)(a0_2:ByteArray)(l0_3:List S113)(l0_4:List S49)(l0_5:List S90)(a1:Int):Option Bool:=if 0≤a1∧a1≤1000000 then some (decide (depthT (⟨a0_0,a0_1,a0_2,l0_3,l0_4,l0_5⟩:Tm)≤a1.toNat)) else none
theorem te_shallo.calls(a0_0:Int)(a0_1:Int)(a0_2:ByteArray)(A0_3:Option Addr)(c0_3:Nat)(l0_3:List (S113))(A0_4:Option Addr)(c0_4:Nat)(l0_4:List (S49))(A0_5:Option Addr)(c0_5:Nat)(l0_5:List (S90))(a1:Int)(r:Bool)(w:World)(hr0_3:Kd.C k113 w A0_3 l0_3.length l0_3)(hc0_3:l0_3.length≤c0_3)(hr0_4:Kd.C k49 w A0_4 l0_4.length l0_4)(hc0_4:l0_4.length≤c0_4)(hr0_5:Kd.C k90 w A0_5 l0_5.length l0_5)(hc0_5:l0_5.length≤c0_5)(h:te_shallo.f a0_0 a0_1 a0_2 l0_3 l0_4 l0_5 a1=some r) :
    Calls Tryz.prog 75 #[.agg #[.int .i64 a0_0,.int .i64 a0_1,.string a0_2,.slice A0_3 l0_3.length c0_3,.slice A0_4 l0_4.length c0_4,.slice A0_5 l0_5.length c0_5],.int .i64 a1] w fun e w'=>e=.returned (.bool r)∧Below w.heap.size w w':=by
 unfold te_shallo.f at h
 by_cases hr:0≤a1∧a1≤1000000
 ·rw [if_pos hr] at h
  obtain rfl:=Option.some.inj h
  have hc:=te_shallo binds_all (enters_ Tryz.func92 (by kernel_rfl) rfl) a1.toNat (by omega) (⟨a0_0,a0_1,a0_2,l0_3,l0_4,l0_5⟩:Tm) _ w (k49_mk w (⟨a0_0,a0_1,a0_2,l0_3,l0_4,l0_5⟩:Tm) hc0_3 hr0_3 hc0_4 hr0_4 hc0_5 hr0_5)
  rw [show((a1.toNat:Nat):Int)=a1 by omega] at hc
  exact hc
 ·rw [if_neg hr] at h
  exact absurd h (by simp)
def te_small.f(a0_0 a0_1:Int)(a0_2:ByteArray)(l0_3:List S113)(l0_4:List S49)(l0_5:List S90)(a1:Int):Option Bool:=if 0≤a1∧a1≤1000000 then some (decide (sizeT (⟨a0_0,a0_1,a0_2,l0_3,l0_4,l0_5⟩:Tm)≤a1.toNat)) else none
theorem te_small.calls(a0_0:Int)(a0_1:Int)(a0_2:ByteArray)(A0_3:Option Addr)(c0_3:Nat)(l0_3:List (S113))(A0_4:Option Addr)(c0_4:Nat)(l0_4:List (S49))(A0_5:Option Addr)(c0_5:Nat)(l0_5:List (S90))(a1:Int)(r:Bool)(w:World)(hr0_3:Kd.C k113 w A0_3 l0_3.length l0_3)(hc0_3:l0_3.length≤c0_3)(hr0_4:Kd.C k49 w A0_4 l0_4.length l0_4)(hc0_4:l0_4.length≤c0_4)(hr0_5:Kd.C k90 w A0_5 l0_5.length l0_5)(hc0_5:l0_5.length≤c0_5)(h:te_small.f a0_0 a0_1 a0_2 l0_3 l0_4 l0_5 a1=some r) :
    Calls Tryz.prog 76 #[.agg #[.int .i64 a0_0,.int .i64 a0_1,.string a0_2,.slice A0_3 l0_3.length c0_3,.slice A0_4 l0_4.length c0_4,.slice A0_5 l0_5.length c0_5],.int .i64 a1] w fun e w'=>e=.returned (.bool r)∧Below w.heap.size w w':=by
 unfold te_small.f at h
 by_cases hr:0≤a1∧a1≤1000000
 ·rw [if_pos hr] at h
  obtain rfl:=Option.some.inj h
  have hc:=te_small binds_all (enters_ Tryz.func93 (by kernel_rfl) rfl) (enters_ Tryz.func94 (by kernel_rfl) rfl) a1.toNat (by omega) (⟨a0_0,a0_1,a0_2,l0_3,l0_4,l0_5⟩:Tm) _ w (k49_mk w (⟨a0_0,a0_1,a0_2,l0_3,l0_4,l0_5⟩:Tm) hc0_3 hr0_3 hc0_4 hr0_4 hc0_5 hr0_5)
  rw [show((a1.toNat:Nat):Int)=a1 by omega] at hc
  exact hc
 ·rw [if_neg hr] at h
  exact absurd h (by simp)
def te_sized.f(a0_0:Int)(a0_1:Int)(a0_2:ByteArray)(l0_3:List (S113))(l0_4:List (S49))(l0_5:List (S90)):Option (Int):=(te_shallo.f a0_0 a0_1 a0_2 l0_3 l0_4 l0_5 200).bind fun t133=>(if t133=true then((te_small.f a0_0 a0_1 a0_2 l0_3 l0_4 l0_5 20000).bind fun t134=>(if t134=true then(some 0) else(some 221))) else(some 62))
theorem te_sized.z0{p:Prop}(h_:p:=by go_wp2_with (first | ((with_reducible refine gd_ 1 rfl ?_);refine boxE 1 #[.int .i64 a0_0,.int .i64 a0_1,.string a0_2,.slice A0_3 l0_3.length c0_3,.slice A0_4 l0_4.length c0_4,.slice A0_5 l0_5.length c0_5] 49 ?_;intro gb132 hg wa hbox hb;have BK132:=ak (hbox);have GW132:=ak (tG:w.heap.size≤gb132);have GE132:=ak (tG:w.heap.size≤gb132);replace HB:=ak (below_step tB hb);clear hb hbox hg;have hcza:=cz6 BK132.out) | ((with_reducible refine gf_ 75 rfl ?_);refine gC_ (some 5) Tryz.func75 #[.agg #[.int .i64 a0_0,.int .i64 a0_1,.string a0_2,.slice A0_3 l0_3.length c0_3,.slice A0_4 l0_4.length c0_4,.slice A0_5 l0_5.length c0_5],.int .i64 200] ?_;(with_reducible refine(te_shallo.calls a0_0 a0_1 a0_2 _ _ l0_3 _ _ l0_4 _ _ l0_5 200 false _ ?side1 ?side2 ?side3 ?side4 ?side5 ?side6 A2.out).mono ?_);(case side1=>exact tCb HR0_3 HB);(case side2=>exact HC0_3.out);(case side3=>exact tCb HR0_4 HB);(case side4=>exact HC0_4.out);(case side5=>exact tCb HR0_5 HB);(case side6=>exact HC0_5.out);rintro e wa ⟨rfl,hb⟩;refine⟨_,rfl, ?_⟩;replace BK132:=ak (blk_below (g:=gb132) (o:=.cells #[.int .i64 a0_0,.int .i64 a0_1,.string a0_2,.slice A0_3 l0_3.length c0_3,.slice A0_4 l0_4.length c0_4,.slice A0_5 l0_5.length c0_5] 49 (0,0)) (tK BK132) hb);replace HB:=ak (below_step (tBs GE132) hb);(try clear hb)) | ((with_reducible refine gf_ 75 rfl ?_);refine gC_ (some 5) Tryz.func75 #[.agg #[.int .i64 a0_0,.int .i64 a0_1,.string a0_2,.slice A0_3 l0_3.length c0_3,.slice A0_4 l0_4.length c0_4,.slice A0_5 l0_5.length c0_5],.int .i64 200] ?_;(with_reducible refine(te_shallo.calls a0_0 a0_1 a0_2 _ _ l0_3 _ _ l0_4 _ _ l0_5 200 true _ ?side1 ?side2 ?side3 ?side4 ?side5 ?side6 A2.out).mono ?_);(case side1=>exact tCb HR0_3 HB);(case side2=>exact HC0_3.out);(case side3=>exact tCb HR0_4 HB);(case side4=>exact HC0_4.out);(case side5=>exact tCb HR0_5 HB);(case side6=>exact HC0_5.out);rintro e wa ⟨rfl,hb⟩;refine⟨_,rfl, ?_⟩;replace BK132:=ak (blk_below (g:=gb132) (o:=.cells #[.int .i64 a0_0,.int .i64 a0_1,.string a0_2,.slice A0_3 l0_3.length c0_3,.slice A0_4 l0_4.length c0_4,.slice A0_5 l0_5.length c0_5] 49 (0,0)) (tK BK132) hb);replace HB:=ak (below_step (tBs GE132) hb);(try clear hb);have hcza:=cz6 BK132.out) | ((with_reducible refine gf_ 76 rfl ?_);refine gC_ (some 9) Tryz.func76 #[.agg #[.int .i64 a0_0,.int .i64 a0_1,.string a0_2,.slice A0_3 l0_3.length c0_3,.slice A0_4 l0_4.length c0_4,.slice A0_5 l0_5.length c0_5],.int .i64 20000] ?_;(with_reducible refine(te_small.calls a0_0 a0_1 a0_2 _ _ l0_3 _ _ l0_4 _ _ l0_5 20000 false _ ?side1 ?side2 ?side3 ?side4 ?side5 ?side6 A4.out).mono ?_);(case side1=>exact tCb HR0_3 HB);(case side2=>exact HC0_3.out);(case side3=>exact tCb HR0_4 HB);(case side4=>exact HC0_4.out);(case side5=>exact tCb HR0_5 HB);(case side6=>exact HC0_5.out);rintro e wa ⟨rfl,hb⟩;refine⟨_,rfl, ?_⟩;replace BK132:=ak (blk_below (g:=gb132) (o:=.cells #[.int .i64 a0_0,.int .i64 a0_1,.string a0_2,.slice A0_3 l0_3.length c0_3,.slice A0_4 l0_4.length c0_4,.slice A0_5 l0_5.length c0_5] 49 (0,0)) (tK BK132) hb);replace HB:=ak (below_step (tBs GE132) hb);(try clear hb)) | ((with_reducible refine gf_ 76 rfl ?_);refine gC_ (some 9) Tryz.func76 #[.agg #[.int .i64 a0_0,.int .i64 a0_1,.string a0_2,.slice A0_3 l0_3.length c0_3,.slice A0_4 l0_4.length c0_4,.slice A0_5 l0_5.length c0_5],.int .i64 20000] ?_;(with_reducible refine(te_small.calls a0_0 a0_1 a0_2 _ _ l0_3 _ _ l0_4 _ _ l0_5 20000 true _ ?side1 ?side2 ?side3 ?side4 ?side5 ?side6 A4.out).mono ?_);(case side1=>exact tCb HR0_3 HB);(case side2=>exact HC0_3.out);(case side3=>exact tCb HR0_4 HB);(case side4=>exact HC0_4.out);(case side5=>exact tCb HR0_5 HB);(case side6=>exact HC0_5.out);rintro e wa ⟨rfl,hb⟩;refine⟨_,rfl, ?_⟩;replace BK132:=ak (blk_below (g:=gb132) (o:=.cells #[.int .i64 a0_0,.int .i64 a0_1,.string a0_2,.slice A0_3 l0_3.length c0_3,.slice A0_4 l0_4.length c0_4,.slice A0_5 l0_5.length c0_5] 49 (0,0)) (tK BK132) hb);replace HB:=ak (below_step (tBs GE132) hb);(try clear hb)));go_ret;exact⟨tE,by repeat (first | (with_reducible first | exact HB.out | apply below_alloc | apply pw_below_drewN | apply below_drew1 | refine below_set ?_ GE132.out) | exact HB.out)⟩):p:=h_
set_option maxHeartbeats 8000000 in
theorem te_sized.calls(a0_0:Int)(a0_1:Int)(a0_2:ByteArray)(A0_3:Option Addr)(c0_3:Nat)(l0_3:List (S113))(A0_4:Option Addr)(c0_4:Nat)(l0_4:List (S49))(A0_5:Option Addr)(c0_5:Nat)(l0_5:List (S90))(r:Int)(w:World)(hr0_3:Kd.C k113 w A0_3 l0_3.length l0_3)(hc0_3:l0_3.length≤c0_3)(hr0_4:Kd.C k49 w A0_4 l0_4.length l0_4)(hc0_4:l0_4.length≤c0_4)(hr0_5:Kd.C k90 w A0_5 l0_5.length l0_5)(hc0_5:l0_5.length≤c0_5)(h:te_sized.f a0_0 a0_1 a0_2 l0_3 l0_4 l0_5=some r) :
  Calls Tryz.prog 54 #[.agg #[.int .i64 a0_0,.int .i64 a0_1,.string a0_2,.slice A0_3 l0_3.length c0_3,.slice A0_4 l0_4.length c0_4,.slice A0_5 l0_5.length c0_5]] w fun e w'=>e=.returned (.int .i64 r)∧Below w.heap.size w w':=by
 have hu49:=Tryz.underlying49
 have HR0_3:=ak hr0_3
 have HC0_3:=ak hc0_3
 clear hr0_3 hc0_3
 have HR0_4:=ak hr0_4
 have HC0_4:=ak hc0_4
 clear hr0_4 hc0_4
 have HR0_5:=ak hr0_5
 have HC0_5:=ak hc0_5
 clear hr0_5 hc0_5
 have HB:=ak (Below.refl w.heap.size w)
 have H:((te_shallo.f a0_0 a0_1 a0_2 l0_3 l0_4 l0_5 200).bind fun t133=>(if t133=true then((te_small.f a0_0 a0_1 a0_2 l0_3 l0_4 l0_5 20000).bind fun t134=>(if t134=true then(some 0) else(some 221))) else(some 62)))=some r:=h
 clear h
 replace H:=iX H
 obtain⟨t133,A2,H⟩:=H
 replace H:=iB H
 rcases H with⟨rfl,H⟩ | ⟨rfl,H⟩
 ·replace H:=iX H
  obtain⟨t134,A4,H⟩:=H
  replace H:=iB H
  rcases H with⟨rfl,H⟩ | ⟨rfl,H⟩
  ·obtain rfl:=Option.some.inj H
   go_enter Tryz.func54,Tryz.ntmps54
   exact te_sized.z0
  obtain rfl:=Option.some.inj H
  go_enter Tryz.func54,Tryz.ntmps54
  exact te_sized.z0
 obtain rfl:=Option.some.inj H
 go_enter Tryz.func54,Tryz.ntmps54
 exact te_sized.z0
def te_Parts.j0:Nat→Int→Bool→Option (Int)
  | 0,_,_=>none
  | k+1,x3,x4=>if x4=true then(some 1) else(if x3=16 then(some 2) else(some 0))
def te_Parts.f(k:Nat)(a0:Int):Option (Int):=if a0=15 then(te_Parts.j0 k a0 (a0==15)) else(if a0=17 then(te_Parts.j0 k a0 (a0==17)) else(te_Parts.j0 k a0 (a0==18)))
set_option maxHeartbeats 8000000 in
theorem te_Parts.calls(k:Nat)(a0:Int)(r:Int)(w:World)(h:te_Parts.f k a0=some r) :
  Calls Tryz.prog 41 #[.int .i64 a0] w fun e w'=>e=.returned (.int .i64 r)∧Drawn0 w w':=by
 have H:(if a0=15 then(te_Parts.j0 k a0 (a0==15)) else(if a0=17 then(te_Parts.j0 k a0 (a0==17)) else(te_Parts.j0 k a0 (a0==18))))=some r:=h
 clear h
 have HC2:=ak H
 clear H
 go_enter Tryz.func41,Tryz.ntmps41
 go_upto_if 4 with(fail)
 go_cut [4] (fun v4 wc=>∃(kq:Nat) (x4_1:Bool),v4=.bool x4_1∧Aside0 (te_Parts.j0 kq a0 x4_1=some r)∧Aside0 (kq≤k)∧Drawn0 w wc)
 case first =>
  have H:=HC2.out
  clear HC2
  replace H:=iE H
  rcases H with⟨c3b0,c3b1,H⟩ | ⟨c3,c3b0,c3b1,H⟩
  ·(first | rw [c3b0] | (simp only [i64_w,i32_w];rw [c3b0]) | skip)
   have H':=ak H
   clear H
   go_wp2
   go_meet
   case rel=>exact⟨_,((a0==15)),tS,H',⟨by first | omega | exact Nat.le_refl _⟩,tD⟩
  (first | rw [c3b0] | (simp only [i64_w,i32_w];rw [c3b0]) | skip)
  replace H:=iE H
  rcases H with⟨c4b0,c4b1,H⟩ | ⟨c4,c4b0,c4b1,H⟩
  ·have H':=ak H
   clear H
   go_wp2
   go_meet
   case rel=>exact⟨_,((a0==17)),tS,H',⟨by first | omega | exact Nat.le_refl _⟩,tD⟩
  have H':=ak H
  clear H
  go_wp2
  go_meet
  case rel=>exact⟨_,((a0==18)),tS,H',⟨by first | omega | exact Nat.le_refl _⟩,tD⟩
 case rest =>
  clear HC2
  obtain⟨kq,x4_1,rfl,HA,HJ1,⟨mc1,rfl⟩⟩:=hcut
  cases kq with
  | zero=>exact absurd HA.out (by simp [te_Parts.j0])
  | succ kj1 =>
   have H:=HA.out
   clear HA
   simp only [te_Parts.j0] at H
   replace H:=iB H
   rcases H with⟨rfl,H⟩ | ⟨rfl,H⟩
   ·exact zz1
   replace H:=iE H
   rcases H with⟨c6b0,c6b1,H⟩ | ⟨c6,c6b0,c6b1,H⟩
   ·exact zz1
   exact zz1
mutual
def te_Kids.j0:Nat→Int→Bool→Option (Int)
  | 0,_,_=>none
  | k+1,x3,x4=>if x4=true then(some 0) else(if x3=5 then(te_Kids.j1 k x3 (x3==5)) else(if x3=9 then(te_Kids.j1 k x3 (x3==9)) else(if x3=10 then(te_Kids.j1 k x3 (x3==10)) else(if x3=23 then(te_Kids.j1 k x3 (x3==23)) else(if x3=12 then(te_Kids.j1 k x3 (x3==12)) else(if x3=16 then(te_Kids.j1 k x3 (x3==16)) else(if x3=17 then(te_Kids.j1 k x3 (x3==17)) else(if x3=18 then(te_Kids.j1 k x3 (x3==18)) else(te_Kids.j1 k x3 (x3==26))))))))))
def te_Kids.j1:Nat→Int→Bool→Option (Int)
  | 0,_,_=>none
  | k+1,x3,x13=>if x13=true then(some 1) else(if x3=4 then(te_Kids.j2 k x3 (x3==4)) else(if x3=7 then(te_Kids.j2 k x3 (x3==7)) else(if x3=6 then(te_Kids.j2 k x3 (x3==6)) else(if x3=8 then(te_Kids.j2 k x3 (x3==8)) else(if x3=14 then(te_Kids.j2 k x3 (x3==14)) else(if x3=15 then(te_Kids.j2 k x3 (x3==15)) else(te_Kids.j2 k x3 (x3==28))))))))
def te_Kids.j2:Nat→Int→Bool→Option (Int)
  | 0,_,_=>none
  | k+1,x3,x23=>if x23=true then(some 2) else(if x3=11 then(te_Kids.j3 k x3 (x3==11)) else(te_Kids.j3 k x3 (x3==13)))
def te_Kids.j3:Nat→Int→Bool→Option (Int)
  | 0,_,_=>none
  | k+1,x3,x31=>if x31=true then(some 3) else(if x3=22 then(some 4) else(if x3=27 then(some 5) else(some (-1))))
end
def te_Kids.f(k:Nat)(a0:Int):Option (Int):=if a0=1 then(te_Kids.j0 k a0 (a0==1)) else(if a0=2 then(te_Kids.j0 k a0 (a0==2)) else(if a0=3 then(te_Kids.j0 k a0 (a0==3)) else(if a0=19 then(te_Kids.j0 k a0 (a0==19)) else(if a0=20 then(te_Kids.j0 k a0 (a0==20)) else(if a0=24 then(te_Kids.j0 k a0 (a0==24)) else(if a0=25 then(te_Kids.j0 k a0 (a0==25)) else(te_Kids.j0 k a0 (a0==21))))))))
set_option maxHeartbeats 8000000 in
theorem te_Kids.calls(k:Nat)(a0:Int)(r:Int)(w:World)(h:te_Kids.f k a0=some r) :
  Calls Tryz.prog 85 #[.int .i64 a0] w fun e w'=>e=.returned (.int .i64 r)∧Drawn0 w w':=by
 have H:(if a0=1 then(te_Kids.j0 k a0 (a0==1)) else(if a0=2 then(te_Kids.j0 k a0 (a0==2)) else(if a0=3 then(te_Kids.j0 k a0 (a0==3)) else(if a0=19 then(te_Kids.j0 k a0 (a0==19)) else(if a0=20 then(te_Kids.j0 k a0 (a0==20)) else(if a0=24 then(te_Kids.j0 k a0 (a0==24)) else(if a0=25 then(te_Kids.j0 k a0 (a0==25)) else(te_Kids.j0 k a0 (a0==21)))))))))=some r:=h
 clear h
 have HC2:=ak H
 clear H
 go_enter Tryz.func85,Tryz.ntmps85
 go_upto_if 4 with(fail)
 go_cut [4] (fun v4 wc=>∃(kq:Nat) (x4_1:Bool),v4=.bool x4_1∧Aside0 (te_Kids.j0 kq a0 x4_1=some r)∧Aside0 (kq≤k)∧Drawn0 w wc)
 case first =>
  have H:=HC2.out
  clear HC2
  replace H:=iE H
  rcases H with⟨c3b0,c3b1,H⟩ | ⟨c3,c3b0,c3b1,H⟩
  ·(first | rw [c3b0] | (simp only [i64_w,i32_w];rw [c3b0]) | skip)
   have H':=ak H
   clear H
   go_wp2
   go_meet
   case rel=>exact⟨_,((a0==1)),tS,H',⟨by first | omega | exact Nat.le_refl _⟩,tD⟩
  (first | rw [c3b0] | (simp only [i64_w,i32_w];rw [c3b0]) | skip)
  replace H:=iE H
  rcases H with⟨c4b0,c4b1,H⟩ | ⟨c4,c4b0,c4b1,H⟩
  ·have H':=ak H
   clear H
   go_wp2
   go_meet
   case rel=>exact⟨_,((a0==2)),tS,H',⟨by first | omega | exact Nat.le_refl _⟩,tD⟩
  replace H:=iE H
  rcases H with⟨c5b0,c5b1,H⟩ | ⟨c5,c5b0,c5b1,H⟩
  ·have H':=ak H
   clear H
   go_wp2
   go_meet
   case rel=>exact⟨_,((a0==3)),tS,H',⟨by first | omega | exact Nat.le_refl _⟩,tD⟩
  replace H:=iE H
  rcases H with⟨c6b0,c6b1,H⟩ | ⟨c6,c6b0,c6b1,H⟩
  ·have H':=ak H
   clear H
   go_wp2
   go_meet
   case rel=>exact⟨_,((a0==19)),tS,H',⟨by first | omega | exact Nat.le_refl _⟩,tD⟩
  replace H:=iE H
  rcases H with⟨c7b0,c7b1,H⟩ | ⟨c7,c7b0,c7b1,H⟩
  ·have H':=ak H
   clear H
   go_wp2
   go_meet
   case rel=>exact⟨_,((a0==20)),tS,H',⟨by first | omega | exact Nat.le_refl _⟩,tD⟩
  replace H:=iE H
  rcases H with⟨c8b0,c8b1,H⟩ | ⟨c8,c8b0,c8b1,H⟩
  ·have H':=ak H
   clear H
   go_wp2
   go_meet
   case rel=>exact⟨_,((a0==24)),tS,H',⟨by first | omega | exact Nat.le_refl _⟩,tD⟩
  replace H:=iE H
  rcases H with⟨c9b0,c9b1,H⟩ | ⟨c9,c9b0,c9b1,H⟩
  ·have H':=ak H
   clear H
   go_wp2
   go_meet
   case rel=>exact⟨_,((a0==25)),tS,H',⟨by first | omega | exact Nat.le_refl _⟩,tD⟩
  have H':=ak H
  clear H
  go_wp2
  go_meet
  case rel=>exact⟨_,((a0==21)),tS,H',⟨by first | omega | exact Nat.le_refl _⟩,tD⟩
 case rest =>
  clear HC2
  obtain⟨kq,x4_1,rfl,HA,HJ1,⟨mc1,rfl⟩⟩:=hcut
  cases kq with
  | zero=>exact absurd HA.out (by simp [te_Kids.j0])
  | succ kj1 =>
   have H:=HA.out
   clear HA
   simp only [te_Kids.j0] at H
   replace H:=iB H
   rcases H with⟨rfl,H⟩ | ⟨rfl,H⟩
   ·exact zz1
   have HC11:=ak H
   clear H
   go_upto_if 13 with(fail)
   go_cut [13] (fun v13 wc=>∃(kq:Nat) (x13_10:Bool),v13=.bool x13_10∧Aside0 (te_Kids.j1 kq a0 x13_10=some r)∧Aside0 (kq≤kj1)∧Drawn0 w wc)
   case first =>
    have H:=HC11.out
    clear HC11
    replace H:=iE H
    rcases H with⟨c12b0,c12b1,H⟩ | ⟨c12,c12b0,c12b1,H⟩
    ·(first | rw [c12b0] | (simp only [i64_w,i32_w];rw [c12b0]) | skip)
     have H':=ak H
     clear H
     go_wp2
     go_meet
     case rel=>exact⟨_,((a0==5)),tS,H',⟨by have:=HJ1.out;first | omega | exact Nat.le_refl _⟩,tD⟩
    (first | rw [c12b0] | (simp only [i64_w,i32_w];rw [c12b0]) | skip)
    replace H:=iE H
    rcases H with⟨c13b0,c13b1,H⟩ | ⟨c13,c13b0,c13b1,H⟩
    ·have H':=ak H
     clear H
     go_wp2
     go_meet
     case rel=>exact⟨_,((a0==9)),tS,H',⟨by have:=HJ1.out;first | omega | exact Nat.le_refl _⟩,tD⟩
    replace H:=iE H
    rcases H with⟨c14b0,c14b1,H⟩ | ⟨c14,c14b0,c14b1,H⟩
    ·have H':=ak H
     clear H
     go_wp2
     go_meet
     case rel=>exact⟨_,((a0==10)),tS,H',⟨by have:=HJ1.out;first | omega | exact Nat.le_refl _⟩,tD⟩
    replace H:=iE H
    rcases H with⟨c15b0,c15b1,H⟩ | ⟨c15,c15b0,c15b1,H⟩
    ·have H':=ak H
     clear H
     go_wp2
     go_meet
     case rel=>exact⟨_,((a0==23)),tS,H',⟨by have:=HJ1.out;first | omega | exact Nat.le_refl _⟩,tD⟩
    replace H:=iE H
    rcases H with⟨c16b0,c16b1,H⟩ | ⟨c16,c16b0,c16b1,H⟩
    ·have H':=ak H
     clear H
     go_wp2
     go_meet
     case rel=>exact⟨_,((a0==12)),tS,H',⟨by have:=HJ1.out;first | omega | exact Nat.le_refl _⟩,tD⟩
    replace H:=iE H
    rcases H with⟨c17b0,c17b1,H⟩ | ⟨c17,c17b0,c17b1,H⟩
    ·have H':=ak H
     clear H
     go_wp2
     go_meet
     case rel=>exact⟨_,((a0==16)),tS,H',⟨by have:=HJ1.out;first | omega | exact Nat.le_refl _⟩,tD⟩
    replace H:=iE H
    rcases H with⟨c18b0,c18b1,H⟩ | ⟨c18,c18b0,c18b1,H⟩
    ·have H':=ak H
     clear H
     go_wp2
     go_meet
     case rel=>exact⟨_,((a0==17)),tS,H',⟨by have:=HJ1.out;first | omega | exact Nat.le_refl _⟩,tD⟩
    replace H:=iE H
    rcases H with⟨c19b0,c19b1,H⟩ | ⟨c19,c19b0,c19b1,H⟩
    ·have H':=ak H
     clear H
     go_wp2
     go_meet
     case rel=>exact⟨_,((a0==18)),tS,H',⟨by have:=HJ1.out;first | omega | exact Nat.le_refl _⟩,tD⟩
    have H':=ak H
    clear H
    go_wp2
    go_meet
    case rel=>exact⟨_,((a0==26)),tS,H',⟨by have:=HJ1.out;first | omega | exact Nat.le_refl _⟩,tD⟩
   case rest =>
    clear HC11
    obtain⟨kq,x13_10,rfl,HA,HJ10,⟨mc10,rfl⟩⟩:=hcut
    cases kq with
    | zero=>exact absurd HA.out (by simp [te_Kids.j1])
    | succ kj10 =>
     have H:=HA.out
     clear HA
     simp only [te_Kids.j1] at H
     replace H:=iB H
     rcases H with⟨rfl,H⟩ | ⟨rfl,H⟩
     ·exact zz1
     have HC21:=ak H
     clear H
     go_upto_if 23 with(fail)
     go_cut [23] (fun v23 wc=>∃(kq:Nat) (x23_20:Bool),v23=.bool x23_20∧Aside0 (te_Kids.j2 kq a0 x23_20=some r)∧Aside0 (kq≤kj10)∧Drawn0 w wc)
     case first =>
      have H:=HC21.out
      clear HC21
      replace H:=iE H
      rcases H with⟨c22b0,c22b1,H⟩ | ⟨c22,c22b0,c22b1,H⟩
      ·(first | rw [c22b0] | (simp only [i64_w,i32_w];rw [c22b0]) | skip)
       have H':=ak H
       clear H
       go_wp2
       go_meet
       case rel=>exact⟨_,((a0==4)),tS,H',⟨by have:=HJ1.out;have:=HJ10.out;first | omega | exact Nat.le_refl _⟩,tD⟩
      (first | rw [c22b0] | (simp only [i64_w,i32_w];rw [c22b0]) | skip)
      replace H:=iE H
      rcases H with⟨c23b0,c23b1,H⟩ | ⟨c23,c23b0,c23b1,H⟩
      ·have H':=ak H
       clear H
       go_wp2
       go_meet
       case rel=>exact⟨_,((a0==7)),tS,H',⟨by have:=HJ1.out;have:=HJ10.out;first | omega | exact Nat.le_refl _⟩,tD⟩
      replace H:=iE H
      rcases H with⟨c24b0,c24b1,H⟩ | ⟨c24,c24b0,c24b1,H⟩
      ·have H':=ak H
       clear H
       go_wp2
       go_meet
       case rel=>exact⟨_,((a0==6)),tS,H',⟨by have:=HJ1.out;have:=HJ10.out;first | omega | exact Nat.le_refl _⟩,tD⟩
      replace H:=iE H
      rcases H with⟨c25b0,c25b1,H⟩ | ⟨c25,c25b0,c25b1,H⟩
      ·have H':=ak H
       clear H
       go_wp2
       go_meet
       case rel=>exact⟨_,((a0==8)),tS,H',⟨by have:=HJ1.out;have:=HJ10.out;first | omega | exact Nat.le_refl _⟩,tD⟩
      replace H:=iE H
      rcases H with⟨c26b0,c26b1,H⟩ | ⟨c26,c26b0,c26b1,H⟩
      ·have H':=ak H
       clear H
       go_wp2
       go_meet
       case rel=>exact⟨_,((a0==14)),tS,H',⟨by have:=HJ1.out;have:=HJ10.out;first | omega | exact Nat.le_refl _⟩,tD⟩
      replace H:=iE H
      rcases H with⟨c27b0,c27b1,H⟩ | ⟨c27,c27b0,c27b1,H⟩
      ·have H':=ak H
       clear H
       go_wp2
       go_meet
       case rel=>exact⟨_,((a0==15)),tS,H',⟨by have:=HJ1.out;have:=HJ10.out;first | omega | exact Nat.le_refl _⟩,tD⟩
      have H':=ak H
      clear H
      go_wp2
      go_meet
      case rel=>exact⟨_,((a0==28)),tS,H',⟨by have:=HJ1.out;have:=HJ10.out;first | omega | exact Nat.le_refl _⟩,tD⟩
     case rest =>
      clear HC21
      obtain⟨kq,x23_20,rfl,HA,HJ20,⟨mc20,rfl⟩⟩:=hcut
      cases kq with
      | zero=>exact absurd HA.out (by simp [te_Kids.j2])
      | succ kj20 =>
       have H:=HA.out
       clear HA
       simp only [te_Kids.j2] at H
       replace H:=iB H
       rcases H with⟨rfl,H⟩ | ⟨rfl,H⟩
       ·exact zz1
       have HC29:=ak H
       clear H
       go_upto_if 31 with(fail)
       go_cut [31] (fun v31 wc=>∃(kq:Nat) (x31_28:Bool),v31=.bool x31_28∧Aside0 (te_Kids.j3 kq a0 x31_28=some r)∧Aside0 (kq≤kj20)∧Drawn0 w wc)
       case first =>
        have H:=HC29.out
        clear HC29
        replace H:=iE H
        rcases H with⟨c30b0,c30b1,H⟩ | ⟨c30,c30b0,c30b1,H⟩
        ·(first | rw [c30b0] | (simp only [i64_w,i32_w];rw [c30b0]) | skip)
         have H':=ak H
         clear H
         go_wp2
         go_meet
         case rel=>exact⟨_,((a0==11)),tS,H',⟨by have:=HJ1.out;have:=HJ10.out;have:=HJ20.out;first | omega | exact Nat.le_refl _⟩,tD⟩
        (first | rw [c30b0] | (simp only [i64_w,i32_w];rw [c30b0]) | skip)
        have H':=ak H
        clear H
        go_wp2
        go_meet
        case rel=>exact⟨_,((a0==13)),tS,H',⟨by have:=HJ1.out;have:=HJ10.out;have:=HJ20.out;first | omega | exact Nat.le_refl _⟩,tD⟩
       case rest =>
        clear HC29
        obtain⟨kq,x31_28,rfl,HA,HJ28,⟨mc28,rfl⟩⟩:=hcut
        cases kq with
        | zero=>exact absurd HA.out (by simp [te_Kids.j3])
        | succ kj28 =>
         have H:=HA.out
         clear HA
         simp only [te_Kids.j3] at H
         replace H:=iB H
         rcases H with⟨rfl,H⟩ | ⟨rfl,H⟩
         ·exact zz1
         replace H:=iE H
         rcases H with⟨c32b0,c32b1,H⟩ | ⟨c32,c32b0,c32b1,H⟩
         ·exact zz1
         replace H:=iE H
         rcases H with⟨c33b0,c33b1,H⟩ | ⟨c33,c33b0,c33b1,H⟩
         ·exact zz1
         exact zz1
def ma_Right.f(a0:Int):Option (Bool):=some ((Go.bits .andNot .u32 a0 16777215)==0)
set_option maxHeartbeats 8000000 in
theorem ma_Right.calls(a0:Int)(r:Bool)(w:World)(h:ma_Right.f a0=some r) :
  Calls Tryz.prog 121 #[.int .u32 a0] w fun e w'=>e=.returned (.bool r)∧Drawn0 w w':=by
 have H:(some ((Go.bits .andNot .u32 a0 16777215)==0))=some r:=h
 clear h
 obtain rfl:=Option.some.inj H
 go_enter Tryz.func121,Tryz.ntmps121
 exact zz0
def cl_Right.f(a0_0:Int)(a0_1:Int):Option (Bool):=(ma_Right.f a0_0).bind fun t136=>(if t136=true then((ma_Right.f a0_1).bind fun t137=>(some t137)) else(some false))
theorem cl_Right.z0{p:Prop}(h_:p:=by go_wp2_with (first | ((with_reducible refine gd_ 1 rfl ?_);refine boxE 1 #[.int .u32 a0_0,.int .u32 a0_1] 113 ?_;intro gb135 hg wa hbox hb;have BK135:=ak (hbox);have GW135:=ak (tG:w.heap.size≤gb135);have GE135:=ak (tG:w.heap.size≤gb135);replace HB:=ak (below_step tB hb);clear hb hbox hg;have hcza:=cz2 BK135.out) | ((with_reducible refine gf_ 121 rfl ?_);refine gC_ (some 5) Tryz.func121 #[.int .u32 a0_0] ?_;(with_reducible refine(ma_Right.calls a0_0 false _ A2.out).mono ?_);rintro e w' ⟨rfl,⟨nd,rfl⟩⟩;refine⟨_,rfl, ?_⟩) | ((with_reducible refine gf_ 121 rfl ?_);refine gC_ (some 5) Tryz.func121 #[.int .u32 a0_0] ?_;(with_reducible refine(ma_Right.calls a0_0 true _ A2.out).mono ?_);rintro e w' ⟨rfl,⟨nd,rfl⟩⟩;refine⟨_,rfl, ?_⟩) | (go_at_call 121;(with_reducible refine(ma_Right.calls a0_1 t137 _ A4.out).mono ?_);rintro e w' ⟨rfl,⟨nd,rfl⟩⟩));go_ret;exact⟨tE,by repeat (first | (with_reducible first | exact HB.out | apply below_alloc | apply pw_below_drewN | apply below_drew1 | refine below_set ?_ GE135.out) | exact HB.out)⟩):p:=h_
set_option maxHeartbeats 8000000 in
theorem cl_Right.calls(a0_0:Int)(a0_1:Int)(r:Bool)(w:World)(h:cl_Right.f a0_0 a0_1=some r) :
  Calls Tryz.prog 113 #[.agg #[.int .u32 a0_0,.int .u32 a0_1]] w fun e w'=>e=.returned (.bool r)∧Below w.heap.size w w':=by
 have hu113:=Tryz.underlying113
 have HB:=ak (Below.refl w.heap.size w)
 have H:((ma_Right.f a0_0).bind fun t136=>(if t136=true then((ma_Right.f a0_1).bind fun t137=>(some t137)) else(some false)))=some r:=h
 clear h
 replace H:=iX H
 obtain⟨t136,A2,H⟩:=H
 replace H:=iB H
 rcases H with⟨rfl,H⟩ | ⟨rfl,H⟩
 ·replace H:=iX H
  obtain⟨t137,A4,H⟩:=H
  obtain rfl:=Option.some.inj H
  go_enter Tryz.func113,Tryz.ntmps113
  exact cl_Right.z0
 obtain rfl:=Option.some.inj H
 go_enter Tryz.func113,Tryz.ntmps113
 exact cl_Right.z0
def cl_Meet.f(a0_0:Int)(a0_1:Int)(a1_0:Int)(a1_1:Int):Option (Int×Int):=some (Go.bits .or .u32 a0_0 a1_0,Go.bits .or .u32 a0_1 a1_1)
set_option maxHeartbeats 8000000 in
theorem cl_Meet.calls(a0_0:Int)(a0_1:Int)(a1_0:Int)(a1_1:Int)(r1:Int)(r2:Int)(w:World)(h:cl_Meet.f a0_0 a0_1 a1_0 a1_1=some (r1,r2)) :
  Calls Tryz.prog 122 #[.agg #[.int .u32 a0_0,.int .u32 a0_1],.agg #[.int .u32 a1_0,.int .u32 a1_1]] w fun e w'=>e=.returned (.agg #[.int .u32 r1,.int .u32 r2])∧Below w.heap.size w w':=by
 have hu113:=Tryz.underlying113
 have HB:=ak (Below.refl w.heap.size w)
 have H:(some (Go.bits .or .u32 a0_0 a1_0,Go.bits .or .u32 a0_1 a1_1))=some (r1,r2):=h
 clear h
 simp only [Option.some.injEq,Prod.mk.injEq] at H
 obtain⟨rfl,rfl⟩:=H
 go_enter Tryz.func122,Tryz.ntmps122
 go_wp2_with (first | ((with_reducible refine gd_ 2 rfl ?_);refine boxE 2 #[.int .u32 a0_0,.int .u32 a0_1] 113 ?_;intro gb138 hg w3 hbox hb;have BK138:=ak (hbox);have GW138:=ak (tG:w.heap.size≤gb138);have GE138:=ak (tG:w.heap.size≤gb138);replace HB:=ak (below_step tB hb);clear hb hbox hg) | ((with_reducible refine gd_ 3 rfl ?_);refine boxE 3 #[.int .u32 a1_0,.int .u32 a1_1] 113 ?_;intro gb139 hg w4 hbox hb;have BK139:=ak (hbox);have GW139:=ak ((by rw [hg];exact(below_size (tBs GE138)):w.heap.size≤gb139));have GE139:=ak ((by rw [hg];exact(below_size (tBs GE138)):w.heap.size≤gb139));replace HB:=ak (below_step (tBs GE138) hb);have NB138_139:=ak ((by rw [hg];exact Nat.ne_of_lt (blk_lt (g:=gb138) (o:=.cells #[.int .u32 a0_0,.int .u32 a0_1] 113 (0,0)) (tK BK138)):gb138≠gb139));have NB139_138:=ak ((by rw [hg];exact Nat.ne_of_gt (blk_lt (g:=gb138) (o:=.cells #[.int .u32 a0_0,.int .u32 a0_1] 113 (0,0)) (tK BK138)):gb139≠gb138));replace BK138:=ak (blk_below (g:=gb138) (o:=.cells #[.int .u32 a0_0,.int .u32 a0_1] 113 (0,0)) (tK BK138) hb);clear hb hbox hg) | ((with_reducible refine gd_ 4 rfl ?_);refine boxE 4 #[.int .u32 0,.int .u32 0] 113 ?_;intro gb140 hg w5 hbox hb;have BK140:=ak (hbox);have GW140:=ak ((by rw [hg];exact(below_size (by repeat (first | (with_reducible first | exact HB.out | apply below_alloc | apply pw_below_drewN | apply below_drew1 | refine below_set ?_ GE138.out | refine below_set ?_ GE139.out) | exact HB.out))):w.heap.size≤gb140));have GE140:=ak ((by rw [hg];exact(below_size (by repeat (first | (with_reducible first | exact HB.out | apply below_alloc | apply pw_below_drewN | apply below_drew1 | refine below_set ?_ GE138.out | refine below_set ?_ GE139.out) | exact HB.out))):w.heap.size≤gb140));replace HB:=ak (below_step (by repeat (first | (with_reducible first | exact HB.out | apply below_alloc | apply pw_below_drewN | apply below_drew1 | refine below_set ?_ GE138.out | refine below_set ?_ GE139.out) | exact HB.out)) hb);have NB138_140:=ak ((by rw [hg];exact Nat.ne_of_lt (blk_lt (g:=gb138) (o:=.cells #[.int .u32 a0_0,.int .u32 a0_1] 113 (0,0)) (tK BK138)):gb138≠gb140));have NB140_138:=ak ((by rw [hg];exact Nat.ne_of_gt (blk_lt (g:=gb138) (o:=.cells #[.int .u32 a0_0,.int .u32 a0_1] 113 (0,0)) (tK BK138)):gb140≠gb138));replace BK138:=ak (blk_below (g:=gb138) (o:=.cells #[.int .u32 a0_0,.int .u32 a0_1] 113 (0,0)) (tK BK138) hb);have NB139_140:=ak ((by rw [hg];exact Nat.ne_of_lt (blk_lt (g:=gb139) (o:=.cells #[.int .u32 a1_0,.int .u32 a1_1] 113 (0,0)) (tK BK139)):gb139≠gb140));have NB140_139:=ak ((by rw [hg];exact Nat.ne_of_gt (blk_lt (g:=gb139) (o:=.cells #[.int .u32 a1_0,.int .u32 a1_1] 113 (0,0)) (tK BK139)):gb140≠gb139));replace BK139:=ak (blk_below (g:=gb139) (o:=.cells #[.int .u32 a1_0,.int .u32 a1_1] 113 (0,0)) (tK BK139) hb);clear hb hbox hg;have hnb6:=NB138_139.out;have hnc6:=NB139_138.out;have hnb7:=NB138_140.out;have hnc7:=NB140_138.out;have hcz8:=cz2 BK138.out;have hnb9:=NB139_140.out;have hnc9:=NB140_139.out;have hcz10:=cz2 BK139.out;have hcz11:=cz2 BK140.out))
 refine bodyPost_ret (results_cell_row rfl _ _ gb140 113 #[.int .u32 (Go.bits .or .u32 a0_0 a1_0),.int .u32 (Go.bits .or .u32 a0_1 a1_1)] (0,0) _ rfl (tPt BK140) Tryz.underlying113 rfl (by kernel_rfl)) rfl ?_
 exact⟨tE,by repeat (first | (with_reducible first | exact HB.out | apply below_alloc | apply pw_below_drewN | apply below_drew1 | refine below_set ?_ GE138.out | refine below_set ?_ GE139.out | refine below_set ?_ GE140.out) | exact HB.out)⟩
end
end Go.Proofs.YtahdjajdaggmjaaGreatDoor.XPd
end
section
namespace Go.Proofs.YtahdjajdaggmjaaGreatDoor.XPd
noncomputable section
open Go.RowKit Go.Proofs.YtahdjajdaggmjaaGreatDoorW.PrintWords Go.Proofs.YtahdjajdaggmjaaGreatDoorW.PrintLast Go.Proofs.YtahdjajdaggmjaaGreatDoorW.PrintMore
attribute [local go_sem] max2_int min2_int max_two min_two max_three min_three max_four min_four
set_option linter.unusedVariables false
set_option linter.unusedSimpArgs false
attribute [local go_sem high] eqA113
def cl_Below.f(a0_0:Int)(a0_1:Int)(a1_0:Int)(a1_1:Int):Option (Bool):=(cl_Meet.f a0_0 a0_1 a1_0 a1_1).bind fun bt143=>(some (bt143.1==a0_0&&(bt143.2==a0_1)))
set_option maxHeartbeats 8000000 in
theorem cl_Below.calls(a0_0:Int)(a0_1:Int)(a1_0:Int)(a1_1:Int)(r:Bool)(w:World)(h:cl_Below.f a0_0 a0_1 a1_0 a1_1=some r) :
  Calls Tryz.prog 116 #[.agg #[.int .u32 a0_0,.int .u32 a0_1],.agg #[.int .u32 a1_0,.int .u32 a1_1]] w fun e w'=>e=.returned (.bool r)∧Below w.heap.size w w':=by
 have hu113:=Tryz.underlying113
 have HB:=ak (Below.refl w.heap.size w)
 have H:((cl_Meet.f a0_0 a0_1 a1_0 a1_1).bind fun bt143=>(some (bt143.1==a0_0&&(bt143.2==a0_1))))=some r:=h
 clear h
 replace H:=iX H
 obtain⟨⟨t143,t144⟩,A3,H⟩:=H
 try dsimp only at H
 obtain rfl:=Option.some.inj H
 go_enter Tryz.func116,Tryz.ntmps116
 try go_wp2_with (first | ((with_reducible refine gd_ 2 rfl ?_);refine boxE 2 #[.int .u32 a0_0,.int .u32 a0_1] 113 ?_;intro gb141 hg w4 hbox hb;have BK141:=ak (hbox);have GW141:=ak (tG:w.heap.size≤gb141);have GE141:=ak (tG:w.heap.size≤gb141);replace HB:=ak (below_step tB hb);clear hb hbox hg) | ((with_reducible refine gd_ 3 rfl ?_);refine boxE 3 #[.int .u32 a1_0,.int .u32 a1_1] 113 ?_;intro gb142 hg w5 hbox hb;have BK142:=ak (hbox);have GW142:=ak ((by rw [hg];exact(below_size (tBs GE141)):w.heap.size≤gb142));have GE142:=ak ((by rw [hg];exact(below_size (tBs GE141)):w.heap.size≤gb142));replace HB:=ak (below_step (tBs GE141) hb);have NB141_142:=ak ((by rw [hg];exact Nat.ne_of_lt (blk_lt (g:=gb141) (o:=.cells #[.int .u32 a0_0,.int .u32 a0_1] 113 (0,0)) (tK BK141)):gb141≠gb142));have NB142_141:=ak ((by rw [hg];exact Nat.ne_of_gt (blk_lt (g:=gb141) (o:=.cells #[.int .u32 a0_0,.int .u32 a0_1] 113 (0,0)) (tK BK141)):gb142≠gb141));replace BK141:=ak (blk_below (g:=gb141) (o:=.cells #[.int .u32 a0_0,.int .u32 a0_1] 113 (0,0)) (tK BK141) hb);clear hb hbox hg))
 have n0_:=ak (blk_drew BK141.out)
 have n1_:=ak (blk_drew BK142.out)
 have n2_:=ak (below_drew1 HB.out)
 clear BK141
 clear BK142
 clear HB
 have BK141:=n0_
 have BK142:=n1_
 have HB:=n2_
 clear n0_ n1_ n2_
 refine start_ (n:=6) (S:=fun w'=>w'.cell? ⟨gb141,0,none⟩=some (.int .u32 a0_0)∧w'.cell? ⟨gb141,1,none⟩=some (.int .u32 a0_1)∧w'.cell? ⟨gb142,0,none⟩=some (.int .u32 a1_0)∧w'.cell? ⟨gb142,1,none⟩=some (.int .u32 a1_1)) (ds:=[]) #[false,false,false,false,false,false] (by kernel_rfl) rfl rfl ⟨(blk_cell BK141.out 0).trans rfl,(blk_cell BK141.out 1).trans rfl,(blk_cell BK142.out 0).trans rfl,(blk_cell BK142.out 1).trans rfl⟩ (fun hHeld=>?_)
 generalize w5.drew=w6 at BK141 BK142 HB hHeld ⊢
 refine tw_ 0 5 ?_
 refine tw_ 1 6 ?_
 refine tw_ 3 8 ?_
 refine on_ 2 (some 7) fun K hK=>?_
 refine goes_ Tryz.func122 (by kernel_rfl) rfl #[.agg #[.int .u32 a0_0,.int .u32 a0_1],.agg #[.int .u32 a1_0,.int .u32 a1_1]] (by rfl) rfl rfl tM ?_
 with_reducible refine(cl_Meet.calls a0_0 a0_1 a1_0 a1_1 t143 t144 _ A3.out).mono ?_
 rintro e w7 ⟨rfl,hb⟩
 refine⟨_,rfl, ?_⟩
 have n0_:=ak (blk_below (g:=gb141) (o:=.cells #[.int .u32 a0_0,.int .u32 a0_1] 113 (0,0)) (tK BK141) hb)
 have n1_:=ak (blk_below (g:=gb142) (o:=.cells #[.int .u32 a1_0,.int .u32 a1_1] 113 (0,0)) (tK BK142) hb)
 have n2_:=ak (below_step (by repeat (first | (with_reducible first | exact HB.out | apply below_alloc | apply pw_below_drewN | apply below_drew1 | refine below_set ?_ GE141.out | refine below_set ?_ GE142.out) | exact HB.out)) hb)
 clear BK141
 clear BK142
 clear HB
 have BK141:=n0_
 have BK142:=n1_
 have HB:=n2_
 clear n0_ n1_ n2_
 (try clear hb)
 (try clear hb2)
 (try clear hk)
 (try clear hi)
 refine hK.out _ _ ⟨(blk_cell BK141.out 0).trans rfl,(blk_cell BK141.out 1).trans rfl,(blk_cell BK142.out 0).trans rfl,(blk_cell BK142.out 1).trans rfl⟩ (fun hHeld=>?_)
 clear hK K
 refine norm_ (a':=?_) ?_ ?_
 rotate_left
 ·show Act.put _ (some 7) _=_
  simp only [Act.put,List.setIfInBounds_toArray,List.set_cons_zero,List.set_cons_succ,i64_w,i32_w]
  rfl
 refine pw_ 4 9 ?_
 refine pw_ 5 4 ?_
 refine done_ (by kernel_rfl) ?_
 try go_wp2
 go_ret
 exact⟨tE,by repeat (first | (with_reducible first | exact HB.out | apply below_alloc | apply pw_below_drewN | apply below_drew1 | refine below_set ?_ GE141.out | refine below_set ?_ GE142.out) | exact HB.out)⟩
def inR24(x:S113):Bool:=decide (0≤x.f0∧x.f0<4294967296∧0≤x.f1∧x.f1<4294967296)
def toC24(x:S113):H.C:=(UInt32.ofNat x.f0.toNat,UInt32.ofNat x.f1.toNat)
def ofC24(c:H.C):S113:=⟨un c.1,un c.2⟩
theorem un_ofNat{a:Int}(h0:0≤a)(h1:a<4294967296):un (UInt32.ofNat a.toNat)=a:=by
  unfold un
  rw [UInt32.toNat_ofNat',Nat.mod_eq_of_lt (by omega)]
  omega
theorem ofC_toC24{x:S113}(h:inR24 x=true):ofC24 (toC24 x)=x:=by
  have h':=of_decide_eq_true h
  unfold ofC24 toC24
  rw [un_ofNat h'.1 h'.2.1,un_ofNat h'.2.2.1 h'.2.2.2]
theorem toC_ofC24(c:H.C):toC24 (ofC24 c)=c:=by
  unfold ofC24 toC24 un
  simp
theorem inR_ofC24(c:H.C):inR24 (ofC24 c)=true:=by
  have h1:=un_range c.1
  have h2:=un_range c.2
  exact decide_eq_true ⟨h1.1,h1.2,h2.1,h2.2⟩
theorem plain24{w:World}{ad:Addr}{v:Value}(h:w.cell? (ad.add 0)=some v):∃b off,ad=⟨b,off,none⟩:=by
  obtain⟨b,off,s⟩:=ad
  cases s with
  | none=>exact⟨b,off,rfl⟩
  | some s =>
    simp only [World.cell?,Addr.add,if_true,Option.isSome_some] at h
    split at h<;>cases h
theorem rd24{w:World}{A:Option Addr}{l:List S113}(h:Kd.C k113 w A l.length l)(hin:l.all inR24=true)(hlen:l.length≤1000000):Rd w A (l.map toC24):=by
  refine⟨by rw [List.length_map];omega,fun hp=>?_⟩
  rw [List.length_map] at hp
  obtain⟨ad,e,h0,h1⟩:=at_T113 h 0 (by omega) (by omega)
  obtain⟨b,off,rfl⟩:=plain24 h0
  refine⟨b,off,e,fun j hj=>?_⟩
  rw [List.length_map] at hj
  obtain⟨ad2,e2,g0,g1⟩:=at_T113 h (j:Int) (by omega) (by omega)
  rw [e] at e2
  obtain rfl:=Option.some.inj e2
  have hx:rd_T113 l (j:Int)=l[j]:=by
    unfold rd_T113
    rw [Int.toNat_natCast,List.getD_eq_getElem?_getD,List.getElem?_eq_getElem hj]
    rfl
  have hr:=of_decide_eq_true (List.all_eq_true.1 hin l[j] (List.getElem_mem _))
  rw [hx,Int.toNat_natCast] at g0 g1
  have ea:(⟨b,off,none⟩:Addr).add (j * 2)=⟨b,off+j * 2,none⟩:=by
    unfold Addr.add
    split<;>simp_all
  rw [ea] at g0 g1
  rw [List.getElem_map]
  unfold toC24
  rw [un_ofNat hr.1 hr.2.1,un_ofNat hr.2.2.1 hr.2.2.2]
  exact⟨g0,g1⟩
theorem own24{w:World}{base:Nat}{v:Value}{l:List H.C}(h:Own w base v l):Kd.R k113 113 w base (fun _=>True) v (l.map ofC24):=by
  refine⟨fun _ _=>trivial,flat l,by rw [List.length_map];exact h.1,by rw [List.length_map];exact flat_length l,fun j p hp=>?_⟩
  rw [List.getElem?_map] at hp
  obtain⟨c,hc,rfl⟩:=Option.map_eq_some_iff.1 hp
  obtain⟨hj,rfl⟩:=List.getElem?_eq_some_iff.1 hc
  obtain⟨g0,g1⟩:=flat_get l j hj
  have e:((flat l).drop (j * 2)).take 2=[.int .u32 (un l[j].1),.int .u32 (un l[j].2)]:=by
    obtain⟨h0,g0⟩:=List.getElem?_eq_some_iff.1 g0
    obtain⟨h1,g1⟩:=List.getElem?_eq_some_iff.1 g1
    rw [List.drop_eq_getElem_cons h0,List.take_succ_cons,List.drop_eq_getElem_cons h1,List.take_succ_cons,List.take_zero,g0,g1]
  show k113.M w base _ (ofC24 l[j]) (((flat l).drop (j * 2)).take 2)
  rw [e]
  exact k113_mkM _ _ _ (ofC24 l[j])
theorem kd24{w:World}{A:Option Addr}{l:List H.C}(h:Rd w A l)(hl:l.length≤1000000):Kd.C k113 w A (l.map ofC24).length (l.map ofC24):=by
  refine⟨rfl,by rw [List.length_map];omega,fun hp=>?_⟩
  rw [List.length_map] at hp
  obtain⟨b,off,rfl,hc⟩:=h.2 hp
  refine⟨_,rfl,fun j p hp=>?_⟩
  rw [List.getElem?_map] at hp
  obtain⟨c,hcj,rfl⟩:=Option.map_eq_some_iff.1 hp
  obtain⟨hj,rfl⟩:=List.getElem?_eq_some_iff.1 hcj
  refine⟨_,rfl,k113_mk w (ofC24 l[j]),fun k u hk=>?_⟩
  obtain⟨h0,h1⟩:=hc j hj
  have ea:∀n,(⟨b,off,none⟩:Addr).add n=⟨b,off+n,none⟩:=fun n=>by
    unfold Addr.add
    split<;>simp_all
  show w.cell? ((⟨b,off,none⟩:Addr).add (j * 2+k))=some u
  rw [ea]
  match k,hk with
  | 0,hk=>cases hk;exact h0
  | 1,hk=>cases hk;exact h1
def okL24(l:List S113):Prop:=l.all inR24=true∧l.length≤1000000
instance (l:List S113):Decidable (okL24 l):=by unfold okL24;exact inferInstance
theorem right24(c:H.C):cl_Right.f (un c.1) (un c.2)=some (H.ok c):=by
  have h1:∀x:UInt32,ma_Right.f (un x)=some (H.r1 x):=fun x=>by
    unfold ma_Right.f
    rw [un_all,un_andNot,un_zero,un_beq,r1_andNot]
  unfold cl_Right.f
  rw [h1,h1,Option.bind_some]
  unfold H.ok
  cases H.r1 c.1
  · rfl
  · rfl
theorem below24(a b:H.C):cl_Below.f (un a.1) (un a.2) (un b.1) (un b.2)=some (H.below a b):=by
  unfold cl_Below.f cl_Meet.f
  rw [Option.bind_some,un_or,un_or,un_beq,un_beq]
  unfold H.below H.meet
  rw [Option.some.injEq,Bool.eq_iff_iff]
  simp [Prod.ext_iff]
theorem small24:Small where
  right c w:=cl_Right.calls (un c.1) (un c.2) (H.ok c) w (right24 c)
  below a b w:=cl_Below.calls (un a.1) (un a.2) (un b.1) (un b.2) (H.below a b) w (below24 a b)
def cl_Least.f(l0:List S113):Option (List S113×Int):=if l0.all inR24=true∧l0.length≤1000000 then some ((H.least (l0.map toC24)).1.map ofC24,(H.least (l0.map toC24)).2) else none
theorem cl_Least.calls(A0:Option Addr)(c0:Nat)(l0:List (S113))(r1:List (S113))(r2:Int)(w:World)(hr0:Kd.C k113 w A0 l0.length l0)(hc0:l0.length≤c0)(h:cl_Least.f l0=some (r1,r2)) :
    Calls Tryz.prog 103 #[.slice A0 l0.length c0] w fun e w'=>∃v0_:Value,e=.returned (.tuple #[v0_,.int .i64 r2])∧Kd.R k113 113 w' w.heap.size (fun _=>True) v0_ r1∧Below w.heap.size w w':=by
 unfold cl_Least.f at h
 by_cases hr:l0.all inR24=true∧l0.length≤1000000
 ·rw [if_pos hr] at h
  simp only [Option.some.injEq,Prod.mk.injEq] at h
  obtain⟨rfl,rfl⟩:=h
  have hc:=cl_Least small24 A0 c0 (l0.map toC24) w (rd24 hr0 hr.1 hr.2) (by rw [List.length_map];exact hr.2)
  rw [List.length_map] at hc
  refine hc.mono ?_
  rintro e w' ⟨v,rfl,ho,hb⟩
  exact⟨v,rfl,own24 ho,hb⟩
 ·rw [if_neg hr] at h
  exact absurd h (by simp)
def ap_Clause.l0:Nat→List (S113)→List (S113)→Int→Int→Option (Bool)
  | 0,_,_,_,_=>none
  | k+1,x0,x1,x12,x13=>if x13<x12 then(if 0≤x13 then(if x13<(x0.length:Int) then(if x13<(x1.length:Int) then(if (!(((rd_T113 x0 x13).f0)==((rd_T113 x1 x13).f0))||(!(((rd_T113 x0 x13).f1)==((rd_T113 x1 x13).f1))))=true then(some false) else(ap_Clause.l0 k x0 x1 x12 (wrap64 (x13+1)))) else(none)) else(none)) else(none)) else(some true)
def ap_Clause.f(k:Nat)(l0:List (S113))(l1:List (S113)):Option (Bool):=if (l0.length:Int)=(l1.length:Int) then(ap_Clause.l0 k l0 l1 (l0.length:Int) 0) else(some false)
theorem ap_Clause.mono_l:∀k,(∀y0 y1 y2 y3,LeO (ap_Clause.l0 k y0 y1 y2 y3) (ap_Clause.l0 (k+1) y0 y1 y2 y3))
  | 0=>fun _ _ _ _ r h=>by simp [ap_Clause.l0] at h
  | k+1=>by
    have ih0:=ap_Clause.mono_l k
    · intros;unfold ap_Clause.l0;exact tMo
theorem ap_Clause.mono:∀a0 a1 k,LeO (ap_Clause.f k a0 a1) (ap_Clause.f (k+1) a0 a1):=by
  intro a0 a1 k
  have ih0:=ap_Clause.mono_l k
  unfold ap_Clause.f
  exact tMo
set_option maxHeartbeats 8000000 in
theorem ap_Clause.calls(k:Nat)(A0:Option Addr)(c0:Nat)(l0:List (S113))(A1:Option Addr)(c1:Nat)(l1:List (S113))(r:Bool)(w:World)(hr0:Kd.C k113 w A0 l0.length l0)(hc0:l0.length≤c0)(hr1:Kd.C k113 w A1 l1.length l1)(hc1:l1.length≤c1)(h:ap_Clause.f k l0 l1=some r) :
  Calls Tryz.prog 104 #[.slice A0 l0.length c0,.slice A1 l1.length c1] w fun e w'=>e=.returned (.bool r)∧Drawn0 w w':=by
 have hu113:=Tryz.underlying113
 have HR0:=ak hr0
 have HC0:=ak hc0
 clear hr0 hc0
 have HR1:=ak hr1
 have HC1:=ak hc1
 clear hr1 hc1
 have H:(if (l0.length:Int)=(l1.length:Int) then(ap_Clause.l0 k l0 l1 (l0.length:Int) 0) else(some false))=some r:=h
 clear h
 replace H:=iEk H
 rcases H with⟨c3,c3b0,c3b1,H⟩ | ⟨c3,c3b0,c3b1,H⟩
 ·have c3b2:(l0.length==l1.length)=true:=by first | simpa using c3 | (simp at c3 ⊢;omega)
  clear c3
  have H':=ak H
  clear H
  go_enter Tryz.func104,Tryz.ntmps104
  go_wp2
  repeat (go_quiet (fail);try go_wp2)
  go_loopg [13] k (fun kq v13 w'=>∃(x13_1:Int),v13=.int .i64 x13_1∧Aside0 (ap_Clause.l0 kq l0 l1 (l0.length:Int) x13_1=some r)∧Aside0 (kq≤k)∧Drawn0 w w')
  case atStart=>exact⟨(0),tS,H',⟨Nat.le_refl _⟩,tD⟩
  case round =>
   clear H'
   try clear c3
   try clear c3b0
   try clear c3b1
   try clear c3b2
   obtain⟨x13_1,rfl,HA,HK1,⟨m1,rfl⟩⟩:=hrel
   cases gk with
   | zero=>exact absurd HA.out (by simp [ap_Clause.l0])
   | succ k1 =>
    have H:=HA.out
    clear HA
    simp only [ap_Clause.l0] at H
    replace H:=iD H
    rcases H with⟨c4b0,H⟩ | ⟨c4b0,H⟩
    ·replace H:=niD H
     obtain⟨c5b0,H⟩:=H
     replace H:=niD H
     obtain⟨c6b0,H⟩:=H
     replace H:=niD H
     obtain⟨c7b0,H⟩:=H
     replace H:=iC H
     rcases H with⟨c8,H⟩ | ⟨c8,H⟩
     ·have c8b0:(!(((rd_T113 l0 x13_1).f0)==((rd_T113 l1 x13_1).f0))||(!(((rd_T113 l0 x13_1).f1)==((rd_T113 l1 x13_1).f1))))=true:=c8
      clear c8
      obtain rfl:=Option.some.inj H
      have p145:0≤(x13_1:Int):=tA
      have q145:x13_1<(l0.length:Int):=tA
      obtain⟨ad145,e145,hx145_0,hx145_1⟩:=at_T113 HR0.out x13_1 p145 q145
      cases e145
      replace p145:=eq_true p145
      replace q145:=eq_true q145
      have p146:0≤(x13_1:Int):=tA
      have q146:x13_1<(l1.length:Int):=tA
      obtain⟨ad146,e146,hx146_0,hx146_1⟩:=at_T113 HR1.out x13_1 p146 q146
      cases e146
      replace p146:=eq_true p146
      replace q146:=eq_true q146
      go_wp2
      repeat (go_quiet (fail);try go_wp2)
      go_ret
      exact⟨tS,tD⟩
     have c8b0:(!(((rd_T113 l0 x13_1).f0)==((rd_T113 l1 x13_1).f0))||(!(((rd_T113 l0 x13_1).f1)==((rd_T113 l1 x13_1).f1))))=false:=by simpa using c8
     clear c8
     have H':=ak H
     clear H
     have p145:0≤(x13_1:Int):=tA
     have q145:x13_1<(l0.length:Int):=tA
     obtain⟨ad145,e145,hx145_0,hx145_1⟩:=at_T113 HR0.out x13_1 p145 q145
     cases e145
     replace p145:=eq_true p145
     replace q145:=eq_true q145
     have p146:0≤(x13_1:Int):=tA
     have q146:x13_1<(l1.length:Int):=tA
     obtain⟨ad146,e146,hx146_0,hx146_1⟩:=at_T113 HR1.out x13_1 p146 q146
     cases e146
     replace p146:=eq_true p146
     replace q146:=eq_true q146
     go_wp2
     repeat (go_quiet (fail);try go_wp2)
     go_roundg k1
     case measure=>have:=HK1.out;omega
     case rel=>exact⟨(wrap64 (x13_1+1)),tS,H',⟨by have:=HK1.out;omega⟩,tD⟩
    exact zz4
 have c3b2:(l0.length==l1.length)=false:=by first | simpa using c3 | (simp at c3 ⊢;omega)
 obtain rfl:=Option.some.inj H
 go_enter Tryz.func104,Tryz.ntmps104
 go_wp2
 repeat (go_quiet (fail);try go_wp2)
 go_ret
 exact⟨tS,tD⟩
def fo_Right.f(k:Nat)(l0:List (S113)):Option (Bool):=(cl_Least.f l0).bind fun bt147=>(if bt147.2=0 then((ap_Clause.f k bt147.1 l0).bind fun t151=>(some t151)) else(some false))
theorem fo_Right.mono:∀a0 k,LeO (fo_Right.f k a0) (fo_Right.f (k+1) a0):=by
  intro a0 k
  unfold fo_Right.f
  have m0_:=@ap_Clause.mono
  exact tMo
set_option maxHeartbeats 8000000 in
theorem fo_Right.calls(k:Nat)(A0:Option Addr)(c0:Nat)(l0:List (S113))(r:Bool)(w:World)(hr0:Kd.C k113 w A0 l0.length l0)(hc0:l0.length≤c0)(h:fo_Right.f k l0=some r) :
  Calls Tryz.prog 87 #[.slice A0 l0.length c0] w fun e w'=>e=.returned (.bool r)∧Below w.heap.size w w':=by
 have HR0:=ak hr0
 have HC0:=ak hc0
 clear hr0 hc0
 have HB:=ak (Below.refl w.heap.size w)
 have H:((cl_Least.f l0).bind fun bt147=>(if bt147.2=0 then((ap_Clause.f k bt147.1 l0).bind fun t151=>(some t151)) else(some false)))=some r:=h
 clear h
 replace H:=iX H
 obtain⟨⟨t147,t148⟩,A2,H⟩:=H
 try dsimp only at H
 replace H:=iE H
 rcases H with⟨c3b0,c3b1,H⟩ | ⟨c3,c3b0,c3b1,H⟩
 ·replace H:=iX H
  obtain⟨t151,A4,H⟩:=H
  obtain rfl:=Option.some.inj H
  go_enter Tryz.func87,Tryz.ntmps87
  go_wp2_with (first | ((with_reducible refine gf_ 103 rfl ?_);refine gC_ (some 7) Tryz.func103 #[.slice A0 l0.length c0] ?_;(with_reducible refine(cl_Least.calls _ _ l0 t147 t148 _ ?side1 ?side2 A2.out).mono ?_);(case side1=>repeat (first | exact HR0.out | (with_reducible refine Kd.C_alloc ?_ _) | (with_reducible refine Kd.C_drewN ?_ _) | (with_reducible refine Kd.C_drew ?_)));(case side2=>exact HC0.out);rintro e w5 ⟨v149,rfl,ho0,hb⟩;refine⟨_,rfl, ?_⟩;have HO150:=ak (Kd.R_lower ho0 (below_size tB));replace HB:=ak (below_step tB hb);(try clear hb);(try clear ho0);obtain⟨Aoh150,coh150,eoh150⟩:=Kd.R_slice HO150.out;subst eoh150) | (go_at_call 104;(with_reducible refine(ap_Clause.calls k _ _ t147 _ _ l0 t151 _ ?side1 ?side2 ?side3 ?side4 A4.out).mono ?_);(case side1=>exact tCr HO150);(case side2=>exact(Kd.R_reads' HO150.out).2.1);(case side3=>exact tCb HR0 HB);(case side4=>exact HC0.out);rintro e w' ⟨rfl,⟨nd,rfl⟩⟩))
  go_ret
  exact⟨tE,tB⟩
 obtain rfl:=Option.some.inj H
 go_enter Tryz.func87,Tryz.ntmps87
 go_wp2_with (first | ((with_reducible refine gf_ 103 rfl ?_);refine gC_ (some 7) Tryz.func103 #[.slice A0 l0.length c0] ?_;(with_reducible refine(cl_Least.calls _ _ l0 t147 t148 _ ?side1 ?side2 A2.out).mono ?_);(case side1=>repeat (first | exact HR0.out | (with_reducible refine Kd.C_alloc ?_ _) | (with_reducible refine Kd.C_drewN ?_ _) | (with_reducible refine Kd.C_drew ?_)));(case side2=>exact HC0.out);rintro e w7 ⟨v149,rfl,ho0,hb⟩;refine⟨_,rfl, ?_⟩;have HO150:=ak (Kd.R_lower ho0 (below_size tB));replace HB:=ak (below_step tB hb);(try clear hb);(try clear ho0)))
 go_ret
 exact⟨tE,tB⟩
def cl_Clash.f(a0_0:Int)(a0_1:Int):Option (Bool):=some ((Go.bits .and .u32 a0_0 a0_1) != 0)
set_option maxHeartbeats 8000000 in
theorem cl_Clash.calls(a0_0:Int)(a0_1:Int)(r:Bool)(w:World)(h:cl_Clash.f a0_0 a0_1=some r) :
  Calls Tryz.prog 106 #[.agg #[.int .u32 a0_0,.int .u32 a0_1]] w fun e w'=>e=.returned (.bool r)∧Below w.heap.size w w':=by
 have hu113:=Tryz.underlying113
 have HB:=ak (Below.refl w.heap.size w)
 have H:(some ((Go.bits .and .u32 a0_0 a0_1) != 0))=some r:=h
 clear h
 obtain rfl:=Option.some.inj H
 go_enter Tryz.func106,Tryz.ntmps106
 go_wp2_with (first | ((with_reducible refine gd_ 1 rfl ?_);refine boxE 1 #[.int .u32 a0_0,.int .u32 a0_1] 113 ?_;intro gb152 hg w2 hbox hb;have BK152:=ak (hbox);have GW152:=ak (tG:w.heap.size≤gb152);have GE152:=ak (tG:w.heap.size≤gb152);replace HB:=ak (below_step tB hb);clear hb hbox hg;have hcz3:=cz2 BK152.out))
 go_ret
 exact⟨tE,by repeat (first | (with_reducible first | exact HB.out | apply below_alloc | apply pw_below_drewN | apply below_drew1 | refine below_set ?_ GE152.out) | exact HB.out)⟩
theorem clash24(c:H.C):cl_Clash.f (un c.1) (un c.2)=some (H.clash c):=by
  unfold cl_Clash.f
  rw [un_and,Option.some.injEq,un_zero,Bool.eq_iff_iff]
  unfold H.clash
  simp [un_inj]
theorem meetx24(a b:H.C):cl_Meet.f (un a.1) (un a.2) (un b.1) (un b.2)=some (un (H.meet a b).1,un (H.meet a b).2):=by
  unfold cl_Meet.f
  rw [un_or,un_or]
  rfl
theorem equal_l0(a b:List H.C)(hab:a.length=b.length)(hl:a.length≤1000000):∀(d k i:Nat),i+d=a.length→d<k→a.take i=b.take i→ap_Clause.l0 k (a.map ofC24) (b.map ofC24) (a.length:Int) (i:Int)=some (decide (a=b))
  | d,0,_,_,hk,_=>absurd hk (by omega)
  | 0,k+1,i,hi,_,ht=>by
    have e:a=b:=by rw [←List.take_of_length_le (l:=a) (i:=i) (by omega),ht,List.take_of_length_le (by omega)]
    rw [ap_Clause.l0,if_neg (by omega),decide_eq_true e]
  | d+1,k+1,i,hi,hk,ht=>by
    have hia:i<a.length:=by omega
    have hib:i<b.length:=by omega
    have e2:wrap64 ((i:Int)+1)=((i+1:Nat):Int):=by
      unfold wrap64
      omega
    have r:∀(l:List H.C) (h:i<l.length),rd_T113 (l.map ofC24) (i:Int)=ofC24 l[i]:=fun l h=>by
      unfold rd_T113
      rw [Int.toNat_natCast,List.getD_eq_getElem?_getD,List.getElem?_map,List.getElem?_eq_getElem h]
      rfl
    rw [ap_Clause.l0,if_pos (by omega),if_pos (by omega),if_pos (by rw [List.length_map];omega),if_pos (by rw [List.length_map];omega),r a hia,r b hib]
    have hq:(!((ofC24 a[i]).f0==(ofC24 b[i]).f0) || !((ofC24 a[i]).f1==(ofC24 b[i]).f1)) = !decide (a[i]=b[i]):=by
      unfold ofC24
      rw [un_beq,un_beq,Bool.eq_iff_iff]
      simp [Prod.ext_iff]
    rw [hq,e2]
    by_cases hc:a[i]=b[i]
    · rw [if_neg (by simp [hc])]
      refine equal_l0 a b hab hl d k (i+1) (by omega) (by omega) ?_
      rw [List.take_succ_eq_append_getElem hia,List.take_succ_eq_append_getElem hib,ht,hc]
    · rw [if_pos (by simp [hc]),decide_eq_false (fun e=>hc (by subst e;rfl))]
theorem equal24(a b:List H.C)(k:Nat)(hl:a.length≤1000000)(hk:a.length<k):ap_Clause.f k (a.map ofC24) (b.map ofC24)=some (decide (a=b)):=by
  unfold ap_Clause.f
  rw [List.length_map,List.length_map]
  by_cases h:a.length=b.length
  · rw [if_pos (by omega)]
    exact equal_l0 a b h hl a.length k 0 (by omega) hk rfl
  · rw [if_neg (by omega),decide_eq_false (fun e=>h (by rw [e]))]
theorem leastx24(l:List H.C)(h:l.length≤1000000):cl_Least.f (l.map ofC24)=some ((H.least l).1.map ofC24,(H.least l).2):=by
  unfold cl_Least.f
  have h2:(l.map ofC24).map toC24=l:=by
    rw [List.map_map]
    refine(List.map_congr_left (g:=id) fun c _=>?_).trans (List.map_id _)
    rw [Function.comp_apply,toC_ofC24]
    rfl
  rw [if_pos ⟨by rw [List.all_map,List.all_eq_true];intro c _;rw [Function.comp_apply,inR_ofC24],by rw [List.length_map];exact h⟩,h2]
theorem least_len24(l:List H.C):(H.least l).1.length≤64:=by
  rcases H.least_cases l with⟨_,e⟩ | ⟨_,_,e⟩ | ⟨_,h,e⟩
  · rw [e];simp
  · rw [e];simp
  · rw [e]
    show(H.sortC (H.keep l)).length≤64
    rw [H.length_sortC]
    exact h
theorem fright24(l:List H.C)(k:Nat)(h:l.length≤1000000)(hk:64<k):fo_Right.f k (l.map ofC24)=some (H.right l):=by
  have:=least_len24 l
  unfold fo_Right.f H.right
  rw [leastx24 l h,Option.bind_some]
  by_cases he:(H.least l).2=0
  · rw [if_pos he,equal24 _ _ k (by omega) (by omega),Option.bind_some,decide_eq_true he,Bool.true_and]
  · rw [if_neg he,decide_eq_false he,Bool.false_and]
theorem smallF24:SmallF where
  toSmall:=small24
  clash c w:=cl_Clash.calls (un c.1) (un c.2) (H.clash c) w (clash24 c)
  meet a b w:=cl_Meet.calls (un a.1) (un a.2) (un b.1) (un b.2) _ _ w (meetx24 a b)
  fright A cap l w hR hc hl:=by
    have h:=fo_Right.calls 65 A cap (l.map ofC24) (H.right l) w (kd24 hR hl) (by rw [List.length_map];exact hc) (fright24 l 65 hl (by omega))
    rw [List.length_map] at h
    exact h
def fa_Right.f(l0:List S113):Option Bool:=if okL24 l0 then some (faceR (l0.map toC24)) else none
theorem fa_Right.calls(A0:Option Addr)(c0:Nat)(l0:List (S113))(r:Bool)(w:World)(hr0:Kd.C k113 w A0 l0.length l0)(hc0:l0.length≤c0)(h:fa_Right.f l0=some r) :
    Calls Tryz.prog 88 #[.slice A0 l0.length c0] w fun e w'=>e=.returned (.bool r)∧Below w.heap.size w w':=by
 unfold fa_Right.f at h
 by_cases hr:okL24 l0
 ·rw [if_pos hr] at h
  obtain rfl:=Option.some.inj h
  have hc:=fa_Right smallF24 A0 c0 (l0.map toC24) w (rd24 hr0 hr.1 hr.2) (by rw [List.length_map];exact hc0) (by rw [List.length_map];exact hr.2)
  rw [List.length_map] at hc
  exact hc
 ·rw [if_neg hr] at h
  exact absurd h (by simp)
end
end Go.Proofs.YtahdjajdaggmjaaGreatDoor.XPd
end
section
set_option linter.unusedVariables false
namespace Go.Proofs.YtahdjajdaggmjaaGreatDoor.XPd
open Go.RowKit Go.Proofs.YtahdjajdaggmjaaGreatDoorW.PrintWords Go.Proofs.YtahdjajdaggmjaaGreatDoorW.PrintLast Go.Proofs.YtahdjajdaggmjaaGreatDoorW.PrintMore
theorem at_B49{w w1:World}{A:Option Addr}{n:Nat}{xs:List S49}(h:Aside0 (Kd.C k49 w A n xs))(hb:Aside0 (Below w.heap.size w w1))(i:Int)(h0:0≤i:=by exact tA)(h1:i<n:=by exact tA):(0≤i)=True∧(i<n)=True∧∃ad A3 c3 A4 c4 A5 c5,A=some ad∧w1.cell? (ad.add (i.toNat * 6))=some (.int .i64 (rd_T49 xs i).f0)∧w1.cell? ⟨(ad.add (i.toNat * 6)).block,(ad.add (i.toNat * 6)).off+1,none⟩=some (.int .i64 (rd_T49 xs i).f1)∧w1.cell? ⟨(ad.add (i.toNat * 6)).block,(ad.add (i.toNat * 6)).off+2,none⟩=some (.string (rd_T49 xs i).f2)∧w1.cell? ⟨(ad.add (i.toNat * 6)).block,(ad.add (i.toNat * 6)).off+3,none⟩=some (.slice A3 (rd_T49 xs i).f3.length c3)∧w1.cell? ⟨(ad.add (i.toNat * 6)).block,(ad.add (i.toNat * 6)).off+4,none⟩=some (.slice A4 (rd_T49 xs i).f4.length c4)∧w1.cell? ⟨(ad.add (i.toNat * 6)).block,(ad.add (i.toNat * 6)).off+5,none⟩=some (.slice A5 (rd_T49 xs i).f5.length c5)∧Aside0 ((rd_T49 xs i).f3.length≤c3)∧Aside0 (k113.C w A3 (rd_T49 xs i).f3.length (rd_T49 xs i).f3)∧Aside0 ((rd_T49 xs i).f4.length≤c4)∧Aside0 (k49.C w A4 (rd_T49 xs i).f4.length (rd_T49 xs i).f4)∧Aside0 ((rd_T49 xs i).f5.length≤c5)∧Aside0 (k90.C w A5 (rd_T49 xs i).f5.length (rd_T49 xs i).f5):=by
 obtain⟨ad,A3,c3,A4,c4,A5,c5,e,g0,g1,g2,g3,g4,g5,g6,g7,g8,g9,g10,g11⟩:=at_T49 h.out i h0 h1
 exact⟨eq_true h0,eq_true h1,ad,A3,c3,A4,c4,A5,c5,e,tc hb g0,tc hb g1,tc hb g2,tc hb g3,tc hb g4,tc hb g5,⟨g6⟩,⟨g7⟩,⟨g8⟩,⟨g9⟩,⟨g10⟩,⟨g11⟩⟩
theorem at_B90{w w1:World}{A:Option Addr}{n:Nat}{xs:List S90}(h:Aside0 (Kd.C k90 w A n xs))(hb:Aside0 (Below w.heap.size w w1))(i:Int)(h0:0≤i:=by exact tA)(h1:i<n:=by exact tA):(0≤i)=True∧(i<n)=True∧∃ad A0 c0 A1 c1,A=some ad∧w1.cell? (ad.add (i.toNat * 2))=some (.slice A0 (rd_T90 xs i).f0.length c0)∧w1.cell? ⟨(ad.add (i.toNat * 2)).block,(ad.add (i.toNat * 2)).off+1,none⟩=some (.slice A1 (rd_T90 xs i).f1.length c1)∧Aside0 ((rd_T90 xs i).f0.length≤c0)∧Aside0 (k113.C w A0 (rd_T90 xs i).f0.length (rd_T90 xs i).f0)∧Aside0 ((rd_T90 xs i).f1.length≤c1)∧Aside0 (k49.C w A1 (rd_T90 xs i).f1.length (rd_T90 xs i).f1):=by
 obtain⟨ad,A0,c0,A1,c1,e,g0,g1,g2,g3,g4,g5⟩:=at_T90 h.out i h0 h1
 exact⟨eq_true h0,eq_true h1,ad,A0,c0,A1,c1,e,tc hb g0,tc hb g1,⟨g2⟩,⟨g3⟩,⟨g4⟩,⟨g5⟩⟩
theorem at_B113{w w1:World}{A:Option Addr}{n:Nat}{xs:List S113}(h:Aside0 (Kd.C k113 w A n xs))(hb:Aside0 (Below w.heap.size w w1))(i:Int)(h0:0≤i:=by exact tA)(h1:i<n:=by exact tA):(0≤i)=True∧(i<n)=True∧∃ad ,A=some ad∧w1.cell? (ad.add (i.toNat * 2))=some (.int .u32 (rd_T113 xs i).f0)∧w1.cell? ⟨(ad.add (i.toNat * 2)).block,(ad.add (i.toNat * 2)).off+1,none⟩=some (.int .u32 (rd_T113 xs i).f1):=by
 obtain⟨ad,e,g0,g1⟩:=at_T113 h.out i h0 h1
 exact⟨eq_true h0,eq_true h1,ad,e,tc hb g0,tc hb g1⟩
end Go.Proofs.YtahdjajdaggmjaaGreatDoor.XPd
end
section
namespace Go.Proofs.YtahdjajdaggmjaaGreatDoor.XPd
noncomputable section
open Go.RowKit Go.Proofs.YtahdjajdaggmjaaGreatDoorW.PrintWords Go.Proofs.YtahdjajdaggmjaaGreatDoorW.PrintLast Go.Proofs.YtahdjajdaggmjaaGreatDoorW.PrintMore
attribute [local go_sem] max2_int min2_int max_two min_two max_three min_three max_four min_four
set_option linter.unusedVariables false
set_option linter.unusedSimpArgs false
def te_name.l0:Nat→ByteArray→Int→Int→Option (Bool)
  | 0,_,_,_=>none
  | k+1,x0,x7,x8=>if x8<x7 then(if 0≤x8 then(if x8<(x0.size:Int) then(if (bt x0 x8)≥97 then(if (bt x0 x8)≤122 then(te_name.l0 k x0 x7 (wrap64 (x8+1))) else(if (bt x0 x8)≥65 then(if (bt x0 x8)≤90 then(te_name.l0 k x0 x7 (wrap64 (x8+1))) else(if ((bt x0 x8)=95) then(te_name.l0 k x0 x7 (wrap64 (x8+1))) else(if x8=0 then(some false) else(if (bt x0 x8)<48 then(some false) else(if (bt x0 x8) > 57 then(some false) else(te_name.l0 k x0 x7 (wrap64 (x8+1)))))))) else(if ((bt x0 x8)=95) then(te_name.l0 k x0 x7 (wrap64 (x8+1))) else(if x8=0 then(some false) else(if (bt x0 x8)<48 then(some false) else(if (bt x0 x8) > 57 then(some false) else(te_name.l0 k x0 x7 (wrap64 (x8+1))))))))) else(if (bt x0 x8)≥65 then(if (bt x0 x8)≤90 then(te_name.l0 k x0 x7 (wrap64 (x8+1))) else(if ((bt x0 x8)=95) then(te_name.l0 k x0 x7 (wrap64 (x8+1))) else(if x8=0 then(some false) else(if (bt x0 x8)<48 then(some false) else(if (bt x0 x8) > 57 then(some false) else(te_name.l0 k x0 x7 (wrap64 (x8+1)))))))) else(if ((bt x0 x8)=95) then(te_name.l0 k x0 x7 (wrap64 (x8+1))) else(if x8=0 then(some false) else(if (bt x0 x8)<48 then(some false) else(if (bt x0 x8) > 57 then(some false) else(te_name.l0 k x0 x7 (wrap64 (x8+1))))))))) else(none)) else(none)) else(some (x0.toList != ([]:List UInt8)))
def te_name.f(k:Nat)(a0:ByteArray):Option (Bool):=te_name.l0 k a0 (a0.size:Int) 0
theorem te_name.mono_l:∀k,(∀y0 y1 y2,LeO (te_name.l0 k y0 y1 y2) (te_name.l0 (k+1) y0 y1 y2))
  | 0=>fun _ _ _ r h=>by simp [te_name.l0] at h
  | k+1=>by
    have ih0:=te_name.mono_l k
    · intros;unfold te_name.l0;exact tMo
theorem te_name.mono:∀a0 k,LeO (te_name.f k a0) (te_name.f (k+1) a0):=by
  intro a0 k
  have ih0:=te_name.mono_l k
  unfold te_name.f
  exact tMo
set_option maxHeartbeats 8000000 in
theorem te_name.calls(k:Nat)(a0:ByteArray)(r:Bool)(w:World)(h:te_name.f k a0=some r) :
  Calls Tryz.prog 95 #[.string a0] w fun e w'=>e=.returned (.bool r)∧Drawn0 w w':=by
 have H:(te_name.l0 k a0 (a0.size:Int) 0)=some r:=h
 clear h
 have H':=ak H
 clear H
 go_enter Tryz.func95,Tryz.ntmps95
 go_wp2
 go_loopg [8] k (fun kq v8 w'=>∃(x8_1:Int),v8=.int .i64 x8_1∧Aside0 (te_name.l0 kq a0 (a0.size:Int) x8_1=some r)∧Aside0 (kq≤k)∧Drawn0 w w')
 case atStart=>exact⟨(0),tZ,H',⟨Nat.le_refl _⟩,tD⟩
 case round =>
  clear H'
  obtain⟨x8_1,rfl,HA,HK1,⟨m1,rfl⟩⟩:=hrel
  cases gk with
  | zero=>exact absurd HA.out (by simp [te_name.l0])
  | succ k1 =>
   have H:=HA.out
   clear HA
   simp only [te_name.l0] at H
   replace H:=iD H
   rcases H with⟨c2b0,H⟩ | ⟨c2b0,H⟩
   ·replace H:=niD H
    obtain⟨c3b0,H⟩:=H
    replace H:=niD H
    obtain⟨c4b0,H⟩:=H
    replace H:=iG H
    rcases H with⟨c6b0,H⟩ | ⟨c6b0,H⟩
    ·replace H:=iD H
     rcases H with⟨c7b0,H⟩ | ⟨c7b0,H⟩
     ·exact zz13
     replace H:=iG H
     rcases H with⟨c8b0,H⟩ | ⟨c8b0,H⟩
     ·replace H:=iD H
      rcases H with⟨c9b0,H⟩ | ⟨c9b0,H⟩
      ·exact zz13
      replace H:=iE H
      rcases H with⟨c10b0,c10b1,H⟩ | ⟨c10,c10b0,c10b1,H⟩
      ·exact zz13
      replace H:=iE H
      rcases H with⟨c11b0,c11b1,H⟩ | ⟨c11,c11b0,c11b1,H⟩
      ·exact zz14
      replace H:=iD H
      rcases H with⟨c12b0,H⟩ | ⟨c12b0,H⟩
      ·exact zz14
      replace H:=iH H
      rcases H with⟨c13b0,H⟩ | ⟨c13b0,H⟩
      ·exact zz14
      exact zz13
     replace H:=iE H
     rcases H with⟨c14b0,c14b1,H⟩ | ⟨c14,c14b0,c14b1,H⟩
     ·exact zz13
     replace H:=iE H
     rcases H with⟨c15b0,c15b1,H⟩ | ⟨c15,c15b0,c15b1,H⟩
     ·exact zz14
     replace H:=iD H
     rcases H with⟨c16b0,H⟩ | ⟨c16b0,H⟩
     ·exact zz14
     replace H:=iH H
     rcases H with⟨c17b0,H⟩ | ⟨c17b0,H⟩
     ·exact zz14
     exact zz13
    replace H:=iG H
    rcases H with⟨c18b0,H⟩ | ⟨c18b0,H⟩
    ·replace H:=iD H
     rcases H with⟨c19b0,H⟩ | ⟨c19b0,H⟩
     ·exact zz13
     replace H:=iE H
     rcases H with⟨c20b0,c20b1,H⟩ | ⟨c20,c20b0,c20b1,H⟩
     ·exact zz13
     replace H:=iE H
     rcases H with⟨c21b0,c21b1,H⟩ | ⟨c21,c21b0,c21b1,H⟩
     ·exact zz14
     replace H:=iD H
     rcases H with⟨c22b0,H⟩ | ⟨c22b0,H⟩
     ·exact zz14
     replace H:=iH H
     rcases H with⟨c23b0,H⟩ | ⟨c23b0,H⟩
     ·exact zz14
     exact zz13
    replace H:=iE H
    rcases H with⟨c24b0,c24b1,H⟩ | ⟨c24,c24b0,c24b1,H⟩
    ·exact zz13
    replace H:=iE H
    rcases H with⟨c25b0,c25b1,H⟩ | ⟨c25,c25b0,c25b1,H⟩
    ·exact zz14
    replace H:=iD H
    rcases H with⟨c26b0,H⟩ | ⟨c26b0,H⟩
    ·exact zz14
    replace H:=iH H
    rcases H with⟨c27b0,H⟩ | ⟨c27b0,H⟩
    ·exact zz14
    exact zz13
   obtain rfl:=Option.some.inj H
   go_wp2
   go_ret
   exact⟨tZ,tD⟩
def ma_dimens.f(a0:Int):Option (Bool):=if a0≥0 then(some (decide (a0<24))) else(some false)
set_option maxHeartbeats 8000000 in
theorem ma_dimens.calls(a0:Int)(r:Bool)(w:World)(h:ma_dimens.f a0=some r) :
  Calls Tryz.prog 126 #[.int .i64 a0] w fun e w'=>e=.returned (.bool r)∧Drawn0 w w':=by
 have H:(if a0≥0 then(some (decide (a0<24))) else(some false))=some r:=h
 clear h
 replace H:=iG H
 rcases H with⟨c2b0,H⟩ | ⟨c2b0,H⟩
 ·obtain rfl:=Option.some.inj H
  go_enter Tryz.func126,Tryz.ntmps126
  exact zz0
 obtain rfl:=Option.some.inj H
 go_enter Tryz.func126,Tryz.ntmps126
 exact zz0
def ma_Withou.f(a0:Int)(a1:Int):Option (Int):=(ma_dimens.f a1).bind fun t153=>(if t153=true then(if 0≤(IntKind.u64.wrap (a1)) then(some (Go.bits .andNot .u32 (Go.bits .and .u32 a0 16777215) (shl .u32 1 (IntKind.u64.wrap (a1))))) else(none)) else(some (Go.bits .and .u32 a0 16777215)))
set_option maxHeartbeats 8000000 in
theorem ma_Withou.calls(a0:Int)(a1:Int)(r:Int)(w:World)(h:ma_Withou.f a0 a1=some r) :
  Calls Tryz.prog 120 #[.int .u32 a0,.int .i64 a1] w fun e w'=>e=.returned (.int .u32 r)∧Drawn0 w w':=by
 have H:((ma_dimens.f a1).bind fun t153=>(if t153=true then(if 0≤(IntKind.u64.wrap (a1)) then(some (Go.bits .andNot .u32 (Go.bits .and .u32 a0 16777215) (shl .u32 1 (IntKind.u64.wrap (a1))))) else(none)) else(some (Go.bits .and .u32 a0 16777215))))=some r:=h
 clear h
 replace H:=iX H
 obtain⟨t153,A3,H⟩:=H
 replace H:=iB H
 rcases H with⟨rfl,H⟩ | ⟨rfl,H⟩
 ·obtain⟨ji5,hji5⟩:∃j_:Int,(IntKind.u64.wrap (a1))=j_:=⟨_,rfl⟩
  replace H:(if 0≤(ji5) then(some (Go.bits .andNot .u32 (Go.bits .and .u32 a0 16777215) (shl .u32 1 (ji5)))) else(none))=some r:=by first | (rw [hji5] at H;exact H) | (simp only [hji5] at H ⊢;exact H)
  (try rw [hji5] at A3)
  replace H:=niT H
  obtain⟨c6b0,c6b1,H⟩:=H
  obtain⟨ji7,hji7⟩:∃j_:Int,(shl .u32 1 (ji5))=j_:=⟨_,rfl⟩
  replace H:(some (Go.bits .andNot .u32 (Go.bits .and .u32 a0 16777215) (ji7)))=some r:=by first | (rw [hji7] at H;exact H) | (simp only [hji7] at H ⊢;exact H)
  (try rw [hji7] at A3)
  have hji7_:(IntKind.u32.wrap (1 * 2 ^ min (ji5).toNat 32))=ji7:=hji7
  have hji7z:(ji5)≤32→(IntKind.u32.wrap (1 * 2 ^ (ji5).toNat))=ji7:=shl_small hji7
  have hji7u:(IntKind.u32.wrap (2 ^ min (ji5).toNat 32))=ji7:=by have h_:=hji7_;rw [Int.one_mul] at h_;exact h_
  have hji7v:(ji5)≤32→(IntKind.u32.wrap (2 ^ (ji5).toNat))=ji7:=fun hle_=>by have h_:=hji7z hle_;rw [Int.one_mul] at h_;exact h_
  obtain rfl:=Option.some.inj H
  go_enter Tryz.func120,Tryz.ntmps120
  go_wp2_with (first | ((with_reducible refine gf_ 126 rfl ?_);refine gC_ (some 8) Tryz.func126 #[.int .i64 a1] ?_;(with_reducible refine(ma_dimens.calls a1 true _ A3.out).mono ?_);rintro e w' ⟨rfl,⟨nd,rfl⟩⟩;refine⟨_,rfl, ?_⟩))
  go_ret
  exact⟨by first | rfl | (simp;done) | (simp only [←hji5,←hji7]<;>(first | rfl | simp)) | (simp [*];done),tD⟩
 obtain rfl:=Option.some.inj H
 go_enter Tryz.func120,Tryz.ntmps120
 go_wp2_with (first | ((with_reducible refine gf_ 126 rfl ?_);refine gC_ (some 8) Tryz.func126 #[.int .i64 a1] ?_;(with_reducible refine(ma_dimens.calls a1 false _ A3.out).mono ?_);rintro e w' ⟨rfl,⟨nd,rfl⟩⟩;refine⟨_,rfl, ?_⟩))
 go_ret
 exact⟨tS,tD⟩
def fo_Dims.l0:Nat→Int→List (S113)→Int→Int→Option (Int)
  | 0,_,_,_,_=>none
  | k+1,x3,x6,x7,x8=>if x8<x7 then(if 0≤x8 then(if x8<(x6.length:Int) then(fo_Dims.l0 k (Go.bits .or .u32 x3 (Go.bits .or .u32 ((rd_T113 x6 x8).f0) ((rd_T113 x6 x8).f1))) x6 x7 (wrap64 (x8+1))) else(none)) else(none)) else((ma_Withou.f x3 (-1)).bind fun t156=>(some t156))
def fo_Dims.f(k:Nat)(l0:List (S113)):Option (Int):=fo_Dims.l0 k 0 l0 (l0.length:Int) 0
theorem fo_Dims.mono_l:∀k,(∀y0 y1 y2 y3,LeO (fo_Dims.l0 k y0 y1 y2 y3) (fo_Dims.l0 (k+1) y0 y1 y2 y3))
  | 0=>fun _ _ _ _ r h=>by simp [fo_Dims.l0] at h
  | k+1=>by
    have ih0:=fo_Dims.mono_l k
    · intros;unfold fo_Dims.l0;exact tMo
theorem fo_Dims.mono:∀a0 k,LeO (fo_Dims.f k a0) (fo_Dims.f (k+1) a0):=by
  intro a0 k
  have ih0:=fo_Dims.mono_l k
  unfold fo_Dims.f
  exact tMo
set_option maxHeartbeats 8000000 in
theorem fo_Dims.calls(k:Nat)(A0:Option Addr)(c0:Nat)(l0:List (S113))(r:Int)(w:World)(hr0:Kd.C k113 w A0 l0.length l0)(hc0:l0.length≤c0)(h:fo_Dims.f k l0=some r) :
  Calls Tryz.prog 109 #[.slice A0 l0.length c0] w fun e w'=>e=.returned (.int .u32 r)∧Below w.heap.size w w':=by
 have hu113:=Tryz.underlying113
 have HR0:=ak hr0
 have HC0:=ak hc0
 clear hr0 hc0
 have HB:=ak (Below.refl w.heap.size w)
 have H:(fo_Dims.l0 k 0 l0 (l0.length:Int) 0)=some r:=h
 clear h
 have H':=ak H
 clear H
 go_enter Tryz.func109,Tryz.ntmps109
 go_wp2
 go_loopg [3,8] k (fun kq v3 v8 w'=>∃(x3_1:Int) (x8_1:Int),v3=.int .u32 x3_1∧v8=.int .i64 x8_1∧Aside0 (fo_Dims.l0 kq x3_1 l0 (l0.length:Int) x8_1=some r)∧Aside0 (kq≤k)∧Aside0 (Below w.heap.size w w'))
 case atStart=>exact⟨(0),(0),tS,tS,H',⟨Nat.le_refl _⟩,⟨tB⟩⟩
 case round =>
  clear H'
  obtain⟨x3_1,x8_1,rfl,rfl,HA,HK1,HB⟩:=hrel
  cases gk with
  | zero=>exact absurd HA.out (by simp [fo_Dims.l0])
  | succ k1 =>
   have H:=HA.out
   clear HA
   simp only [fo_Dims.l0] at H
   replace H:=iD H
   rcases H with⟨c2b0,H⟩ | ⟨c2b0,H⟩
   ·replace H:=niD H
    obtain⟨c3b0,H⟩:=H
    replace H:=niD H
    obtain⟨c4b0,H⟩:=H
    have H':=ak H
    clear H
    obtain⟨p154,q154,ad154,rfl,hx154_0,hx154_1⟩:=at_B113 HR0 HB x8_1
    go_wp2_with (first | ((with_reducible refine gd_ 5 rfl ?_);refine boxE 5 #[.int .u32 0,.int .u32 0] 113 ?_;intro gb155 hg w5 hbox hb;have BK155:=ak (hbox);have GW155:=ak (tG:w.heap.size≤gb155);have GE155:=ak (tG:w.heap.size≤gb155);replace HB:=ak (below_step tB hb);clear hb hbox hg;have hcz6:=cz2 BK155.out))
    go_roundg k1
    case measure=>have:=HK1.out;omega
    case rel=>exact⟨(Go.bits .or .u32 x3_1 (Go.bits .or .u32 ((rd_T113 l0 x8_1).f0) ((rd_T113 l0 x8_1).f1))),(wrap64 (x8_1+1)),tS,tS,H',⟨by have:=HK1.out;omega⟩,⟨tBs GE155⟩⟩
   replace H:=iX H
   obtain⟨t156,A7,H⟩:=H
   obtain rfl:=Option.some.inj H
   go_wp2_with (first | ((with_reducible refine gf_ 120 rfl ?_);refine gC_ (some 21) Tryz.func120 #[.int .u32 x3_1,.int .i64 (-1)] ?_;(with_reducible refine(ma_Withou.calls x3_1 (-1) t156 _ A7.out).mono ?_);rintro e w' ⟨rfl,⟨nd,rfl⟩⟩;refine⟨_,rfl, ?_⟩))
   go_ret
   exact⟨tE,tB⟩
def te_within.f(k:Nat)(l0:List (S113))(a1:Int):Option (Bool):=if a1≥24 then(some true) else((fo_Dims.f k l0).bind fun t157=>(if 0≤(IntKind.u64.wrap (a1)) then(some ((shr .u32 t157 (IntKind.u64.wrap (a1)))==0)) else(none)))
theorem te_within.mono:∀a0 a1 k,LeO (te_within.f k a0 a1) (te_within.f (k+1) a0 a1):=by
  intro a0 a1 k
  unfold te_within.f
  have m0_:=@fo_Dims.mono
  exact tMo
set_option maxHeartbeats 8000000 in
theorem te_within.calls(k:Nat)(A0:Option Addr)(c0:Nat)(l0:List (S113))(a1:Int)(r:Bool)(w:World)(hr0:Kd.C k113 w A0 l0.length l0)(hc0:l0.length≤c0)(h:te_within.f k l0 a1=some r) :
  Calls Tryz.prog 96 #[.slice A0 l0.length c0,.int .i64 a1] w fun e w'=>e=.returned (.bool r)∧Below w.heap.size w w':=by
 have HR0:=ak hr0
 have HC0:=ak hc0
 clear hr0 hc0
 have HB:=ak (Below.refl w.heap.size w)
 have H:(if a1≥24 then(some true) else((fo_Dims.f k l0).bind fun t157=>(if 0≤(IntKind.u64.wrap (a1)) then(some ((shr .u32 t157 (IntKind.u64.wrap (a1)))==0)) else(none))))=some r:=h
 clear h
 replace H:=iG H
 rcases H with⟨c3b0,H⟩ | ⟨c3b0,H⟩
 ·obtain rfl:=Option.some.inj H
  go_enter Tryz.func96,Tryz.ntmps96
  go_wp2
  go_ret
  exact⟨tE,tB⟩
 replace H:=iX H
 obtain⟨t157,A4,H⟩:=H
 obtain⟨ji5,hji5⟩:∃j_:Int,(IntKind.u64.wrap (a1))=j_:=⟨_,rfl⟩
 replace H:(if 0≤(ji5) then(some ((shr .u32 t157 (ji5))==0)) else(none))=some r:=by first | (rw [hji5] at H;exact H) | (simp only [hji5] at H ⊢;exact H)
 (try rw [hji5] at A4)
 replace H:=niT H
 obtain⟨c6b0,c6b1,H⟩:=H
 obtain⟨ji7,hji7⟩:∃j_:Int,(shr .u32 t157 (ji5))=j_:=⟨_,rfl⟩
 replace H:(some ((ji7)==0))=some r:=by first | (rw [hji7] at H;exact H) | (simp only [hji7] at H ⊢;exact H)
 (try rw [hji7] at A4)
 have hji7_:(t157 / 2 ^ min (ji5).toNat 32)=ji7:=hji7
 have hji7z:(ji5)≤32→(t157 / 2 ^ (ji5).toNat)=ji7:=shr_small hji7
 obtain rfl:=Option.some.inj H
 go_enter Tryz.func96,Tryz.ntmps96
 go_wp2_with (first | (go_at_call 109;(with_reducible refine(fo_Dims.calls k _ _ l0 t157 _ ?side1 ?side2 A4.out).mono ?_);(case side1=>repeat (first | exact HR0.out | (with_reducible refine Kd.C_alloc ?_ _) | (with_reducible refine Kd.C_drewN ?_ _) | (with_reducible refine Kd.C_drew ?_)));(case side2=>exact HC0.out);rintro e w8 ⟨rfl,hb⟩;replace HB:=ak (below_step tB hb);(try clear hb)))
 go_ret
 exact⟨by first | rfl | (simp [errW_none,errW_some]<;>rfl) | (simp only [←hji5,←hji7];first | rfl | (simp [errW_none,errW_some]<;>rfl)) | (simp [*,errW_none,errW_some]<;>rfl),tB⟩
def hasO{α:Type}(F:Nat→Option α):Prop:=∃k r,F k=some r
noncomputable def valO{α:Type}(d:α)(F:Nat→Option α):α:=@dite _ (hasO F) (Classical.propDecidable _) (fun h=>Classical.choose (Classical.choose_spec h)) (fun _=>d)
theorem valO_has{α:Type}{d:α}{F:Nat→Option α}(h:hasO F):∃k,F k=some (valO d F):=by
  unfold valO
  rw [dif_pos h]
  exact⟨_,Classical.choose_spec (Classical.choose_spec h)⟩
theorem leO_up{α:Type}{F:Nat→Option α}(hm:∀k,LeO (F k) (F (k+1)))(k:Nat):∀j,LeO (F k) (F (k+j)):=by
  intro j
  induction j with
  | zero=>exact LeO.refl _
  | succ j ih=>exact fun r hr=>hm (k+j) r (ih r hr)
theorem valO_some{α:Type}{d:α}{F:Nat→Option α}(_:∀k,LeO (F k) (F (k+1)))(h:hasO F):∃k,F k=some (valO d F):=valO_has h
theorem valO_eq{α:Type}{d:α}{F:Nat→Option α}(hm:∀k,LeO (F k) (F (k+1))){k:Nat}{r:α}(h:F k=some r):valO d F=r:=by
  obtain⟨k2,h2⟩:=valO_has (d:=d) ⟨k,r,h⟩
  have h3:=leO_up hm k k2 _ h
  have h4:=leO_up hm k2 k _ h2
  rw [Nat.add_comm] at h4
  exact Option.some.inj (h4.symm.trans h3)
theorem kidsx(a:Int):te_Kids.f 8 a=some (kidsI a):=by
  have h:a=1∨a=2∨a=3∨a=4∨a=5∨a=6∨a=7∨a=8∨a=9∨a=10∨a=11∨a=12∨a=13∨a=14∨a=15∨a=16∨a=17∨a=18∨a=19∨a=20∨a=21∨a=22∨a=23∨a=24∨a=25∨a=26∨a=27∨a=28∨(a<1∨28<a):=by omega
  rcases h with rfl | rfl | rfl | rfl | rfl | rfl | rfl | rfl | rfl | rfl | rfl | rfl | rfl | rfl | rfl | rfl | rfl | rfl | rfl | rfl | rfl | rfl | rfl | rfl | rfl | rfl | rfl | rfl | hn
  · rfl
  · rfl
  · rfl
  · rfl
  · rfl
  · rfl
  · rfl
  · rfl
  · rfl
  · rfl
  · rfl
  · rfl
  · rfl
  · rfl
  · rfl
  · rfl
  · rfl
  · rfl
  · rfl
  · rfl
  · rfl
  · rfl
  · rfl
  · rfl
  · rfl
  · rfl
  · rfl
  · rfl
  · have e:kidsI a = -1:=by
      unfold kidsI
      by_cases h0:a<0∨28<a
      · rw [if_pos h0]
      · have:a=0:=by omega
        subst this
        rfl
    rw [e]
    simp [te_Kids.f,te_Kids.j0,te_Kids.j1,te_Kids.j2,te_Kids.j3,(show ¬a=1 by omega),(show ¬a=2 by omega),(show ¬a=3 by omega),(show ¬a=4 by omega),(show ¬a=5 by omega),(show ¬a=6 by omega),(show ¬a=7 by omega),(show ¬a=8 by omega),(show ¬a=9 by omega),(show ¬a=10 by omega),(show ¬a=11 by omega),(show ¬a=12 by omega),(show ¬a=13 by omega),(show ¬a=14 by omega),(show ¬a=15 by omega),(show ¬a=16 by omega),(show ¬a=17 by omega),(show ¬a=18 by omega),(show ¬a=19 by omega),(show ¬a=20 by omega),(show ¬a=21 by omega),(show ¬a=22 by omega),(show ¬a=23 by omega),(show ¬a=24 by omega),(show ¬a=25 by omega),(show ¬a=26 by omega),(show ¬a=27 by omega),(show ¬a=28 by omega)]
theorem partsx(a:Int):te_Parts.f 4 a=some (partsI a):=by
  have h:a=16∨a=15∨a=17∨a=18∨(a≠16∧a≠15∧a≠17∧a≠18):=by omega
  rcases h with rfl | rfl | rfl | rfl | ⟨h16,h15,h17,h18⟩
  · rfl
  · rfl
  · rfl
  · rfl
  · simp [te_Parts.f,te_Parts.j0,partsI,h16,h15,h17,h18]
theorem parts_all(a:Int)(w:World):Calls Tryz.prog 41 #[.int .i64 a] w fun e w'=>e=.returned (.int .i64 (partsI a))∧Below w.heap.size w w' :=
  (te_Parts.calls 4 a _ w (partsx a)).mono fun e w' ⟨he,hb⟩=>⟨he,hb.below⟩
noncomputable def frP(l:List Cl):Bool:=valO false fun k=>fo_Right.f k l
noncomputable def faP(l:List Cl):Bool:=valO false fun _=>fa_Right.f l
noncomputable def wiP(l:List Cl)(d:Int):Bool:=valO false fun k=>te_within.f k l d
noncomputable def nmP(s:ByteArray):Bool:=valO false fun k=>te_name.f k s
def PFp(l:List Cl):Prop:=(hasO fun k=>fo_Right.f k l)∧(hasO fun _=>fa_Right.f l)∧∀d,0≤d→d≤1000→hasO fun k=>te_within.f k l d
def PNp(s:ByteArray):Prop:=hasO fun k=>te_name.f k s
theorem ownP_all:OwnP PFp PNp frP faP wiP nmP where
  kids a w:=(te_Kids.calls 8 a _ w (kidsx a)).mono fun e w' ⟨he,hb⟩=>⟨he,hb.out⟩
  parts a w:=(te_Parts.calls 4 a _ w (partsx a)).mono fun e w' ⟨he,hb⟩=>⟨he,hb.out⟩
  fright A c l w hC hl hp:=by
    obtain⟨k,hk⟩:=valO_some (d:=false) (fo_Right.mono l) hp.1
    exact fo_Right.calls k A c l _ w hC hl hk
  faright A c l w hC hl hp:=by
    obtain⟨k,hk⟩:=valO_some (d:=false) (fun _=>LeO.refl _) hp.2.1
    exact fa_Right.calls A c l _ w hC hl hk
  within A c l d w hC hl hp h0 h1:=by
    obtain⟨k,hk⟩:=valO_some (d:=false) (te_within.mono l d) (hp.2.2 d h0 h1)
    exact te_within.calls k A c l d _ w hC hl hk
  name s w hp:=by
    obtain⟨k,hk⟩:=valO_some (d:=false) (te_name.mono s) hp
    exact(te_name.calls k s _ w hk).mono fun e w' ⟨he,hb⟩=>⟨he,hb.below⟩
def allG(t:Tm)(a1 a2:Int)(a3:Bool):Prop:=a3=true∧okS PFp PNp t∧0≤a1∧a1+sizeT t≤1000000000∧0≤a2∧a2≤25
noncomputable def term_all.f(a0_0 a0_1:Int)(a0_2:ByteArray)(l0_3:List S113)(l0_4:List S49)(l0_5:List S90)(a1 a2:Int)(a3:Bool):Option Bool:=@ite _ (allG (⟨a0_0,a0_1,a0_2,l0_3,l0_4,l0_5⟩:Tm) a1 a2 a3) (Classical.propDecidable _) (some (allT frP faP wiP nmP (⟨a0_0,a0_1,a0_2,l0_3,l0_4,l0_5⟩:Tm) a1 a2)) none
theorem term_all.calls(a0_0:Int)(a0_1:Int)(a0_2:ByteArray)(A0_3:Option Addr)(c0_3:Nat)(l0_3:List (S113))(A0_4:Option Addr)(c0_4:Nat)(l0_4:List (S49))(A0_5:Option Addr)(c0_5:Nat)(l0_5:List (S90))(a1:Int)(a2:Int)(a3:Bool)(r:Bool)(w:World)(hr0_3:Kd.C k113 w A0_3 l0_3.length l0_3)(hc0_3:l0_3.length≤c0_3)(hr0_4:Kd.C k49 w A0_4 l0_4.length l0_4)(hc0_4:l0_4.length≤c0_4)(hr0_5:Kd.C k90 w A0_5 l0_5.length l0_5)(hc0_5:l0_5.length≤c0_5)(h:term_all.f a0_0 a0_1 a0_2 l0_3 l0_4 l0_5 a1 a2 a3=some r) :
    Calls Tryz.prog 55 #[.agg #[.int .i64 a0_0,.int .i64 a0_1,.string a0_2,.slice A0_3 l0_3.length c0_3,.slice A0_4 l0_4.length c0_4,.slice A0_5 l0_5.length c0_5],.int .i64 a1,.int .i64 a2,.bool a3] w fun e w'=>e=.returned (.bool r)∧Below w.heap.size w w':=by
 unfold term_all.f at h
 by_cases hr:allG (⟨a0_0,a0_1,a0_2,l0_3,l0_4,l0_5⟩:Tm) a1 a2 a3
 ·rw [if_pos hr] at h
  obtain rfl:=Option.some.inj h
  obtain⟨rfl,h1,h2,h3,h4,h5⟩:=hr
  exact term_all ownP_all binds_all (enters_ Tryz.func79 (by kernel_rfl) rfl) (sizeT (⟨a0_0,a0_1,a0_2,l0_3,l0_4,l0_5⟩:Tm)) (⟨a0_0,a0_1,a0_2,l0_3,l0_4,l0_5⟩:Tm) a1 a2 _ w (Nat.le_refl _) h1 h2 h3 h4 h5 (k49_mk w (⟨a0_0,a0_1,a0_2,l0_3,l0_4,l0_5⟩:Tm) hc0_3 hr0_3 hc0_4 hr0_4 hc0_5 hr0_5)
 ·rw [if_neg hr] at h
  exact absurd h (by simp)
end
end Go.Proofs.YtahdjajdaggmjaaGreatDoor.XPd
end
