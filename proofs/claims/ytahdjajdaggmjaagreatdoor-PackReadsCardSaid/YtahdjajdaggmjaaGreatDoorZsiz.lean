-- Written for this claim by a program of ours (wip/xp.py),out of the translation and of hand-written contracts.
import Derived.Test.YtahdjajdaggmjaaGreatDoorWGuard
import Derived.OneCell
import Derived.Laws.EntriesVeiled
set_option maxRecDepth 100000
section
namespace Go.Proofs.YtahdjajdaggmjaaGreatDoor.XPd
open Go.RowKit Go.Proofs.YtahdjajdaggmjaaGreatDoorW.PrintWords Go.Proofs.YtahdjajdaggmjaaGreatDoorW.PrintLast Go.Proofs.YtahdjajdaggmjaaGreatDoorW.PrintMore
attribute [local go_sem] max2_int min2_int max_two min_two max_three min_three max_four min_four
set_option linter.unusedVariables false
set_option linter.unusedSimpArgs false
def errW:Option Int→Value
 | none=>.nilIface
 | some c=>.iface 0 (.int .i64 c)
theorem errW_none:errW none=.nilIface:=rfl
theorem errW_some(c:Int):errW (some c)=.iface 0 (.int .i64 c):=rfl
theorem info3:(Tryz.prog.info? 3).map (fun i=>(i.zero,i.size,i.bytes))=some (some (.int .i64 0),1,8):=by kernel_rfl
theorem info5:(Tryz.prog.info? 5).map (fun i=>(i.zero,i.size,i.bytes))=some (some (.int .u8 0),1,1):=by kernel_rfl
theorem info51:(Tryz.prog.info? 51).map (fun i=>(i.zero,i.size,i.bytes))=some (some (.agg #[(.string ⟨#[]⟩),(.int .i64 0),(.int .i64 0),(.string ⟨#[]⟩),(.slice none 0 0),(.slice none 0 0),(.slice none 0 0),(.int .i64 0),(.int .i64 0),(.string ⟨#[]⟩),(.slice none 0 0),(.slice none 0 0),(.slice none 0 0)]),13,224):=by kernel_rfl
theorem info98:(Tryz.prog.info? 98).map (fun i=>(i.zero,i.size,i.bytes))=some (some (.agg #[(.int .i64 0),(.string ⟨#[]⟩),(.int .i64 0)]),3,32):=by kernel_rfl
theorem info110:(Tryz.prog.info? 110).map (fun i=>(i.zero,i.size,i.bytes))=some (some (.agg #[(.int .i64 0),(.string ⟨#[]⟩),(.int .i64 0)]),3,32):=by kernel_rfl
structure S110 where
 f0:Int
 f1:ByteArray
 f2:Int
def z110:S110:=⟨(0:Int),(⟨#[]⟩:ByteArray),(0:Int)⟩
def k110:Kd S110:=Kd.iso (Kd.pair (Kd.int .i64) (Kd.pair Kd.string (Kd.int .i64))) (fun x:S110=>(x.f0,x.f1,x.f2))
theorem k110_open{w:World}{x:S110}{cs:List Value}(h:k110.K w x cs):cs=[.int .i64 x.f0,.string x.f1,.int .i64 x.f2]:=by
 obtain⟨_,_,rfl,rfl,⟨_,_,rfl,rfl,rfl⟩⟩:=h
 exact rfl
theorem k110_mkM(w:World)(base:Nat)(ok:Nat→Prop)(x:S110)  : k110.M w base ok x [.int .i64 x.f0,.string x.f1,.int .i64 x.f2]:=⟨[.int .i64 x.f0],[.string x.f1,.int .i64 x.f2],rfl,rfl,⟨[.string x.f1],[.int .i64 x.f2],rfl,rfl,rfl⟩⟩
def rd_T110(xs:List S110)(i:Int):S110:=xs.getD i.toNat z110
theorem at_T110{w:World}{A:Option Addr}{n:Nat}{xs:List S110}(h:Kd.C k110 w A n xs)(i:Int)(h0:0≤i)(h1:i<n):∃ad ,A=some ad∧w.cell? (ad.add (i.toNat * 3))=some (.int .i64 (rd_T110 xs i).f0)∧w.cell? ⟨(ad.add (i.toNat * 3)).block,(ad.add (i.toNat * 3)).off+1,none⟩=some (.string (rd_T110 xs i).f1)∧w.cell? ⟨(ad.add (i.toNat * 3)).block,(ad.add (i.toNat * 3)).off+2,none⟩=some (.int .i64 (rd_T110 xs i).f2):=by
 obtain⟨ad,c,e,_,hK,hc0⟩:=Kd.C_get h z110 i h0 h1
 have hc:∀j u,c[j]? = some u→w.cell? (ad.add (i.toNat * 3+j))=some u:=hc0
 obtain rfl:=k110_open hK
 exact⟨ad,e,hc 0 _ rfl,by rw [←add_field _ _ 1 (by omega)];exact hc 1 _ rfl,by rw [←add_field _ _ 2 (by omega)];exact hc 2 _ rfl⟩
structure S113 where
 f0:Int
 f1:Int
def z113:S113:=⟨(0:Int),(0:Int)⟩
def k113:Kd S113:=Kd.iso (Kd.pair (Kd.int .u32) (Kd.int .u32)) (fun x:S113=>(x.f0,x.f1))
theorem k113_open{w:World}{x:S113}{cs:List Value}(h:k113.K w x cs):cs=[.int .u32 x.f0,.int .u32 x.f1]:=by
 obtain⟨_,_,rfl,rfl,rfl⟩:=h
 exact rfl
theorem k113_mk(w:World)(x:S113)  : k113.K w x [.int .u32 x.f0,.int .u32 x.f1]:=⟨[.int .u32 x.f0],[.int .u32 x.f1],rfl,rfl,rfl⟩
theorem k113_mkM(w:World)(base:Nat)(ok:Nat→Prop)(x:S113)  : k113.M w base ok x [.int .u32 x.f0,.int .u32 x.f1]:=⟨[.int .u32 x.f0],[.int .u32 x.f1],rfl,rfl,rfl⟩
def rd_T113(xs:List S113)(i:Int):S113:=xs.getD i.toNat z113
theorem at_T113{w:World}{A:Option Addr}{n:Nat}{xs:List S113}(h:Kd.C k113 w A n xs)(i:Int)(h0:0≤i)(h1:i<n):∃ad ,A=some ad∧w.cell? (ad.add (i.toNat * 2))=some (.int .u32 (rd_T113 xs i).f0)∧w.cell? ⟨(ad.add (i.toNat * 2)).block,(ad.add (i.toNat * 2)).off+1,none⟩=some (.int .u32 (rd_T113 xs i).f1):=by
 obtain⟨ad,c,e,_,hK,hc0⟩:=Kd.C_get h z113 i h0 h1
 have hc:∀j u,c[j]? = some u→w.cell? (ad.add (i.toNat * 2+j))=some u:=hc0
 obtain rfl:=k113_open hK
 exact⟨ad,e,hc 0 _ rfl,by rw [←add_field _ _ 1 (by omega)];exact hc 1 _ rfl⟩
structure B90(α:Type) where
 f0:(List S113)
 f1:List α
def G90{α:Type}(d:Kd α):Kd (B90 α):=Kd.iso (Kd.pair (Kd.slice 113 k113) (Kd.slice 49 d)) (fun x:B90 α=>(x.f0,x.f1))
theorem monoG90{α:Type}:Kd.Mono (fun d:Kd α=>G90 d):=Kd.mono_iso _ (Kd.mono_pair (Kd.mono_const _) (Kd.mono_slice 49 Kd.mono_id))
theorem subG90{α:Type}:Kd.Sub (fun d:Kd α=>G90 d) [49,90,113]:=Kd.sub_iso _ (Kd.sub_pair (Kd.sub_const _ (by decide)) (Kd.sub_slice 49 (by decide) Kd.sub_id))
structure S49 where
 f0:Int
 f1:Int
 f2:ByteArray
 f3:(List S113)
 f4:(List S49)
 f5:(List (B90 S49))
def z49:S49:=⟨(0:Int),(0:Int),(⟨#[]⟩:ByteArray),([]:List S113),([]:List S49),([]:List (B90 S49))⟩
def F49(d:Kd S49):Kd S49:=Kd.iso (Kd.pair (Kd.int .i64) (Kd.pair (Kd.int .i64) (Kd.pair Kd.string (Kd.pair (Kd.slice 113 k113) (Kd.pair (Kd.slice 49 d) (Kd.slice 90 (G90 d))))))) (fun x:S49=>(x.f0,x.f1,x.f2,x.f3,x.f4,x.f5))
theorem mono49:Kd.Mono F49:=Kd.mono_iso _ (Kd.mono_pair (Kd.mono_const _) (Kd.mono_pair (Kd.mono_const _) (Kd.mono_pair (Kd.mono_const _) (Kd.mono_pair (Kd.mono_const _) (Kd.mono_pair (Kd.mono_slice 49 Kd.mono_id) (Kd.mono_slice 90 monoG90))))))
theorem sub49:Kd.Sub F49 [49,90,113]:=Kd.sub_iso _ (Kd.sub_pair (Kd.sub_const _ (by decide)) (Kd.sub_pair (Kd.sub_const _ (by decide)) (Kd.sub_pair (Kd.sub_const _ (by decide)) (Kd.sub_pair (Kd.sub_const _ (by decide)) (Kd.sub_pair (Kd.sub_slice 49 (by decide) Kd.sub_id) (Kd.sub_slice 90 (by decide) subG90))))))
theorem sz49:∀n,(Kd.upto F49 6 [49,90,113] n).sz=6:=Kd.upto_sz (fun _=>rfl)
def k49:Kd S49:=Kd.fix F49 6 [49,90,113] sz49 (Kd.upto_E sub49)
def k90:Kd (B90 S49):=G90 k49
theorem via90_C{n:Nat}{w:World}{A:Option Addr}{m:Nat}{xs:List (B90 S49)}(h:(G90 (Kd.upto F49 6 [49,90,113] n)).C w A m xs):k90.C w A m xs:=Kd.C_imp (d':=k90) (monoG90.sz _ _ (sz49 n)) (fun w x cs hp=>monoG90.K _ k49 (sz49 n) (fun _ _ _ hk=>⟨n,hk⟩) w x cs hp) h
theorem via90_R{n:Nat}{e:Nat}{w:World}{base:Nat}{ok:Nat→Prop}{v:Value}{xs:List (B90 S49)}(h:(G90 (Kd.upto F49 6 [49,90,113] n)).R e w base ok v xs):k90.R e w base ok v xs:=Kd.R_imp (d':=k90) (monoG90.sz _ _ (sz49 n)) (fun w base ok x cs hp=>monoG90.M _ k49 (sz49 n) (fun _ _ _ _ _ hk=>⟨n,hk⟩) w base ok x cs hp) h
theorem via90_K_le{n m:Nat}(hnm:n≤m){w:World}{x:B90 S49}{cs:List Value}(h:(G90 (Kd.upto F49 6 [49,90,113] n)).K w x cs):(G90 (Kd.upto F49 6 [49,90,113] m)).K w x cs:=monoG90.K _ _ (by rw [sz49 n,sz49 m]) (fun _ _ _ hk=>Kd.upto_K_le mono49 sz49 hnm hk) w x cs h
theorem via90_M_le{n m:Nat}(hnm:n≤m){w:World}{base:Nat}{ok:Nat→Prop}{x:B90 S49}{cs:List Value}(h:(G90 (Kd.upto F49 6 [49,90,113] n)).M w base ok x cs):(G90 (Kd.upto F49 6 [49,90,113] m)).M w base ok x cs:=monoG90.M _ _ (by rw [sz49 n,sz49 m]) (fun _ _ _ _ _ hk=>Kd.upto_M_le mono49 sz49 hnm hk) w base ok x cs h
theorem via90_C_le{n m:Nat}(hnm:n≤m){w:World}{A:Option Addr}{l:Nat}{xs:List (B90 S49)}(h:(G90 (Kd.upto F49 6 [49,90,113] n)).C w A l xs):(G90 (Kd.upto F49 6 [49,90,113] m)).C w A l xs:=Kd.C_imp (monoG90.sz _ _ (by rw [sz49 n,sz49 m])) (fun _ _ _ hp=>via90_K_le hnm hp) h
theorem via90_R_le{n m:Nat}(hnm:n≤m){e:Nat}{w:World}{base:Nat}{ok:Nat→Prop}{v:Value}{xs:List (B90 S49)}(h:(G90 (Kd.upto F49 6 [49,90,113] n)).R e w base ok v xs):(G90 (Kd.upto F49 6 [49,90,113] m)).R e w base ok v xs:=Kd.R_imp (monoG90.sz _ _ (by rw [sz49 n,sz49 m])) (fun _ _ _ _ _ hp=>via90_M_le hnm hp) h
theorem via90_K_back{w:World}{x:B90 S49}{cs:List Value}(h:k90.K w x cs):∃n,(G90 (Kd.upto F49 6 [49,90,113] n)).K w x cs:=by
 obtain⟨_,_,rfl,⟨A0,c0,rfl,l0,g0⟩,⟨A1,c1,rfl,l1,g1⟩⟩:=h
 obtain⟨n1,q1⟩:=Kd.fix_C_back mono49 g1
 have r1:=Kd.upto_C_le mono49 sz49 (show n1≤n1 by omega) q1
 exact⟨n1,⟨_,_,rfl,⟨A0,c0,rfl,l0,g0⟩,⟨A1,c1,rfl,l1,r1⟩⟩⟩
theorem via90_M_back{w:World}{base:Nat}{ok:Nat→Prop}{x:B90 S49}{cs:List Value}(h:k90.M w base ok x cs):∃n,(G90 (Kd.upto F49 6 [49,90,113] n)).M w base ok x cs:=by
 obtain⟨_,_,rfl,⟨v0,rfl,g0⟩,⟨v1,rfl,g1⟩⟩:=h
 obtain⟨n1,q1⟩:=Kd.fix_R_back mono49 g1
 have r1:=Kd.upto_R_le mono49 sz49 (show n1≤n1 by omega) q1
 exact⟨n1,⟨_,_,rfl,⟨v0,rfl,g0⟩,⟨v1,rfl,r1⟩⟩⟩
theorem via90_R_back{e:Nat}{w:World}{base:Nat}{ok:Nat→Prop}{v:Value}{xs:List (B90 S49)}(h:k90.R e w base ok v xs):∃n,(G90 (Kd.upto F49 6 [49,90,113] n)).R e w base ok v xs:=by
 obtain⟨h0,inner,ho,hr⟩:=h
 obtain⟨N,hN⟩:=Kd.reps_bounded (R:=fun n p c=>(G90 (Kd.upto F49 6 [49,90,113] n)).M w base (fun k=>ok k∧some k≠v.ownBlock) p c) (fun n m p c hnm hp=>via90_M_le hnm hp) (hr.imp_ (fun _ _ hp=>via90_M_back hp))
 exact⟨N,h0,inner,ho,hN⟩
theorem via90_C_back{w:World}{A:Option Addr}{m:Nat}{xs:List (B90 S49)}(h:k90.C w A m xs):∃n,(G90 (Kd.upto F49 6 [49,90,113] n)).C w A m xs:=by
 rcases Nat.eq_zero_or_pos m with hz | hpos
 ·subst hz
  exact⟨0,h.1,h.2.1,fun hp=>absurd hp (Nat.lt_irrefl 0)⟩
 ·obtain⟨ad,e,hc⟩:=h.2.2 hpos
  obtain⟨N,hN⟩:=Kd.bounded (P:=fun n j=>∀p,xs[j]? = some p→∃c,c.length=2∧(G90 (Kd.upto F49 6 [49,90,113] n)).K w p c∧∀i u,c[i]? = some u→w.cell? (ad.add (j * 2+i))=some u)
   (fun n n' j hnm hp p hj=>by
    obtain⟨c,h1,h2,h3⟩:=hp p hj
    exact⟨c,h1,via90_K_le hnm h2,h3⟩) xs.length
   (fun j hj=>by
    obtain⟨c,h1,h2,h3⟩:=hc j _ (List.getElem?_eq_getElem hj)
    obtain⟨n,h2⟩:=via90_K_back h2
    refine⟨n,fun p hp=>?_⟩
    rw [List.getElem?_eq_getElem hj] at hp
    injection hp with hp
    rw [←hp]
    exact⟨c,h1,h2,h3⟩)
  refine⟨N,h.1,h.2.1,fun _=>⟨ad,e,fun j p hj=>?_⟩⟩
  exact hN j (List.getElem?_eq_some_iff.1 hj).1 p hj
theorem k49_open{w:World}{x:S49}{cs:List Value}(h:k49.K w x cs):∃A3 c3 A4 c4 A5 c5,cs=[.int .i64 x.f0,.int .i64 x.f1,.string x.f2,.slice A3 x.f3.length c3,.slice A4 x.f4.length c4,.slice A5 x.f5.length c5]∧x.f3.length≤c3∧k113.C w A3 x.f3.length x.f3∧x.f4.length≤c4∧k49.C w A4 x.f4.length x.f4∧x.f5.length≤c5∧k90.C w A5 x.f5.length x.f5:=by
 obtain⟨n,h⟩:=h
 cases n with
 | zero=>exact h.elim
 | succ n =>
  obtain⟨_,_,rfl,rfl,⟨_,_,rfl,rfl,⟨_,_,rfl,rfl,⟨_,_,rfl,⟨A3,c3,rfl,l3,g3⟩,⟨_,_,rfl,⟨A4,c4,rfl,l4,g4⟩,⟨A5,c5,rfl,l5,g5⟩⟩⟩⟩⟩⟩:=h
  exact⟨A3,c3,A4,c4,A5,c5,rfl,l3,g3,l4,Kd.fix_C g4,l5,via90_C g5⟩
theorem k49_openM{w:World}{base:Nat}{ok:Nat→Prop}{x:S49}{cs:List Value}(h:k49.M w base ok x cs):∃v3 v4 v5,cs=[.int .i64 x.f0,.int .i64 x.f1,.string x.f2,v3,v4,v5]∧k113.R 113 w base ok v3 x.f3∧k49.R 49 w base ok v4 x.f4∧k90.R 90 w base ok v5 x.f5:=by
 obtain⟨n,h⟩:=h
 cases n with
 | zero=>exact h.elim
 | succ n =>
  obtain⟨_,_,rfl,rfl,⟨_,_,rfl,rfl,⟨_,_,rfl,rfl,⟨_,_,rfl,⟨v3,rfl,g3⟩,⟨_,_,rfl,⟨v4,rfl,g4⟩,⟨v5,rfl,g5⟩⟩⟩⟩⟩⟩:=h
  exact⟨v3,v4,v5,rfl,g3,Kd.fix_R g4,via90_R g5⟩
theorem k49_mk(w:World)(x:S49){A3:Option Addr}{c3:Nat}(l3:x.f3.length≤c3)(g3:k113.C w A3 x.f3.length x.f3){A4:Option Addr}{c4:Nat}(l4:x.f4.length≤c4)(g4:k49.C w A4 x.f4.length x.f4){A5:Option Addr}{c5:Nat}(l5:x.f5.length≤c5)(g5:k90.C w A5 x.f5.length x.f5):k49.K w x [.int .i64 x.f0,.int .i64 x.f1,.string x.f2,.slice A3 x.f3.length c3,.slice A4 x.f4.length c4,.slice A5 x.f5.length c5]:=by
 obtain⟨n4,q4⟩:=Kd.fix_C_back mono49 g4
 obtain⟨n5,q5⟩:=via90_C_back g5
 have r4:=Kd.upto_C_le mono49 sz49 (show n4≤(max n4 n5) by omega) q4
 have r5:=via90_C_le (show n5≤(max n4 n5) by omega) q5
 exact⟨(max n4 n5)+1,⟨[.int .i64 x.f0],[.int .i64 x.f1,.string x.f2,.slice A3 x.f3.length c3,.slice A4 x.f4.length c4,.slice A5 x.f5.length c5],rfl,rfl,⟨[.int .i64 x.f1],[.string x.f2,.slice A3 x.f3.length c3,.slice A4 x.f4.length c4,.slice A5 x.f5.length c5],rfl,rfl,⟨[.string x.f2],[.slice A3 x.f3.length c3,.slice A4 x.f4.length c4,.slice A5 x.f5.length c5],rfl,rfl,⟨[.slice A3 x.f3.length c3],[.slice A4 x.f4.length c4,.slice A5 x.f5.length c5],rfl,⟨A3,c3,rfl,l3,g3⟩,⟨[.slice A4 x.f4.length c4],[.slice A5 x.f5.length c5],rfl,⟨A4,c4,rfl,l4,r4⟩,⟨A5,c5,rfl,l5,r5⟩⟩⟩⟩⟩⟩⟩
theorem k49_mkM(w:World)(base:Nat)(ok:Nat→Prop)(x:S49){v3:Value}(g3:k113.R 113 w base ok v3 x.f3){v4:Value}(g4:k49.R 49 w base ok v4 x.f4){v5:Value}(g5:k90.R 90 w base ok v5 x.f5):k49.M w base ok x [.int .i64 x.f0,.int .i64 x.f1,.string x.f2,v3,v4,v5]:=by
 obtain⟨n4,q4⟩:=Kd.fix_R_back mono49 g4
 obtain⟨n5,q5⟩:=via90_R_back g5
 have r4:=Kd.upto_R_le mono49 sz49 (show n4≤(max n4 n5) by omega) q4
 have r5:=via90_R_le (show n5≤(max n4 n5) by omega) q5
 exact⟨(max n4 n5)+1,⟨[.int .i64 x.f0],[.int .i64 x.f1,.string x.f2,v3,v4,v5],rfl,rfl,⟨[.int .i64 x.f1],[.string x.f2,v3,v4,v5],rfl,rfl,⟨[.string x.f2],[v3,v4,v5],rfl,rfl,⟨[v3],[v4,v5],rfl,⟨v3,rfl,g3⟩,⟨[v4],[v5],rfl,⟨v4,rfl,r4⟩,⟨v5,rfl,r5⟩⟩⟩⟩⟩⟩⟩
def rd_T49(xs:List S49)(i:Int):S49:=xs.getD i.toNat z49
theorem at_T49{w:World}{A:Option Addr}{n:Nat}{xs:List S49}(h:Kd.C k49 w A n xs)(i:Int)(h0:0≤i)(h1:i<n):∃ad A3 c3 A4 c4 A5 c5,A=some ad∧w.cell? (ad.add (i.toNat * 6))=some (.int .i64 (rd_T49 xs i).f0)∧w.cell? ⟨(ad.add (i.toNat * 6)).block,(ad.add (i.toNat * 6)).off+1,none⟩=some (.int .i64 (rd_T49 xs i).f1)∧w.cell? ⟨(ad.add (i.toNat * 6)).block,(ad.add (i.toNat * 6)).off+2,none⟩=some (.string (rd_T49 xs i).f2)∧w.cell? ⟨(ad.add (i.toNat * 6)).block,(ad.add (i.toNat * 6)).off+3,none⟩=some (.slice A3 (rd_T49 xs i).f3.length c3)∧w.cell? ⟨(ad.add (i.toNat * 6)).block,(ad.add (i.toNat * 6)).off+4,none⟩=some (.slice A4 (rd_T49 xs i).f4.length c4)∧w.cell? ⟨(ad.add (i.toNat * 6)).block,(ad.add (i.toNat * 6)).off+5,none⟩=some (.slice A5 (rd_T49 xs i).f5.length c5)∧(rd_T49 xs i).f3.length≤c3∧k113.C w A3 (rd_T49 xs i).f3.length (rd_T49 xs i).f3∧(rd_T49 xs i).f4.length≤c4∧k49.C w A4 (rd_T49 xs i).f4.length (rd_T49 xs i).f4∧(rd_T49 xs i).f5.length≤c5∧k90.C w A5 (rd_T49 xs i).f5.length (rd_T49 xs i).f5:=by
 obtain⟨ad,c,e,_,hK,hc0⟩:=Kd.C_get h z49 i h0 h1
 have hc:∀j u,c[j]? = some u→w.cell? (ad.add (i.toNat * 6+j))=some u:=hc0
 obtain⟨A3,c3,A4,c4,A5,c5,rfl,l3,g3,l4,g4,l5,g5⟩:=k49_open hK
 exact⟨ad,A3,c3,A4,c4,A5,c5,e,hc 0 _ rfl,by rw [←add_field _ _ 1 (by omega)];exact hc 1 _ rfl,by rw [←add_field _ _ 2 (by omega)];exact hc 2 _ rfl,by rw [←add_field _ _ 3 (by omega)];exact hc 3 _ rfl,by rw [←add_field _ _ 4 (by omega)];exact hc 4 _ rfl,by rw [←add_field _ _ 5 (by omega)];exact hc 5 _ rfl,l3,g3,l4,g4,l5,g5⟩
abbrev S90:=B90 S49
def z90:S90:=⟨([]:List S113),([]:List S49)⟩
theorem k90_open{w:World}{x:S90}{cs:List Value}(h:k90.K w x cs):∃A0 c0 A1 c1,cs=[.slice A0 x.f0.length c0,.slice A1 x.f1.length c1]∧x.f0.length≤c0∧k113.C w A0 x.f0.length x.f0∧x.f1.length≤c1∧k49.C w A1 x.f1.length x.f1:=by
 obtain⟨_,_,rfl,⟨A0,c0,rfl,l0,g0⟩,⟨A1,c1,rfl,l1,g1⟩⟩:=h
 exact⟨A0,c0,A1,c1,rfl,l0,g0,l1,g1⟩
theorem k90_mkM(w:World)(base:Nat)(ok:Nat→Prop)(x:S90){v0:Value}(g0:k113.R 113 w base ok v0 x.f0){v1:Value}(g1:k49.R 49 w base ok v1 x.f1):k90.M w base ok x [v0,v1]:=⟨[v0],[v1],rfl,⟨v0,rfl,g0⟩,⟨v1,rfl,g1⟩⟩
def rd_T90(xs:List S90)(i:Int):S90:=xs.getD i.toNat z90
theorem at_T90{w:World}{A:Option Addr}{n:Nat}{xs:List S90}(h:Kd.C k90 w A n xs)(i:Int)(h0:0≤i)(h1:i<n):∃ad A0 c0 A1 c1,A=some ad∧w.cell? (ad.add (i.toNat * 2))=some (.slice A0 (rd_T90 xs i).f0.length c0)∧w.cell? ⟨(ad.add (i.toNat * 2)).block,(ad.add (i.toNat * 2)).off+1,none⟩=some (.slice A1 (rd_T90 xs i).f1.length c1)∧(rd_T90 xs i).f0.length≤c0∧k113.C w A0 (rd_T90 xs i).f0.length (rd_T90 xs i).f0∧(rd_T90 xs i).f1.length≤c1∧k49.C w A1 (rd_T90 xs i).f1.length (rd_T90 xs i).f1:=by
 obtain⟨ad,c,e,_,hK,hc0⟩:=Kd.C_get h z90 i h0 h1
 have hc:∀j u,c[j]? = some u→w.cell? (ad.add (i.toNat * 2+j))=some u:=hc0
 obtain⟨A0,c0,A1,c1,rfl,l0,g0,l1,g1⟩:=k90_open hK
 exact⟨ad,A0,c0,A1,c1,e,hc 0 _ rfl,by rw [←add_field _ _ 1 (by omega)];exact hc 1 _ rfl,l0,g0,l1,g1⟩
structure S59 where
 f0:ByteArray
 f1:S49
 f2:S49
def z59:S59:=⟨(⟨#[]⟩:ByteArray),z49,z49⟩
def k59:Kd S59:=Kd.iso (Kd.pair Kd.string (Kd.pair k49 k49)) (fun x:S59=>(x.f0,x.f1,x.f2))
theorem k59_open{w:World}{x:S59}{cs:List Value}(h:k59.K w x cs):∃A4 c4 A5 c5 A6 c6 A10 c10 A11 c11 A12 c12,cs=[.string x.f0,.int .i64 x.f1.f0,.int .i64 x.f1.f1,.string x.f1.f2,.slice A4 x.f1.f3.length c4,.slice A5 x.f1.f4.length c5,.slice A6 x.f1.f5.length c6,.int .i64 x.f2.f0,.int .i64 x.f2.f1,.string x.f2.f2,.slice A10 x.f2.f3.length c10,.slice A11 x.f2.f4.length c11,.slice A12 x.f2.f5.length c12]∧x.f1.f3.length≤c4∧k113.C w A4 x.f1.f3.length x.f1.f3∧x.f1.f4.length≤c5∧k49.C w A5 x.f1.f4.length x.f1.f4∧x.f1.f5.length≤c6∧k90.C w A6 x.f1.f5.length x.f1.f5∧x.f2.f3.length≤c10∧k113.C w A10 x.f2.f3.length x.f2.f3∧x.f2.f4.length≤c11∧k49.C w A11 x.f2.f4.length x.f2.f4∧x.f2.f5.length≤c12∧k90.C w A12 x.f2.f5.length x.f2.f5:=by
 obtain⟨_,_,rfl,rfl,⟨_,_,rfl,s1,s7⟩⟩:=h
 obtain⟨A4,c4,A5,c5,A6,c6,rfl,l4,g4,l5,g5,l6,g6⟩:=k49_open s1
 obtain⟨A10,c10,A11,c11,A12,c12,rfl,l10,g10,l11,g11,l12,g12⟩:=k49_open s7
 exact⟨A4,c4,A5,c5,A6,c6,A10,c10,A11,c11,A12,c12,rfl,l4,g4,l5,g5,l6,g6,l10,g10,l11,g11,l12,g12⟩
theorem k59_openF{W:World}{ok:Nat→Prop}{x:S59}{cs:List Value}(h:Kd.FK k59 W ok x cs):∃A4 c4 A5 c5 A6 c6 A10 c10 A11 c11 A12 c12,cs=[.string x.f0,.int .i64 x.f1.f0,.int .i64 x.f1.f1,.string x.f1.f2,.slice A4 x.f1.f3.length c4,.slice A5 x.f1.f4.length c5,.slice A6 x.f1.f5.length c6,.int .i64 x.f2.f0,.int .i64 x.f2.f1,.string x.f2.f2,.slice A10 x.f2.f3.length c10,.slice A11 x.f2.f4.length c11,.slice A12 x.f2.f5.length c12]∧x.f1.f3.length≤c4∧Kd.F k113 W ok A4 x.f1.f3.length x.f1.f3∧x.f1.f4.length≤c5∧Kd.F k49 W ok A5 x.f1.f4.length x.f1.f4∧x.f1.f5.length≤c6∧Kd.F k90 W ok A6 x.f1.f5.length x.f1.f5∧x.f2.f3.length≤c10∧Kd.F k113 W ok A10 x.f2.f3.length x.f2.f3∧x.f2.f4.length≤c11∧Kd.F k49 W ok A11 x.f2.f4.length x.f2.f4∧x.f2.f5.length≤c12∧Kd.F k90 W ok A12 x.f2.f5.length x.f2.f5:=by
 obtain⟨A4,c4,A5,c5,A6,c6,A10,c10,A11,c11,A12,c12,rfl,l4,_,l5,_,l6,_,l10,_,l11,_,l12,_⟩:=k59_open (Kd.FK_now h)
 exact⟨A4,c4,A5,c5,A6,c6,A10,c10,A11,c11,A12,c12,rfl,l4,(fun W' hW=>by obtain⟨A4_,c4_,A5_,c5_,A6_,c6_,A10_,c10_,A11_,c11_,A12_,c12_,he,l4_,g4_,l5_,g5_,l6_,g6_,l10_,g10_,l11_,g11_,l12_,g12_⟩:=k59_open (h W' hW);injection (Option.some.inj (show some (Value.slice A4 x.f1.f3.length c4)=some (Value.slice A4_ x.f1.f3.length c4_) from congrArg (fun l=>l[4]?) he)) with ha_ _ _;rw [ha_];exact g4_),l5,(fun W' hW=>by obtain⟨A4_,c4_,A5_,c5_,A6_,c6_,A10_,c10_,A11_,c11_,A12_,c12_,he,l4_,g4_,l5_,g5_,l6_,g6_,l10_,g10_,l11_,g11_,l12_,g12_⟩:=k59_open (h W' hW);injection (Option.some.inj (show some (Value.slice A5 x.f1.f4.length c5)=some (Value.slice A5_ x.f1.f4.length c5_) from congrArg (fun l=>l[5]?) he)) with ha_ _ _;rw [ha_];exact g5_),l6,(fun W' hW=>by obtain⟨A4_,c4_,A5_,c5_,A6_,c6_,A10_,c10_,A11_,c11_,A12_,c12_,he,l4_,g4_,l5_,g5_,l6_,g6_,l10_,g10_,l11_,g11_,l12_,g12_⟩:=k59_open (h W' hW);injection (Option.some.inj (show some (Value.slice A6 x.f1.f5.length c6)=some (Value.slice A6_ x.f1.f5.length c6_) from congrArg (fun l=>l[6]?) he)) with ha_ _ _;rw [ha_];exact g6_),l10,(fun W' hW=>by obtain⟨A4_,c4_,A5_,c5_,A6_,c6_,A10_,c10_,A11_,c11_,A12_,c12_,he,l4_,g4_,l5_,g5_,l6_,g6_,l10_,g10_,l11_,g11_,l12_,g12_⟩:=k59_open (h W' hW);injection (Option.some.inj (show some (Value.slice A10 x.f2.f3.length c10)=some (Value.slice A10_ x.f2.f3.length c10_) from congrArg (fun l=>l[10]?) he)) with ha_ _ _;rw [ha_];exact g10_),l11,(fun W' hW=>by obtain⟨A4_,c4_,A5_,c5_,A6_,c6_,A10_,c10_,A11_,c11_,A12_,c12_,he,l4_,g4_,l5_,g5_,l6_,g6_,l10_,g10_,l11_,g11_,l12_,g12_⟩:=k59_open (h W' hW);injection (Option.some.inj (show some (Value.slice A11 x.f2.f4.length c11)=some (Value.slice A11_ x.f2.f4.length c11_) from congrArg (fun l=>l[11]?) he)) with ha_ _ _;rw [ha_];exact g11_),l12,(fun W' hW=>by obtain⟨A4_,c4_,A5_,c5_,A6_,c6_,A10_,c10_,A11_,c11_,A12_,c12_,he,l4_,g4_,l5_,g5_,l6_,g6_,l10_,g10_,l11_,g11_,l12_,g12_⟩:=k59_open (h W' hW);injection (Option.some.inj (show some (Value.slice A12 x.f2.f5.length c12)=some (Value.slice A12_ x.f2.f5.length c12_) from congrArg (fun l=>l[12]?) he)) with ha_ _ _;rw [ha_];exact g12_)⟩
def rd_T59(xs:List S59)(i:Int):S59:=xs.getD i.toNat z59
theorem at_T59{w:World}{A:Option Addr}{n:Nat}{xs:List S59}(h:Kd.C k59 w A n xs)(i:Int)(h0:0≤i)(h1:i<n):∃ad A4 c4 A5 c5 A6 c6 A10 c10 A11 c11 A12 c12,A=some ad∧w.cell? (ad.add (i.toNat * 13))=some (.string (rd_T59 xs i).f0)∧w.cell? ⟨(ad.add (i.toNat * 13)).block,(ad.add (i.toNat * 13)).off+1,none⟩=some (.int .i64 (rd_T59 xs i).f1.f0)∧w.cell? ⟨(ad.add (i.toNat * 13)).block,(ad.add (i.toNat * 13)).off+2,none⟩=some (.int .i64 (rd_T59 xs i).f1.f1)∧w.cell? ⟨(ad.add (i.toNat * 13)).block,(ad.add (i.toNat * 13)).off+3,none⟩=some (.string (rd_T59 xs i).f1.f2)∧w.cell? ⟨(ad.add (i.toNat * 13)).block,(ad.add (i.toNat * 13)).off+4,none⟩=some (.slice A4 (rd_T59 xs i).f1.f3.length c4)∧w.cell? ⟨(ad.add (i.toNat * 13)).block,(ad.add (i.toNat * 13)).off+5,none⟩=some (.slice A5 (rd_T59 xs i).f1.f4.length c5)∧w.cell? ⟨(ad.add (i.toNat * 13)).block,(ad.add (i.toNat * 13)).off+6,none⟩=some (.slice A6 (rd_T59 xs i).f1.f5.length c6)∧w.cell? ⟨(ad.add (i.toNat * 13)).block,(ad.add (i.toNat * 13)).off+7,none⟩=some (.int .i64 (rd_T59 xs i).f2.f0)∧w.cell? ⟨(ad.add (i.toNat * 13)).block,(ad.add (i.toNat * 13)).off+8,none⟩=some (.int .i64 (rd_T59 xs i).f2.f1)∧w.cell? ⟨(ad.add (i.toNat * 13)).block,(ad.add (i.toNat * 13)).off+9,none⟩=some (.string (rd_T59 xs i).f2.f2)∧w.cell? ⟨(ad.add (i.toNat * 13)).block,(ad.add (i.toNat * 13)).off+10,none⟩=some (.slice A10 (rd_T59 xs i).f2.f3.length c10)∧w.cell? ⟨(ad.add (i.toNat * 13)).block,(ad.add (i.toNat * 13)).off+11,none⟩=some (.slice A11 (rd_T59 xs i).f2.f4.length c11)∧w.cell? ⟨(ad.add (i.toNat * 13)).block,(ad.add (i.toNat * 13)).off+12,none⟩=some (.slice A12 (rd_T59 xs i).f2.f5.length c12)∧(rd_T59 xs i).f1.f3.length≤c4∧k113.C w A4 (rd_T59 xs i).f1.f3.length (rd_T59 xs i).f1.f3∧(rd_T59 xs i).f1.f4.length≤c5∧k49.C w A5 (rd_T59 xs i).f1.f4.length (rd_T59 xs i).f1.f4∧(rd_T59 xs i).f1.f5.length≤c6∧k90.C w A6 (rd_T59 xs i).f1.f5.length (rd_T59 xs i).f1.f5∧(rd_T59 xs i).f2.f3.length≤c10∧k113.C w A10 (rd_T59 xs i).f2.f3.length (rd_T59 xs i).f2.f3∧(rd_T59 xs i).f2.f4.length≤c11∧k49.C w A11 (rd_T59 xs i).f2.f4.length (rd_T59 xs i).f2.f4∧(rd_T59 xs i).f2.f5.length≤c12∧k90.C w A12 (rd_T59 xs i).f2.f5.length (rd_T59 xs i).f2.f5:=by
 obtain⟨ad,c,e,_,hK,hc0⟩:=Kd.C_get h z59 i h0 h1
 have hc:∀j u,c[j]? = some u→w.cell? (ad.add (i.toNat * 13+j))=some u:=hc0
 obtain⟨A4,c4,A5,c5,A6,c6,A10,c10,A11,c11,A12,c12,rfl,l4,g4,l5,g5,l6,g6,l10,g10,l11,g11,l12,g12⟩:=k59_open hK
 exact⟨ad,A4,c4,A5,c5,A6,c6,A10,c10,A11,c11,A12,c12,e,hc 0 _ rfl,by rw [←add_field _ _ 1 (by omega)];exact hc 1 _ rfl,by rw [←add_field _ _ 2 (by omega)];exact hc 2 _ rfl,by rw [←add_field _ _ 3 (by omega)];exact hc 3 _ rfl,by rw [←add_field _ _ 4 (by omega)];exact hc 4 _ rfl,by rw [←add_field _ _ 5 (by omega)];exact hc 5 _ rfl,by rw [←add_field _ _ 6 (by omega)];exact hc 6 _ rfl,by rw [←add_field _ _ 7 (by omega)];exact hc 7 _ rfl,by rw [←add_field _ _ 8 (by omega)];exact hc 8 _ rfl,by rw [←add_field _ _ 9 (by omega)];exact hc 9 _ rfl,by rw [←add_field _ _ 10 (by omega)];exact hc 10 _ rfl,by rw [←add_field _ _ 11 (by omega)];exact hc 11 _ rfl,by rw [←add_field _ _ 12 (by omega)];exact hc 12 _ rfl,l4,g4,l5,g5,l6,g6,l10,g10,l11,g11,l12,g12⟩
structure S98 where
 f0:Int
 f1:ByteArray
 f2:Int
def z98:S98:=⟨(0:Int),(⟨#[]⟩:ByteArray),(0:Int)⟩
def k98:Kd S98:=Kd.iso (Kd.pair (Kd.int .i64) (Kd.pair Kd.string (Kd.int .i64))) (fun x:S98=>(x.f0,x.f1,x.f2))
theorem k98_open{w:World}{x:S98}{cs:List Value}(h:k98.K w x cs):cs=[.int .i64 x.f0,.string x.f1,.int .i64 x.f2]:=by
 obtain⟨_,_,rfl,rfl,⟨_,_,rfl,rfl,rfl⟩⟩:=h
 exact rfl
theorem k98_mkM(w:World)(base:Nat)(ok:Nat→Prop)(x:S98)  : k98.M w base ok x [.int .i64 x.f0,.string x.f1,.int .i64 x.f2]:=⟨[.int .i64 x.f0],[.string x.f1,.int .i64 x.f2],rfl,rfl,⟨[.string x.f1],[.int .i64 x.f2],rfl,rfl,rfl⟩⟩
def rd_T98(xs:List S98)(i:Int):S98:=xs.getD i.toNat z98
theorem at_T98{w:World}{A:Option Addr}{n:Nat}{xs:List S98}(h:Kd.C k98 w A n xs)(i:Int)(h0:0≤i)(h1:i<n):∃ad ,A=some ad∧w.cell? (ad.add (i.toNat * 3))=some (.int .i64 (rd_T98 xs i).f0)∧w.cell? ⟨(ad.add (i.toNat * 3)).block,(ad.add (i.toNat * 3)).off+1,none⟩=some (.string (rd_T98 xs i).f1)∧w.cell? ⟨(ad.add (i.toNat * 3)).block,(ad.add (i.toNat * 3)).off+2,none⟩=some (.int .i64 (rd_T98 xs i).f2):=by
 obtain⟨ad,c,e,_,hK,hc0⟩:=Kd.C_get h z98 i h0 h1
 have hc:∀j u,c[j]? = some u→w.cell? (ad.add (i.toNat * 3+j))=some u:=hc0
 obtain rfl:=k98_open hK
 exact⟨ad,e,hc 0 _ rfl,by rw [←add_field _ _ 1 (by omega)];exact hc 1 _ rfl,by rw [←add_field _ _ 2 (by omega)];exact hc 2 _ rfl⟩
structure S51 where
 f0:ByteArray
 f1:S49
 f2:S49
def z51:S51:=⟨(⟨#[]⟩:ByteArray),z49,z49⟩
def k51:Kd S51:=Kd.iso (Kd.pair Kd.string (Kd.pair k49 k49)) (fun x:S51=>(x.f0,x.f1,x.f2))
theorem k51_open{w:World}{x:S51}{cs:List Value}(h:k51.K w x cs):∃A4 c4 A5 c5 A6 c6 A10 c10 A11 c11 A12 c12,cs=[.string x.f0,.int .i64 x.f1.f0,.int .i64 x.f1.f1,.string x.f1.f2,.slice A4 x.f1.f3.length c4,.slice A5 x.f1.f4.length c5,.slice A6 x.f1.f5.length c6,.int .i64 x.f2.f0,.int .i64 x.f2.f1,.string x.f2.f2,.slice A10 x.f2.f3.length c10,.slice A11 x.f2.f4.length c11,.slice A12 x.f2.f5.length c12]∧x.f1.f3.length≤c4∧k113.C w A4 x.f1.f3.length x.f1.f3∧x.f1.f4.length≤c5∧k49.C w A5 x.f1.f4.length x.f1.f4∧x.f1.f5.length≤c6∧k90.C w A6 x.f1.f5.length x.f1.f5∧x.f2.f3.length≤c10∧k113.C w A10 x.f2.f3.length x.f2.f3∧x.f2.f4.length≤c11∧k49.C w A11 x.f2.f4.length x.f2.f4∧x.f2.f5.length≤c12∧k90.C w A12 x.f2.f5.length x.f2.f5:=by
 obtain⟨_,_,rfl,rfl,⟨_,_,rfl,s1,s7⟩⟩:=h
 obtain⟨A4,c4,A5,c5,A6,c6,rfl,l4,g4,l5,g5,l6,g6⟩:=k49_open s1
 obtain⟨A10,c10,A11,c11,A12,c12,rfl,l10,g10,l11,g11,l12,g12⟩:=k49_open s7
 exact⟨A4,c4,A5,c5,A6,c6,A10,c10,A11,c11,A12,c12,rfl,l4,g4,l5,g5,l6,g6,l10,g10,l11,g11,l12,g12⟩
theorem k51_mk(w:World)(x:S51){A4:Option Addr}{c4:Nat}(l4:x.f1.f3.length≤c4)(g4:k113.C w A4 x.f1.f3.length x.f1.f3){A5:Option Addr}{c5:Nat}(l5:x.f1.f4.length≤c5)(g5:k49.C w A5 x.f1.f4.length x.f1.f4){A6:Option Addr}{c6:Nat}(l6:x.f1.f5.length≤c6)(g6:k90.C w A6 x.f1.f5.length x.f1.f5){A10:Option Addr}{c10:Nat}(l10:x.f2.f3.length≤c10)(g10:k113.C w A10 x.f2.f3.length x.f2.f3){A11:Option Addr}{c11:Nat}(l11:x.f2.f4.length≤c11)(g11:k49.C w A11 x.f2.f4.length x.f2.f4){A12:Option Addr}{c12:Nat}(l12:x.f2.f5.length≤c12)(g12:k90.C w A12 x.f2.f5.length x.f2.f5):k51.K w x [.string x.f0,.int .i64 x.f1.f0,.int .i64 x.f1.f1,.string x.f1.f2,.slice A4 x.f1.f3.length c4,.slice A5 x.f1.f4.length c5,.slice A6 x.f1.f5.length c6,.int .i64 x.f2.f0,.int .i64 x.f2.f1,.string x.f2.f2,.slice A10 x.f2.f3.length c10,.slice A11 x.f2.f4.length c11,.slice A12 x.f2.f5.length c12]:=⟨[.string x.f0],[.int .i64 x.f1.f0,.int .i64 x.f1.f1,.string x.f1.f2,.slice A4 x.f1.f3.length c4,.slice A5 x.f1.f4.length c5,.slice A6 x.f1.f5.length c6,.int .i64 x.f2.f0,.int .i64 x.f2.f1,.string x.f2.f2,.slice A10 x.f2.f3.length c10,.slice A11 x.f2.f4.length c11,.slice A12 x.f2.f5.length c12],rfl,rfl,⟨[.int .i64 x.f1.f0,.int .i64 x.f1.f1,.string x.f1.f2,.slice A4 x.f1.f3.length c4,.slice A5 x.f1.f4.length c5,.slice A6 x.f1.f5.length c6],[.int .i64 x.f2.f0,.int .i64 x.f2.f1,.string x.f2.f2,.slice A10 x.f2.f3.length c10,.slice A11 x.f2.f4.length c11,.slice A12 x.f2.f5.length c12],rfl,(k49_mk w x.f1 l4 g4 l5 g5 l6 g6),(k49_mk w x.f2 l10 g10 l11 g11 l12 g12)⟩⟩
theorem k51_mkF(W:World)(ok:Nat→Prop)(x:S51){A4:Option Addr}{c4:Nat}(l4:x.f1.f3.length≤c4)(g4:Kd.F k113 W ok A4 x.f1.f3.length x.f1.f3){A5:Option Addr}{c5:Nat}(l5:x.f1.f4.length≤c5)(g5:Kd.F k49 W ok A5 x.f1.f4.length x.f1.f4){A6:Option Addr}{c6:Nat}(l6:x.f1.f5.length≤c6)(g6:Kd.F k90 W ok A6 x.f1.f5.length x.f1.f5){A10:Option Addr}{c10:Nat}(l10:x.f2.f3.length≤c10)(g10:Kd.F k113 W ok A10 x.f2.f3.length x.f2.f3){A11:Option Addr}{c11:Nat}(l11:x.f2.f4.length≤c11)(g11:Kd.F k49 W ok A11 x.f2.f4.length x.f2.f4){A12:Option Addr}{c12:Nat}(l12:x.f2.f5.length≤c12)(g12:Kd.F k90 W ok A12 x.f2.f5.length x.f2.f5):Kd.FK k51 W ok x [.string x.f0,.int .i64 x.f1.f0,.int .i64 x.f1.f1,.string x.f1.f2,.slice A4 x.f1.f3.length c4,.slice A5 x.f1.f4.length c5,.slice A6 x.f1.f5.length c6,.int .i64 x.f2.f0,.int .i64 x.f2.f1,.string x.f2.f2,.slice A10 x.f2.f3.length c10,.slice A11 x.f2.f4.length c11,.slice A12 x.f2.f5.length c12]:=fun W2 hW=>k51_mk W2 x l4 (g4 W2 hW) l5 (g5 W2 hW) l6 (g6 W2 hW) l10 (g10 W2 hW) l11 (g11 W2 hW) l12 (g12 W2 hW)
def rd_T51(xs:List S51)(i:Int):S51:=xs.getD i.toNat z51
theorem at_T51{w:World}{A:Option Addr}{n:Nat}{xs:List S51}(h:Kd.C k51 w A n xs)(i:Int)(h0:0≤i)(h1:i<n):∃ad A4 c4 A5 c5 A6 c6 A10 c10 A11 c11 A12 c12,A=some ad∧w.cell? (ad.add (i.toNat * 13))=some (.string (rd_T51 xs i).f0)∧w.cell? ⟨(ad.add (i.toNat * 13)).block,(ad.add (i.toNat * 13)).off+1,none⟩=some (.int .i64 (rd_T51 xs i).f1.f0)∧w.cell? ⟨(ad.add (i.toNat * 13)).block,(ad.add (i.toNat * 13)).off+2,none⟩=some (.int .i64 (rd_T51 xs i).f1.f1)∧w.cell? ⟨(ad.add (i.toNat * 13)).block,(ad.add (i.toNat * 13)).off+3,none⟩=some (.string (rd_T51 xs i).f1.f2)∧w.cell? ⟨(ad.add (i.toNat * 13)).block,(ad.add (i.toNat * 13)).off+4,none⟩=some (.slice A4 (rd_T51 xs i).f1.f3.length c4)∧w.cell? ⟨(ad.add (i.toNat * 13)).block,(ad.add (i.toNat * 13)).off+5,none⟩=some (.slice A5 (rd_T51 xs i).f1.f4.length c5)∧w.cell? ⟨(ad.add (i.toNat * 13)).block,(ad.add (i.toNat * 13)).off+6,none⟩=some (.slice A6 (rd_T51 xs i).f1.f5.length c6)∧w.cell? ⟨(ad.add (i.toNat * 13)).block,(ad.add (i.toNat * 13)).off+7,none⟩=some (.int .i64 (rd_T51 xs i).f2.f0)∧w.cell? ⟨(ad.add (i.toNat * 13)).block,(ad.add (i.toNat * 13)).off+8,none⟩=some (.int .i64 (rd_T51 xs i).f2.f1)∧w.cell? ⟨(ad.add (i.toNat * 13)).block,(ad.add (i.toNat * 13)).off+9,none⟩=some (.string (rd_T51 xs i).f2.f2)∧w.cell? ⟨(ad.add (i.toNat * 13)).block,(ad.add (i.toNat * 13)).off+10,none⟩=some (.slice A10 (rd_T51 xs i).f2.f3.length c10)∧w.cell? ⟨(ad.add (i.toNat * 13)).block,(ad.add (i.toNat * 13)).off+11,none⟩=some (.slice A11 (rd_T51 xs i).f2.f4.length c11)∧w.cell? ⟨(ad.add (i.toNat * 13)).block,(ad.add (i.toNat * 13)).off+12,none⟩=some (.slice A12 (rd_T51 xs i).f2.f5.length c12)∧(rd_T51 xs i).f1.f3.length≤c4∧k113.C w A4 (rd_T51 xs i).f1.f3.length (rd_T51 xs i).f1.f3∧(rd_T51 xs i).f1.f4.length≤c5∧k49.C w A5 (rd_T51 xs i).f1.f4.length (rd_T51 xs i).f1.f4∧(rd_T51 xs i).f1.f5.length≤c6∧k90.C w A6 (rd_T51 xs i).f1.f5.length (rd_T51 xs i).f1.f5∧(rd_T51 xs i).f2.f3.length≤c10∧k113.C w A10 (rd_T51 xs i).f2.f3.length (rd_T51 xs i).f2.f3∧(rd_T51 xs i).f2.f4.length≤c11∧k49.C w A11 (rd_T51 xs i).f2.f4.length (rd_T51 xs i).f2.f4∧(rd_T51 xs i).f2.f5.length≤c12∧k90.C w A12 (rd_T51 xs i).f2.f5.length (rd_T51 xs i).f2.f5:=by
 obtain⟨ad,c,e,_,hK,hc0⟩:=Kd.C_get h z51 i h0 h1
 have hc:∀j u,c[j]? = some u→w.cell? (ad.add (i.toNat * 13+j))=some u:=hc0
 obtain⟨A4,c4,A5,c5,A6,c6,A10,c10,A11,c11,A12,c12,rfl,l4,g4,l5,g5,l6,g6,l10,g10,l11,g11,l12,g12⟩:=k51_open hK
 exact⟨ad,A4,c4,A5,c5,A6,c6,A10,c10,A11,c11,A12,c12,e,hc 0 _ rfl,by rw [←add_field _ _ 1 (by omega)];exact hc 1 _ rfl,by rw [←add_field _ _ 2 (by omega)];exact hc 2 _ rfl,by rw [←add_field _ _ 3 (by omega)];exact hc 3 _ rfl,by rw [←add_field _ _ 4 (by omega)];exact hc 4 _ rfl,by rw [←add_field _ _ 5 (by omega)];exact hc 5 _ rfl,by rw [←add_field _ _ 6 (by omega)];exact hc 6 _ rfl,by rw [←add_field _ _ 7 (by omega)];exact hc 7 _ rfl,by rw [←add_field _ _ 8 (by omega)];exact hc 8 _ rfl,by rw [←add_field _ _ 9 (by omega)];exact hc 9 _ rfl,by rw [←add_field _ _ 10 (by omega)];exact hc 10 _ rfl,by rw [←add_field _ _ 11 (by omega)];exact hc 11 _ rfl,by rw [←add_field _ _ 12 (by omega)];exact hc 12 _ rfl,l4,g4,l5,g5,l6,g6,l10,g10,l11,g11,l12,g12⟩
end Go.Proofs.YtahdjajdaggmjaaGreatDoor.XPd
end
section
set_option linter.unusedVariables false
set_option linter.unusedSimpArgs false
namespace Go.Proofs.YtahdjajdaggmjaaGreatDoor.XPd
open Go.RowKit Go.Proofs.YtahdjajdaggmjaaGreatDoorW.PrintWords Go.Proofs.YtahdjajdaggmjaaGreatDoorW.PrintLast Go.Proofs.YtahdjajdaggmjaaGreatDoorW.PrintMore
abbrev Tm:=S49
abbrev Br:=B90 S49
abbrev Cl:=S113
mutual
def sizeT:Tm→Nat
 | ⟨_,_,_,_,ks,bs⟩=>sizeL ks+sizeB bs+1
def sizeL:List Tm→Nat
 | []=>0
 | t :: r=>sizeT t+sizeL r
def sizeB:List Br→Nat
 | []=>0
 | b :: r=>sizeR b+sizeB r
def sizeR:Br→Nat
 | ⟨_,ks⟩=>sizeL ks
end
mutual
def depthT:Tm→Nat
 | ⟨_,_,_,_,ks,bs⟩=>max (depthL ks) (depthB bs)+1
def depthL:List Tm→Nat
 | []=>0
 | t :: r=>max (depthT t) (depthL r)
def depthB:List Br→Nat
 | []=>0
 | b :: r=>max (depthR b) (depthB r)
def depthR:Br→Nat
 | ⟨_,ks⟩=>depthL ks
end
theorem sizeT_eq(t:Tm):sizeT t=sizeL t.f4+sizeB t.f5+1:=by
 cases t
 rw [sizeT]
theorem sizeR_eq(b:Br):sizeR b=sizeL b.f1:=by
 cases b
 rw [sizeR]
theorem depthT_eq(t:Tm):depthT t=max (depthL t.f4) (depthB t.f5)+1:=by
 cases t
 rw [depthT]
theorem depthR_eq(b:Br):depthR b=depthL b.f1:=by
 cases b
 rw [depthR]
theorem sizeL_mem{k:Tm}:∀ {l:List Tm},k∈l→sizeT k≤sizeL l
 | [],h=>absurd h (by simp)
 | t :: r,h=>by
  rw [sizeL]
  rcases List.mem_cons.1 h with rfl | h
  ·omega
  ·have:=sizeL_mem h
   omega
theorem sizeB_mem{b:Br}:∀ {l:List Br},b∈l→sizeR b≤sizeB l
 | [],h=>absurd h (by simp)
 | t :: r,h=>by
  rw [sizeB]
  rcases List.mem_cons.1 h with rfl | h
  ·omega
  ·have:=sizeB_mem h
   omega
theorem sizeT_pos(t:Tm):0<sizeT t:=by rw [sizeT_eq];omega
theorem sizeT_kid{t k:Tm}(h:k∈t.f4):sizeT k<sizeT t:=by
 have:=sizeL_mem h
 rw [sizeT_eq t]
 omega
theorem sizeT_part{t k:Tm}{b:Br}(hb:b∈t.f5)(h:k∈b.f1):sizeT k<sizeT t:=by
 have h1:=sizeL_mem h
 have h2:=sizeB_mem hb
 rw [sizeR_eq] at h2
 rw [sizeT_eq t]
 omega
theorem rd_T49_at{xs:List S49}{j:Nat}(h:j<xs.length):rd_T49 xs ((j:Nat):Int)=xs[j]:=by
 unfold rd_T49
 rw [Int.toNat_natCast,List.getD_eq_getElem?_getD,List.getElem?_eq_getElem h]
 rfl
theorem rd_T90_at{xs:List S90}{j:Nat}(h:j<xs.length):rd_T90 xs ((j:Nat):Int)=xs[j]:=by
 unfold rd_T90
 rw [Int.toNat_natCast,List.getD_eq_getElem?_getD,List.getElem?_eq_getElem h]
 rfl
theorem at_tm{w:World}{A:Option Addr}{xs:List S49}(h:Kd.C k49 w A xs.length xs)(j:Nat)(hj:j<xs.length):∃ad A3 c3 A4 c4 A5 c5,A=some ad∧w.cell? (ad.add (j * 6))=some (.int .i64 xs[j].f0)∧w.cell? ⟨(ad.add (j * 6)).block,(ad.add (j * 6)).off+1,none⟩=some (.int .i64 xs[j].f1)∧w.cell? ⟨(ad.add (j * 6)).block,(ad.add (j * 6)).off+2,none⟩=some (.string xs[j].f2)∧w.cell? ⟨(ad.add (j * 6)).block,(ad.add (j * 6)).off+3,none⟩=some (.slice A3 xs[j].f3.length c3)∧w.cell? ⟨(ad.add (j * 6)).block,(ad.add (j * 6)).off+4,none⟩=some (.slice A4 xs[j].f4.length c4)∧w.cell? ⟨(ad.add (j * 6)).block,(ad.add (j * 6)).off+5,none⟩=some (.slice A5 xs[j].f5.length c5) ∧
  k49.K w xs[j] [.int .i64 xs[j].f0,.int .i64 xs[j].f1,.string xs[j].f2,.slice A3 xs[j].f3.length c3,.slice A4 xs[j].f4.length c4,.slice A5 xs[j].f5.length c5]:=by
 obtain⟨ad,A3,c3,A4,c4,A5,c5,e,h0,h1,h2,h3,h4,h5,l3,g3,l4,g4,l5,g5⟩:=at_T49 h (j:Int) (by omega) (by omega)
 rw [rd_T49_at hj] at h0 h1 h2 h3 h4 h5 l3 g3 l4 g4 l5 g5
 rw [Int.toNat_natCast] at h0 h1 h2 h3 h4 h5
 exact⟨ad,A3,c3,A4,c4,A5,c5,e,h0,h1,h2,h3,h4,h5,k49_mk w xs[j] l3 g3 l4 g4 l5 g5⟩
theorem at_br{w:World}{A:Option Addr}{xs:List S90}(h:Kd.C k90 w A xs.length xs)(j:Nat)(hj:j<xs.length):∃ad A0 c0 A1 c1,A=some ad∧w.cell? (ad.add (j * 2))=some (.slice A0 xs[j].f0.length c0)∧w.cell? ⟨(ad.add (j * 2)).block,(ad.add (j * 2)).off+1,none⟩=some (.slice A1 xs[j].f1.length c1)∧xs[j].f0.length≤c0∧Kd.C k113 w A0 xs[j].f0.length xs[j].f0∧xs[j].f1.length≤c1∧Kd.C k49 w A1 xs[j].f1.length xs[j].f1:=by
 have:=at_T90 h (j:Int) (by omega) (by omega)
 rwa [rd_T90_at hj,Int.toNat_natCast] at this
def numL(n:Nat):List Int:=if h:n<128 then [(n:Int)] else((n % 128+128:Nat):Int) :: numL (n / 128)
termination_by n
theorem numL_lt{n:Nat}(h:n<128):numL n=[(n:Int)]:=by
 rw [numL,dif_pos h]
theorem numL_ge{n:Nat}(h:¬n<128):numL n=((n % 128+128:Nat):Int) :: numL (n / 128):=by
 rw [numL,dif_neg h]
theorem numL_length(n:Nat)(h:n≤4294967295):(numL n).length≤5:=by
 have key:∀(k n:Nat),n<128 ^ (k+1)→(numL n).length≤k+1:=by
  intro k
  induction k with
  | zero=>intro n h;rw [numL_lt (by omega)];simp
  | succ k ih =>
   intro n h
   by_cases h1:n<128
   ·rw [numL_lt h1];simp
   ·rw [numL_ge h1]
    have:=ih (n / 128) (by rw [Nat.pow_succ] at h;omega)
    simp;omega
 exact key 4 n (by omega)
def WSt(base:Nat)(w:World)(p:Nat)(xs:List Int):Prop :=
 base≤p∧∃v,w.heap[p]? = some (.cells #[v] 56 (0,0))∧Kd.R (Kd.int .u8) 5 w base (fun _=>True) v xs
theorem uint8_info:(Tryz.prog.info? 5).map (fun i=>(i.zero,i.size,i.bytes))=some (some (.int .u8 0),1,1):=by kernel_rfl
theorem slice3{α:Type}{d:Kd α}{e:Nat}{w:World}{base:Nat}{ok:Nat→Prop}{v:Value}{xs:List α}(h:d.R e w base ok v xs):∃A n c,v=.slice A n c:=by
 obtain⟨A,c,rfl⟩:=Kd.R_slice h
 exact⟨A,_,c,rfl⟩
theorem WSt.open_{base p:Nat}{w:World}{xs:List Int}(h:WSt base w p xs):base≤p∧∃A n c,w.heap[p]? = some (.cells #[.slice A n c] 56 (0,0))∧Kd.R (Kd.int .u8) 5 w base (fun k=>k≠p) (.slice A n c) xs:=by
 obtain⟨hp,v,hv,hr⟩:=h
 obtain⟨A,n,c,rfl⟩:=slice3 hr
 exact⟨hp,A,n,c,hv,Kd.R_mono (Kd.R_types hr hv (by decide)) (fun _ hk=>hk.2)⟩
theorem WSt.put{base p:Nat}{w:World}{xs:List Int}{u v:Value}(hp:base≤p)(hv:w.heap[p]? = some (.cells #[u] 56 (0,0)))(hr:Kd.R (Kd.int .u8) 5 w base (fun _=>True) v xs):WSt base (w.setCell ⟨p,0,none⟩ v) p xs :=
 ⟨hp,v,one_setCell hv,Kd.R_set hr hv (by decide) 0 v⟩
theorem WSt.below{base p:Nat}{w w1:World}{xs:List Int}(h:WSt base w p xs)(hb:Below w.heap.size w w1):WSt base w1 p xs:=by
 obtain⟨hp,v,hv,hr⟩:=h
 exact⟨hp,v,blk_below hv hb,Kd.R_below hr hb⟩
theorem WSt.lt{base p:Nat}{w:World}{xs:List Int}(h:WSt base w p xs):p<w.heap.size:=by
 obtain⟨hp,v,hv,hr⟩:=h
 exact blk_lt hv
def KeepW(p:Nat)(w w':World):Prop:=w.heap.size≤w'.heap.size∧∀k o,w.heap[k]? = some o→k≠p→(∀cs,o≠.cells cs 5 (0,0))→w'.heap[k]? = some o
theorem KeepW.refl(p:Nat)(w:World):KeepW p w w:=⟨Nat.le_refl _,fun _ _ h _ _=>h⟩
theorem KeepW.trans{p:Nat}{w w1 w2:World}(h:KeepW p w w1)(h2:KeepW p w1 w2):KeepW p w w2:=⟨Nat.le_trans h.1 h2.1,fun k o ho hk hn=>h2.2 k o (h.2 k o ho hk hn) hk hn⟩
theorem KeepW.below{p:Nat}{w w1 w2:World}(h:KeepW p w w1)(hb:Below w1.heap.size w1 w2):KeepW p w w2:=h.trans ⟨hb.size,fun k o ho _ _=>blk_below ho hb⟩
theorem KeepW.set{p:Nat}{w w1:World}(h:KeepW p w w1)(i:Nat)(u:Value):KeepW p w (w1.setCell ⟨p,i,none⟩ u) :=
 h.trans ⟨by simp,fun k o ho hk _=>(Below.heap_setCell w1 ⟨p,i,none⟩ u k hk).trans ho⟩
theorem KeepW.grown{p base:Nat}{ok:Nat→Prop}{w w1 w2:World}{v:Value}{ys:List Int}(h:KeepW p w w1)(hr:Kd.R (Kd.int .u8) 5 w1 base ok v ys)(hg:w1.grownBy w2 v.ownBlock):KeepW p w w2 :=
 h.trans ⟨hg.size,fun k o ho _ hn=>by
  refine(hg.block k (blk_lt ho) fun e=>?_).trans ho
  obtain⟨inner,hown⟩:=Kd.R_own hr
  obtain⟨cs,hcs⟩:=own_typed hown k e.symm
  rw [ho] at hcs
  exact hn cs (Option.some.inj hcs)⟩
theorem KeepW.blk{p g:Nat}{w w1:World}{cs:Array Value}{t:TypeId}(h:KeepW p w w1)(hg:w.heap[g]? = some (.cells cs t (0,0)))(hp:g≠p)(ht:t≠5):w1.heap[g]? = some (.cells cs t (0,0)) :=
 h.2 g _ hg hp (fun cs' e=>ht (by injection e))
theorem or128:∀r:Fin 256,bits .or .u8 ((r.val:Nat):Int) 128=((r.val % 128+128:Nat):Int):=by decide
theorem or128'(m:Nat):bits .or .u8 ((m:Int) % 256) 128=((m % 128+128:Nat):Int):=by
 have h:=or128 ⟨m % 256,Nat.mod_lt _ (by omega)⟩
 rw [show(m:Int) % 256=((m % 256:Nat):Int) by omega,h]
 congr 1
 dsimp only
 omega
theorem app_byte{ops:Array Oper}{rest:List Oper}{o:Oper}{a:Act}{Q:Exit→Act→World→Prop}{w0 W:World}{p:Nat}{A:Option Addr}{n c:Nat}(hgd:o.guard=none)(s x:Operand)
  (ho:o.op=.call { callee:=.builtin .append,args:=#[s,x],argTypes:=#[23,23] }) (ys:List Int) (y:Int)
  (hs:a.eval s=.slice A n c) (hx:a.eval x=.slice (some ⟨W.heap.size,0,none⟩) 1 1) (HV:W.heap[p]? = some (.cells #[.slice A n c] 56 (0,0)))
  (HR:Kd.R (Kd.int .u8) 5 W w0.heap.size (fun k=>k≠p) (.slice A n c) ys) (HB:Below w0.heap.size w0 W) (hl:ys.length≤2000000000)
  (h:∀A1 n1 c1 w1,Kd.R (Kd.int .u8) 5 w1 w0.heap.size (fun _=>True) (.slice A1 n1 c1) (ys++[y])→Below w0.heap.size w0 w1→w1.heap[p]? = some (.cells #[.slice A n c] 56 (0,0))→(∀w2,KeepW p w2 W→KeepW p w2 w1)→wpList Tryz.prog ops Q rest (a.put o.dst (.slice A1 n1 c1)) w1) :
  wpList Tryz.prog ops Q (o :: rest) a (W.alloc (.cells #[.int .u8 y] 5)):=by
 refine Kd.R_append (Kd.int .u8) (w0:=w0) w0.heap.size hgd s x 23 5 (.int .u8 0) 1 ho Tryz.underlying23 uint8_info rfl (by decide) (by omega) (.slice A n c) ys y [.int .u8 y] (fun k=>k≠p) (fun _=>False) hs hx rfl (fun _ hk=>hk.elim) (fun k hk e=>by have:=blk_lt HV;omega) HR HB HB.size (by omega) ?_
 intro v1 w1 ho1 hb1 hg1 hat1
 obtain⟨A1,n1,c1,rfl⟩:=slice3 ho1
 exact h A1 n1 c1 w1 (Kd.R_mono ho1 (fun _ _=>trivial)) hb1 (blk_grown HV hg1 (Kd.R_away HR (fun _ hk=>hk))) (fun _ hk=>hk.grown HR hg1)
set_option maxHeartbeats 1000000 in
theorem writer_number(w0:World)(p n:Nat)(xs:List Int)(w:World)(hn:n≤4294967295)(hb:Below w0.heap.size w0 w)(hs:WSt w0.heap.size w p xs)(hl:xs.length≤1000000000) :
  Calls Tryz.prog 19 #[.pointer (some ⟨p,0,none⟩),.int .u64 (n:Int)] w fun e w'=>e=.returned (.tuple #[])∧Below w0.heap.size w0 w'∧WSt w0.heap.size w' p (xs++numL n)∧KeepW p w w':=by
 have HL:=numL_length n hn
 have HB:=ak hb
 have HS:=ak hs
 clear hb hs
 go_enter Tryz.func19,Tryz.ntmps19
 go_wp2
 go_loopg [1] (numL n).length (fun kq v1 w'=>∃(m:Nat) (ys:List Int),v1=.int .u64 (m:Int)∧m≤4294967295∧Aside0 (ys++numL m=xs++numL n)∧kq=(numL m).length∧ys.length+kq≤1000000010∧Aside0 (Below w0.heap.size w0 w')∧Aside0 (WSt w0.heap.size w' p ys)∧Aside0 (KeepW p w w'))
 case atStart=>exact⟨n,xs,rfl,hn,⟨rfl⟩,rfl,by omega,HB,HS,⟨KeepW.refl _ _⟩⟩
 case round =>
  clear HB HS HL
  obtain⟨m,ys,rfl,hm,hR,hk,hyl,HB,HS,HKW⟩:=hrel
  obtain⟨hp,A,n0,c0,hv,hr⟩:=HS.out.open_
  have HR:=ak hr
  have HV:=ak hv
  have hc:=cell_of_one hv
  have hf:=free_of_one hv
  have HP:=ak hp
  have HK:=ak hk
  clear hr hv HS hp hk
  by_cases h1:m<128
  ·have hd:decide ((128:Int)≤(m:Int))=false:=decide_eq_false (by omega)
   go_wp2_with (at_builtin;refine app_byte (w0:=w0) rfl (.tmp 24) (.tmp 27) rfl ys (m:Int) rfl rfl HV.out HR.out HB.out (by omega) ?_;intro A1 n1 c1 w1 ho1 hb1 hv1 hkw;have HKW1:=ak (hkw _ HKW.out);clear hkw;have HV1:=ak hv1;have hc1:=cell_of_one hv1;have hf1:=free_of_one hv1;have HO1:=ak ho1;have HB1:=ak hb1;clear ho1 hb1 hv1)
   go_end0
   exact⟨rfl,HB1.out.setCell HP.out _,by rw [←hR.out,numL_lt h1];exact WSt.put HP.out HV1.out HO1.out,HKW1.out.set _ _⟩
  ·have hd:decide ((128:Int)≤(m:Int))=true:=decide_eq_true (by omega)
   have hq:bits .or .u8 ((m:Int) % 256) 128=((m % 128+128:Nat):Int):=or128' m
   go_wp2_with (at_builtin;refine app_byte (w0:=w0) rfl (.tmp 10) (.tmp 14) rfl ys ((m % 128+128:Nat):Int) rfl rfl HV.out HR.out HB.out (by omega) ?_;intro A1 n1 c1 w1 ho1 hb1 hv1 hkw;have HKW1:=ak (hkw _ HKW.out);clear hkw;have HV1:=ak hv1;have hc1:=cell_of_one hv1;have hf1:=free_of_one hv1;have HO1:=ak ho1;have HB1:=ak hb1;clear ho1 hb1 hv1)
   go_roundg (gk-1)
   case measure=>rw [HK.out,numL_ge h1];simp
   case rel =>
    exact⟨m / 128,ys++[((m % 128+128:Nat):Int)],rfl,by omega,⟨by rw [List.append_assoc,←hR.out,numL_ge h1];rfl⟩,by rw [HK.out,numL_ge h1];simp,by rw [List.length_append,List.length_singleton];rw [HK.out,numL_ge h1,List.length_cons] at hyl;rw [HK.out,numL_ge h1,List.length_cons];omega,⟨HB1.out.setCell HP.out _⟩,⟨WSt.put HP.out HV1.out HO1.out⟩,⟨HKW1.out.set _ _⟩⟩
end Go.Proofs.YtahdjajdaggmjaaGreatDoor.XPd
end
section
set_option linter.unusedVariables false
set_option linter.unusedSimpArgs false
namespace Go.Proofs.YtahdjajdaggmjaaGreatDoor.XPd
open Go.RowKit Go.Proofs.YtahdjajdaggmjaaGreatDoorW.PrintWords Go.Proofs.YtahdjajdaggmjaaGreatDoorW.PrintLast Go.Proofs.YtahdjajdaggmjaaGreatDoorW.PrintMore
end Go.Proofs.YtahdjajdaggmjaaGreatDoor.XPd


end
section
set_option linter.unusedVariables false
set_option linter.unusedSimpArgs false
namespace Go.Proofs.YtahdjajdaggmjaaGreatDoor.XPd
open Go.RowKit Go.Proofs.YtahdjajdaggmjaaGreatDoorW.PrintWords Go.Proofs.YtahdjajdaggmjaaGreatDoorW.PrintLast Go.Proofs.YtahdjajdaggmjaaGreatDoorW.PrintMore
def partsI(k:Int):Int:=if k=16 then 2 else if k=15∨k=17∨k=18 then 1 else 0
def rowI(k:Int):Prop:=k=13∨k=21∨k=26∨k=14
instance (k:Int):Decidable (rowI k):=by unfold rowI;infer_instance
theorem World.cell?_alloc_old_{w:World}{a:Addr}{v:Value}{o:Obj}(h:w.cell? a=some v):(w.alloc o).cell? a=some v:=pw_cell_below (below_alloc (Below.refl _ _) o) h
def bindsI(k i:Int):Int×Int :=
 if i=1∧(k=4∨k=7) then(1,0) else if i=0∧(k=5∨k=22∨k=27) then(1,0) else if i=0∧(k=11∨k=12∨k=14) then(0,1) else(0,0)
def moreI(k:Int):Int:=if k=15 then 1 else 0
theorem bindsI_01(k i:Int):0≤(bindsI k i).1∧(bindsI k i).1≤1∧0≤(bindsI k i).2∧(bindsI k i).2≤1:=by
 unfold bindsI
 repeat' split
 all_goals simp
theorem moreI_01(k:Int):0≤moreI k∧moreI k≤1:=by
 unfold moreI
 split<;>omega
def kidsA(kind:Int):List Tm→Nat→List (Tm×Int×Int)
 | [],_=>[]
 | k :: r,i=>(k,(bindsI kind (i:Int)).1,(bindsI kind (i:Int)).2) :: kidsA kind r (i+1)
def kidsP(kind:Int)(ks:List Tm):List (Tm×Int×Int):=ks.map fun k=>(k,0,moreI kind)
def kidsB(kind:Int)(bs:List Br):List (Tm×Int×Int):=bs.flatMap fun b=>kidsP kind b.f1
def kidsOf(t:Tm):List (Tm×Int×Int):=kidsA t.f0 t.f4 0++kidsB t.f0 t.f5
def eachL{σ:Type}(f:Tm→Int→Int→σ→Bool×σ):List (Tm×Int×Int)→σ→Bool×σ
 | [],s=>(true,s)
 | x :: r,s=>if (f x.1 x.2.1 x.2.2 s).1=true then eachL f r (f x.1 x.2.1 x.2.2 s).2 else(false,(f x.1 x.2.1 x.2.2 s).2)
theorem eachL_yes{σ:Type}{f:Tm→Int→Int→σ→Bool×σ}{k:Tm}{v d:Int}{r:List (Tm×Int×Int)}{s:σ}(h:(f k v d s).1=true):eachL f ((k,v,d) :: r) s=eachL f r (f k v d s).2:=by
 rw [eachL,if_pos h]
theorem eachL_no{σ:Type}{f:Tm→Int→Int→σ→Bool×σ}{k:Tm}{v d:Int}{r:List (Tm×Int×Int)}{s:σ}(h:(f k v d s).1=false):eachL f ((k,v,d) :: r) s=(false,(f k v d s).2):=by
 rw [eachL,if_neg (by rw [h];exact Bool.false_ne_true)]
def KeepT(w w':World):Prop:=w.heap.size≤w'.heap.size∧∀(g:Nat) (cs:Array Value),w.heap[g]? = some (Obj.cells cs 49 (0,0))→w'.heap[g]? = some (Obj.cells cs 49 (0,0))
theorem KeepT.refl(w:World):KeepT w w:=⟨Nat.le_refl _,fun _ _ h=>h⟩
theorem KeepT.trans{w w1 w2:World}(h:KeepT w w1)(h2:KeepT w1 w2):KeepT w w2:=⟨Nat.le_trans h.1 h2.1,fun g cs hg=>h2.2 g cs (h.2 g cs hg)⟩
theorem KeepT.of_below{w w1:World}(hb:Below w.heap.size w w1):KeepT w w1:=⟨hb.size,fun g cs hg=>blk_below hg hb⟩
theorem KeepT.below{w w1 w2:World}(h:KeepT w w1)(hb:Below w1.heap.size w1 w2):KeepT w w2:=h.trans (KeepT.of_below hb)
set_option maxHeartbeats 4000000 in
theorem te_each1{σ:Type}(HBinds:∀(a i:Int) (w:World),Calls Tryz.prog 97 #[.int .i64 a,.int .i64 i] w fun e w'=>e=.returned (.tuple #[.int .i64 (bindsI a i).1,.int .i64 (bindsI a i).2])∧Below w.heap.size w w')
  (F:FuncId) (p0:Value) (f:Tm→Int→Int→σ→Bool×σ) (St:σ→World→Prop) (En:World→Prop) (Pk:Tm→Prop) (w0:World) (t:Tm) (cs:List Value) (s0:σ) (w:World)
  (eg:∀args w,(callFunc F args).run Tryz.prog w=.ok (.enter F args) w) (hK:k49.K w0 t cs)
  (hSb:∀s w1,St s w1→Below w0.heap.size w0 w1) (hSm:∀s w1 w2,St s w1→Below w1.heap.size w1 w2→St s w2)
  (hF:∀(k:Tm) (v d:Int) (s:σ) (ks:List Value) (w1:World),Pk k→0≤v∧v≤1∧0≤d∧d≤1→St s w1→k49.K w0 k ks →
   Calls Tryz.prog F #[.agg ks.toArray,.int .i64 v,.int .i64 d,p0] w1 fun e w'=>e=.returned (.bool (f k v d s).1)∧((f k v d s).1=true→St (f k v d s).2 w')∧((f k v d s).1=false→En w')∧KeepT w1 w')
  (hP4:∀k∈t.f4,Pk k) (hP5:∀b∈t.f5,∀k∈b.f1,Pk k) (hS:St s0 w) :
  Calls Tryz.prog 78 #[.agg cs.toArray,.func (.func F) #[] #[p0]] w fun e w'=>e=.returned (.bool (eachL f (kidsOf t) s0).1)∧((eachL f (kidsOf t) s0).1=true→St (eachL f (kidsOf t) s0).2 w')∧((eachL f (kidsOf t) s0).1=false→En w')∧KeepT w w':=by
 obtain⟨A3,c3,A4,c4,A5,c5,rfl,l3,g3,l4,g4,l5,g5⟩:=k49_open hK
 have HB:=ak HBinds
 have HSB:=ak hSb
 have HSM:=ak hSm
 have HF:=ak hF
 have HG4:=ak g4
 have HG5:=ak g5
 have hm4:t.f4.length≤9223372036854775807:=Kd.C_max g4
 have hm5:t.f5.length≤9223372036854775807:=Kd.C_max g5
 have HS0:=ak (hSm _ _ _ hS (below_alloc (Below.refl _ _) (.cells #[.int .i64 t.f0,.int .i64 t.f1,.string t.f2,.slice A3 t.f3.length c3,.slice A4 t.f4.length c4,.slice A5 t.f5.length c5] 49)))
 have HT0:=ak (blk_new w (.cells #[.int .i64 t.f0,.int .i64 t.f1,.string t.f2,.slice A3 t.f3.length c3,.slice A4 t.f4.length c4,.slice A5 t.f5.length c5] 49))
 have HK0:=ak ((KeepT.refl w).below (below_alloc (Below.refl _ _) (.cells #[.int .i64 t.f0,.int .i64 t.f1,.string t.f2,.slice A3 t.f3.length c3,.slice A4 t.f4.length c4,.slice A5 t.f5.length c5] 49)))
 have HP4:=ak hP4
 have HP5:=ak hP5
 clear hP4 hP5
 clear HBinds hSb hSm hF hS g3 g4 g5 l3 l4 l5 hK
 go_enter Tryz.func78,Tryz.ntmps78
 go_wp2
 generalize hbt:w.heap.size=bt at *
 generalize hW0:w.alloc (.cells #[.int .i64 t.f0,.int .i64 t.f1,.string t.f2,.slice A3 t.f3.length c3,.slice A4 t.f4.length c4,.slice A5 t.f5.length c5] 49)=W0 at *
 clear hW0 hbt
 go_loopg [17] (t.f4.length+1) (fun kq v17 wx=>∃(j:Nat) (s:σ),v17=.int .i64 (j:Int)∧j≤t.f4.length∧kq+j=t.f4.length+1∧Aside0 (eachL f (kidsOf t) s0=eachL f (kidsA t.f0 (t.f4.drop j) j++kidsB t.f0 t.f5) s)∧Aside0 (St s wx)∧Aside0 (KeepT w wx)∧Aside0 (wx.heap[bt]? = some (.cells #[.int .i64 t.f0,.int .i64 t.f1,.string t.f2,.slice A3 t.f3.length c3,.slice A4 t.f4.length c4,.slice A5 t.f5.length c5] 49 (0,0))))
 case atStart=>exact⟨0,s0,rfl,Nat.zero_le _,rfl,⟨rfl⟩,HS0,HK0,HT0⟩
 case round =>
  clear HS0 HK0 HT0
  obtain⟨j,s,rfl,hj,hk,HE,HS,HK,HT⟩:=hrel
  have hz0:=(blk_cell HT.out 0).trans (rfl:_=some (Value.int .i64 t.f0))
  by_cases hlt:j<t.f4.length
  ·have hd:decide ((j:Int)<(t.f4.length:Int))=true:=decide_eq_true (by omega)
   have HB0:=ak (HSB.out _ _ HS.out)
   obtain⟨ad,A3k,c3k,A4k,c4k,A5k,c5k,e,h0,h1,h2,h3,h4,h5,hKk⟩:=at_tm HG4.out j hlt
   cases e
   have hmem:t.f4[j]∈t.f4:=List.getElem_mem _
   have hdr:=List.drop_eq_getElem_cons hlt
   obtain⟨k,hkk⟩:∃k,t.f4[j]=k:=⟨_,rfl⟩
   rw [hkk] at h0 h1 h2 h3 h4 h5 hKk hmem hdr
   replace h0:=pw_cell_below HB0.out h0
   replace h1:=pw_cell_below HB0.out h1
   replace h2:=pw_cell_below HB0.out h2
   replace h3:=pw_cell_below HB0.out h3
   replace h4:=pw_cell_below HB0.out h4
   replace h5:=pw_cell_below HB0.out h5
   have hE:=HE.out
   rw [hdr,kidsA,List.cons_append] at hE
   obtain⟨v,hv⟩:∃v,(bindsI t.f0 (j:Int)).1=v:=⟨_,rfl⟩
   obtain⟨d,hd2⟩:∃d,(bindsI t.f0 (j:Int)).2=d:=⟨_,rfl⟩
   rw [hv,hd2] at hE
   have hba:Below wr.heap.size wr (wr.alloc (.cells #[.int .i64 k.f0,.int .i64 k.f1,.string k.f2,.slice A3k k.f3.length c3k,.slice A4k k.f4.length c4k,.slice A5k k.f5.length c5k] 49)):=below_alloc (Below.refl _ _) _
   have HNB:=ak (blk_new wr (.cells #[.int .i64 k.f0,.int .i64 k.f1,.string k.f2,.slice A3k k.f3.length c3k,.slice A4k k.f4.length c4k,.slice A5k k.f5.length c5k] 49))
   have HKA:=ak (HK.out.below hba)
   have HTA:=ak (blk_below HT.out hba)
   have HSA:=ak (HSM.out _ _ _ HS.out hba)
   have hcb:=HB.out t.f0 (j:Int) (wr.alloc (.cells #[.int .i64 k.f0,.int .i64 k.f1,.string k.f2,.slice A3k k.f3.length c3k,.slice A4k k.f4.length c4k,.slice A5k k.f5.length c5k] 49))
   rw [hv,hd2] at hcb
   have HKk:=ak hKk
   have hz0a:=(blk_cell HTA.out 0).trans (rfl:_=some (Value.int .i64 t.f0))
   have HMEM:=ak (HP4.out _ hmem)
   have HVD:=ak (bindsI_01 t.f0 (j:Int))
   rw [hv,hd2] at HVD
   have HEE:=ak hE
   clear hba hdr hkk hmem hE HE HS HK HB0 hKk HT hv hd2
   cases hb:(f k v d s).1
   all_goals
    have HBV:=ak hb
    clear hb
    go_wp2_with (first
     | (go_at_call 97;refine hcb.mono ?_;rintro e w4 ⟨rfl,hb4⟩;have HK4:=ak (HKA.out.below hb4);have HT4:=ak (blk_below HTA.out hb4);have HS4:=ak (HSM.out _ _ _ HSA.out hb4);have HN4:=ak (blk_below HNB.out hb4);have hq0:=(blk_cell HN4.out 0).trans (rfl:_=some (Value.int .i64 k.f0));have hq1:=(blk_cell HN4.out 1).trans (rfl:_=some (Value.int .i64 k.f1));have hq2:=(blk_cell HN4.out 2).trans (rfl:_=some (Value.string k.f2));have hq3:=(blk_cell HN4.out 3).trans (rfl:_=some (Value.slice A3k k.f3.length c3k));have hq4:=(blk_cell HN4.out 4).trans (rfl:_=some (Value.slice A4k k.f4.length c4k));have hq5:=(blk_cell HN4.out 5).trans (rfl:_=some (Value.slice A5k k.f5.length c5k));have hcf:=HF.out k v d s _ w4 HMEM.out HVD.out HS4.out HKk.out;rw [HBV.out] at hcf;clear hcb hb4)
     | (go_at_fn F;refine hcf.mono ?_;rintro e w5 ⟨rfl,hs5,hn5,hk5⟩;have HS5:=ak hs5;have HN5:=ak hn5;have HK5:=ak (HK4.out.trans hk5);have HT5:=ak (hk5.2 _ _ HT4.out);clear hcf hs5 hn5 hk5))
   ·go_ret
    exact⟨by rw [HEE.out,eachL_no HBV.out];rfl,by rw [HEE.out,eachL_no HBV.out];exact fun h=>absurd h Bool.false_ne_true,fun _=>HN5.out (by trivial),HK5.out⟩
   ·go_roundg (gk-1)
    case measure=>omega
    case rel=>exact⟨j+1,_,rfl,by omega,by omega,⟨by rw [HEE.out,eachL_yes HBV.out]⟩,⟨HS5.out (by trivial)⟩,HK5,HT5⟩
  ·have hd:decide ((j:Int)<(t.f4.length:Int))=false:=decide_eq_false (by omega)
   have hE:=HE.out
   rw [List.drop_eq_nil_of_le (by omega),kidsA,List.nil_append] at hE
   have HE2:=ak hE
   clear hE HE
   have hz5:=(blk_cell HT.out 5).trans (rfl:_=some (Value.slice A5 t.f5.length c5))
   have hz0:=(blk_cell HT.out 0).trans (rfl:_=some (Value.int .i64 t.f0))
   go_upto_if 38 with fail
   go_cut [9] from 36 to 38 (fun v9 wx=>v9=.int .i64 (moreI t.f0)∧Aside0 (St s wx)∧Aside0 (KeepT w wx)∧Aside0 (wx.heap[bt]? = some (.cells #[.int .i64 t.f0,.int .i64 t.f1,.string t.f2,.slice A3 t.f3.length c3,.slice A4 t.f4.length c4,.slice A5 t.f5.length c5] 49 (0,0))))
   case first =>
    by_cases k15:t.f0=15
    ·have b15:(t.f0==15)=true:=by simp [k15]
     have hmo:moreI t.f0=1:=by rw [moreI,if_pos k15]
     clear k15
     go_wp2
     go_meet
     exact⟨by rw [hmo],HS,HK,HT⟩
    ·have b15:(t.f0==15)=false:=by simp [k15]
     have hmo:moreI t.f0=0:=by rw [moreI,if_neg k15]
     clear k15
     go_wp2
     go_meet
     exact⟨by rw [hmo],HS,HK,HT⟩
   case rest =>
    clear hz0 hz5 HS HK HT
    obtain⟨rfl,HS,HK,HT⟩:=hcut
    have hz5:=(blk_cell HT.out 5).trans (rfl:_=some (Value.slice A5 t.f5.length c5))
    go_wp2
    obtain⟨go,rfl⟩:∃go,go=gk:=⟨_,rfl⟩
    go_loopg [42] (t.f5.length+1) (fun kq v42 wx=>∃(i:Nat) (s:σ),v42=.int .i64 (i:Int)∧i≤t.f5.length∧kq+i=t.f5.length+1∧Aside0 (eachL f (kidsOf t) s0=eachL f (kidsB t.f0 (t.f5.drop i)) s)∧Aside0 (St s wx)∧Aside0 (KeepT w wx))
    case atStart=>exact⟨0,s,rfl,Nat.zero_le _,rfl,HE2,HS,HK⟩
    case round =>
     clear HS HK HT HE2 hz5
     obtain⟨i,s,rfl,hi,hki,HE,HS,HK⟩:=hrel
     by_cases hli:i<t.f5.length
     ·have hdi:decide ((i:Int)<(t.f5.length:Int))=true:=decide_eq_true (by omega)
      have HB0:=ak (HSB.out _ _ HS.out)
      obtain⟨ad,A0b,c0b,A1b,c1b,e,h0,h1,l0,g0,l1,g1⟩:=at_br HG5.out i hli
      cases e
      have hmb:t.f5[i]∈t.f5:=List.getElem_mem _
      have hdr:=List.drop_eq_getElem_cons hli
      obtain⟨b,hbb⟩:∃b,t.f5[i]=b:=⟨_,rfl⟩
      rw [hbb] at h0 h1 l0 g0 l1 g1 hmb hdr
      replace h0:=pw_cell_below HB0.out h0
      replace h1:=pw_cell_below HB0.out h1
      have hE:=HE.out
      rw [hdr,kidsB,List.flatMap_cons,←kidsB] at hE
      have HG1:=ak g1
      have HMB:=ak hmb
      have hmk1:b.f1.length≤9223372036854775807:=Kd.C_max g1
      have hba:Below wr.heap.size wr (wr.alloc (.cells #[.slice A0b b.f0.length c0b,.slice A1b b.f1.length c1b] 90)):=below_alloc (Below.refl _ _) _
      have HSA:=ak (HSM.out _ _ _ HS.out hba)
      have HKA:=ak (HK.out.below hba)
      have HEE:=ak hE
      clear hE HE hdr hbb hmb g0 g1 l0 l1 hba HS HK HB0
      go_wp2
      obtain⟨gp,rfl⟩:∃gp,gp=gk:=⟨_,rfl⟩
      obtain⟨wo,rfl⟩:∃wo:World,wo=wr:=⟨_,rfl⟩
      go_loopg [49] (b.f1.length+1) (fun kq v49 wx=>∃(j:Nat) (s:σ),v49=.int .i64 (j:Int)∧j≤b.f1.length∧kq+j=b.f1.length+1∧Aside0 (eachL f (kidsOf t) s0=eachL f (kidsP t.f0 (b.f1.drop j)++kidsB t.f0 (t.f5.drop (i+1))) s)∧Aside0 (St s wx)∧Aside0 (KeepT w wx))
      case atStart=>exact⟨0,s,rfl,Nat.zero_le _,rfl,HEE,HSA,HKA⟩
      case round =>
       clear HSA HKA HEE h0 h1
       obtain⟨j,s,rfl,hj,hkj,HE,HS,HK⟩:=hrel
       by_cases hlt:j<b.f1.length
       ·have hd:decide ((j:Int)<(b.f1.length:Int))=true:=decide_eq_true (by omega)
        have HB0:=ak (HSB.out _ _ HS.out)
        obtain⟨ad,A3k,c3k,A4k,c4k,A5k,c5k,e,h0,h1,h2,h3,h4,h5,hKk⟩:=at_tm HG1.out j hlt
        cases e
        have hmem:b.f1[j]∈b.f1:=List.getElem_mem _
        have hdr:=List.drop_eq_getElem_cons hlt
        obtain⟨k,hkk⟩:∃k,b.f1[j]=k:=⟨_,rfl⟩
        rw [hkk] at h0 h1 h2 h3 h4 h5 hKk hmem hdr
        replace h0:=pw_cell_below HB0.out h0
        replace h1:=pw_cell_below HB0.out h1
        replace h2:=pw_cell_below HB0.out h2
        replace h3:=pw_cell_below HB0.out h3
        replace h4:=pw_cell_below HB0.out h4
        replace h5:=pw_cell_below HB0.out h5
        have hE:=HE.out
        rw [hdr,kidsP,List.map_cons,List.cons_append,←kidsP] at hE
        have hba:Below wr.heap.size wr (wr.alloc (.cells #[.int .i64 k.f0,.int .i64 k.f1,.string k.f2,.slice A3k k.f3.length c3k,.slice A4k k.f4.length c4k,.slice A5k k.f5.length c5k] 49)):=below_alloc (Below.refl _ _) _
        have HKA:=ak (HK.out.below hba)
        have HSA:=ak (HSM.out _ _ _ HS.out hba)
        have HEE:=ak hE
        have hcf:=HF.out k 0 (moreI t.f0) s _ (wr.alloc (.cells #[.int .i64 k.f0,.int .i64 k.f1,.string k.f2,.slice A3k k.f3.length c3k,.slice A4k k.f4.length c4k,.slice A5k k.f5.length c5k] 49)) (HP5.out _ HMB.out _ hmem) ⟨by omega,by omega,moreI_01 t.f0⟩ HSA.out hKk
        clear hba hdr hkk hmem hE HE HS HK HB0 hKk HSA
        cases hb:(f k 0 (moreI t.f0) s).1
        all_goals
         have HBV:=ak hb
         rw [hb] at hcf
         clear hb
         go_wp2_with (go_at_fn F;refine hcf.mono ?_;rintro e w5 ⟨rfl,hs5,hn5,hk5⟩;have HS5:=ak hs5;have HN5:=ak hn5;have HK5:=ak (HKA.out.trans hk5);clear hcf hs5 hn5 hk5)
        ·go_ret
         exact⟨by rw [HEE.out,eachL_no HBV.out];rfl,by rw [HEE.out,eachL_no HBV.out];exact fun h=>absurd h Bool.false_ne_true,fun _=>HN5.out (by trivial),HK5.out⟩
        ·go_roundg (gk-1)
         case measure=>omega
         case rel=>exact⟨j+1,_,rfl,by omega,by omega,⟨by rw [HEE.out,eachL_yes HBV.out]⟩,⟨HS5.out (by trivial)⟩,HK5⟩
       ·have hd:decide ((j:Int)<(b.f1.length:Int))=false:=decide_eq_false (by omega)
        have hE:=HE.out
        rw [List.drop_eq_nil_of_le (by omega),kidsP,List.map_nil,List.nil_append] at hE
        have HE3:=ak hE
        clear hE HE
        go_wp2
        go_roundg (gp-1)
        case measure=>omega
        case rel=>exact⟨i+1,s,rfl,by omega,by omega,HE3,HS,HK⟩
     ·have hdi:decide ((i:Int)<(t.f5.length:Int))=false:=decide_eq_false (by omega)
      have hE:=HE.out
      rw [List.drop_eq_nil_of_le (by omega),kidsB,List.flatMap_nil,eachL] at hE
      have HE3:=ak hE
      clear hE HE
      go_wp2
      go_ret
      exact⟨by rw [HE3.out];rfl,by rw [HE3.out];exact fun _=>HS.out,by rw [HE3.out];exact fun h=>absurd h.symm Bool.false_ne_true,HK.out⟩
set_option maxHeartbeats 4000000 in
theorem te_each3{σ:Type}(HBinds:∀(a i:Int) (w:World),Calls Tryz.prog 97 #[.int .i64 a,.int .i64 i] w fun e w'=>e=.returned (.tuple #[.int .i64 (bindsI a i).1,.int .i64 (bindsI a i).2])∧Below w.heap.size w w')
  (F:FuncId) (p0 p1 p2:Value) (f:Tm→Int→Int→σ→Bool×σ) (St:σ→World→Prop) (En:World→Prop) (Pk:Tm→Prop) (w0:World) (t:Tm) (cs:List Value) (s0:σ) (w:World)
  (eg:∀args w,(callFunc F args).run Tryz.prog w=.ok (.enter F args) w) (hK:k49.K w0 t cs)
  (hSb:∀s w1,St s w1→Below w0.heap.size w0 w1) (hSm:∀s w1 w2,St s w1→Below w1.heap.size w1 w2→St s w2)
  (hF:∀(k:Tm) (v d:Int) (s:σ) (ks:List Value) (w1:World),Pk k→0≤v∧v≤1∧0≤d∧d≤1→St s w1→k49.K w0 k ks →
   Calls Tryz.prog F #[.agg ks.toArray,.int .i64 v,.int .i64 d,p0,p1,p2] w1 fun e w'=>e=.returned (.bool (f k v d s).1)∧((f k v d s).1=true→St (f k v d s).2 w')∧((f k v d s).1=false→En w')∧KeepT w1 w')
  (hP4:∀k∈t.f4,Pk k) (hP5:∀b∈t.f5,∀k∈b.f1,Pk k) (hS:St s0 w) :
  Calls Tryz.prog 78 #[.agg cs.toArray,.func (.func F) #[] #[p0,p1,p2]] w fun e w'=>e=.returned (.bool (eachL f (kidsOf t) s0).1)∧((eachL f (kidsOf t) s0).1=true→St (eachL f (kidsOf t) s0).2 w')∧((eachL f (kidsOf t) s0).1=false→En w')∧KeepT w w':=by
 obtain⟨A3,c3,A4,c4,A5,c5,rfl,l3,g3,l4,g4,l5,g5⟩:=k49_open hK
 have HB:=ak HBinds
 have HSB:=ak hSb
 have HSM:=ak hSm
 have HF:=ak hF
 have HG4:=ak g4
 have HG5:=ak g5
 have hm4:t.f4.length≤9223372036854775807:=Kd.C_max g4
 have hm5:t.f5.length≤9223372036854775807:=Kd.C_max g5
 have HS0:=ak (hSm _ _ _ hS (below_alloc (Below.refl _ _) (.cells #[.int .i64 t.f0,.int .i64 t.f1,.string t.f2,.slice A3 t.f3.length c3,.slice A4 t.f4.length c4,.slice A5 t.f5.length c5] 49)))
 have HT0:=ak (blk_new w (.cells #[.int .i64 t.f0,.int .i64 t.f1,.string t.f2,.slice A3 t.f3.length c3,.slice A4 t.f4.length c4,.slice A5 t.f5.length c5] 49))
 have HK0:=ak ((KeepT.refl w).below (below_alloc (Below.refl _ _) (.cells #[.int .i64 t.f0,.int .i64 t.f1,.string t.f2,.slice A3 t.f3.length c3,.slice A4 t.f4.length c4,.slice A5 t.f5.length c5] 49)))
 have HP4:=ak hP4
 have HP5:=ak hP5
 clear hP4 hP5
 clear HBinds hSb hSm hF hS g3 g4 g5 l3 l4 l5 hK
 go_enter Tryz.func78,Tryz.ntmps78
 go_wp2
 generalize hbt:w.heap.size=bt at *
 generalize hW0:w.alloc (.cells #[.int .i64 t.f0,.int .i64 t.f1,.string t.f2,.slice A3 t.f3.length c3,.slice A4 t.f4.length c4,.slice A5 t.f5.length c5] 49)=W0 at *
 clear hW0 hbt
 go_loopg [17] (t.f4.length+1) (fun kq v17 wx=>∃(j:Nat) (s:σ),v17=.int .i64 (j:Int)∧j≤t.f4.length∧kq+j=t.f4.length+1∧Aside0 (eachL f (kidsOf t) s0=eachL f (kidsA t.f0 (t.f4.drop j) j++kidsB t.f0 t.f5) s)∧Aside0 (St s wx)∧Aside0 (KeepT w wx)∧Aside0 (wx.heap[bt]? = some (.cells #[.int .i64 t.f0,.int .i64 t.f1,.string t.f2,.slice A3 t.f3.length c3,.slice A4 t.f4.length c4,.slice A5 t.f5.length c5] 49 (0,0))))
 case atStart=>exact⟨0,s0,rfl,Nat.zero_le _,rfl,⟨rfl⟩,HS0,HK0,HT0⟩
 case round =>
  clear HS0 HK0 HT0
  obtain⟨j,s,rfl,hj,hk,HE,HS,HK,HT⟩:=hrel
  have hz0:=(blk_cell HT.out 0).trans (rfl:_=some (Value.int .i64 t.f0))
  by_cases hlt:j<t.f4.length
  ·have hd:decide ((j:Int)<(t.f4.length:Int))=true:=decide_eq_true (by omega)
   have HB0:=ak (HSB.out _ _ HS.out)
   obtain⟨ad,A3k,c3k,A4k,c4k,A5k,c5k,e,h0,h1,h2,h3,h4,h5,hKk⟩:=at_tm HG4.out j hlt
   cases e
   have hmem:t.f4[j]∈t.f4:=List.getElem_mem _
   have hdr:=List.drop_eq_getElem_cons hlt
   obtain⟨k,hkk⟩:∃k,t.f4[j]=k:=⟨_,rfl⟩
   rw [hkk] at h0 h1 h2 h3 h4 h5 hKk hmem hdr
   replace h0:=pw_cell_below HB0.out h0
   replace h1:=pw_cell_below HB0.out h1
   replace h2:=pw_cell_below HB0.out h2
   replace h3:=pw_cell_below HB0.out h3
   replace h4:=pw_cell_below HB0.out h4
   replace h5:=pw_cell_below HB0.out h5
   have hE:=HE.out
   rw [hdr,kidsA,List.cons_append] at hE
   obtain⟨v,hv⟩:∃v,(bindsI t.f0 (j:Int)).1=v:=⟨_,rfl⟩
   obtain⟨d,hd2⟩:∃d,(bindsI t.f0 (j:Int)).2=d:=⟨_,rfl⟩
   rw [hv,hd2] at hE
   have hba:Below wr.heap.size wr (wr.alloc (.cells #[.int .i64 k.f0,.int .i64 k.f1,.string k.f2,.slice A3k k.f3.length c3k,.slice A4k k.f4.length c4k,.slice A5k k.f5.length c5k] 49)):=below_alloc (Below.refl _ _) _
   have HNB:=ak (blk_new wr (.cells #[.int .i64 k.f0,.int .i64 k.f1,.string k.f2,.slice A3k k.f3.length c3k,.slice A4k k.f4.length c4k,.slice A5k k.f5.length c5k] 49))
   have HKA:=ak (HK.out.below hba)
   have HTA:=ak (blk_below HT.out hba)
   have HSA:=ak (HSM.out _ _ _ HS.out hba)
   have hcb:=HB.out t.f0 (j:Int) (wr.alloc (.cells #[.int .i64 k.f0,.int .i64 k.f1,.string k.f2,.slice A3k k.f3.length c3k,.slice A4k k.f4.length c4k,.slice A5k k.f5.length c5k] 49))
   rw [hv,hd2] at hcb
   have HKk:=ak hKk
   have hz0a:=(blk_cell HTA.out 0).trans (rfl:_=some (Value.int .i64 t.f0))
   have HMEM:=ak (HP4.out _ hmem)
   have HVD:=ak (bindsI_01 t.f0 (j:Int))
   rw [hv,hd2] at HVD
   have HEE:=ak hE
   clear hba hdr hkk hmem hE HE HS HK HB0 hKk HT hv hd2
   cases hb:(f k v d s).1
   all_goals
    have HBV:=ak hb
    clear hb
    go_wp2_with (first
     | (go_at_call 97;refine hcb.mono ?_;rintro e w4 ⟨rfl,hb4⟩;have HK4:=ak (HKA.out.below hb4);have HT4:=ak (blk_below HTA.out hb4);have HS4:=ak (HSM.out _ _ _ HSA.out hb4);have HN4:=ak (blk_below HNB.out hb4);have hq0:=(blk_cell HN4.out 0).trans (rfl:_=some (Value.int .i64 k.f0));have hq1:=(blk_cell HN4.out 1).trans (rfl:_=some (Value.int .i64 k.f1));have hq2:=(blk_cell HN4.out 2).trans (rfl:_=some (Value.string k.f2));have hq3:=(blk_cell HN4.out 3).trans (rfl:_=some (Value.slice A3k k.f3.length c3k));have hq4:=(blk_cell HN4.out 4).trans (rfl:_=some (Value.slice A4k k.f4.length c4k));have hq5:=(blk_cell HN4.out 5).trans (rfl:_=some (Value.slice A5k k.f5.length c5k));have hcf:=HF.out k v d s _ w4 HMEM.out HVD.out HS4.out HKk.out;rw [HBV.out] at hcf;clear hcb hb4)
     | (go_at_fn F;refine hcf.mono ?_;rintro e w5 ⟨rfl,hs5,hn5,hk5⟩;have HS5:=ak hs5;have HN5:=ak hn5;have HK5:=ak (HK4.out.trans hk5);have HT5:=ak (hk5.2 _ _ HT4.out);clear hcf hs5 hn5 hk5))
   ·go_ret
    exact⟨by rw [HEE.out,eachL_no HBV.out];rfl,by rw [HEE.out,eachL_no HBV.out];exact fun h=>absurd h Bool.false_ne_true,fun _=>HN5.out (by trivial),HK5.out⟩
   ·go_roundg (gk-1)
    case measure=>omega
    case rel=>exact⟨j+1,_,rfl,by omega,by omega,⟨by rw [HEE.out,eachL_yes HBV.out]⟩,⟨HS5.out (by trivial)⟩,HK5,HT5⟩
  ·have hd:decide ((j:Int)<(t.f4.length:Int))=false:=decide_eq_false (by omega)
   have hE:=HE.out
   rw [List.drop_eq_nil_of_le (by omega),kidsA,List.nil_append] at hE
   have HE2:=ak hE
   clear hE HE
   have hz5:=(blk_cell HT.out 5).trans (rfl:_=some (Value.slice A5 t.f5.length c5))
   have hz0:=(blk_cell HT.out 0).trans (rfl:_=some (Value.int .i64 t.f0))
   go_upto_if 38 with fail
   go_cut [9] from 36 to 38 (fun v9 wx=>v9=.int .i64 (moreI t.f0)∧Aside0 (St s wx)∧Aside0 (KeepT w wx)∧Aside0 (wx.heap[bt]? = some (.cells #[.int .i64 t.f0,.int .i64 t.f1,.string t.f2,.slice A3 t.f3.length c3,.slice A4 t.f4.length c4,.slice A5 t.f5.length c5] 49 (0,0))))
   case first =>
    by_cases k15:t.f0=15
    ·have b15:(t.f0==15)=true:=by simp [k15]
     have hmo:moreI t.f0=1:=by rw [moreI,if_pos k15]
     clear k15
     go_wp2
     go_meet
     exact⟨by rw [hmo],HS,HK,HT⟩
    ·have b15:(t.f0==15)=false:=by simp [k15]
     have hmo:moreI t.f0=0:=by rw [moreI,if_neg k15]
     clear k15
     go_wp2
     go_meet
     exact⟨by rw [hmo],HS,HK,HT⟩
   case rest =>
    clear hz0 hz5 HS HK HT
    obtain⟨rfl,HS,HK,HT⟩:=hcut
    have hz5:=(blk_cell HT.out 5).trans (rfl:_=some (Value.slice A5 t.f5.length c5))
    go_wp2
    obtain⟨go,rfl⟩:∃go,go=gk:=⟨_,rfl⟩
    go_loopg [42] (t.f5.length+1) (fun kq v42 wx=>∃(i:Nat) (s:σ),v42=.int .i64 (i:Int)∧i≤t.f5.length∧kq+i=t.f5.length+1∧Aside0 (eachL f (kidsOf t) s0=eachL f (kidsB t.f0 (t.f5.drop i)) s)∧Aside0 (St s wx)∧Aside0 (KeepT w wx))
    case atStart=>exact⟨0,s,rfl,Nat.zero_le _,rfl,HE2,HS,HK⟩
    case round =>
     clear HS HK HT HE2 hz5
     obtain⟨i,s,rfl,hi,hki,HE,HS,HK⟩:=hrel
     by_cases hli:i<t.f5.length
     ·have hdi:decide ((i:Int)<(t.f5.length:Int))=true:=decide_eq_true (by omega)
      have HB0:=ak (HSB.out _ _ HS.out)
      obtain⟨ad,A0b,c0b,A1b,c1b,e,h0,h1,l0,g0,l1,g1⟩:=at_br HG5.out i hli
      cases e
      have hmb:t.f5[i]∈t.f5:=List.getElem_mem _
      have hdr:=List.drop_eq_getElem_cons hli
      obtain⟨b,hbb⟩:∃b,t.f5[i]=b:=⟨_,rfl⟩
      rw [hbb] at h0 h1 l0 g0 l1 g1 hmb hdr
      replace h0:=pw_cell_below HB0.out h0
      replace h1:=pw_cell_below HB0.out h1
      have hE:=HE.out
      rw [hdr,kidsB,List.flatMap_cons,←kidsB] at hE
      have HG1:=ak g1
      have HMB:=ak hmb
      have hmk1:b.f1.length≤9223372036854775807:=Kd.C_max g1
      have hba:Below wr.heap.size wr (wr.alloc (.cells #[.slice A0b b.f0.length c0b,.slice A1b b.f1.length c1b] 90)):=below_alloc (Below.refl _ _) _
      have HSA:=ak (HSM.out _ _ _ HS.out hba)
      have HKA:=ak (HK.out.below hba)
      have HEE:=ak hE
      clear hE HE hdr hbb hmb g0 g1 l0 l1 hba HS HK HB0
      go_wp2
      obtain⟨gp,rfl⟩:∃gp,gp=gk:=⟨_,rfl⟩
      obtain⟨wo,rfl⟩:∃wo:World,wo=wr:=⟨_,rfl⟩
      go_loopg [49] (b.f1.length+1) (fun kq v49 wx=>∃(j:Nat) (s:σ),v49=.int .i64 (j:Int)∧j≤b.f1.length∧kq+j=b.f1.length+1∧Aside0 (eachL f (kidsOf t) s0=eachL f (kidsP t.f0 (b.f1.drop j)++kidsB t.f0 (t.f5.drop (i+1))) s)∧Aside0 (St s wx)∧Aside0 (KeepT w wx))
      case atStart=>exact⟨0,s,rfl,Nat.zero_le _,rfl,HEE,HSA,HKA⟩
      case round =>
       clear HSA HKA HEE h0 h1
       obtain⟨j,s,rfl,hj,hkj,HE,HS,HK⟩:=hrel
       by_cases hlt:j<b.f1.length
       ·have hd:decide ((j:Int)<(b.f1.length:Int))=true:=decide_eq_true (by omega)
        have HB0:=ak (HSB.out _ _ HS.out)
        obtain⟨ad,A3k,c3k,A4k,c4k,A5k,c5k,e,h0,h1,h2,h3,h4,h5,hKk⟩:=at_tm HG1.out j hlt
        cases e
        have hmem:b.f1[j]∈b.f1:=List.getElem_mem _
        have hdr:=List.drop_eq_getElem_cons hlt
        obtain⟨k,hkk⟩:∃k,b.f1[j]=k:=⟨_,rfl⟩
        rw [hkk] at h0 h1 h2 h3 h4 h5 hKk hmem hdr
        replace h0:=pw_cell_below HB0.out h0
        replace h1:=pw_cell_below HB0.out h1
        replace h2:=pw_cell_below HB0.out h2
        replace h3:=pw_cell_below HB0.out h3
        replace h4:=pw_cell_below HB0.out h4
        replace h5:=pw_cell_below HB0.out h5
        have hE:=HE.out
        rw [hdr,kidsP,List.map_cons,List.cons_append,←kidsP] at hE
        have hba:Below wr.heap.size wr (wr.alloc (.cells #[.int .i64 k.f0,.int .i64 k.f1,.string k.f2,.slice A3k k.f3.length c3k,.slice A4k k.f4.length c4k,.slice A5k k.f5.length c5k] 49)):=below_alloc (Below.refl _ _) _
        have HKA:=ak (HK.out.below hba)
        have HSA:=ak (HSM.out _ _ _ HS.out hba)
        have HEE:=ak hE
        have hcf:=HF.out k 0 (moreI t.f0) s _ (wr.alloc (.cells #[.int .i64 k.f0,.int .i64 k.f1,.string k.f2,.slice A3k k.f3.length c3k,.slice A4k k.f4.length c4k,.slice A5k k.f5.length c5k] 49)) (HP5.out _ HMB.out _ hmem) ⟨by omega,by omega,moreI_01 t.f0⟩ HSA.out hKk
        clear hba hdr hkk hmem hE HE HS HK HB0 hKk HSA
        cases hb:(f k 0 (moreI t.f0) s).1
        all_goals
         have HBV:=ak hb
         rw [hb] at hcf
         clear hb
         go_wp2_with (go_at_fn F;refine hcf.mono ?_;rintro e w5 ⟨rfl,hs5,hn5,hk5⟩;have HS5:=ak hs5;have HN5:=ak hn5;have HK5:=ak (HKA.out.trans hk5);clear hcf hs5 hn5 hk5)
        ·go_ret
         exact⟨by rw [HEE.out,eachL_no HBV.out];rfl,by rw [HEE.out,eachL_no HBV.out];exact fun h=>absurd h Bool.false_ne_true,fun _=>HN5.out (by trivial),HK5.out⟩
        ·go_roundg (gk-1)
         case measure=>omega
         case rel=>exact⟨j+1,_,rfl,by omega,by omega,⟨by rw [HEE.out,eachL_yes HBV.out]⟩,⟨HS5.out (by trivial)⟩,HK5⟩
       ·have hd:decide ((j:Int)<(b.f1.length:Int))=false:=decide_eq_false (by omega)
        have hE:=HE.out
        rw [List.drop_eq_nil_of_le (by omega),kidsP,List.map_nil,List.nil_append] at hE
        have HE3:=ak hE
        clear hE HE
        go_wp2
        go_roundg (gp-1)
        case measure=>omega
        case rel=>exact⟨i+1,s,rfl,by omega,by omega,HE3,HS,HK⟩
     ·have hdi:decide ((i:Int)<(t.f5.length:Int))=false:=decide_eq_false (by omega)
      have hE:=HE.out
      rw [List.drop_eq_nil_of_le (by omega),kidsB,List.flatMap_nil,eachL] at hE
      have HE3:=ak hE
      clear hE HE
      go_wp2
      go_ret
      exact⟨by rw [HE3.out];rfl,by rw [HE3.out];exact fun _=>HS.out,by rw [HE3.out];exact fun h=>absurd h.symm Bool.false_ne_true,HK.out⟩
theorem eachL_all(p:Tm→Bool):∀l:List (Tm×Int×Int),(eachL (fun k _ _ (_:Unit)=>(p k,())) l ()).1=l.all (fun x=>p x.1)
 | []=>by rw [eachL];rfl
 | (k,v,d) :: r=>by
  cases h:p k
  ·rw [eachL_no (by exact h),List.all_cons,h]
   rfl
  ·rw [eachL_yes (by exact h),List.all_cons,h,Bool.true_and]
   exact eachL_all p r
theorem kidsA_all(kind:Int)(p:Tm→Bool):∀(l:List Tm) (i:Nat),(kidsA kind l i).all (fun x=>p x.1)=l.all p
 | [],_=>by rw [kidsA];rfl
 | k :: r,i=>by rw [kidsA,List.all_cons,List.all_cons,kidsA_all kind p r]
theorem kidsB_all(kind:Int)(p:Tm→Bool):∀(l:List Br),(kidsB kind l).all (fun x=>p x.1)=l.all (fun b=>b.f1.all p)
 | []=>rfl
 | b :: r=>by
  rw [kidsB,List.flatMap_cons,List.all_append,List.all_cons,←kidsB,kidsB_all kind p r]
  congr 1
  rw [kidsP,List.all_map]
  rfl
theorem depthL_all(n:Nat):∀l:List Tm,l.all (fun k=>decide (depthT k≤n))=decide (depthL l≤n)
 | []=>by rw [depthL];simp
 | k :: r=>by
  rw [List.all_cons,depthL_all n r,depthL]
  rw [Bool.eq_iff_iff]
  simp only [Bool.and_eq_true,decide_eq_true_eq]
  omega
theorem depthB_all(n:Nat):∀l:List Br,l.all (fun b=>b.f1.all (fun k=>decide (depthT k≤n)))=decide (depthB l≤n)
 | []=>by rw [depthB];simp
 | b :: r=>by
  rw [List.all_cons,depthB_all n r,depthB,depthL_all,depthR_eq]
  rw [Bool.eq_iff_iff]
  simp only [Bool.and_eq_true,decide_eq_true_eq]
  omega
theorem kids_depth(n:Nat)(t:Tm):(eachL (fun k _ _ (_:Unit)=>(decide (depthT k≤n),())) (kidsOf t) ()).1=decide (depthT t≤n+1):=by
 rw [eachL_all (fun k=>decide (depthT k≤n)),kidsOf,List.all_append,kidsA_all _ (fun k=>decide (depthT k≤n)),kidsB_all _ (fun k=>decide (depthT k≤n)),depthL_all,depthB_all,depthT_eq]
 rw [Bool.eq_iff_iff]
 simp only [Bool.and_eq_true,decide_eq_true_eq]
 omega
theorem depthT_pos(t:Tm):0<depthT t:=by rw [depthT_eq];omega
set_option maxHeartbeats 1000000 in
theorem shallow_fn(n:Nat)(hn:n≤1000000)(HIH:Aside0 (∀(k:Tm) (ks:List Value) (w:World),k49.K w k ks→Calls Tryz.prog 75 #[.agg ks.toArray,.int .i64 (n:Int)] w fun e w'=>e=.returned (.bool (decide (depthT k≤n)))∧Below w.heap.size w w'))
  (k:Tm) (v d:Int) (ks:List Value) (bl:Nat) (w:World) (hK:k49.K w k ks) (hbl:w.heap[bl]? = some (.cells #[.int .i64 ((n+1:Nat):Int)] 3 (0,0))) :
  Calls Tryz.prog 92 #[.agg ks.toArray,.int .i64 v,.int .i64 d,.pointer (some ⟨bl,0,none⟩)] w fun e w'=>e=.returned (.bool (decide (depthT k≤n)))∧Below w.heap.size w w':=by
 obtain⟨A3,c3,A4,c4,A5,c5,rfl,l3,g3,l4,g4,l5,g5⟩:=k49_open hK
 have HK:=ak hK
 have hba:Below w.heap.size w (w.alloc (.cells #[.int .i64 k.f0,.int .i64 k.f1,.string k.f2,.slice A3 k.f3.length c3,.slice A4 k.f4.length c4,.slice A5 k.f5.length c5] 49)):=below_alloc (Below.refl _ _) _
 have hz:=(blk_cell (blk_below hbl hba) 0).trans (rfl:_=some (Value.int .i64 ((n+1:Nat):Int)))
 have hc:=HIH.out k _ _ (k49.K_below hba hK)
 have HBA:=ak hba
 clear hba hbl g3 g4 g5 l3 l4 l5 hK
 go_enter Tryz.func92,Tryz.ntmps92
 go_wp2_with (go_at_call 75;refine hc.mono ?_;rintro e w1 ⟨rfl,hb1⟩;have HB1:=ak hb1;clear hb1 hc)
 go_ret
 exact⟨rfl,below_step HBA.out HB1.out⟩
set_option maxHeartbeats 1000000 in
theorem te_shallo(HBinds:Aside0 (∀(a i:Int) (w:World),Calls Tryz.prog 97 #[.int .i64 a,.int .i64 i] w fun e w'=>e=.returned (.tuple #[.int .i64 (bindsI a i).1,.int .i64 (bindsI a i).2])∧Below w.heap.size w w'))
  (eg:∀args w,(callFunc 92 args).run Tryz.prog w=.ok (.enter 92 args) w):∀(n:Nat) (hn:n≤1000000) (k:Tm) (ks:List Value) (w:World),k49.K w k ks →
  Calls Tryz.prog 75 #[.agg ks.toArray,.int .i64 (n:Int)] w fun e w'=>e=.returned (.bool (decide (depthT k≤n)))∧Below w.heap.size w w':=by
 intro n
 induction n with
 | zero =>
  intro hn k ks w hK
  obtain⟨A3,c3,A4,c4,A5,c5,rfl,l3,g3,l4,g4,l5,g5⟩:=k49_open hK
  have hp:=depthT_pos k
  clear l3 g3 l4 g4 l5 g5 hK
  go_enter Tryz.func75,Tryz.ntmps75
  go_wp2
  go_ret
  exact⟨by rw [decide_eq_false (by omega)];rfl,((Below.refl _ _).alloc (Nat.le_refl _) _).alloc (by simp) _⟩
 | succ n ih =>
  intro hn k ks w hK
  have HIH:=ak (ih (by omega))
  obtain⟨A3,c3,A4,c4,A5,c5,rfl,l3,g3,l4,g4,l5,g5⟩:=k49_open hK
  have HK:=ak hK
  clear l3 g3 l4 g4 l5 g5 hK ih
  have hb2:Below w.heap.size w ((w.alloc (.cells #[.int .i64 k.f0,.int .i64 k.f1,.string k.f2,.slice A3 k.f3.length c3,.slice A4 k.f4.length c4,.slice A5 k.f5.length c5] 49)).alloc (.cells #[.int .i64 ((n+1:Nat):Int)] 3)):=((Below.refl _ _).alloc (Nat.le_refl _) _).alloc (by simp) _
  have hbl:((w.alloc (.cells #[.int .i64 k.f0,.int .i64 k.f1,.string k.f2,.slice A3 k.f3.length c3,.slice A4 k.f4.length c4,.slice A5 k.f5.length c5] 49)).alloc (.cells #[.int .i64 ((n+1:Nat):Int)] 3)).heap[w.heap.size+1]? = some (.cells #[.int .i64 ((n+1:Nat):Int)] 3 (0,0)):=by
   have:=blk_new (w.alloc (.cells #[.int .i64 k.f0,.int .i64 k.f1,.string k.f2,.slice A3 k.f3.length c3,.slice A4 k.f4.length c4,.slice A5 k.f5.length c5] 49)) (.cells #[.int .i64 ((n+1:Nat):Int)] 3)
   rw [World.size_alloc] at this
   exact this
  have hc:=te_each1 HBinds.out 92 (.pointer (some ⟨w.heap.size+1,0,none⟩)) (fun k _ _ (_:Unit)=>(decide (depthT k≤n),())) (fun _ wx=>Below w.heap.size w wx∧wx.heap[w.heap.size+1]? = some (.cells #[.int .i64 ((n+1:Nat):Int)] 3 (0,0))) (fun wx=>Below w.heap.size w wx) (fun _=>True) w k _ () _ eg HK.out
   (fun _ _ h=>h.1) (fun _ _ _ h hb=>⟨below_step h.1 hb,blk_below h.2 hb⟩)
   (fun q v d s qs w1 _ _ hs hq=>(shallow_fn n (by omega) HIH q v d qs _ w1 (k49.K_below hs.1 hq) hs.2).mono (fun e w' ⟨he,hb⟩=>⟨he,fun _=>⟨below_step hs.1 hb,blk_below hs.2 hb⟩,fun _=>below_step hs.1 hb,KeepT.of_below hb⟩))
   (fun _ _=>trivial) (fun _ _ _ _=>trivial) ⟨hb2,hbl⟩
  rw [kids_depth n k] at hc
  have hmf:∀(fn:Fn) (first cap:Array Value) (w:World),(Instr.makeFunc fn first cap).run Tryz.prog w=.ok (.func fn first cap) w:=fun _ _ _ _=>rfl
  have hd:decide (0<((n+1:Nat):Int))=true:=decide_eq_true (by omega)
  have hz:=(blk_cell hbl 0).trans (rfl:_=some (Value.int .i64 ((n+1:Nat):Int)))
  clear hbl hb2
  go_enter Tryz.func75,Tryz.ntmps75
  go_wp2_with (go_at_call 78;refine hc.mono ?_;rintro e w1 ⟨rfl,hs1,hn1,_⟩;have HS1:=ak hs1;have HN1:=ak hn1;clear hs1 hn1 hc)
  go_ret
  refine⟨rfl, ?_⟩
  cases hx:decide (depthT k≤n+1)
  ·exact HN1.out hx
  ·exact(HS1.out hx).1
def szF(k:Tm)(_ _:Int)(m:Nat):Bool×Nat:=(decide (sizeT k≤m),m-sizeT k)
def szS:List (Tm×Int×Int)→Nat
 | []=>0
 | x :: r=>sizeT x.1+szS r
theorem eachL_size:∀(l:List (Tm×Int×Int)) (m:Nat),(eachL szF l m).1=decide (szS l≤m)∧((eachL szF l m).1=true→(eachL szF l m).2=m-szS l)
 | [],m=>by simp [eachL,szS]
 | (k,v,d) :: r,m=>by
  by_cases h:sizeT k≤m
  ·rw [eachL_yes (by simp [szF,h])]
   have ih:=eachL_size r (m-sizeT k)
   have hs:szS ((k,v,d) :: r)=sizeT k+szS r:=rfl
   simp only [szF]
   rw [hs]
   refine⟨?_,fun hh=>?_⟩
   ·rw [ih.1,Bool.eq_iff_iff,decide_eq_true_eq,decide_eq_true_eq]
    omega
   ·rw [ih.2 hh]
    omega
  ·rw [eachL_no (by simp [szF,h])]
   have hs:szS ((k,v,d) :: r)=sizeT k+szS r:=rfl
   rw [hs]
   refine⟨?_,fun hh=>absurd hh Bool.false_ne_true⟩
   rw [decide_eq_false (by omega)]
theorem szS_append:∀(l r:List (Tm×Int×Int)),szS (l++r)=szS l+szS r
 | [],r=>by simp [szS]
 | x :: l,r=>by
  rw [List.cons_append,szS,szS,szS_append l r]
  omega
theorem szS_kidsA(kind:Int):∀(l:List Tm) (i:Nat),szS (kidsA kind l i)=sizeL l
 | [],_=>by rw [kidsA,szS,sizeL]
 | k :: r,i=>by rw [kidsA,szS,sizeL,szS_kidsA kind r]
theorem szS_kidsP(kind:Int):∀(l:List Tm),szS (kidsP kind l)=sizeL l
 | []=>by rw [kidsP,List.map_nil,szS,sizeL]
 | k :: r=>by
  rw [kidsP,List.map_cons,szS,sizeL,←kidsP,szS_kidsP kind r]
theorem szS_kidsB(kind:Int):∀(l:List Br),szS (kidsB kind l)=sizeB l
 | []=>by rw [kidsB,List.flatMap_nil,szS,sizeB]
 | b :: r=>by rw [kidsB,List.flatMap_cons,szS_append,←kidsB,szS_kidsB kind r,szS_kidsP,sizeB,sizeR_eq]
theorem szS_kids(t:Tm):szS (kidsOf t)+1=sizeT t:=by rw [kidsOf,szS_append,szS_kidsA,szS_kidsB,sizeT_eq]
def CSt(w0:World)(bm bc:Nat)(m:Nat)(w:World):Prop :=
 Below w0.heap.size w0 w∧w.heap[bm]? = some (.cells #[.int .i64 (m:Int)] 3 (0,0))∧w.heap[bc]? = some (.cells #[.func (.func 93) #[] #[.pointer (some ⟨bm,0,none⟩),.pointer (some ⟨bc,0,none⟩)]] 140 (0,0))
theorem CSt.below{w0:World}{bm bc m:Nat}{w w1:World}(h:CSt w0 bm bc m w)(hb:Below w.heap.size w w1):CSt w0 bm bc m w1:=⟨below_step h.1 hb,blk_below h.2.1 hb,blk_below h.2.2 hb⟩
theorem KeepT.set{w w1:World}{g:Nat}{cs:Array Value}(h:KeepT w w1)(hg:w1.heap[g]? = some (.cells cs 3 (0,0)))(i:Nat)(u:Value):KeepT w (w1.setCell ⟨g,i,none⟩ u) :=
 h.trans ⟨by simp,fun q ds hq=>blk_far hq (p:=⟨g,i,none⟩) (blk_ne hq hg (by decide)) u⟩
set_option maxHeartbeats 1000000 in
theorem small_fn(w0:World)(bm bc:Nat)(eg3:∀args w,(callFunc 93 args).run Tryz.prog w=.ok (.enter 93 args) w)
  (m:Nat) (k:Tm) (HIH:Aside0 (∀(ks:List Value) (w:World),k49.K w0 k ks→CSt w0 bm bc m w→Calls Tryz.prog 93 #[.agg ks.toArray,.pointer (some ⟨bm,0,none⟩),.pointer (some ⟨bc,0,none⟩)] w fun e w'=>e=.returned (.bool (decide (sizeT k≤m)))∧(sizeT k≤m→CSt w0 bm bc (m-sizeT k) w')∧Below w0.heap.size w0 w'∧KeepT w w'))
  (v d:Int) (ks:List Value) (w:World) (hK:k49.K w0 k ks) (hS:CSt w0 bm bc m w) :
  Calls Tryz.prog 94 #[.agg ks.toArray,.int .i64 v,.int .i64 d,.pointer (some ⟨bc,0,none⟩)] w fun e w'=>e=.returned (.bool (decide (sizeT k≤m)))∧(sizeT k≤m→CSt w0 bm bc (m-sizeT k) w')∧Below w0.heap.size w0 w'∧KeepT w w':=by
 obtain⟨A3,c3,A4,c4,A5,c5,rfl,l3,g3,l4,g4,l5,g5⟩:=k49_open hK
 have hba:Below w.heap.size w (w.alloc (.cells #[.int .i64 k.f0,.int .i64 k.f1,.string k.f2,.slice A3 k.f3.length c3,.slice A4 k.f4.length c4,.slice A5 k.f5.length c5] 49)):=below_alloc (Below.refl _ _) _
 have hz:=(blk_cell (blk_below hS.2.2 hba) 0).trans (rfl:_=some (Value.func (.func 93) #[] #[.pointer (some ⟨bm,0,none⟩),.pointer (some ⟨bc,0,none⟩)]))
 have hc:=HIH.out _ _ hK (hS.below hba)
 have HBA:=ak hba
 clear hba hS g3 g4 g5 l3 l4 l5 hK
 go_enter Tryz.func94,Tryz.ntmps94
 go_wp2_with (go_at_fn 93;refine hc.mono ?_;rintro e w1 ⟨rfl,hs1,hb1,hk1⟩;have HS1:=ak hs1;have HB1:=ak hb1;have HK1:=ak hk1;clear hs1 hb1 hk1 hc)
 go_ret
 exact⟨rfl,HS1.out,HB1.out,(KeepT.of_below HBA.out).trans HK1.out⟩
set_option maxHeartbeats 1000000 in
theorem small_count(HBinds:Aside0 (∀(a i:Int) (w:World),Calls Tryz.prog 97 #[.int .i64 a,.int .i64 i] w fun e w'=>e=.returned (.tuple #[.int .i64 (bindsI a i).1,.int .i64 (bindsI a i).2])∧Below w.heap.size w w'))
  (eg3:∀args w,(callFunc 93 args).run Tryz.prog w=.ok (.enter 93 args) w)
  (eg4:∀args w,(callFunc 94 args).run Tryz.prog w=.ok (.enter 94 args) w)
  (w0:World) (bm bc:Nat) (hbm:w0.heap.size≤bm):∀(N:Nat) (k:Tm) (m:Nat) (ks:List Value) (w:World),sizeT k≤N→m≤1000000→k49.K w0 k ks→CSt w0 bm bc m w →
  Calls Tryz.prog 93 #[.agg ks.toArray,.pointer (some ⟨bm,0,none⟩),.pointer (some ⟨bc,0,none⟩)] w fun e w'=>e=.returned (.bool (decide (sizeT k≤m)))∧(sizeT k≤m→CSt w0 bm bc (m-sizeT k) w')∧Below w0.heap.size w0 w'∧KeepT w w':=by
 intro N
 induction N with
 | zero=>intro k m ks w h;have:=sizeT_pos k;omega
 | succ N ih =>
 intro k m ks w hN hm hK hS
 have HIH:=ak ih
 have hpos:=sizeT_pos k
 obtain⟨A3,c3,A4,c4,A5,c5,rfl,l3,g3,l4,g4,l5,g5⟩:=k49_open hK
 have HBA:Aside0 (Below w.heap.size w (w.alloc (.cells #[.int .i64 k.f0,.int .i64 k.f1,.string k.f2,.slice A3 k.f3.length c3,.slice A4 k.f4.length c4,.slice A5 k.f5.length c5] 49))):=⟨below_alloc (Below.refl _ _) _⟩
 have HSA:=ak (hS.below HBA.out)
 have HKA:=ak (KeepT.of_below HBA.out)
 have HNB:=ak (blk_new w (.cells #[.int .i64 k.f0,.int .i64 k.f1,.string k.f2,.slice A3 k.f3.length c3,.slice A4 k.f4.length c4,.slice A5 k.f5.length c5] 49))
 have hc1:=(blk_cell HSA.out.2.1 0).trans (rfl:_=some (Value.int .i64 (m:Int)))
 have hf1:=blk_frozen HSA.out.2.1 0
 have HKK:=ak hK
 clear ih hS g3 g4 g5 l3 l4 l5 hK HBA
 by_cases h0:m=0
 ·have hd:decide ((0:Int)≤(m:Int)-1)=false:=decide_eq_false (by omega)
  have hd1:decide ((1:Int)≤(m:Int))=false:=decide_eq_false (by omega)
  have HX:=ak (HSA.out.1.setCell hbm (.int .i64 (-1)) (p:=⟨bm,0,none⟩))
  have HKX:=ak (HKA.out.set HSA.out.2.1 0 (.int .i64 (-1)))
  have HC2:=ak (blk_set HSA.out.2.1 0 (.int .i64 (-1)))
  go_enter Tryz.func93,Tryz.ntmps93
  go_wp2
  go_ret
  exact⟨by rw [decide_eq_false (by omega)];rfl,fun h=>by omega,HX.out,HKX.out⟩
 ·obtain⟨n,rfl⟩:∃n,m=n+1:=⟨m-1,by omega⟩
  have hS1:CSt w0 bm bc n ((w.alloc (.cells #[.int .i64 k.f0,.int .i64 k.f1,.string k.f2,.slice A3 k.f3.length c3,.slice A4 k.f4.length c4,.slice A5 k.f5.length c5] 49)).setCell ⟨bm,0,none⟩ (.int .i64 (n:Int))):=by
   exact⟨HSA.out.1.setCell hbm _,blk_set HSA.out.2.1 0 (.int .i64 (n:Int)),blk_far HSA.out.2.2 (p:=⟨bm,0,none⟩) (blk_ne HSA.out.2.2 HSA.out.2.1 (by decide)) _⟩
  have HKX:=ak (HKA.out.set HSA.out.2.1 0 (.int .i64 (n:Int)))
  have HC2:=ak ((KeepT.refl _).set HSA.out.2.1 0 (.int .i64 (n:Int)))
  have HNB2:=ak (HC2.out.2 _ _ HNB.out)
  have hsz:=szS_kids k
  have hes:=eachL_size (kidsOf k) n
  have hc:=te_each1 HBinds.out 94 (.pointer (some ⟨bc,0,none⟩)) szF (fun m wx=>m≤1000000∧CSt w0 bm bc m wx) (fun wx=>Below w0.heap.size w0 wx) (fun q=>sizeT q<sizeT k) w0 k _ n _ eg4 HKK.out
   (fun _ _ h=>h.2.1) (fun _ _ _ h hb=>⟨h.1,h.2.below hb⟩)
   (fun q v d s qs w1 hq _ hs hK=>(small_fn w0 bm bc eg3 s q ⟨fun ks w h1 h2=>HIH.out q s ks w (by omega) hs.1 h1 h2⟩ v d qs w1 hK hs.2).mono (fun e w' ⟨he,hs2,hb,hk⟩=>⟨he,fun h=>⟨by have:=hs.1;show s-sizeT q≤1000000;omega,hs2 (of_decide_eq_true h)⟩,fun _=>hb,hk⟩))
   (fun _ hq=>sizeT_kid hq) (fun _ hb _ hq=>sizeT_part hb hq) ⟨by omega,hS1⟩
  rw [hes.1] at hc
  have HES:=ak hes
  have hmf:∀(fn:Fn) (first cap:Array Value) (w:World),(Instr.makeFunc fn first cap).run Tryz.prog w=.ok (.func fn first cap) w:=fun _ _ _ _=>rfl
  have hd1:decide ((0:Int)≤((n+1:Nat):Int)-1)=true:=decide_eq_true (by omega)
  have hd:decide ((1:Int)≤((n+1:Nat):Int))=true:=decide_eq_true (by omega)
  have hq0:=(blk_cell HNB2.out 0).trans (rfl:_=some (Value.int .i64 k.f0))
  have hq1:=(blk_cell HNB2.out 1).trans (rfl:_=some (Value.int .i64 k.f1))
  have hq2:=(blk_cell HNB2.out 2).trans (rfl:_=some (Value.string k.f2))
  have hq3:=(blk_cell HNB2.out 3).trans (rfl:_=some (Value.slice A3 k.f3.length c3))
  have hq4:=(blk_cell HNB2.out 4).trans (rfl:_=some (Value.slice A4 k.f4.length c4))
  have hq5:=(blk_cell HNB2.out 5).trans (rfl:_=some (Value.slice A5 k.f5.length c5))
  have hc2:=(blk_cell hS1.2.1 0).trans (rfl:_=some (Value.int .i64 (n:Int)))
  clear hes h0 hS1
  go_enter Tryz.func93,Tryz.ntmps93
  go_wp2_with (go_at_call 78;refine hc.mono ?_;rintro e w1 ⟨rfl,hs1,hn1,hk1⟩;have HS1:=ak hs1;have HN1:=ak hn1;have HK1:=ak hk1;clear hs1 hn1 hc hk1)
  go_ret
  have hq:decide (sizeT k≤n+1)=decide (szS (kidsOf k)≤n):=by
   rw [Bool.eq_iff_iff,decide_eq_true_eq,decide_eq_true_eq]
   omega
  refine⟨by rw [hq];rfl,fun h=>?_, ?_,(HKX.out.trans HK1.out)⟩
  ·have h2:=HS1.out (decide_eq_true (by omega))
   have h3:=HES.out.2 (by rw [HES.out.1];exact decide_eq_true (by omega))
   rw [h3,show n-szS (kidsOf k)=n+1-sizeT k by omega] at h2
   exact h2.2
  ·cases hx:decide (szS (kidsOf k)≤n)
   ·exact HN1.out hx
   ·exact(HS1.out hx).2.1
set_option maxHeartbeats 1000000 in
theorem te_small(HBinds:Aside0 (∀(a i:Int) (w:World),Calls Tryz.prog 97 #[.int .i64 a,.int .i64 i] w fun e w'=>e=.returned (.tuple #[.int .i64 (bindsI a i).1,.int .i64 (bindsI a i).2])∧Below w.heap.size w w'))
  (eg3:∀args w,(callFunc 93 args).run Tryz.prog w=.ok (.enter 93 args) w)
  (eg4:∀args w,(callFunc 94 args).run Tryz.prog w=.ok (.enter 94 args) w)
  (m:Nat) (hm:m≤1000000) (k:Tm) (ks:List Value) (w:World) (hK:k49.K w k ks) :
  Calls Tryz.prog 76 #[.agg ks.toArray,.int .i64 (m:Int)] w fun e w'=>e=.returned (.bool (decide (sizeT k≤m)))∧Below w.heap.size w w':=by
 obtain⟨A3,c3,A4,c4,A5,c5,rfl,l3,g3,l4,g4,l5,g5⟩:=k49_open hK
 have HK:=ak hK
 clear g3 g4 g5 l3 l4 l5 hK
 have hmf:∀(fn:Fn) (first cap:Array Value) (w:World),(Instr.makeFunc fn first cap).run Tryz.prog w=.ok (.func fn first cap) w:=fun _ _ _ _=>rfl
 have hb3:Below w.heap.size w (((w.alloc (.cells #[.int .i64 k.f0,.int .i64 k.f1,.string k.f2,.slice A3 k.f3.length c3,.slice A4 k.f4.length c4,.slice A5 k.f5.length c5] 49)).alloc (.cells #[.int .i64 (m:Int)] 3)).alloc (.cells #[.func (.func 93) #[] #[.pointer (some ⟨w.heap.size+1,0,none⟩),.pointer (some ⟨w.heap.size+1+1,0,none⟩)]] 140)):=(((Below.refl _ _).alloc (Nat.le_refl _) _).alloc (by simp) _).alloc (by simp;omega) _
 have hbm:(((w.alloc (.cells #[.int .i64 k.f0,.int .i64 k.f1,.string k.f2,.slice A3 k.f3.length c3,.slice A4 k.f4.length c4,.slice A5 k.f5.length c5] 49)).alloc (.cells #[.int .i64 (m:Int)] 3)).alloc (.cells #[.func (.func 93) #[] #[.pointer (some ⟨w.heap.size+1,0,none⟩),.pointer (some ⟨w.heap.size+1+1,0,none⟩)]] 140)).heap[w.heap.size+1]? = some (.cells #[.int .i64 (m:Int)] 3 (0,0)):=by
  have:=blk_new (w.alloc (.cells #[.int .i64 k.f0,.int .i64 k.f1,.string k.f2,.slice A3 k.f3.length c3,.slice A4 k.f4.length c4,.slice A5 k.f5.length c5] 49)) (.cells #[.int .i64 (m:Int)] 3)
  rw [World.size_alloc] at this
  exact blk_alloc this _
 have hbc:(((w.alloc (.cells #[.int .i64 k.f0,.int .i64 k.f1,.string k.f2,.slice A3 k.f3.length c3,.slice A4 k.f4.length c4,.slice A5 k.f5.length c5] 49)).alloc (.cells #[.int .i64 (m:Int)] 3)).alloc (.cells #[.func (.func 93) #[] #[.pointer (some ⟨w.heap.size+1,0,none⟩),.pointer (some ⟨w.heap.size+1+1,0,none⟩)]] 140)).heap[w.heap.size+1+1]? = some (.cells #[.func (.func 93) #[] #[.pointer (some ⟨w.heap.size+1,0,none⟩),.pointer (some ⟨w.heap.size+1+1,0,none⟩)]] 140 (0,0)):=by
  have:=blk_new ((w.alloc (.cells #[.int .i64 k.f0,.int .i64 k.f1,.string k.f2,.slice A3 k.f3.length c3,.slice A4 k.f4.length c4,.slice A5 k.f5.length c5] 49)).alloc (.cells #[.int .i64 (m:Int)] 3)) (.cells #[.func (.func 93) #[] #[.pointer (some ⟨w.heap.size+1,0,none⟩),.pointer (some ⟨w.heap.size+1+1,0,none⟩)]] 140)
  rw [World.size_alloc,World.size_alloc] at this
  exact this
 have hc:=small_count HBinds eg3 eg4 w (w.heap.size+1) (w.heap.size+1+1) (by omega) (sizeT k) k m _ _ (Nat.le_refl _) hm HK.out ⟨hb3,hbm,hbc⟩
 clear hb3 hbm hbc
 go_enter Tryz.func76,Tryz.ntmps76
 go_wp2_with (go_at_fn 93;refine hc.mono ?_;rintro e w1 ⟨rfl,_,hb1,_⟩;have HB1:=ak hb1;clear hb1 hc)
 go_ret
 exact⟨rfl,HB1.out⟩
end Go.Proofs.YtahdjajdaggmjaaGreatDoor.XPd
end
