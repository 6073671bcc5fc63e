-- Written for this claim by a program of ours (wip/xp.py),out of the translation and of hand-written contracts.
import Derived.Test.YtahdjajdaggmjaaGreatDoorXPdx15
import Derived.Deep.Slices
import Derived.Lib.SmallJoins
import Derived.ChangeSame
import Derived.ChangeOld
import Derived.OpenShut
set_option maxRecDepth 100000
section
namespace Go.Proofs.YtahdjajdaggmjaaGreatDoor.XPd
noncomputable section
open Go.RowKit Go.Proofs.YtahdjajdaggmjaaGreatDoorW.PrintWords Go.Proofs.YtahdjajdaggmjaaGreatDoorW.PrintLast Go.Proofs.YtahdjajdaggmjaaGreatDoorW.PrintMore
attribute [local go_sem] max2_int min2_int max_two min_two max_three min_three max_four min_four
set_option linter.unusedVariables false
set_option linter.unusedSimpArgs false
def w36entrie.l0:Nat→List (S51)→List (S59)→Int→Int→Option ((List (S51)))
  | 0,_,_,_,_=>none
  | k+1,x3,x6,x7,x8=>if x8<x7 then(if 0≤x8 then(if x8<(x6.length:Int) then(if x3.length<628292358729 then(w36entrie.l0 k (x3++[(⟨(rd_T59 x6 x8).f0,(⟨(rd_T59 x6 x8).f1.f0,(rd_T59 x6 x8).f1.f1,(rd_T59 x6 x8).f1.f2,(rd_T59 x6 x8).f1.f3,(rd_T59 x6 x8).f1.f4,(rd_T59 x6 x8).f1.f5⟩:S49),(⟨(rd_T59 x6 x8).f2.f0,(rd_T59 x6 x8).f2.f1,(rd_T59 x6 x8).f2.f2,(rd_T59 x6 x8).f2.f3,(rd_T59 x6 x8).f2.f4,(rd_T59 x6 x8).f2.f5⟩:S49)⟩:S51)]) x6 x7 (wrap64 (x8+1))) else(none)) else(none)) else(none)) else(some x3)
def w36entrie.f(k:Nat)(l0:List (S59)):Option ((List (S51))):=w36entrie.l0 k ([]:List (S51)) l0 (l0.length:Int) 0
set_option maxHeartbeats 8000000 in
theorem w36entrie.calls(k:Nat)(P0_:Nat→Prop)(A0:Option Addr)(c0:Nat)(l0:List (S59))(r:List (S51))(w:World)(hs0:Kd.V k59 59 w w.heap.size (fun k_=>P0_ k_) (.slice A0 l0.length c0) l0)(h:w36entrie.f k l0=some r) :
  Calls Tryz.prog 16 #[.slice A0 l0.length c0] w fun e w'=>∃v0_:Value,e=.returned (v0_)∧Kd.N k51 51 w' w.heap.size (fun k_=>(P0_ k_∨w.heap.size≤k_)) v0_ r∧Below w.heap.size w w':=by
 have hu59:=Tryz.underlying59
 have HO0:=ak (show Kd.V k59 59 w w.heap.size (fun k_=>(P0_ k_∨w.heap.size≤k_)) (.slice A0 l0.length c0) l0 from Kd.V_mono hs0 (fun k_ hk=>.inl hk))
 have HB:=ak (Below.refl w.heap.size w)
 have H:(w36entrie.l0 k ([]:List (S51)) l0 (l0.length:Int) 0)=some r:=h
 clear h
 have H':=ak H
 clear H
 go_enter Tryz.func16,Tryz.ntmps16
 go_wp2
 go_loopg [3,8] k (fun kq v3 v8 w'=>∃(x3_1:List (S51)) (x8_1:Int),v8=.int .i64 x8_1∧Aside0 (w36entrie.l0 kq x3_1 l0 (l0.length:Int) x8_1=some r)∧Aside0 (kq≤k)∧Aside0 (Kd.N k51 51 w' w.heap.size (fun k_=>(P0_ k_∨w.heap.size≤k_)) v3 x3_1)∧Aside0 (Kd.V k59 59 w' w.heap.size (fun k_=>(P0_ k_∨w.heap.size≤k_)∧some k_≠(v3:Value).ownBlock) (.slice A0 l0.length c0) l0)∧Aside0 (Below w.heap.size w w'))
 case atStart=>exact⟨(([]:List (S51))),(0),tS,H',⟨Nat.le_refl _⟩,⟨by first | exact Kd.R_nil _ _ _ _ _ | exact Kd.N_nil _ _ _ _ _ | exact Kd.V_nil _ _ _ _ _ | exact Kd.Q_nil _ _ _ _ _ | exact Kd.S_nil _ _ _ _ _⟩,⟨by (with_reducible repeat (first | apply Kd.V_alloc | apply Kd.V_drewN | apply Kd.V_drew));exact Kd.V_mono HO0.out (fun _ hk=>⟨hk,(by simp [Value.ownBlock])⟩)⟩,⟨tB⟩⟩
 case round =>
  clear H'
  obtain⟨x3_1,x8_1,rfl,HA,HK1,HO_3,HO_6,HB⟩:=hrel
  cases gk with
  | zero=>exact absurd HA.out (by simp [w36entrie.l0])
  | succ k1 =>
   have H:=HA.out
   clear HA
   simp only [w36entrie.l0] at H
   replace H:=iD H
   rcases H with⟨c2b0,H⟩ | ⟨c2b0,H⟩
   ·replace H:=niD H
    obtain⟨c3b0,H⟩:=H
    replace H:=niD H
    obtain⟨c4b0,H⟩:=H
    replace H:=niC H
    obtain⟨c5,H⟩:=H
    have LMc5:=ak c5
    clear c5
    obtain⟨y268,hy268⟩:∃y_:List (S51),y_=(x3_1++[(⟨(rd_T59 l0 x8_1).f0,(⟨(rd_T59 l0 x8_1).f1.f0,(rd_T59 l0 x8_1).f1.f1,(rd_T59 l0 x8_1).f1.f2,(rd_T59 l0 x8_1).f1.f3,(rd_T59 l0 x8_1).f1.f4,(rd_T59 l0 x8_1).f1.f5⟩:S49),(⟨(rd_T59 l0 x8_1).f2.f0,(rd_T59 l0 x8_1).f2.f1,(rd_T59 l0 x8_1).f2.f2,(rd_T59 l0 x8_1).f2.f3,(rd_T59 l0 x8_1).f2.f4,(rd_T59 l0 x8_1).f2.f5⟩:S49)⟩:S51)]):=⟨_,rfl⟩
    replace H:(w36entrie.l0 k1 y268 l0 (l0.length:Int) (wrap64 (x8_1+1)))=some r:=tY hy268 H
    have Ny268:=ak hy268
    clear hy268
    have H':=ak H
    clear H
    have p266:0≤(x8_1:Int):=tA
    have q266:x8_1<(l0.length:Int):=tA
    obtain⟨ad266,A266_4,c266_4,A266_5,c266_5,A266_6,c266_6,A266_10,c266_10,A266_11,c266_11,A266_12,c266_12,e266,hx266_0,hx266_1,hx266_2,hx266_3,hx266_4,hx266_5,hx266_6,hx266_7,hx266_8,hx266_9,hx266_10,hx266_11,hx266_12,hl266_4,hi266_4,hl266_5,hi266_5,hl266_6,hi266_6,hl266_10,hi266_10,hl266_11,hi266_11,hl266_12,hi266_12⟩:=at_T59 (Kd.V_reads' HO_6.out).2.2 x8_1 p266 q266
    cases e266
    obtain⟨ce266,hce266,hMe266,hcc266⟩:=Kd.V_get HO_6.out z59 x8_1 p266 (by first | exact q266 | exact tA | (have e_:=(Kd.V_reads' HO_6.out).1;omega))
    obtain⟨ua266_4,uc266_4,ua266_5,uc266_5,ua266_6,uc266_6,ua266_10,uc266_10,ua266_11,uc266_11,ua266_12,uc266_12,rfl,ul266_4,ge266_4,ul266_5,ge266_5,ul266_6,ge266_6,ul266_10,ge266_10,ul266_11,ge266_11,ul266_12,ge266_12⟩:=k59_openF hMe266
    have hv266_4:=hcc266 4 _ rfl
    rw [add_field _ _ 4 (by omega)] at hv266_4
    replace hv266_4:=Option.some.inj (hv266_4.symm.trans hx266_4)
    injection hv266_4 with hva_ hvn_ hvc_
    rw [hva_] at ge266_4
    rw [hvc_] at ul266_4
    have HL266_4:=ak (show Kd.V k113 113 _ w.heap.size _ _ ((rd_T59 l0 x8_1).f1.f3) from Kd.V_mk ul266_4 ge266_4)
    clear hva_ hvn_ hvc_ ge266_4 ul266_4
    have hv266_5:=hcc266 5 _ rfl
    rw [add_field _ _ 5 (by omega)] at hv266_5
    replace hv266_5:=Option.some.inj (hv266_5.symm.trans hx266_5)
    injection hv266_5 with hva_ hvn_ hvc_
    rw [hva_] at ge266_5
    rw [hvc_] at ul266_5
    have HL266_5:=ak (show Kd.V k49 49 _ w.heap.size _ _ ((rd_T59 l0 x8_1).f1.f4) from Kd.V_mk ul266_5 ge266_5)
    clear hva_ hvn_ hvc_ ge266_5 ul266_5
    have hv266_6:=hcc266 6 _ rfl
    rw [add_field _ _ 6 (by omega)] at hv266_6
    replace hv266_6:=Option.some.inj (hv266_6.symm.trans hx266_6)
    injection hv266_6 with hva_ hvn_ hvc_
    rw [hva_] at ge266_6
    rw [hvc_] at ul266_6
    have HL266_6:=ak (show Kd.V k90 90 _ w.heap.size _ _ ((rd_T59 l0 x8_1).f1.f5) from Kd.V_mk ul266_6 ge266_6)
    clear hva_ hvn_ hvc_ ge266_6 ul266_6
    have hv266_10:=hcc266 10 _ rfl
    rw [add_field _ _ 10 (by omega)] at hv266_10
    replace hv266_10:=Option.some.inj (hv266_10.symm.trans hx266_10)
    injection hv266_10 with hva_ hvn_ hvc_
    rw [hva_] at ge266_10
    rw [hvc_] at ul266_10
    have HL266_10:=ak (show Kd.V k113 113 _ w.heap.size _ _ ((rd_T59 l0 x8_1).f2.f3) from Kd.V_mk ul266_10 ge266_10)
    clear hva_ hvn_ hvc_ ge266_10 ul266_10
    have hv266_11:=hcc266 11 _ rfl
    rw [add_field _ _ 11 (by omega)] at hv266_11
    replace hv266_11:=Option.some.inj (hv266_11.symm.trans hx266_11)
    injection hv266_11 with hva_ hvn_ hvc_
    rw [hva_] at ge266_11
    rw [hvc_] at ul266_11
    have HL266_11:=ak (show Kd.V k49 49 _ w.heap.size _ _ ((rd_T59 l0 x8_1).f2.f4) from Kd.V_mk ul266_11 ge266_11)
    clear hva_ hvn_ hvc_ ge266_11 ul266_11
    have hv266_12:=hcc266 12 _ rfl
    rw [add_field _ _ 12 (by omega)] at hv266_12
    replace hv266_12:=Option.some.inj (hv266_12.symm.trans hx266_12)
    injection hv266_12 with hva_ hvn_ hvc_
    rw [hva_] at ge266_12
    rw [hvc_] at ul266_12
    have HL266_12:=ak (show Kd.V k90 90 _ w.heap.size _ _ ((rd_T59 l0 x8_1).f2.f5) from Kd.V_mk ul266_12 ge266_12)
    clear hva_ hvn_ hvc_ ge266_12 ul266_12
    clear hcc266 hce266
    have HR266_4:=ak hi266_4
    have HC266_4:=ak hl266_4
    clear hi266_4 hl266_4
    have HR266_5:=ak hi266_5
    have HC266_5:=ak hl266_5
    clear hi266_5 hl266_5
    have HR266_6:=ak hi266_6
    have HC266_6:=ak hl266_6
    clear hi266_6 hl266_6
    have HR266_10:=ak hi266_10
    have HC266_10:=ak hl266_10
    clear hi266_10 hl266_10
    have HR266_11:=ak hi266_11
    have HC266_11:=ak hl266_11
    clear hi266_11 hl266_11
    have HR266_12:=ak hi266_12
    have HC266_12:=ak hl266_12
    clear hi266_12 hl266_12
    replace p266:=eq_true p266
    replace q266:=eq_true q266
    go_wp2_with (first | ((with_reducible refine gd_ 5 rfl ?_);refine boxE 5 #[.string (⟨#[]⟩:ByteArray),.int .i64 0,.int .i64 0,.string (⟨#[]⟩:ByteArray),.slice none 0 0,.slice none 0 0,.slice none 0 0,.int .i64 0,.int .i64 0,.string (⟨#[]⟩:ByteArray),.slice none 0 0,.slice none 0 0,.slice none 0 0] 59 ?_;intro gb267 hg w6 hbox hb;replace HO_3:=ak (Kd.N_below (Kd.N_elderB (tN HO_3) gb267 (Nat.le_of_eq hg.symm)) hb);replace HO_6:=ak (Kd.V_below (Kd.V_elderB (tV HO_6) gb267 (Nat.le_of_eq hg.symm)) hb);replace HL266_4:=ak (Kd.V_below (Kd.V_elderB (tV HL266_4) gb267 (Nat.le_of_eq hg.symm)) hb);replace HL266_5:=ak (Kd.V_below (Kd.V_elderB (tV HL266_5) gb267 (Nat.le_of_eq hg.symm)) hb);replace HL266_6:=ak (Kd.V_below (Kd.V_elderB (tV HL266_6) gb267 (Nat.le_of_eq hg.symm)) hb);replace HL266_10:=ak (Kd.V_below (Kd.V_elderB (tV HL266_10) gb267 (Nat.le_of_eq hg.symm)) hb);replace HL266_11:=ak (Kd.V_below (Kd.V_elderB (tV HL266_11) gb267 (Nat.le_of_eq hg.symm)) hb);replace HL266_12:=ak (Kd.V_below (Kd.V_elderB (tV HL266_12) gb267 (Nat.le_of_eq hg.symm)) hb);replace HR266_4:=ak (Kd.C_below (tC HR266_4) hb);replace HR266_5:=ak (Kd.C_below (tC HR266_5) hb);replace HR266_6:=ak (Kd.C_below (tC HR266_6) hb);replace HR266_10:=ak (Kd.C_below (tC HR266_10) hb);replace HR266_11:=ak (Kd.C_below (tC HR266_11) hb);replace HR266_12:=ak (Kd.C_below (tC HR266_12) hb);have BK267:=ak (hbox);have GW267:=ak (tG:w.heap.size≤gb267);have GE267:=ak (tG:w.heap.size≤gb267);replace HB:=ak (below_step tB hb);clear hb hbox hg;have hcz7:=cz13 BK267.out) | ((with_reducible refine gate_store (t:=59) (p:=5) rfl ?_);refine store_event (t:=59) (p:=5) (v:=?vo_w8) (w1:=(((((((((((((w6.setCell ⟨gb267,0,none⟩ (.string ((rd_T59 l0 x8_1).f0))).setCell ⟨gb267,1,none⟩ (.int .i64 ((rd_T59 l0 x8_1).f1.f0))).setCell ⟨gb267,2,none⟩ (.int .i64 ((rd_T59 l0 x8_1).f1.f1))).setCell ⟨gb267,3,none⟩ (.string ((rd_T59 l0 x8_1).f1.f2))).setCell ⟨gb267,4,none⟩ (.slice A266_4 ((rd_T59 l0 x8_1).f1.f3).length c266_4)).setCell ⟨gb267,5,none⟩ (.slice A266_5 ((rd_T59 l0 x8_1).f1.f4).length c266_5)).setCell ⟨gb267,6,none⟩ (.slice A266_6 ((rd_T59 l0 x8_1).f1.f5).length c266_6)).setCell ⟨gb267,7,none⟩ (.int .i64 ((rd_T59 l0 x8_1).f2.f0))).setCell ⟨gb267,8,none⟩ (.int .i64 ((rd_T59 l0 x8_1).f2.f1))).setCell ⟨gb267,9,none⟩ (.string ((rd_T59 l0 x8_1).f2.f2))).setCell ⟨gb267,10,none⟩ (.slice A266_10 ((rd_T59 l0 x8_1).f2.f3).length c266_10)).setCell ⟨gb267,11,none⟩ (.slice A266_11 ((rd_T59 l0 x8_1).f2.f4).length c266_11)).setCell ⟨gb267,12,none⟩ (.slice A266_12 ((rd_T59 l0 x8_1).f2.f5).length c266_12))) ?hg ?ho ?hn ?hr ?_;(case ho=>rfl);(case hg=>rfl);(case hn=>rfl);(case hr=>first | (go_simp;done) | (go_simp;rfl));intro w8 hw;have n0_:Aside0 (Kd.N k51 51 w8 w.heap.size (fun k_=>(P0_ k_∨w.heap.size≤k_)∧k_≠gb267) u3 x3_1):=⟨(by rw [hw];exact(by (with_reducible repeat (first | apply Kd.N_alloc | apply Kd.N_drewN | apply Kd.N_drew));exact Kd.N_mono (tNf (Kd.N_mono HO_3.out (fun k_ hk=>(⟨hk,hk.2⟩:_∧k_≠gb267)))) (fun _ hk=>⟨hk.1.1,hk.1.2⟩)))⟩;have n1_:Aside0 (Kd.V k59 59 w8 w.heap.size (fun k_=>(P0_ k_∨w.heap.size≤k_)∧some k_≠(u3:Value).ownBlock∧k_≠gb267) (.slice (some ad266) l0.length c0) l0):=⟨(by rw [hw];exact(by (with_reducible repeat (first | apply Kd.V_alloc | apply Kd.V_drewN | apply Kd.V_drew));exact Kd.V_mono (tVf (Kd.V_mono HO_6.out (fun k_ hk=>(⟨hk,hk.2⟩:_∧k_≠gb267)))) (fun _ hk=>⟨hk.1.1.1,⟨hk.1.1.2,hk.1.2⟩⟩)))⟩;have n2_:Aside0 (Kd.V k113 113 w8 w.heap.size (fun k_=>(P0_ k_∨w.heap.size≤k_)∧some k_≠(u3:Value).ownBlock∧k_≠gb267) (.slice A266_4 ((rd_T59 l0 x8_1).f1.f3).length c266_4) ((rd_T59 l0 x8_1).f1.f3)):=⟨(by rw [hw];exact(by (with_reducible repeat (first | apply Kd.V_alloc | apply Kd.V_drewN | apply Kd.V_drew));exact Kd.V_mono (tVf (Kd.V_mono HL266_4.out (fun k_ hk=>(⟨hk,hk.2⟩:_∧k_≠gb267)))) (fun _ hk=>⟨hk.1.1.1,⟨hk.1.1.2,hk.1.2⟩⟩)))⟩;have n3_:Aside0 (Kd.V k49 49 w8 w.heap.size (fun k_=>(P0_ k_∨w.heap.size≤k_)∧some k_≠(u3:Value).ownBlock∧k_≠gb267) (.slice A266_5 ((rd_T59 l0 x8_1).f1.f4).length c266_5) ((rd_T59 l0 x8_1).f1.f4)):=⟨(by rw [hw];exact(by (with_reducible repeat (first | apply Kd.V_alloc | apply Kd.V_drewN | apply Kd.V_drew));exact Kd.V_mono (tVf (Kd.V_mono HL266_5.out (fun k_ hk=>(⟨hk,hk.2⟩:_∧k_≠gb267)))) (fun _ hk=>⟨hk.1.1.1,⟨hk.1.1.2,hk.1.2⟩⟩)))⟩;have n4_:Aside0 (Kd.V k90 90 w8 w.heap.size (fun k_=>(P0_ k_∨w.heap.size≤k_)∧some k_≠(u3:Value).ownBlock∧k_≠gb267) (.slice A266_6 ((rd_T59 l0 x8_1).f1.f5).length c266_6) ((rd_T59 l0 x8_1).f1.f5)):=⟨(by rw [hw];exact(by (with_reducible repeat (first | apply Kd.V_alloc | apply Kd.V_drewN | apply Kd.V_drew));exact Kd.V_mono (tVf (Kd.V_mono HL266_6.out (fun k_ hk=>(⟨hk,hk.2⟩:_∧k_≠gb267)))) (fun _ hk=>⟨hk.1.1.1,⟨hk.1.1.2,hk.1.2⟩⟩)))⟩;have n5_:Aside0 (Kd.V k113 113 w8 w.heap.size (fun k_=>(P0_ k_∨w.heap.size≤k_)∧some k_≠(u3:Value).ownBlock∧k_≠gb267) (.slice A266_10 ((rd_T59 l0 x8_1).f2.f3).length c266_10) ((rd_T59 l0 x8_1).f2.f3)):=⟨(by rw [hw];exact(by (with_reducible repeat (first | apply Kd.V_alloc | apply Kd.V_drewN | apply Kd.V_drew));exact Kd.V_mono (tVf (Kd.V_mono HL266_10.out (fun k_ hk=>(⟨hk,hk.2⟩:_∧k_≠gb267)))) (fun _ hk=>⟨hk.1.1.1,⟨hk.1.1.2,hk.1.2⟩⟩)))⟩;have n6_:Aside0 (Kd.V k49 49 w8 w.heap.size (fun k_=>(P0_ k_∨w.heap.size≤k_)∧some k_≠(u3:Value).ownBlock∧k_≠gb267) (.slice A266_11 ((rd_T59 l0 x8_1).f2.f4).length c266_11) ((rd_T59 l0 x8_1).f2.f4)):=⟨(by rw [hw];exact(by (with_reducible repeat (first | apply Kd.V_alloc | apply Kd.V_drewN | apply Kd.V_drew));exact Kd.V_mono (tVf (Kd.V_mono HL266_11.out (fun k_ hk=>(⟨hk,hk.2⟩:_∧k_≠gb267)))) (fun _ hk=>⟨hk.1.1.1,⟨hk.1.1.2,hk.1.2⟩⟩)))⟩;have n7_:Aside0 (Kd.V k90 90 w8 w.heap.size (fun k_=>(P0_ k_∨w.heap.size≤k_)∧some k_≠(u3:Value).ownBlock∧k_≠gb267) (.slice A266_12 ((rd_T59 l0 x8_1).f2.f5).length c266_12) ((rd_T59 l0 x8_1).f2.f5)):=⟨(by rw [hw];exact(by (with_reducible repeat (first | apply Kd.V_alloc | apply Kd.V_drewN | apply Kd.V_drew));exact Kd.V_mono (tVf (Kd.V_mono HL266_12.out (fun k_ hk=>(⟨hk,hk.2⟩:_∧k_≠gb267)))) (fun _ hk=>⟨hk.1.1.1,⟨hk.1.1.2,hk.1.2⟩⟩)))⟩;have n8_:Aside0 (w8.heap[gb267]? = some (.cells #[.string ((rd_T59 l0 x8_1).f0),.int .i64 ((rd_T59 l0 x8_1).f1.f0),.int .i64 ((rd_T59 l0 x8_1).f1.f1),.string ((rd_T59 l0 x8_1).f1.f2),.slice A266_4 ((rd_T59 l0 x8_1).f1.f3).length c266_4,.slice A266_5 ((rd_T59 l0 x8_1).f1.f4).length c266_5,.slice A266_6 ((rd_T59 l0 x8_1).f1.f5).length c266_6,.int .i64 ((rd_T59 l0 x8_1).f2.f0),.int .i64 ((rd_T59 l0 x8_1).f2.f1),.string ((rd_T59 l0 x8_1).f2.f2),.slice A266_10 ((rd_T59 l0 x8_1).f2.f3).length c266_10,.slice A266_11 ((rd_T59 l0 x8_1).f2.f4).length c266_11,.slice A266_12 ((rd_T59 l0 x8_1).f2.f5).length c266_12] 59 (0,0))):=⟨(by rw [hw];exact(tPt BK267))⟩;have n9_:Aside0 (Below w.heap.size w w8):=⟨(by rw [hw];exact(tBs GE267))⟩;clear hw HO_3 HO_6 HL266_4 HL266_5 HL266_6 HL266_10 HL266_11 HL266_12 BK267 HB;have HO_3:=n0_;have HO_6:=n1_;have HL266_4:=n2_;have HL266_5:=n3_;have HL266_6:=n4_;have HL266_10:=n5_;have HL266_11:=n6_;have HL266_12:=n7_;have BK267:=n8_;have HB:=n9_;clear n0_ n1_ n2_ n3_ n4_ n5_ n6_ n7_ n8_ n9_;have hcz9:=cz13 BK267.out) | ((with_reducible refine gate_builtin (b:=.append) (xs:=#[.tmp 12,.tmp 14]) rfl ?_);at_builtin;refine Kd.N_append k51 (w0:=w) w.heap.size rfl (.tmp 12) (.tmp 14) 22 51 (.agg #[(.string ⟨#[]⟩),(.int .i64 0),(.int .i64 0),(.string ⟨#[]⟩),(.slice none 0 0),(.slice none 0 0),(.slice none 0 0),(.int .i64 0),(.int .i64 0),(.string ⟨#[]⟩),(.slice none 0 0),(.slice none 0 0),(.slice none 0 0)]) 224 rfl Tryz.underlying22 info51 rfl (by decide) (by omega) u3 x3_1 (⟨(rd_T59 l0 x8_1).f0,(⟨(rd_T59 l0 x8_1).f1.f0,(rd_T59 l0 x8_1).f1.f1,(rd_T59 l0 x8_1).f1.f2,(rd_T59 l0 x8_1).f1.f3,(rd_T59 l0 x8_1).f1.f4,(rd_T59 l0 x8_1).f1.f5⟩:S49),(⟨(rd_T59 l0 x8_1).f2.f0,(rd_T59 l0 x8_1).f2.f1,(rd_T59 l0 x8_1).f2.f2,(rd_T59 l0 x8_1).f2.f3,(rd_T59 l0 x8_1).f2.f4,(rd_T59 l0 x8_1).f2.f5⟩:S49)⟩:S51) [.string ((rd_T59 l0 x8_1).f0),.int .i64 ((rd_T59 l0 x8_1).f1.f0),.int .i64 ((rd_T59 l0 x8_1).f1.f1),.string ((rd_T59 l0 x8_1).f1.f2),.slice A266_4 ((rd_T59 l0 x8_1).f1.f3).length c266_4,.slice A266_5 ((rd_T59 l0 x8_1).f1.f4).length c266_5,.slice A266_6 ((rd_T59 l0 x8_1).f1.f5).length c266_6,.int .i64 ((rd_T59 l0 x8_1).f2.f0),.int .i64 ((rd_T59 l0 x8_1).f2.f1),.string ((rd_T59 l0 x8_1).f2.f2),.slice A266_10 ((rd_T59 l0 x8_1).f2.f3).length c266_10,.slice A266_11 ((rd_T59 l0 x8_1).f2.f4).length c266_11,.slice A266_12 ((rd_T59 l0 x8_1).f2.f5).length c266_12] (fun k_=>(P0_ k_∨w.heap.size≤k_)∧k_≠gb267) (fun k_=>((fun k_=>(P0_ k_∨w.heap.size≤k_)∧k_≠gb267)) k_∧some k_≠(u3:Value).ownBlock) rfl rfl ?aP (fun _ hk=>hk) ?aF ?aO ?aB ?aS ?aL ?_;(case aP=>exact(k51_mkF _ _ (⟨(rd_T59 l0 x8_1).f0,(⟨(rd_T59 l0 x8_1).f1.f0,(rd_T59 l0 x8_1).f1.f1,(rd_T59 l0 x8_1).f1.f2,(rd_T59 l0 x8_1).f1.f3,(rd_T59 l0 x8_1).f1.f4,(rd_T59 l0 x8_1).f1.f5⟩:S49),(⟨(rd_T59 l0 x8_1).f2.f0,(rd_T59 l0 x8_1).f2.f1,(rd_T59 l0 x8_1).f2.f2,(rd_T59 l0 x8_1).f2.f3,(rd_T59 l0 x8_1).f2.f4,(rd_T59 l0 x8_1).f2.f5⟩:S49)⟩:S51) (Kd.V_reads' (Kd.V_mono (ok':=(fun k_=>((fun k_=>(P0_ k_∨w.heap.size≤k_)∧k_≠gb267)) k_∧some k_≠(u3:Value).ownBlock)) (HL266_4.out) (fun k_ hk=>⟨⟨hk.1,hk.2.2⟩,hk.2.1⟩))).2.1 (Kd.V_F (Kd.V_mono (ok':=(fun k_=>((fun k_=>(P0_ k_∨w.heap.size≤k_)∧k_≠gb267)) k_∧some k_≠(u3:Value).ownBlock)) (HL266_4.out) (fun k_ hk=>⟨⟨hk.1,hk.2.2⟩,hk.2.1⟩))) (Kd.V_reads' (Kd.V_mono (ok':=(fun k_=>((fun k_=>(P0_ k_∨w.heap.size≤k_)∧k_≠gb267)) k_∧some k_≠(u3:Value).ownBlock)) (HL266_5.out) (fun k_ hk=>⟨⟨hk.1,hk.2.2⟩,hk.2.1⟩))).2.1 (Kd.V_F (Kd.V_mono (ok':=(fun k_=>((fun k_=>(P0_ k_∨w.heap.size≤k_)∧k_≠gb267)) k_∧some k_≠(u3:Value).ownBlock)) (HL266_5.out) (fun k_ hk=>⟨⟨hk.1,hk.2.2⟩,hk.2.1⟩))) (Kd.V_reads' (Kd.V_mono (ok':=(fun k_=>((fun k_=>(P0_ k_∨w.heap.size≤k_)∧k_≠gb267)) k_∧some k_≠(u3:Value).ownBlock)) (HL266_6.out) (fun k_ hk=>⟨⟨hk.1,hk.2.2⟩,hk.2.1⟩))).2.1 (Kd.V_F (Kd.V_mono (ok':=(fun k_=>((fun k_=>(P0_ k_∨w.heap.size≤k_)∧k_≠gb267)) k_∧some k_≠(u3:Value).ownBlock)) (HL266_6.out) (fun k_ hk=>⟨⟨hk.1,hk.2.2⟩,hk.2.1⟩))) (Kd.V_reads' (Kd.V_mono (ok':=(fun k_=>((fun k_=>(P0_ k_∨w.heap.size≤k_)∧k_≠gb267)) k_∧some k_≠(u3:Value).ownBlock)) (HL266_10.out) (fun k_ hk=>⟨⟨hk.1,hk.2.2⟩,hk.2.1⟩))).2.1 (Kd.V_F (Kd.V_mono (ok':=(fun k_=>((fun k_=>(P0_ k_∨w.heap.size≤k_)∧k_≠gb267)) k_∧some k_≠(u3:Value).ownBlock)) (HL266_10.out) (fun k_ hk=>⟨⟨hk.1,hk.2.2⟩,hk.2.1⟩))) (Kd.V_reads' (Kd.V_mono (ok':=(fun k_=>((fun k_=>(P0_ k_∨w.heap.size≤k_)∧k_≠gb267)) k_∧some k_≠(u3:Value).ownBlock)) (HL266_11.out) (fun k_ hk=>⟨⟨hk.1,hk.2.2⟩,hk.2.1⟩))).2.1 (Kd.V_F (Kd.V_mono (ok':=(fun k_=>((fun k_=>(P0_ k_∨w.heap.size≤k_)∧k_≠gb267)) k_∧some k_≠(u3:Value).ownBlock)) (HL266_11.out) (fun k_ hk=>⟨⟨hk.1,hk.2.2⟩,hk.2.1⟩))) (Kd.V_reads' (Kd.V_mono (ok':=(fun k_=>((fun k_=>(P0_ k_∨w.heap.size≤k_)∧k_≠gb267)) k_∧some k_≠(u3:Value).ownBlock)) (HL266_12.out) (fun k_ hk=>⟨⟨hk.1,hk.2.2⟩,hk.2.1⟩))).2.1 (Kd.V_F (Kd.V_mono (ok':=(fun k_=>((fun k_=>(P0_ k_∨w.heap.size≤k_)∧k_≠gb267)) k_∧some k_≠(u3:Value).ownBlock)) (HL266_12.out) (fun k_ hk=>⟨⟨hk.1,hk.2.2⟩,hk.2.1⟩)))));(case aB=>exact(tBs GE267));(case aF=>exact(fun k_ hk=>⟨(.inr (Nat.le_trans (below_size (tBs GE267)) hk)),Kd.freshB (g:=gb267) (o:=.cells #[.string ((rd_T59 l0 x8_1).f0),.int .i64 ((rd_T59 l0 x8_1).f1.f0),.int .i64 ((rd_T59 l0 x8_1).f1.f1),.string ((rd_T59 l0 x8_1).f1.f2),.slice A266_4 ((rd_T59 l0 x8_1).f1.f3).length c266_4,.slice A266_5 ((rd_T59 l0 x8_1).f1.f4).length c266_5,.slice A266_6 ((rd_T59 l0 x8_1).f1.f5).length c266_6,.int .i64 ((rd_T59 l0 x8_1).f2.f0),.int .i64 ((rd_T59 l0 x8_1).f2.f1),.string ((rd_T59 l0 x8_1).f2.f2),.slice A266_10 ((rd_T59 l0 x8_1).f2.f3).length c266_10,.slice A266_11 ((rd_T59 l0 x8_1).f2.f4).length c266_11,.slice A266_12 ((rd_T59 l0 x8_1).f2.f5).length c266_12] 59 (0,0)) (tK BK267) k_ hk⟩));(case aO=>exact(tN HO_3));(case aS=>exact(below_size (tBs GE267)));(case aL=>have:=LMc5.out;omega);intro v269 w10 ho hb hg hat;rw [←Ny268.out] at ho;replace HO_6:=ak (Kd.V_afterv (ok:=(fun k_=>(P0_ k_∨w.heap.size≤k_)∧k_≠gb267)) (by (with_reducible repeat (first | apply Kd.V_alloc | apply Kd.V_drewN | apply Kd.V_drew));exact Kd.V_mono HO_6.out (fun _ hk=>⟨⟨hk.1,hk.2.2⟩,hk.2.1⟩)) hg hat);replace HL266_4:=ak (Kd.V_afterv (ok:=(fun k_=>(P0_ k_∨w.heap.size≤k_)∧k_≠gb267)) (by (with_reducible repeat (first | apply Kd.V_alloc | apply Kd.V_drewN | apply Kd.V_drew));exact Kd.V_mono HL266_4.out (fun _ hk=>⟨⟨hk.1,hk.2.2⟩,hk.2.1⟩)) hg hat);replace HL266_5:=ak (Kd.V_afterv (ok:=(fun k_=>(P0_ k_∨w.heap.size≤k_)∧k_≠gb267)) (by (with_reducible repeat (first | apply Kd.V_alloc | apply Kd.V_drewN | apply Kd.V_drew));exact Kd.V_mono HL266_5.out (fun _ hk=>⟨⟨hk.1,hk.2.2⟩,hk.2.1⟩)) hg hat);replace HL266_6:=ak (Kd.V_afterv (ok:=(fun k_=>(P0_ k_∨w.heap.size≤k_)∧k_≠gb267)) (by (with_reducible repeat (first | apply Kd.V_alloc | apply Kd.V_drewN | apply Kd.V_drew));exact Kd.V_mono HL266_6.out (fun _ hk=>⟨⟨hk.1,hk.2.2⟩,hk.2.1⟩)) hg hat);replace HL266_10:=ak (Kd.V_afterv (ok:=(fun k_=>(P0_ k_∨w.heap.size≤k_)∧k_≠gb267)) (by (with_reducible repeat (first | apply Kd.V_alloc | apply Kd.V_drewN | apply Kd.V_drew));exact Kd.V_mono HL266_10.out (fun _ hk=>⟨⟨hk.1,hk.2.2⟩,hk.2.1⟩)) hg hat);replace HL266_11:=ak (Kd.V_afterv (ok:=(fun k_=>(P0_ k_∨w.heap.size≤k_)∧k_≠gb267)) (by (with_reducible repeat (first | apply Kd.V_alloc | apply Kd.V_drewN | apply Kd.V_drew));exact Kd.V_mono HL266_11.out (fun _ hk=>⟨⟨hk.1,hk.2.2⟩,hk.2.1⟩)) hg hat);replace HL266_12:=ak (Kd.V_afterv (ok:=(fun k_=>(P0_ k_∨w.heap.size≤k_)∧k_≠gb267)) (by (with_reducible repeat (first | apply Kd.V_alloc | apply Kd.V_drewN | apply Kd.V_drew));exact Kd.V_mono HL266_12.out (fun _ hk=>⟨⟨hk.1,hk.2.2⟩,hk.2.1⟩)) hg hat);replace BK267:=ak (blk_grown (g:=gb267) (o:=.cells #[.string ((rd_T59 l0 x8_1).f0),.int .i64 ((rd_T59 l0 x8_1).f1.f0),.int .i64 ((rd_T59 l0 x8_1).f1.f1),.string ((rd_T59 l0 x8_1).f1.f2),.slice A266_4 ((rd_T59 l0 x8_1).f1.f3).length c266_4,.slice A266_5 ((rd_T59 l0 x8_1).f1.f4).length c266_5,.slice A266_6 ((rd_T59 l0 x8_1).f1.f5).length c266_6,.int .i64 ((rd_T59 l0 x8_1).f2.f0),.int .i64 ((rd_T59 l0 x8_1).f2.f1),.string ((rd_T59 l0 x8_1).f2.f2),.slice A266_10 ((rd_T59 l0 x8_1).f2.f3).length c266_10,.slice A266_11 ((rd_T59 l0 x8_1).f2.f4).length c266_11,.slice A266_12 ((rd_T59 l0 x8_1).f2.f5).length c266_12] 59 (0,0)) (tK BK267) hg (Kd.N_ne HO_3.out BK267.out (by decide)));replace HB:=ak (hb);have HO270:=ak (ho);clear HO_3 ho hb hg hat))
    go_roundg k1
    case measure=>have:=HK1.out;omega
    case rel=>exact⟨(y268),(wrap64 (x8_1+1)),tS,H',⟨by have:=HK1.out;omega⟩,⟨by (with_reducible repeat (first | apply Kd.N_alloc | apply Kd.N_drewN | apply Kd.N_drew));exact Kd.N_mono HO270.out (fun _ hk=>hk.1)⟩,⟨by (with_reducible repeat (first | apply Kd.V_alloc | apply Kd.V_drewN | apply Kd.V_drew));exact Kd.V_mono HO_6.out (fun _ hk=>⟨hk.1.1,hk.2⟩)⟩,⟨tBs GE267⟩⟩
   obtain rfl:=Option.some.inj H
   go_wp2
   go_ret
   exact⟨_,tE,by (with_reducible repeat (first | apply Kd.N_alloc | apply Kd.N_drewN | apply Kd.N_drew));exact HO_3.out,tB⟩
def w36PackDe.f(k:Nat)(l0:List Int):Option (Bool):=if (l0.length:Int) > 4000 then((w36works.f k).bind fun t271=>(some t271)) else((some (([]:List Int):List Int)).bind fun y272=>(if y272.length+l0.length<140737488355328 then((some (y272++l0:List Int)).bind fun y275=>((pa_Decode.f y275).bind fun bt278=>((r36Decode.f l0).bind fun bt283=>((w36entrie.f k bt278.1).bind fun t288=>((r36Same.f t288 bt283.1).bind fun t291=>(if t291=true then(if bt278.2.1=bt283.2.1 then(if bt278.2.2=bt283.2.2 then(if (strOfNums y275).toList=(strOfNums l0).toList then((w36works.f k).bind fun t292=>(if t292=true then(some true) else(some false))) else(some false)) else(some false)) else(some false)) else(some false))))))) else(none)))
set_option maxHeartbeats 8000000 in
theorem w36PackDe.calls(k:Nat)(A0:Option Addr)(c0:Nat)(l0:List Int)(r:Bool)(w:World)(HT:Aside0 (Tab w))(hr_:Aside0 (r=true))(hr0:Kd.C (Kd.int .u8) w A0 l0.length l0)(hc0:l0.length≤c0)(h:w36PackDe.f k l0=some r) :
  Calls Tryz.prog 4 #[.slice A0 l0.length c0] w fun e w'=>e=.returned (.bool r)∧Below w.heap.size w w':=by
 have HR0:=ak hr0
 have HC0:=ak hc0
 clear hr0 hc0
 have HB:=ak (Below.refl w.heap.size w)
 have H:(if (l0.length:Int) > 4000 then((w36works.f k).bind fun t271=>(some t271)) else((some (([]:List Int):List Int)).bind fun y272=>(if y272.length+l0.length<140737488355328 then((some (y272++l0:List Int)).bind fun y275=>((pa_Decode.f y275).bind fun bt278=>((r36Decode.f l0).bind fun bt283=>((w36entrie.f k bt278.1).bind fun t288=>((r36Same.f t288 bt283.1).bind fun t291=>(if t291=true then(if bt278.2.1=bt283.2.1 then(if bt278.2.2=bt283.2.2 then(if (strOfNums y275).toList=(strOfNums l0).toList then((w36works.f k).bind fun t292=>(if t292=true then(some true) else(some false))) else(some false)) else(some false)) else(some false)) else(some false))))))) else(none))))=some r:=h
 clear h
 replace H:=iHkk H
 rcases H with⟨c2,c2b0,H⟩ | ⟨c2,c2b0,H⟩
 ·have c2b1:decide (4000<l0.length)=true:=decide_eq_true (by omega)
  clear c2
  replace H:=iX H
  obtain⟨t271,A3,H⟩:=H
  obtain rfl:=Option.some.inj H
  go_enter Tryz.func4,Tryz.ntmps4
  go_wp2_with (first | ((with_reducible refine gf_ 7 rfl ?_);refine gC_ (some 13) Tryz.func7 #[] ?_;(with_reducible refine(w36works.calls (HT:=⟨Tab.below HT.out tB⟩) (hr_:=hr_) k  t271 _ A3.out).mono ?_);rintro e w4 ⟨rfl,hb⟩;refine⟨_,rfl, ?_⟩;replace HB:=ak (below_step tB hb);(try clear hb)))
  go_ret
  exact⟨tE,tB⟩
 have c2b1:decide (4000<l0.length)=false:=decide_eq_false (by omega)
 clear c2
 obtain⟨y272,hy272⟩:∃y_:List Int,y_=(([]:List Int)):=⟨_,rfl⟩
 replace H:(if y272.length+l0.length<140737488355328 then((some (y272++l0:List Int)).bind fun y275=>((pa_Decode.f y275).bind fun bt278=>((r36Decode.f l0).bind fun bt283=>((w36entrie.f k bt278.1).bind fun t288=>((r36Same.f t288 bt283.1).bind fun t291=>(if t291=true then(if bt278.2.1=bt283.2.1 then(if bt278.2.2=bt283.2.2 then(if (strOfNums y275).toList=(strOfNums l0).toList then((w36works.f k).bind fun t292=>(if t292=true then(some true) else(some false))) else(some false)) else(some false)) else(some false)) else(some false))))))) else(none))=some r:=tY hy272 H
 have Ny272:=ak hy272
 clear hy272
 replace H:=niC H
 obtain⟨c5,H⟩:=H
 have LMc5:=ak c5
 clear c5
 obtain⟨y275,hy275⟩:∃y_:List Int,y_=(y272++l0):=⟨_,rfl⟩
 replace H:((pa_Decode.f y275).bind fun bt278=>((r36Decode.f l0).bind fun bt283=>((w36entrie.f k bt278.1).bind fun t288=>((r36Same.f t288 bt283.1).bind fun t291=>(if t291=true then(if bt278.2.1=bt283.2.1 then(if bt278.2.2=bt283.2.2 then(if (strOfNums y275).toList=(strOfNums l0).toList then((w36works.f k).bind fun t292=>(if t292=true then(some true) else(some false))) else(some false)) else(some false)) else(some false)) else(some false))))))=some r:=tY hy275 H
 have Ny275:=ak hy275
 clear hy275
 replace H:=iX H
 obtain⟨⟨t278,t279,t280⟩,A6,H⟩:=H
 try dsimp only at H
 replace H:=iX H
 obtain⟨⟨t283,t284,t285⟩,A7,H⟩:=H
 try dsimp only at H
 replace H:=iX H
 obtain⟨t288,A8,H⟩:=H
 replace H:=iX H
 obtain⟨t291,A9,H⟩:=H
 replace H:=iB H
 rcases H with⟨rfl,H⟩ | ⟨rfl,H⟩
 ·replace H:=iE H
  rcases H with⟨c11b0,c11b1,H⟩ | ⟨c11,c11b0,c11b1,H⟩
  ·replace H:=iE H
   rcases H with⟨c12b0,c12b1,H⟩ | ⟨c12,c12b0,c12b1,H⟩
   ·replace H:=iE H
    rcases H with⟨c13b0,c13b1,H⟩ | ⟨c13,c13b0,c13b1,H⟩
    ·replace H:=iX H
     obtain⟨t292,A14,H⟩:=H
     replace H:=iB H
     rcases H with⟨rfl,H⟩ | ⟨rfl,H⟩
     ·obtain rfl:=Option.some.inj H
      go_enter Tryz.func4,Tryz.ntmps4
      go_wp2_with (first | ((with_reducible refine gate_dst (N:=14) rfl ?_);refine Kd.R_lit (Kd.int .u8) _ 5 ?hg (N:=14) ?hd (xs:=([]:List Int)) (inner:=[]) (ok:=fun _=>True) (okp:=fun _=>True) ?hr ?hp (fun _ hk=>hk) trivial (Below.refl _ _) (Nat.le_refl _) (by simp) ?_;(case hd=>rfl);(case hg=>rfl);(case hr=>first | (go_simp;done) | (go_simp;rfl));(case hp=>exact(Reps.none _ _));intro v273 w16 ho17 hb hg_ hnew_;clear hg_ hnew_;(first | rw [←Ny272.out] at ho17 | (simp only [Int.reduceToNat] at ho17;rw [←Ny272.out] at ho17));have HO274:=ak (Kd.R_lower ho17 (below_size tB));replace HB:=ak (below_step tB hb);clear hb ho17) | ((with_reducible refine gate_builtin (b:=.append) (xs:=#[.tmp 14,.tmp 15]) rfl ?_);at_builtin;refine Kd.R_append_rows (Kd.int .u8) (w0:=w) w.heap.size rfl (.tmp 14) (.tmp 15) 23 5 (.int .u8 0) 1 rfl Tryz.underlying23 info5 rfl (by decide) (by omega) v273 y272 l0 _ _ _ (fun _=>True) (fun _=>False) rfl rfl ?aO ?aR (fun _ _ h=>h) (fun _ h=>h.elim) ?aF ?aB ?aS ?aL ?_;(case aR=>repeat (first | exact(Kd.C_below HR0.out HB.out) | (with_reducible refine Kd.C_alloc ?_ _) | (with_reducible refine Kd.C_drewN ?_ _) | (with_reducible refine Kd.C_drew ?_)));(case aB=>exact tB);(case aF=>exact(fun _ _=>trivial));(case aO=>exact(tR HO274));(case aS=>exact(below_size tB));(case aL=>have:=LMc5.out;omega);intro v276 w18 ho hb hg hat;rw [←Ny275.out] at ho;replace HB:=ak (hb);have HO277:=ak (ho);clear HO274 ho hb hg hat;obtain⟨Aoh277,coh277,eoh277⟩:=Kd.R_slice HO277.out;subst eoh277) | ((with_reducible refine gf_ 13 rfl ?_);refine gC_ (some 19) Tryz.func13 #[.slice Aoh277 y275.length coh277] ?_;(with_reducible refine(pa_Decode.calls (HT:=⟨Tab.below HT.out tB⟩) _ _ y275 t278 t279 t280 _ ?side1 ?side2 A6.out).mono ?_);(case side1=>exact tCr HO277);(case side2=>exact(Kd.R_reads' HO277.out).2.1);rintro e w20 ⟨v281,rfl,ho0,hb⟩;refine⟨_,rfl, ?_⟩;have HO282:=ak (Kd.N_lower (Kd.N_mono (ok':=fun k_=>some k_≠(.slice Aoh277 y275.length coh277:Value).ownBlock) (Kd.R_N (Kd.R_bound ho0)) (fun k_ hk_=>(Kd.fresh' (Kd.R_lt (tR HO277)) k_ hk_.2.1))) (below_size tB));replace HO277:=ak (Kd.R_below (tR HO277) hb);replace HB:=ak (below_step tB hb);(try clear hb);(try clear ho0)) | ((with_reducible refine gf_ 14 rfl ?_);refine gC_ (some 25) Tryz.func14 #[.slice A0 l0.length c0] ?_;(with_reducible refine(r36Decode.calls (HT:=⟨Tab.below HT.out tB⟩) _ _ l0 t283 t284 t285 _ ?side1 ?side2 A7.out).mono ?_);(case side1=>exact tCb HR0 HB);(case side2=>exact HC0.out);rintro e w21 ⟨v286,rfl,ho0,hb⟩;refine⟨_,rfl, ?_⟩;have HO287:=ak (Kd.N_lower (Kd.N_mono (ok':=fun k_=>some k_≠(.slice Aoh277 y275.length coh277:Value).ownBlock∧some k_≠(v281:Value).ownBlock) (Kd.R_N (Kd.R_bound ho0)) (fun k_ hk_=>⟨(Kd.fresh' (Kd.R_lt (tR HO277)) k_ hk_.2.1),(Kd.fresh' (Kd.N_lt (tN HO282)) k_ hk_.2.1)⟩)) (below_size tB));replace HO277:=ak (Kd.R_below (tR HO277) hb);replace HO282:=ak (Kd.N_elder' (tN HO282) (by first | exact Kd.N_base ho0 | exact Kd.R_base ho0) hb);replace HB:=ak (below_step tB hb);(try clear hb);(try clear ho0);obtain⟨Ao22,co22,eo22⟩:=Kd.N_slice HO282.out;subst eo22) | ((with_reducible refine gf_ 16 rfl ?_);refine gC_ (some 30) Tryz.func16 #[.slice Ao22 t278.length co22] ?_;(with_reducible refine(w36entrie.calls k (fun k_=>(some k_≠(.slice Aoh277 y275.length coh277:Value).ownBlock∧some k_≠(v286:Value).ownBlock)) _ _ t278 t288 _ ?side1 A8.out).mono ?_);(case side1=>exact Kd.N_V (HO282.out));rintro e w23 ⟨v289,rfl,ho0,hb⟩;refine⟨_,rfl, ?_⟩;replace HO282:=ak (Kd.N_elder' (tN HO282) (by first | exact Kd.N_base ho0 | exact Kd.R_base ho0) hb);have HO290:=ak (Kd.N_lower (Kd.N_mono (ok':=fun k_=>some k_≠(.slice Aoh277 y275.length coh277:Value).ownBlock∧some k_≠(v286:Value).ownBlock) ho0 (fun k_ hk_=>⟨Or.elim hk_ (fun hs_=>hs_.1) (fun hn_=>(Kd.fresh' (Kd.R_lt (tR HO277)) k_ hn_)),Or.elim hk_ (fun hs_=>hs_.2) (fun hn_=>(Kd.fresh' (Kd.N_lt (tN HO287)) k_ hn_))⟩)) (below_size tB));replace HO277:=ak (Kd.R_below (tR HO277) hb);replace HO287:=ak (Kd.N_elder' (tN HO287) (by first | exact Kd.N_base ho0 | exact Kd.R_base ho0) hb);replace HB:=ak (below_step tB hb);(try clear hb);(try clear ho0);obtain⟨Ao24,co24,eo24⟩:=Kd.N_slice HO290.out;subst eo24;obtain⟨Ao25,co25,eo25⟩:=Kd.N_slice HO287.out;subst eo25) | ((with_reducible refine gf_ 15 rfl ?_);refine gC_ (some 32) Tryz.func15 #[.slice Ao24 t288.length co24,.slice Ao25 t283.length co25] ?_;(with_reducible refine(r36Same.calls _ _ t288 _ _ t283 true _ ?side1 ?side2 ?side3 ?side4 A9.out).mono ?_);(case side1=>repeat (first | exact(Kd.N_reads' HO290.out).2.2 | (with_reducible refine Kd.C_alloc ?_ _) | (with_reducible refine Kd.C_drewN ?_ _) | (with_reducible refine Kd.C_drew ?_)));(case side2=>exact(Kd.N_reads' HO290.out).2.1);(case side3=>repeat (first | exact(Kd.N_reads' HO287.out).2.2 | (with_reducible refine Kd.C_alloc ?_ _) | (with_reducible refine Kd.C_drewN ?_ _) | (with_reducible refine Kd.C_drew ?_)));(case side4=>exact(Kd.N_reads' HO287.out).2.1);rintro e w26 ⟨rfl,hb⟩;refine⟨_,rfl, ?_⟩;replace HO277:=ak (Kd.R_below (tR HO277) hb);replace HO282:=ak (Kd.N_below (tN HO282) hb);replace HO287:=ak (Kd.N_below (tN HO287) hb);replace HO290:=ak (Kd.N_below (tN HO290) hb);replace HB:=ak (below_step tB hb);(try clear hb);have hcv27:=own_string (P:=Tryz.prog) Tryz.underlying23 Tryz.underlying5 Tryz.underlying9 (Kd.own_of_R HO277.out);have hcv28:=Kd.C_string (P:=Tryz.prog) (A:=A0) (c:=c0) Tryz.underlying23 Tryz.underlying5 Tryz.underlying9 (Kd.C_below HR0.out HB.out)) | (go_at_call 7;(with_reducible refine(w36works.calls (HT:=⟨Tab.below HT.out tB⟩) (hr_:=hr_) k  true _ A14.out).mono ?_);rintro e w29 ⟨rfl,hb⟩;replace HO277:=ak (Kd.R_below (tR HO277) hb);replace HO282:=ak (Kd.N_below (tN HO282) hb);replace HO287:=ak (Kd.N_below (tN HO287) hb);replace HO290:=ak (Kd.N_below (tN HO290) hb);replace HB:=ak (below_step tB hb);(try clear hb)))
      go_ret
      exact⟨tE,tB⟩
     exact absurd ((Option.some.inj H).trans hr_.out) Bool.false_ne_true
    exact absurd ((Option.some.inj H).trans hr_.out) Bool.false_ne_true
   exact absurd ((Option.some.inj H).trans hr_.out) Bool.false_ne_true
  exact absurd ((Option.some.inj H).trans hr_.out) Bool.false_ne_true
 exact absurd ((Option.some.inj H).trans hr_.out) Bool.false_ne_true
def w36PackRe.f(k:Nat)(l0:List Int):Option (Bool):=if (l0.length:Int) > 4000 then((w36works.f k).bind fun t293=>(some t293)) else((some (([72,67,1]:List Int):List Int)).bind fun y294=>(if y294.length+l0.length<140737488355328 then((some (y294++l0:List Int)).bind fun y297=>((r36Sum.f k y297).bind fun t300=>((some (([(t300 / 16777216) % 256,(t300 / 65536) % 256,(t300 / 256) % 256,(t300) % 256]:List Int):List Int)).bind fun y301=>(if y297.length+y301.length<140737488355328 then((some (y297++y301:List Int)).bind fun y304=>((pa_Decode.f y304).bind fun bt307=>((r36Decode.f y304).bind fun bt312=>((w36entrie.f k bt307.1).bind fun t317=>((r36Same.f t317 bt312.1).bind fun t320=>(if t320=true then(if bt307.2.1=bt312.2.1 then(if bt307.2.2=bt312.2.2 then((w36works.f k).bind fun t321=>(some t321)) else(some false)) else(some false)) else(some false))))))) else(none))))) else(none)))
set_option maxHeartbeats 8000000 in
theorem w36PackRe.calls(k:Nat)(A0:Option Addr)(c0:Nat)(l0:List Int)(r:Bool)(w:World)(HT:Aside0 (Tab w))(hr_:Aside0 (r=true))(hr0:Kd.C (Kd.int .u8) w A0 l0.length l0)(hc0:l0.length≤c0)(h:w36PackRe.f k l0=some r) :
  Calls Tryz.prog 5 #[.slice A0 l0.length c0] w fun e w'=>e=.returned (.bool r)∧Below w.heap.size w w':=by
 have HR0:=ak hr0
 have HC0:=ak hc0
 clear hr0 hc0
 have HB:=ak (Below.refl w.heap.size w)
 have H:(if (l0.length:Int) > 4000 then((w36works.f k).bind fun t293=>(some t293)) else((some (([72,67,1]:List Int):List Int)).bind fun y294=>(if y294.length+l0.length<140737488355328 then((some (y294++l0:List Int)).bind fun y297=>((r36Sum.f k y297).bind fun t300=>((some (([(t300 / 16777216) % 256,(t300 / 65536) % 256,(t300 / 256) % 256,(t300) % 256]:List Int):List Int)).bind fun y301=>(if y297.length+y301.length<140737488355328 then((some (y297++y301:List Int)).bind fun y304=>((pa_Decode.f y304).bind fun bt307=>((r36Decode.f y304).bind fun bt312=>((w36entrie.f k bt307.1).bind fun t317=>((r36Same.f t317 bt312.1).bind fun t320=>(if t320=true then(if bt307.2.1=bt312.2.1 then(if bt307.2.2=bt312.2.2 then((w36works.f k).bind fun t321=>(some t321)) else(some false)) else(some false)) else(some false))))))) else(none))))) else(none))))=some r:=h
 clear h
 replace H:=iHkk H
 rcases H with⟨c2,c2b0,H⟩ | ⟨c2,c2b0,H⟩
 ·have c2b1:decide (4000<l0.length)=true:=decide_eq_true (by omega)
  clear c2
  replace H:=iX H
  obtain⟨t293,A3,H⟩:=H
  obtain rfl:=Option.some.inj H
  go_enter Tryz.func5,Tryz.ntmps5
  go_wp2_with (first | ((with_reducible refine gf_ 7 rfl ?_);refine gC_ (some 14) Tryz.func7 #[] ?_;(with_reducible refine(w36works.calls (HT:=⟨Tab.below HT.out tB⟩) (hr_:=hr_) k  t293 _ A3.out).mono ?_);rintro e w4 ⟨rfl,hb⟩;refine⟨_,rfl, ?_⟩;replace HB:=ak (below_step tB hb);(try clear hb)))
  go_ret
  exact⟨tE,tB⟩
 have c2b1:decide (4000<l0.length)=false:=decide_eq_false (by omega)
 clear c2
 obtain⟨y294,hy294⟩:∃y_:List Int,y_=(([72,67,1]:List Int)):=⟨_,rfl⟩
 replace H:(if y294.length+l0.length<140737488355328 then((some (y294++l0:List Int)).bind fun y297=>((r36Sum.f k y297).bind fun t300=>((some (([(t300 / 16777216) % 256,(t300 / 65536) % 256,(t300 / 256) % 256,(t300) % 256]:List Int):List Int)).bind fun y301=>(if y297.length+y301.length<140737488355328 then((some (y297++y301:List Int)).bind fun y304=>((pa_Decode.f y304).bind fun bt307=>((r36Decode.f y304).bind fun bt312=>((w36entrie.f k bt307.1).bind fun t317=>((r36Same.f t317 bt312.1).bind fun t320=>(if t320=true then(if bt307.2.1=bt312.2.1 then(if bt307.2.2=bt312.2.2 then((w36works.f k).bind fun t321=>(some t321)) else(some false)) else(some false)) else(some false))))))) else(none))))) else(none))=some r:=tY hy294 H
 have Ny294:=ak hy294
 clear hy294
 replace H:=niC H
 obtain⟨c5,H⟩:=H
 have LMc5:=ak c5
 clear c5
 obtain⟨y297,hy297⟩:∃y_:List Int,y_=(y294++l0):=⟨_,rfl⟩
 replace H:((r36Sum.f k y297).bind fun t300=>((some (([(t300 / 16777216) % 256,(t300 / 65536) % 256,(t300 / 256) % 256,(t300) % 256]:List Int):List Int)).bind fun y301=>(if y297.length+y301.length<140737488355328 then((some (y297++y301:List Int)).bind fun y304=>((pa_Decode.f y304).bind fun bt307=>((r36Decode.f y304).bind fun bt312=>((w36entrie.f k bt307.1).bind fun t317=>((r36Same.f t317 bt312.1).bind fun t320=>(if t320=true then(if bt307.2.1=bt312.2.1 then(if bt307.2.2=bt312.2.2 then((w36works.f k).bind fun t321=>(some t321)) else(some false)) else(some false)) else(some false))))))) else(none))))=some r:=tY hy297 H
 have Ny297:=ak hy297
 clear hy297
 replace H:=iX H
 obtain⟨t300,A6,H⟩:=H
 obtain⟨y301,hy301⟩:∃y_:List Int,y_=(([(t300 / 16777216) % 256,(t300 / 65536) % 256,(t300 / 256) % 256,(t300) % 256]:List Int)):=⟨_,rfl⟩
 replace H:(if y297.length+y301.length<140737488355328 then((some (y297++y301:List Int)).bind fun y304=>((pa_Decode.f y304).bind fun bt307=>((r36Decode.f y304).bind fun bt312=>((w36entrie.f k bt307.1).bind fun t317=>((r36Same.f t317 bt312.1).bind fun t320=>(if t320=true then(if bt307.2.1=bt312.2.1 then(if bt307.2.2=bt312.2.2 then((w36works.f k).bind fun t321=>(some t321)) else(some false)) else(some false)) else(some false))))))) else(none))=some r:=tY hy301 H
 have Ny301:=ak hy301
 clear hy301
 replace H:=niC H
 obtain⟨c7,H⟩:=H
 have LMc7:=ak c7
 clear c7
 obtain⟨y304,hy304⟩:∃y_:List Int,y_=(y297++y301):=⟨_,rfl⟩
 replace H:((pa_Decode.f y304).bind fun bt307=>((r36Decode.f y304).bind fun bt312=>((w36entrie.f k bt307.1).bind fun t317=>((r36Same.f t317 bt312.1).bind fun t320=>(if t320=true then(if bt307.2.1=bt312.2.1 then(if bt307.2.2=bt312.2.2 then((w36works.f k).bind fun t321=>(some t321)) else(some false)) else(some false)) else(some false))))))=some r:=tY hy304 H
 have Ny304:=ak hy304
 clear hy304
 replace H:=iX H
 obtain⟨⟨t307,t308,t309⟩,A8,H⟩:=H
 try dsimp only at H
 replace H:=iX H
 obtain⟨⟨t312,t313,t314⟩,A9,H⟩:=H
 try dsimp only at H
 replace H:=iX H
 obtain⟨t317,A10,H⟩:=H
 replace H:=iX H
 obtain⟨t320,A11,H⟩:=H
 replace H:=iB H
 rcases H with⟨rfl,H⟩ | ⟨rfl,H⟩
 ·replace H:=iE H
  rcases H with⟨c13b0,c13b1,H⟩ | ⟨c13,c13b0,c13b1,H⟩
  ·replace H:=iE H
   rcases H with⟨c14b0,c14b1,H⟩ | ⟨c14,c14b0,c14b1,H⟩
   ·replace H:=iX H
    obtain⟨t321,A15,H⟩:=H
    obtain rfl:=Option.some.inj H
    go_enter Tryz.func5,Tryz.ntmps5
    go_wp2_with (first | ((with_reducible refine gate_dst (N:=15) rfl ?_);refine Kd.R_lit (Kd.int .u8) _ 5 ?hg (N:=15) ?hd (xs:=([72,67,1]:List Int)) (inner:=[.int .u8 72,.int .u8 67,.int .u8 1]) (ok:=fun _=>True) (okp:=fun _=>True) ?hr ?hp (fun _ hk=>hk) trivial (Below.refl _ _) (Nat.le_refl _) (by simp) ?_;(case hd=>rfl);(case hg=>rfl);(case hr=>first | (go_simp;done) | (go_simp;rfl));(case hp=>exact(Reps.one (show Kd.M (Kd.int .u8) _ _ _ 72 [.int .u8 72] from rfl) (Reps.one (show Kd.M (Kd.int .u8) _ _ _ 67 [.int .u8 67] from rfl) (Reps.one (show Kd.M (Kd.int .u8) _ _ _ 1 [.int .u8 1] from rfl) (Reps.none _ _)))));intro v295 w16 ho17 hb hg_ hnew_;clear hg_ hnew_;(first | rw [←Ny294.out] at ho17 | (simp only [Int.reduceToNat] at ho17;rw [←Ny294.out] at ho17));have HO296:=ak (Kd.R_lower ho17 (below_size tB));replace HB:=ak (below_step tB hb);clear hb ho17) | ((with_reducible refine gate_builtin (b:=.append) (xs:=#[.tmp 15,.tmp 16]) rfl ?_);at_builtin;refine Kd.R_append_rows (Kd.int .u8) (w0:=w) w.heap.size rfl (.tmp 15) (.tmp 16) 23 5 (.int .u8 0) 1 rfl Tryz.underlying23 info5 rfl (by decide) (by omega) v295 y294 l0 _ _ _ (fun _=>True) (fun _=>False) rfl rfl ?aO ?aR (fun _ _ h=>h) (fun _ h=>h.elim) ?aF ?aB ?aS ?aL ?_;(case aR=>repeat (first | exact(Kd.C_below HR0.out HB.out) | (with_reducible refine Kd.C_alloc ?_ _) | (with_reducible refine Kd.C_drewN ?_ _) | (with_reducible refine Kd.C_drew ?_)));(case aB=>exact tB);(case aF=>exact(fun _ _=>trivial));(case aO=>exact(tR HO296));(case aS=>exact(below_size tB));(case aL=>have:=LMc5.out;omega);intro v298 w18 ho hb hg hat;rw [←Ny297.out] at ho;replace HB:=ak (hb);have HO299:=ak (ho);clear HO296 ho hb hg hat;obtain⟨Aoh299,coh299,eoh299⟩:=Kd.R_slice HO299.out;subst eoh299) | ((with_reducible refine gf_ 12 rfl ?_);refine gC_ (some 19) Tryz.func12 #[.slice Aoh299 y297.length coh299] ?_;(with_reducible refine(r36Sum.calls k _ _ y297 t300 _ ?side1 ?side2 A6.out).mono ?_);(case side1=>exact tCr HO299);(case side2=>exact(Kd.R_reads' HO299.out).2.1);rintro e w' ⟨rfl,⟨nd,rfl⟩⟩;refine⟨_,rfl, ?_⟩) | ((with_reducible refine gate_dst (N:=32) rfl ?_);refine Kd.R_lit (Kd.int .u8) _ 5 ?hg (N:=32) ?hd (xs:=([(t300 / 16777216) % 256,(t300 / 65536) % 256,(t300 / 256) % 256,(t300) % 256]:List Int)) (inner:=[.int .u8 ((t300 / 16777216) % 256),.int .u8 ((t300 / 65536) % 256),.int .u8 ((t300 / 256) % 256),.int .u8 ((t300) % 256)]) (ok:=fun _=>True) (okp:=fun _=>True) ?hr ?hp (fun _ hk=>hk) trivial (Below.refl _ _) (Nat.le_refl _) (by simp) ?_;(case hd=>rfl);(case hg=>rfl);(case hr=>first | (go_simp;done) | (go_simp;rfl));(case hp=>exact(Reps.one (show Kd.M (Kd.int .u8) _ _ _ ((t300 / 16777216) % 256) [.int .u8 ((t300 / 16777216) % 256)] from rfl) (Reps.one (show Kd.M (Kd.int .u8) _ _ _ ((t300 / 65536) % 256) [.int .u8 ((t300 / 65536) % 256)] from rfl) (Reps.one (show Kd.M (Kd.int .u8) _ _ _ ((t300 / 256) % 256) [.int .u8 ((t300 / 256) % 256)] from rfl) (Reps.one (show Kd.M (Kd.int .u8) _ _ _ ((t300) % 256) [.int .u8 ((t300) % 256)] from rfl) (Reps.none _ _))))));intro v302 w20 ho21 hb hg_ hnew_;clear hg_ hnew_;(first | rw [←Ny301.out] at ho21 | (simp only [Int.reduceToNat] at ho21;rw [←Ny301.out] at ho21));have HO303:=ak (Kd.R_lower (Kd.R_new' ho21 (Kd.R_lt (tR HO299))) (below_size tB));replace HO299:=ak (Kd.R_elder' (tR HO299) (Kd.R_base ho21) hb);replace HB:=ak (below_step tB hb);clear hb ho21;obtain⟨Aoh303,coh303,eoh303⟩:=Kd.R_slice HO303.out;subst eoh303) | ((with_reducible refine gate_builtin (b:=.append) (xs:=#[.tmp 20,.tmp 32]) rfl ?_);at_builtin;refine Kd.R_append_rows (Kd.int .u8) (w0:=w) w.heap.size rfl (.tmp 20) (.tmp 32) 23 5 (.int .u8 0) 1 rfl Tryz.underlying23 info5 rfl (by decide) (by omega) (.slice Aoh299 y297.length coh299) y297 y301 _ _ _ (fun k_=>some k_≠(.slice Aoh303 y301.length coh303:Value).ownBlock) (fun _=>False) rfl rfl ?aO ?aR (fun _ _ h=>h) (fun _ h=>h.elim) ?aF ?aB ?aS ?aL ?_;(case aR=>exact tCr HO303);(case aB=>exact tB);(case aF=>exact(fun k_ hk=>Kd.fresh' (Kd.R_lt (tR HO303)) k_ hk));(case aO=>exact(tRm HO299));(case aS=>exact(below_size tB));(case aL=>have:=LMc7.out;omega);intro v305 w22 ho hb hg hat;rw [←Ny304.out] at ho;replace HO303:=ak (Kd.R_after (ok:=(fun _=>True)) (tR HO303) hg hat);replace HB:=ak (hb);have HO306:=ak (ho);clear HO299 ho hb hg hat;obtain⟨Aoh306,coh306,eoh306⟩:=Kd.R_slice HO306.out;subst eoh306) | ((with_reducible refine gf_ 13 rfl ?_);refine gC_ (some 36) Tryz.func13 #[.slice Aoh306 y304.length coh306] ?_;(with_reducible refine(pa_Decode.calls (HT:=⟨Tab.below HT.out tB⟩) _ _ y304 t307 t308 t309 _ ?side1 ?side2 A8.out).mono ?_);(case side1=>exact tCr HO306);(case side2=>exact(Kd.R_reads' HO306.out).2.1);rintro e w25 ⟨v310,rfl,ho0,hb⟩;refine⟨_,rfl, ?_⟩;have HO311:=ak (Kd.N_lower (Kd.N_mono (ok':=fun k_=>some k_≠(.slice Aoh303 y301.length coh303:Value).ownBlock∧some k_≠(.slice Aoh306 y304.length coh306:Value).ownBlock) (Kd.R_N (Kd.R_bound ho0)) (fun k_ hk_=>⟨(Kd.fresh' (Kd.R_lt (tR HO303)) k_ hk_.2.1),(Kd.fresh' (Kd.R_lt (tR HO306)) k_ hk_.2.1)⟩)) (below_size tB));replace HO303:=ak (Kd.R_below (tR HO303) hb);replace HO306:=ak (Kd.R_below (tR HO306) hb);replace HB:=ak (below_step tB hb);(try clear hb);(try clear ho0)) | ((with_reducible refine gf_ 14 rfl ?_);refine gC_ (some 42) Tryz.func14 #[.slice Aoh306 y304.length coh306] ?_;(with_reducible refine(r36Decode.calls (HT:=⟨Tab.below HT.out tB⟩) _ _ y304 t312 t313 t314 _ ?side1 ?side2 A9.out).mono ?_);(case side1=>exact tCr HO306);(case side2=>exact(Kd.R_reads' HO306.out).2.1);rintro e w26 ⟨v315,rfl,ho0,hb⟩;refine⟨_,rfl, ?_⟩;have HO316:=ak (Kd.N_lower (Kd.N_mono (ok':=fun k_=>some k_≠(.slice Aoh303 y301.length coh303:Value).ownBlock∧some k_≠(.slice Aoh306 y304.length coh306:Value).ownBlock∧some k_≠(v310:Value).ownBlock) (Kd.R_N (Kd.R_bound ho0)) (fun k_ hk_=>⟨(Kd.fresh' (Kd.R_lt (tR HO303)) k_ hk_.2.1),(Kd.fresh' (Kd.R_lt (tR HO306)) k_ hk_.2.1),(Kd.fresh' (Kd.N_lt (tN HO311)) k_ hk_.2.1)⟩)) (below_size tB));replace HO303:=ak (Kd.R_below (tR HO303) hb);replace HO306:=ak (Kd.R_below (tR HO306) hb);replace HO311:=ak (Kd.N_elder' (tN HO311) (by first | exact Kd.N_base ho0 | exact Kd.R_base ho0) hb);replace HB:=ak (below_step tB hb);(try clear hb);(try clear ho0);obtain⟨Ao27,co27,eo27⟩:=Kd.N_slice HO311.out;subst eo27) | ((with_reducible refine gf_ 16 rfl ?_);refine gC_ (some 47) Tryz.func16 #[.slice Ao27 t307.length co27] ?_;(with_reducible refine(w36entrie.calls k (fun k_=>((some k_≠(.slice Aoh303 y301.length coh303:Value).ownBlock∧some k_≠(.slice Aoh306 y304.length coh306:Value).ownBlock)∧some k_≠(v315:Value).ownBlock)) _ _ t307 t317 _ ?side1 A10.out).mono ?_);(case side1=>exact Kd.N_V (HO311.out));rintro e w28 ⟨v318,rfl,ho0,hb⟩;refine⟨_,rfl, ?_⟩;replace HO311:=ak (Kd.N_elder' (tN HO311) (by first | exact Kd.N_base ho0 | exact Kd.R_base ho0) hb);have HO319:=ak (Kd.N_lower (Kd.N_mono (ok':=fun k_=>some k_≠(.slice Aoh303 y301.length coh303:Value).ownBlock∧some k_≠(.slice Aoh306 y304.length coh306:Value).ownBlock∧some k_≠(v315:Value).ownBlock) ho0 (fun k_ hk_=>⟨Or.elim hk_ (fun hs_=>hs_.1.1) (fun hn_=>(Kd.fresh' (Kd.R_lt (tR HO303)) k_ hn_)),Or.elim hk_ (fun hs_=>hs_.1.2) (fun hn_=>(Kd.fresh' (Kd.R_lt (tR HO306)) k_ hn_)),Or.elim hk_ (fun hs_=>hs_.2) (fun hn_=>(Kd.fresh' (Kd.N_lt (tN HO316)) k_ hn_))⟩)) (below_size tB));replace HO303:=ak (Kd.R_below (tR HO303) hb);replace HO306:=ak (Kd.R_below (tR HO306) hb);replace HO316:=ak (Kd.N_elder' (tN HO316) (by first | exact Kd.N_base ho0 | exact Kd.R_base ho0) hb);replace HB:=ak (below_step tB hb);(try clear hb);(try clear ho0);obtain⟨Ao29,co29,eo29⟩:=Kd.N_slice HO319.out;subst eo29;obtain⟨Ao30,co30,eo30⟩:=Kd.N_slice HO316.out;subst eo30) | ((with_reducible refine gf_ 15 rfl ?_);refine gC_ (some 49) Tryz.func15 #[.slice Ao29 t317.length co29,.slice Ao30 t312.length co30] ?_;(with_reducible refine(r36Same.calls _ _ t317 _ _ t312 true _ ?side1 ?side2 ?side3 ?side4 A11.out).mono ?_);(case side1=>repeat (first | exact(Kd.N_reads' HO319.out).2.2 | (with_reducible refine Kd.C_alloc ?_ _) | (with_reducible refine Kd.C_drewN ?_ _) | (with_reducible refine Kd.C_drew ?_)));(case side2=>exact(Kd.N_reads' HO319.out).2.1);(case side3=>repeat (first | exact(Kd.N_reads' HO316.out).2.2 | (with_reducible refine Kd.C_alloc ?_ _) | (with_reducible refine Kd.C_drewN ?_ _) | (with_reducible refine Kd.C_drew ?_)));(case side4=>exact(Kd.N_reads' HO316.out).2.1);rintro e w31 ⟨rfl,hb⟩;refine⟨_,rfl, ?_⟩;replace HO303:=ak (Kd.R_below (tR HO303) hb);replace HO306:=ak (Kd.R_below (tR HO306) hb);replace HO311:=ak (Kd.N_below (tN HO311) hb);replace HO316:=ak (Kd.N_below (tN HO316) hb);replace HO319:=ak (Kd.N_below (tN HO319) hb);replace HB:=ak (below_step tB hb);(try clear hb)) | (go_at_call 7;(with_reducible refine(w36works.calls (HT:=⟨Tab.below HT.out tB⟩) (hr_:=hr_) k  t321 _ A15.out).mono ?_);rintro e w32 ⟨rfl,hb⟩;replace HO303:=ak (Kd.R_below (tR HO303) hb);replace HO306:=ak (Kd.R_below (tR HO306) hb);replace HO311:=ak (Kd.N_below (tN HO311) hb);replace HO316:=ak (Kd.N_below (tN HO316) hb);replace HO319:=ak (Kd.N_below (tN HO319) hb);replace HB:=ak (below_step tB hb);(try clear hb)))
    go_ret
    exact⟨tE,tB⟩
   exact absurd ((Option.some.inj H).trans hr_.out) Bool.false_ne_true
  exact absurd ((Option.some.inj H).trans hr_.out) Bool.false_ne_true
 exact absurd ((Option.some.inj H).trans hr_.out) Bool.false_ne_true
end
end Go.Proofs.YtahdjajdaggmjaaGreatDoor.XPd
end
section
namespace Go.Proofs.YtahdjajdaggmjaaGreatDoor.XPd
open Go.RowKit Go.Proofs.YtahdjajdaggmjaaGreatDoorW.PrintWords Go.Proofs.YtahdjajdaggmjaaGreatDoorW.PrintLast Go.Proofs.YtahdjajdaggmjaaGreatDoorW.PrintMore
attribute [local go_sem] max2_int min2_int max_two min_two max_three min_three max_four min_four
set_option linter.unusedVariables false
set_option linter.unusedSimpArgs false
end Go.Proofs.YtahdjajdaggmjaaGreatDoor.XPd


end
section
set_option maxRecDepth 100000
set_option linter.unusedVariables false
set_option linter.unusedSimpArgs false
namespace Go.Proofs.YtahdjajdaggmjaaGreatDoor
open Go.RowKit Go.ChangeShapes Go.WideShapes Go.ChangeAt
open Go.Proofs.YtahdjajdaggmjaaGreatDoorW.PrintWords
theorem openBytes{G:Type}{enc:TypeId×Value→G}{W:World}{base:Nat}{held:Bool}{v:Value}{d:DataW G}{p:List MemPlace}{r:Reach}{b0:Nat}(hv:Value.okWide Tryz.prog W r b0 23 v)(h:DataW.Trod enc Tryz.prog W base (fun _=>true) held 23 v d p) :
  ∃(A:Option Addr) (cap:Nat) (l:List Int),v=.slice A l.length cap∧l.length≤cap∧Kd.C (Kd.int .u8) W A l.length l∧∀x∈l,0≤x∧x<256:=by
 obtain⟨a0,len0,cap0,rfl⟩:=okWide_slice Tryz.underlying23 hv
 obtain⟨z0,w0⟩:∃zs:List Int,(a0=none∧len0=0∧cap0=0∧zs=[])∨∃x,a0=some x∧len0≤cap0∧cap0≤maxLen∧zs.length=cap0∧(∀i,i<zs.length→W.cell? (x.add i)=some (.int .u8 (zs.getD i 0)))∧∀n∈zs,(Lit.int .u8 n).wf=true:=by
  obtain⟨fuel,hf⟩:=h
  rcases open_ints Tryz.underlying23 Tryz.underlying5 (by kernel_rfl) hf with⟨hcs,_⟩ | ⟨x,l,c,zs,hcs,_,hl,hm,hz,_,hcell,hwz⟩
  ·simp [Value.cells] at hcs
   obtain⟨rfl,rfl,rfl⟩:=hcs
   exact⟨[],.inl ⟨rfl,rfl,rfl,rfl⟩⟩
  ·simp [Value.cells] at hcs
   obtain⟨rfl,rfl,rfl⟩:=hcs
   exact⟨zs,.inr ⟨_,rfl,hl,hm,by simpa using hz,hcell,hwz⟩⟩
 obtain⟨l,rfl,h1,_,h3,h4⟩:=ReadsInt.ofRowC w0
 refine⟨a0,cap0,l,rfl,h4,Kd.C_of_reads (d:=(0:Int)) (h1:=fun _=>rfl) h1,fun x hx=>?_⟩
 have h':0≤x∧x≤255:=by simpa [Lit.wf,IntKind.min,IntKind.max,IntKind.bits,IntKind.signed] using h3 x hx
 omega
end Go.Proofs.YtahdjajdaggmjaaGreatDoor
end
