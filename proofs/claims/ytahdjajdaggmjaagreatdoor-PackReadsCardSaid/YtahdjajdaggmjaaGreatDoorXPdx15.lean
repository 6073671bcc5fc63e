-- Written for this claim by a program of ours (wip/xp.py),out of the translation and of hand-written contracts.
import Derived.Test.YtahdjajdaggmjaaGreatDoorXPdx12
set_option maxRecDepth 100000
section
namespace Go.Proofs.YtahdjajdaggmjaaGreatDoor.XPd
noncomputable section
open Go.RowKit Go.Proofs.YtahdjajdaggmjaaGreatDoorW.PrintWords Go.Proofs.YtahdjajdaggmjaaGreatDoorW.PrintLast Go.Proofs.YtahdjajdaggmjaaGreatDoorW.PrintMore
attribute [local go_sem] max2_int min2_int max_two min_two max_three min_three max_four min_four
set_option linter.unusedVariables false
set_option linter.unusedSimpArgs false
attribute [local go_sem high] eqA113
def r02needed.l0:Nat→List (S113)→Int→Int→Int→Option (Bool)
  | 0,_,_,_,_=>none
  | k+1,x0,x5,x227000,x227001=>if x5<(x0.length:Int) then(if 0≤x5 then(if (!(((rd_T113 x0 x5).f0)==x227000)||(!(((rd_T113 x0 x5).f1)==x227001)))=true then((r02Below.f x227000 x227001 ((rd_T113 x0 x5).f0) ((rd_T113 x0 x5).f1)).bind fun t229=>(if t229=true then(some false) else(r02needed.l0 k x0 (wrap64 (x5+1)) x227000 x227001))) else(r02needed.l0 k x0 (wrap64 (x5+1)) x227000 x227001)) else(none)) else(some true)
def r02needed.f(k:Nat)(l0:List (S113))(a1_0:Int)(a1_1:Int):Option (Bool):=r02needed.l0 k l0 0 a1_0 a1_1
def r02needed.T4:Bool×List (List Nat×List Nat):=(true,[([],[]),([],[]),([0,1],[0,1]),([2],[2]),([],[]),([3,4],[3,4]),([5],[5]),([6],[6]),([6],[6]),([6],[6]),([8,9,6],[6,8,9]),([10,6],[6,10]),([7,11,6,6],[6,7,11]),([6,12],[6,12])])
def r02needed.B4:List Nat:=[0,0,3,7,0,31,63,127,127,127,895,1919,4095,8191]
theorem r02needed.tab4:rtab .any (opsOf Tryz.f99 4)=r02needed.T4:=by kernel_rfl
theorem r02needed.bits4:waitsOk r02needed.T4.2 r02needed.B4=true:=by kernel_rfl
set_option maxHeartbeats 8000000 in
theorem r02needed.calls(k:Nat)(A0:Option Addr)(c0:Nat)(l0:List (S113))(a1_0:Int)(a1_1:Int)(r:Bool)(w:World)(hr0:Kd.C k113 w A0 l0.length l0)(hc0:l0.length≤c0)(h:r02needed.f k l0 a1_0 a1_1=some r) :
  Calls Tryz.prog 99 #[.slice A0 l0.length c0,.agg #[.int .u32 a1_0,.int .u32 a1_1]] w fun e w'=>e=.returned (.bool r)∧Below w.heap.size w w':=by
 have hu113:=Tryz.underlying113
 have HR0:=ak hr0
 have HC0:=ak hc0
 clear hr0 hc0
 have HB:=ak (Below.refl w.heap.size w)
 have H:(r02needed.l0 k l0 0 a1_0 a1_1)=some r:=h
 clear h
 have H':=ak H
 clear H
 go_enter Tryz.func99,Tryz.ntmps99
 go_wp2_with (first | ((with_reducible refine gd_ 3 rfl ?_);refine boxE 3 #[.int .u32 a1_0,.int .u32 a1_1] 113 ?_;intro gb226 hg w3 hbox hb;have BK226:=ak (hbox);have GW226:=ak (tG:w.heap.size≤gb226);have GE226:=ak (tG:w.heap.size≤gb226);replace HB:=ak (below_step tB hb);clear hb hbox hg))
 go_loopg [5] k (fun kq v5 w'=>∃(x5_1:Int),v5=.int .i64 x5_1∧Aside0 (r02needed.l0 kq l0 x5_1 a1_0 a1_1=some r)∧Aside0 (kq≤k)∧Aside0 (w'.heap[gb226]? = some (.cells #[.int .u32 a1_0,.int .u32 a1_1] 113 (0,0)))∧Aside0 (Below w.heap.size w w'))
 case atStart=>exact⟨(0),tS,H',⟨Nat.le_refl _⟩,⟨tK BK226⟩,⟨tBs GE226⟩⟩
 case round =>
  clear H'
  obtain⟨x5_1,rfl,HA,HK1,BK226,HB⟩:=hrel
  cases gk with
  | zero=>exact absurd HA.out (by simp [r02needed.l0])
  | succ k1 =>
   have H:=HA.out
   clear HA
   simp only [r02needed.l0] at H
   replace H:=iD H
   rcases H with⟨c4b0,H⟩ | ⟨c4b0,H⟩
   ·replace H:=niD H
    obtain⟨c5b0,H⟩:=H
    replace H:=iC H
    rcases H with⟨c6,H⟩ | ⟨c6,H⟩
    ·have c6b0:(!(((rd_T113 l0 x5_1).f0)==a1_0)||(!(((rd_T113 l0 x5_1).f1)==a1_1)))=true:=c6
     clear c6
     replace H:=iX H
     obtain⟨t229,A7,H⟩:=H
     replace H:=iB H
     rcases H with⟨rfl,H⟩ | ⟨rfl,H⟩
     ·obtain rfl:=Option.some.inj H
      try go_wp2
      have n0_:=ak (blk_drew BK226.out)
      have n1_:=ak (below_drew1 HB.out)
      clear BK226
      clear HB
      have BK226:=n0_
      have HB:=n1_
      clear n0_ n1_
      have p227:0≤(x5_1:Int):=tA
      have q227:x5_1<(l0.length:Int):=tA
      obtain⟨ad227,e227,hx227_0,hx227_1⟩:=at_T113 HR0.out x5_1 p227 q227
      have hw227_1:=hx227_1
      have hw227_0:=hx227_0
      cases e227
      replace hx227_0:=tc HB hx227_0
      replace hx227_1:=tc HB hx227_1
      replace p227:=eq_true p227
      replace q227:=eq_true q227
      have p228:0≤(x5_1:Int):=tA
      have q228:x5_1<(l0.length:Int):=tA
      obtain⟨ad228,e228,hx228_0,hx228_1⟩:=at_T113 HR0.out x5_1 p228 q228
      have hw228_1:=hx228_1
      have hw228_0:=hx228_0
      obtain rfl:ad227=ad228:=(by injection e228)
      replace hx228_0:=tc HB hx228_0
      replace hx228_1:=tc HB hx228_1
      replace p228:=eq_true p228
      replace q228:=eq_true q228
      refine start_ (n:=14) (S:=fun w'=>w'.cell? ⟨gb226,0,none⟩=some (.int .u32 a1_0)∧w'.cell? ⟨gb226,1,none⟩=some (.int .u32 a1_1)∧w'.cell? (ad227.add ((x5_1).toNat * 2))=some (.int .u32 ((rd_T113 l0 x5_1).f0))∧w'.cell? ⟨(ad227.add ((x5_1).toNat * 2)).block,(ad227.add ((x5_1).toNat * 2)).off+1,none⟩=some (.int .u32 ((rd_T113 l0 x5_1).f1))∧w'.cell? (ad227.add ((x5_1).toNat * 2))=some (.int .u32 ((rd_T113 l0 x5_1).f0))∧w'.cell? ⟨(ad227.add ((x5_1).toNat * 2)).block,(ad227.add ((x5_1).toNat * 2)).off+1,none⟩=some (.int .u32 ((rd_T113 l0 x5_1).f1))) (ds:=[]) #[false,false,false,false,false,false,false,false,false,false,false,false,false,false] (by kernel_rfl) rfl rfl ⟨(blk_cell BK226.out 0).trans rfl,(blk_cell BK226.out 1).trans rfl,((HB.out.cell (World.block_lt_of_cell? w _ hw227_0)).trans hw227_0),((HB.out.cell (World.block_lt_of_cell? w _ hw227_1)).trans hw227_1),((HB.out.cell (World.block_lt_of_cell? w _ hw228_0)).trans hw228_0),((HB.out.cell (World.block_lt_of_cell? w _ hw228_1)).trans hw228_1)⟩ (fun hHeld=>?_);refine with_tabW r02needed.tab4 r02needed.bits4 (fun HT_ HW_=>?_)
      generalize wr.drew=w9 at BK226 HB hx227_0 hx227_1 hx228_0 hx228_1 hHeld ⊢
      refine pw_ 0 12 ?_
      refine pw_ 1 13 ?_
      refine pw_ 2 14 ?_
      refine tw_ 3 15 ?_
      refine tw_ 4 16 ?_
      refine pw_ 5 17 ?_
      refine pw_ 6 18 ?_
      refine pw_ 8 20 ?_
      refine pw_ 9 21 ?_
      refine pw_ 10 22 ?_
      refine tw_ 7 19 ?_
      refine tw_ 11 23 ?_
      refine on_ 12 (some 24) fun K hK=>?_
      refine goes_ Tryz.func111 (by kernel_rfl) rfl #[.agg #[.int .u32 a1_0,.int .u32 a1_1],.agg #[.int .u32 ((rd_T113 l0 x5_1).f0),.int .u32 ((rd_T113 l0 x5_1).f1)]] (by rfl) rfl rfl tM ?_
      with_reducible refine(r02Below.calls a1_0 a1_1 ((rd_T113 l0 x5_1).f0) ((rd_T113 l0 x5_1).f1) true _ A7.out).mono ?_
      rintro e w10 ⟨rfl,hb⟩
      refine⟨_,rfl, ?_⟩
      have n0_:=ak (blk_below (g:=gb226) (o:=.cells #[.int .u32 a1_0,.int .u32 a1_1] 113 (0,0)) (tK BK226) hb)
      have n1_:=ak (below_step (tBs GE226) hb)
      clear BK226
      clear HB
      have BK226:=n0_
      have HB:=n1_
      clear n0_ n1_
      (try clear hb)
      (try clear hb2)
      (try clear hk)
      (try clear hi)
      refine hK.out _ _ ⟨(blk_cell BK226.out 0).trans rfl,(blk_cell BK226.out 1).trans rfl,((HB.out.cell (World.block_lt_of_cell? w _ hw227_0)).trans hw227_0),((HB.out.cell (World.block_lt_of_cell? w _ hw227_1)).trans hw227_1),((HB.out.cell (World.block_lt_of_cell? w _ hw228_0)).trans hw228_0),((HB.out.cell (World.block_lt_of_cell? w _ hw228_1)).trans hw228_1)⟩ (fun hHeld=>?_)
      clear hK K
      refine norm_ (a':=?_) ?_ ?_
      rotate_left
      ·show Act.put _ (some 24) _=_
       simp only [Act.put,List.setIfInBounds_toArray,List.set_cons_zero,List.set_cons_succ,i64_w,i32_w]
       rfl
      refine pw_ 13 25 ?_
      refine done_ (done_of HT_.out (by kernel_rfl)) ?_
      try go_wp2
      go_ret
      exact⟨tE,by repeat (first | (with_reducible first | exact HB.out | apply below_alloc | apply pw_below_drewN | apply below_drew1 | refine below_set ?_ GE226.out) | exact HB.out)⟩
     have H':=ak H
     clear H
     try go_wp2
     have n0_:=ak (blk_drew BK226.out)
     have n1_:=ak (below_drew1 HB.out)
     clear BK226
     clear HB
     have BK226:=n0_
     have HB:=n1_
     clear n0_ n1_
     have p227:0≤(x5_1:Int):=tA
     have q227:x5_1<(l0.length:Int):=tA
     obtain⟨ad227,e227,hx227_0,hx227_1⟩:=at_T113 HR0.out x5_1 p227 q227
     have hw227_1:=hx227_1
     have hw227_0:=hx227_0
     cases e227
     replace hx227_0:=tc HB hx227_0
     replace hx227_1:=tc HB hx227_1
     replace p227:=eq_true p227
     replace q227:=eq_true q227
     have p228:0≤(x5_1:Int):=tA
     have q228:x5_1<(l0.length:Int):=tA
     obtain⟨ad228,e228,hx228_0,hx228_1⟩:=at_T113 HR0.out x5_1 p228 q228
     have hw228_1:=hx228_1
     have hw228_0:=hx228_0
     obtain rfl:ad227=ad228:=(by injection e228)
     replace hx228_0:=tc HB hx228_0
     replace hx228_1:=tc HB hx228_1
     replace p228:=eq_true p228
     replace q228:=eq_true q228
     refine start_ (n:=14) (S:=fun w'=>w'.cell? ⟨gb226,0,none⟩=some (.int .u32 a1_0)∧w'.cell? ⟨gb226,1,none⟩=some (.int .u32 a1_1)∧w'.cell? (ad227.add ((x5_1).toNat * 2))=some (.int .u32 ((rd_T113 l0 x5_1).f0))∧w'.cell? ⟨(ad227.add ((x5_1).toNat * 2)).block,(ad227.add ((x5_1).toNat * 2)).off+1,none⟩=some (.int .u32 ((rd_T113 l0 x5_1).f1))∧w'.cell? (ad227.add ((x5_1).toNat * 2))=some (.int .u32 ((rd_T113 l0 x5_1).f0))∧w'.cell? ⟨(ad227.add ((x5_1).toNat * 2)).block,(ad227.add ((x5_1).toNat * 2)).off+1,none⟩=some (.int .u32 ((rd_T113 l0 x5_1).f1))) (ds:=[]) #[false,false,false,false,false,false,false,false,false,false,false,false,false,false] (by kernel_rfl) rfl rfl ⟨(blk_cell BK226.out 0).trans rfl,(blk_cell BK226.out 1).trans rfl,((HB.out.cell (World.block_lt_of_cell? w _ hw227_0)).trans hw227_0),((HB.out.cell (World.block_lt_of_cell? w _ hw227_1)).trans hw227_1),((HB.out.cell (World.block_lt_of_cell? w _ hw228_0)).trans hw228_0),((HB.out.cell (World.block_lt_of_cell? w _ hw228_1)).trans hw228_1)⟩ (fun hHeld=>?_);refine with_tabW r02needed.tab4 r02needed.bits4 (fun HT_ HW_=>?_)
     generalize wr.drew=w11 at BK226 HB hx227_0 hx227_1 hx228_0 hx228_1 hHeld ⊢
     refine pw_ 0 12 ?_
     refine pw_ 1 13 ?_
     refine pw_ 2 14 ?_
     refine tw_ 3 15 ?_
     refine tw_ 4 16 ?_
     refine pw_ 5 17 ?_
     refine pw_ 6 18 ?_
     refine pw_ 8 20 ?_
     refine pw_ 9 21 ?_
     refine pw_ 10 22 ?_
     refine tw_ 7 19 ?_
     refine tw_ 11 23 ?_
     refine on_ 12 (some 24) fun K hK=>?_
     refine goes_ Tryz.func111 (by kernel_rfl) rfl #[.agg #[.int .u32 a1_0,.int .u32 a1_1],.agg #[.int .u32 ((rd_T113 l0 x5_1).f0),.int .u32 ((rd_T113 l0 x5_1).f1)]] (by rfl) rfl rfl tM ?_
     with_reducible refine(r02Below.calls a1_0 a1_1 ((rd_T113 l0 x5_1).f0) ((rd_T113 l0 x5_1).f1) false _ A7.out).mono ?_
     rintro e w12 ⟨rfl,hb⟩
     refine⟨_,rfl, ?_⟩
     have n0_:=ak (blk_below (g:=gb226) (o:=.cells #[.int .u32 a1_0,.int .u32 a1_1] 113 (0,0)) (tK BK226) hb)
     have n1_:=ak (below_step (tBs GE226) hb)
     clear BK226
     clear HB
     have BK226:=n0_
     have HB:=n1_
     clear n0_ n1_
     (try clear hb)
     (try clear hb2)
     (try clear hk)
     (try clear hi)
     refine hK.out _ _ ⟨(blk_cell BK226.out 0).trans rfl,(blk_cell BK226.out 1).trans rfl,((HB.out.cell (World.block_lt_of_cell? w _ hw227_0)).trans hw227_0),((HB.out.cell (World.block_lt_of_cell? w _ hw227_1)).trans hw227_1),((HB.out.cell (World.block_lt_of_cell? w _ hw228_0)).trans hw228_0),((HB.out.cell (World.block_lt_of_cell? w _ hw228_1)).trans hw228_1)⟩ (fun hHeld=>?_)
     clear hK K
     refine norm_ (a':=?_) ?_ ?_
     rotate_left
     ·show Act.put _ (some 24) _=_
      simp only [Act.put,List.setIfInBounds_toArray,List.set_cons_zero,List.set_cons_succ,i64_w,i32_w]
      rfl
     refine pw_ 13 25 ?_
     refine done_ (done_of HT_.out (by kernel_rfl)) ?_
     try go_wp2
     go_roundg k1
     case measure=>have:=HK1.out;omega
     case rel=>exact⟨(wrap64 (x5_1+1)),tS,H',⟨by have:=HK1.out;omega⟩,⟨tK BK226⟩,⟨tBs GE226⟩⟩
    have c6b0:(!(((rd_T113 l0 x5_1).f0)==a1_0)||(!(((rd_T113 l0 x5_1).f1)==a1_1)))=false:=by simpa using c6
    clear c6
    have H':=ak H
    clear H
    try go_wp2
    have n0_:=ak (blk_drew BK226.out)
    have n1_:=ak (below_drew1 HB.out)
    clear BK226
    clear HB
    have BK226:=n0_
    have HB:=n1_
    clear n0_ n1_
    have p227:0≤(x5_1:Int):=tA
    have q227:x5_1<(l0.length:Int):=tA
    obtain⟨ad227,e227,hx227_0,hx227_1⟩:=at_T113 HR0.out x5_1 p227 q227
    have hw227_1:=hx227_1
    have hw227_0:=hx227_0
    cases e227
    replace hx227_0:=tc HB hx227_0
    replace hx227_1:=tc HB hx227_1
    replace p227:=eq_true p227
    replace q227:=eq_true q227
    refine start_ (n:=14) (S:=fun w'=>w'.cell? ⟨gb226,0,none⟩=some (.int .u32 a1_0)∧w'.cell? ⟨gb226,1,none⟩=some (.int .u32 a1_1)∧w'.cell? (ad227.add ((x5_1).toNat * 2))=some (.int .u32 ((rd_T113 l0 x5_1).f0))∧w'.cell? ⟨(ad227.add ((x5_1).toNat * 2)).block,(ad227.add ((x5_1).toNat * 2)).off+1,none⟩=some (.int .u32 ((rd_T113 l0 x5_1).f1))) (ds:=[]) #[false,false,false,false,false,false,false,false,false,false,false,false,false,false] (by kernel_rfl) rfl rfl ⟨(blk_cell BK226.out 0).trans rfl,(blk_cell BK226.out 1).trans rfl,((HB.out.cell (World.block_lt_of_cell? w _ hw227_0)).trans hw227_0),((HB.out.cell (World.block_lt_of_cell? w _ hw227_1)).trans hw227_1)⟩ (fun hHeld=>?_);refine with_tabW r02needed.tab4 r02needed.bits4 (fun HT_ HW_=>?_)
    generalize wr.drew=w13 at BK226 HB hx227_0 hx227_1 hHeld ⊢
    refine pw_ 0 12 ?_
    refine pw_ 1 13 ?_
    refine pw_ 2 14 ?_
    refine tw_ 3 15 ?_
    refine tw_ 4 16 ?_
    refine pw_ 5 17 ?_
    refine pw_ 6 18 ?_
    refine po_ 7 19 ?_
    refine po_ 8 20 ?_
    refine po_ 9 21 ?_
    refine po_ 10 22 ?_
    refine po_ 11 23 ?_
    refine po_ 12 24 ?_
    refine pw_ 13 25 ?_
    refine done_ (done_of HT_.out (by kernel_rfl)) ?_
    try go_wp2
    go_roundg k1
    case measure=>have:=HK1.out;omega
    case rel=>exact⟨(wrap64 (x5_1+1)),tS,H',⟨by have:=HK1.out;omega⟩,⟨tK BK226⟩,⟨tBs GE226⟩⟩
   obtain rfl:=Option.some.inj H
   go_wp2
   go_ret
   exact⟨tE,by repeat (first | (with_reducible first | exact HB.out | apply below_alloc | apply pw_below_drewN | apply below_drew1 | refine below_set ?_ GE226.out) | exact HB.out)⟩
def r02Less.f(a0_0:Int)(a0_1:Int)(a1_0:Int)(a1_1:Int):Option (Bool):=if a0_0<a1_0 then(some true) else(if a0_0=a1_0 then(some (decide (a0_1<a1_1))) else(some false))
theorem r02Less.z0{p:Prop}(h_:p:=by go_wp2_with (first | ((with_reducible refine gd_ 2 rfl ?_);refine boxE 2 #[.int .u32 a0_0,.int .u32 a0_1] 113 ?_;intro gb230 hg wa hbox hb;have BK230:=ak (hbox);have GW230:=ak (tG:w.heap.size≤gb230);have GE230:=ak (tG:w.heap.size≤gb230);replace HB:=ak (below_step tB hb);clear hb hbox hg) | ((with_reducible refine gd_ 3 rfl ?_);refine boxE 3 #[.int .u32 a1_0,.int .u32 a1_1] 113 ?_;intro gb231 hg wa hbox hb;have BK231:=ak (hbox);have GW231:=ak ((by rw [hg];exact(below_size (tBs GE230)):w.heap.size≤gb231));have GE231:=ak ((by rw [hg];exact(below_size (tBs GE230)):w.heap.size≤gb231));replace HB:=ak (below_step (tBs GE230) hb);have NB230_231:=ak ((by rw [hg];exact Nat.ne_of_lt (blk_lt (g:=gb230) (o:=.cells #[.int .u32 a0_0,.int .u32 a0_1] 113 (0,0)) (tK BK230)):gb230≠gb231));have NB231_230:=ak ((by rw [hg];exact Nat.ne_of_gt (blk_lt (g:=gb230) (o:=.cells #[.int .u32 a0_0,.int .u32 a0_1] 113 (0,0)) (tK BK230)):gb231≠gb230));replace BK230:=ak (blk_below (g:=gb230) (o:=.cells #[.int .u32 a0_0,.int .u32 a0_1] 113 (0,0)) (tK BK230) hb);clear hb hbox hg;have hnba:=NB230_231.out;have hnca:=NB231_230.out;have hcza:=cz2 BK230.out;have hczb:=cz2 BK231.out));go_ret;exact⟨tE,by repeat (first | (with_reducible first | exact HB.out | apply below_alloc | apply pw_below_drewN | apply below_drew1 | refine below_set ?_ GE230.out | refine below_set ?_ GE231.out) | exact HB.out)⟩):p:=h_
set_option maxHeartbeats 8000000 in
theorem r02Less.calls(a0_0:Int)(a0_1:Int)(a1_0:Int)(a1_1:Int)(r:Bool)(w:World)(h:r02Less.f a0_0 a0_1 a1_0 a1_1=some r) :
  Calls Tryz.prog 100 #[.agg #[.int .u32 a0_0,.int .u32 a0_1],.agg #[.int .u32 a1_0,.int .u32 a1_1]] w fun e w'=>e=.returned (.bool r)∧Below w.heap.size w w':=by
 have hu113:=Tryz.underlying113
 have HB:=ak (Below.refl w.heap.size w)
 have H:(if a0_0<a1_0 then(some true) else(if a0_0=a1_0 then(some (decide (a0_1<a1_1))) else(some false)))=some r:=h
 clear h
 replace H:=iD H
 rcases H with⟨c3b0,H⟩ | ⟨c3b0,H⟩
 ·obtain rfl:=Option.some.inj H
  go_enter Tryz.func100,Tryz.ntmps100
  exact r02Less.z0
 replace H:=iE H
 rcases H with⟨c9b0,c9b1,H⟩ | ⟨c9,c9b0,c9b1,H⟩
 ·obtain rfl:=Option.some.inj H
  go_enter Tryz.func100,Tryz.ntmps100
  exact r02Less.z0
 obtain rfl:=Option.some.inj H
 go_enter Tryz.func100,Tryz.ntmps100
 exact r02Less.z0
theorem power24:r01power.f 30 24=some 16777216:=by decide +kernel
theorem refr24(x:UInt32):r01Right.f 30 (un x)=some (H.r1 x):=by
  have h:=un_range x
  have e:wrap64 (un x)=un x:=by
    unfold wrap64
    omega
  unfold r01Right.f
  rw [power24,Option.bind_some,e]
  unfold H.r1 un
  rw [Option.some.injEq,Bool.eq_iff_iff,decide_eq_true_eq,decide_eq_true_eq]
  omega
theorem refright24(c:H.C):r02Right.f 30 (un c.1) (un c.2)=some (H.ok c):=by
  unfold r02Right.f
  rw [refr24,Option.bind_some,refr24,Option.bind_some]
  unfold H.ok
  cases H.r1 c.1<;>rfl
theorem refbelow24(a b:H.C):r02Below.f (un a.1) (un a.2) (un b.1) (un b.2)=some (H.below a b):=by
  unfold r02Below.f
  rw [un_or,un_or,un_beq]
  by_cases h:a.1 ||| b.1=a.1
  · rw [if_pos (by rw [h]),Option.some.injEq,Bool.eq_iff_iff,H.below_iff]
    simp [h]
  · rw [if_neg (fun e=>h (un_inj.1 e)),Option.some.injEq,Bool.eq_iff_iff,H.below_iff]
    simp [h]
theorem less24(a b:H.C):r02Less.f (un a.1) (un a.2) (un b.1) (un b.2)=some (H.ltC a b):=by
  unfold r02Less.f H.ltC
  by_cases h:a.1.toNat<b.1.toNat
  · rw [if_pos (by unfold un;omega),decide_eq_true (.inl h)]
  · rw [if_neg (by unfold un;omega)]
    by_cases h2:a.1=b.1
    · rw [if_pos (by rw [h2]),Option.some.injEq,Bool.eq_iff_iff,decide_eq_true_eq,decide_eq_true_eq]
      unfold un
      constructor
      · intro h3
        exact .inr ⟨h2,by omega⟩
      · rintro(h3 | ⟨_,h3⟩)
        · exact absurd h3 h
        · omega
    · rw [if_neg (fun e=>h2 (un_inj.1 e)),decide_eq_false]
      rintro(h3 | ⟨h3,_⟩)
      · exact h h3
      · exact h2 h3
theorem needed_l024(l:List H.C)(c:H.C)(hl:l.length≤1000000):∀(d k i:Nat),i+d=l.length→d<k→(∀x∈l.take i,(decide (x≠c)&&H.below c x)=false)→r02needed.l0 k (l.map ofC24) (i:Int) (un c.1) (un c.2)=some (H.needed l c)
  | d,0,_,_,hk,_=>absurd hk (by omega)
  | 0,k+1,i,hi,_,ht=>by
    rw [r02needed.l0,if_neg (by rw [List.length_map];omega)]
    unfold H.needed
    rw [List.any_eq_false.2]
    · rfl
    · intro x hx
      rw [ht x (by rw [List.take_of_length_le (by omega)];exact hx)]
      exact Bool.false_ne_true
  | d+1,k+1,i,hi,hk,ht=>by
    have hil:i<l.length:=by omega
    have e2:wrap64 ((i:Int)+1)=((i+1:Nat):Int):=by
      unfold wrap64
      omega
    have r:rd_T113 (l.map ofC24) (i:Int)=ofC24 l[i]:=by
      unfold rd_T113
      rw [Int.toNat_natCast,List.getD_eq_getElem?_getD,List.getElem?_map,List.getElem?_eq_getElem hil]
      rfl
    have hq:(!((ofC24 l[i]).f0==un c.1) || !((ofC24 l[i]).f1==un c.2))=decide (l[i]≠c):=by
      unfold ofC24
      rw [un_beq,un_beq,Bool.eq_iff_iff]
      simp [Prod.ext_iff]
    have next:(decide (l[i]≠c)&&H.below c l[i])=false→r02needed.l0 k (l.map ofC24) ((i+1:Nat):Int) (un c.1) (un c.2)=some (H.needed l c):=fun hn=>by
      refine needed_l024 l c hl d k (i+1) (by omega) (by omega) fun x hx=>?_
      rw [List.take_succ_eq_append_getElem hil] at hx
      rcases List.mem_append.1 hx with h | h
      · exact ht x h
      · rw [List.mem_singleton.1 h]
        exact hn
    have hB:r02Below.f (un c.1) (un c.2) (ofC24 l[i]).f0 (ofC24 l[i]).f1=some (H.below c l[i]):=refbelow24 c l[i]
    rw [r02needed.l0,if_pos (by rw [List.length_map];omega),if_pos (by omega),r,hq,e2,hB,Option.bind_some]
    by_cases h1:l[i]=c
    · rw [if_neg (by simp [h1])]
      exact next (by simp [h1])
    · rw [if_pos (by simp [h1])]
      cases h2:H.below c l[i]
      · rw [if_neg (by simp)]
        exact next (by rw [h2,Bool.and_false])
      · rw [if_pos rfl]
        unfold H.needed
        rw [List.any_eq_true.2 ⟨l[i],List.getElem_mem _,by rw [h2];simp [h1]⟩]
        rfl
theorem smallR24:SmallR where
  right c w:=r02Right.calls 30 (un c.1) (un c.2) (H.ok c) w (refright24 c)
  less a b w:=r02Less.calls (un a.1) (un a.2) (un b.1) (un b.2) (H.ltC a b) w (less24 a b)
  needed A cap l c w hR hc hl:=by
    have h:=r02needed.calls (l.length+1) A cap (l.map ofC24) (un c.1) (un c.2) (H.needed l c) w (kd24 hR hl) (by rw [List.length_map];exact hc) (needed_l024 l c hl l.length _ 0 (by omega) (by omega) (by simp))
    rw [List.length_map] at h
    exact h
def r02Least.f(l0:List S113):Option (List S113×Int):=if okL24 l0 then some ((H.leastR (l0.map toC24)).1.map ofC24,(H.leastR (l0.map toC24)).2) else none
theorem r02Least.calls(A0:Option Addr)(c0:Nat)(l0:List (S113))(r1:List (S113))(r2:Int)(w:World)(hr0:Kd.C k113 w A0 l0.length l0)(hc0:l0.length≤c0)(h:r02Least.f l0=some (r1,r2)) :
    Calls Tryz.prog 81 #[.slice A0 l0.length c0] w fun e w'=>∃v0_:Value,e=.returned (.tuple #[v0_,.int .i64 r2])∧Kd.R k113 113 w' w.heap.size (fun _=>True) v0_ r1∧Below w.heap.size w w':=by
 unfold r02Least.f at h
 by_cases hr:okL24 l0
 ·rw [if_pos hr] at h
  simp only [Option.some.injEq,Prod.mk.injEq] at h
  obtain⟨rfl,rfl⟩:=h
  have hk0:=hr
  have hc:=ref_Least smallR24 A0 c0 (l0.map toC24) w (rd24 hr0 hk0.1 hk0.2) (by rw [List.length_map];exact hc0) (by rw [List.length_map];exact hk0.2)
  simp only [List.length_map] at hc
  refine hc.mono ?_
  rintro e w' ⟨v,rfl,ho,hb⟩
  exact⟨v,rfl,own24 ho,hb⟩
 ·rw [if_neg hr] at h
  exact absurd h (by simp)
def r03Right.f(k:Nat)(l0:List (S113)):Option (Bool):=(r02Least.f l0).bind fun bt232=>(if bt232.2=0 then((r02Same.f k bt232.1 l0).bind fun t236=>(some t236)) else(some false))
theorem r03Right.mono:∀a0 k,LeO (r03Right.f k a0) (r03Right.f (k+1) a0):=by
  intro a0 k
  unfold r03Right.f
  have m0_:=@r02Same.mono
  exact tMo
set_option maxHeartbeats 8000000 in
theorem r03Right.calls(k:Nat)(A0:Option Addr)(c0:Nat)(l0:List (S113))(r:Bool)(w:World)(hr0:Kd.C k113 w A0 l0.length l0)(hc0:l0.length≤c0)(h:r03Right.f k l0=some r) :
  Calls Tryz.prog 65 #[.slice A0 l0.length c0] w fun e w'=>e=.returned (.bool r)∧Below w.heap.size w w':=by
 have HR0:=ak hr0
 have HC0:=ak hc0
 clear hr0 hc0
 have HB:=ak (Below.refl w.heap.size w)
 have H:((r02Least.f l0).bind fun bt232=>(if bt232.2=0 then((r02Same.f k bt232.1 l0).bind fun t236=>(some t236)) else(some false)))=some r:=h
 clear h
 replace H:=iX H
 obtain⟨⟨t232,t233⟩,A2,H⟩:=H
 try dsimp only at H
 replace H:=iE H
 rcases H with⟨c3b0,c3b1,H⟩ | ⟨c3,c3b0,c3b1,H⟩
 ·replace H:=iX H
  obtain⟨t236,A4,H⟩:=H
  obtain rfl:=Option.some.inj H
  go_enter Tryz.func65,Tryz.ntmps65
  go_wp2_with (first | ((with_reducible refine gf_ 81 rfl ?_);refine gC_ (some 7) Tryz.func81 #[.slice A0 l0.length c0] ?_;(with_reducible refine(r02Least.calls _ _ l0 t232 t233 _ ?side1 ?side2 A2.out).mono ?_);(case side1=>repeat (first | exact HR0.out | (with_reducible refine Kd.C_alloc ?_ _) | (with_reducible refine Kd.C_drewN ?_ _) | (with_reducible refine Kd.C_drew ?_)));(case side2=>exact HC0.out);rintro e w5 ⟨v234,rfl,ho0,hb⟩;refine⟨_,rfl, ?_⟩;have HO235:=ak (Kd.R_lower ho0 (below_size tB));replace HB:=ak (below_step tB hb);(try clear hb);(try clear ho0);obtain⟨Aoh235,coh235,eoh235⟩:=Kd.R_slice HO235.out;subst eoh235) | (go_at_call 51;(with_reducible refine(r02Same.calls k _ _ t232 _ _ l0 t236 _ ?side1 ?side2 ?side3 ?side4 A4.out).mono ?_);(case side1=>exact tCr HO235);(case side2=>exact(Kd.R_reads' HO235.out).2.1);(case side3=>exact tCb HR0 HB);(case side4=>exact HC0.out);rintro e w' ⟨rfl,⟨nd,rfl⟩⟩))
  go_ret
  exact⟨tE,tB⟩
 obtain rfl:=Option.some.inj H
 go_enter Tryz.func65,Tryz.ntmps65
 go_wp2_with (first | ((with_reducible refine gf_ 81 rfl ?_);refine gC_ (some 7) Tryz.func81 #[.slice A0 l0.length c0] ?_;(with_reducible refine(r02Least.calls _ _ l0 t232 t233 _ ?side1 ?side2 A2.out).mono ?_);(case side1=>repeat (first | exact HR0.out | (with_reducible refine Kd.C_alloc ?_ _) | (with_reducible refine Kd.C_drewN ?_ _) | (with_reducible refine Kd.C_drew ?_)));(case side2=>exact HC0.out);rintro e w7 ⟨v234,rfl,ho0,hb⟩;refine⟨_,rfl, ?_⟩;have HO235:=ak (Kd.R_lower ho0 (below_size tB));replace HB:=ak (below_step tB hb);(try clear hb);(try clear ho0)))
 go_ret
 exact⟨tE,tB⟩
def r01Has.f(k:Nat)(a0:Int)(a1:Int):Option (Bool):=if a1≥0 then(if a1<24 then((r01power.f k a1).bind fun t237=>(if t237=0 then(none) else(some ((Int.tmod (wrap64 (Int.tdiv (wrap64 (a0)) t237)) 2)==1)))) else(some false)) else(some false)
theorem r01Has.mono:∀a0 a1 k,LeO (r01Has.f k a0 a1) (r01Has.f (k+1) a0 a1):=by
  intro a0 a1 k
  unfold r01Has.f
  have m0_:=@r01power.mono
  exact tMo
set_option maxHeartbeats 8000000 in
theorem r01Has.calls(k:Nat)(a0:Int)(a1:Int)(r:Bool)(w:World)(h:r01Has.f k a0 a1=some r) :
  Calls Tryz.prog 101 #[.int .u32 a0,.int .i64 a1] w fun e w'=>e=.returned (.bool r)∧Drawn0 w w':=by
 have H:(if a1≥0 then(if a1<24 then((r01power.f k a1).bind fun t237=>(if t237=0 then(none) else(some ((Int.tmod (wrap64 (Int.tdiv (wrap64 (a0)) t237)) 2)==1)))) else(some false)) else(some false))=some r:=h
 clear h
 replace H:=iG H
 rcases H with⟨c3b0,H⟩ | ⟨c3b0,H⟩
 ·replace H:=iD H
  rcases H with⟨c4b0,H⟩ | ⟨c4b0,H⟩
  ·replace H:=iX H
   obtain⟨t237,A5,H⟩:=H
   by_cases c6:t237=0
   ·rw [if_pos c6] at H
    exact absurd H (by simp)
   ·rw [if_neg c6] at H
    have c6b0:(t237==0)=false:=beq_eq_false_iff_ne.mpr c6
    have c6b1:(t237 != 0)=true:=bne_iff_ne.mpr c6
    obtain rfl:=Option.some.inj H
    go_enter Tryz.func101,Tryz.ntmps101
    go_wp2_with (first | (go_at_call 112;(with_reducible refine(r01power.calls k a1 t237 _ A5.out).mono ?_);rintro e w' ⟨rfl,⟨nd,rfl⟩⟩))
    go_ret
    exact⟨tS,tD⟩
  obtain rfl:=Option.some.inj H
  go_enter Tryz.func101,Tryz.ntmps101
  exact zz0
 obtain rfl:=Option.some.inj H
 go_enter Tryz.func101,Tryz.ntmps101
 exact zz0
end
end Go.Proofs.YtahdjajdaggmjaaGreatDoor.XPd
end
section
namespace Go.Proofs.YtahdjajdaggmjaaGreatDoor.XPd
noncomputable section
open Go.RowKit Go.Proofs.YtahdjajdaggmjaaGreatDoorW.PrintWords Go.Proofs.YtahdjajdaggmjaaGreatDoorW.PrintLast Go.Proofs.YtahdjajdaggmjaaGreatDoorW.PrintMore
attribute [local go_sem] max2_int min2_int max_two min_two max_three min_three max_four min_four
set_option linter.unusedVariables false
set_option linter.unusedSimpArgs false
def r02Clash.l0:Nat→Int→Int→Int→Option (Bool)
  | 0,_,_,_=>none
  | k+1,x3,x239000,x239001=>if x3<24 then((r01Has.f k x239000 x3).bind fun t239=>(if t239=true then((r01Has.f k x239001 x3).bind fun t240=>(if t240=true then(some true) else(r02Clash.l0 k (wrap64 (x3+1)) x239000 x239001))) else(r02Clash.l0 k (wrap64 (x3+1)) x239000 x239001))) else(some false)
def r02Clash.f(k:Nat)(a0_0:Int)(a0_1:Int):Option (Bool):=r02Clash.l0 k 0 a0_0 a0_1
theorem r02Clash.mono_l:∀k,(∀y0 y1 y2,LeO (r02Clash.l0 k y0 y1 y2) (r02Clash.l0 (k+1) y0 y1 y2))
  | 0=>fun _ _ _ r h=>by simp [r02Clash.l0] at h
  | k+1=>by
    have ih0:=r02Clash.mono_l k
    · intros;unfold r02Clash.l0;have m0_:=@r01Has.mono;exact tMo
theorem r02Clash.mono:∀a0 a1 k,LeO (r02Clash.f k a0 a1) (r02Clash.f (k+1) a0 a1):=by
  intro a0 a1 k
  have ih0:=r02Clash.mono_l k
  unfold r02Clash.f
  have m0_:=@r01Has.mono
  exact tMo
theorem r02Clash.z0{p:Prop}(h_:p:=by (first | (obtain rfl:=Option.some.inj H) | (have H':=ak H;clear H));(try (have hcz:=cz2 BK238.out));go_wp2_with (first | ((with_reducible refine gf_ 101 rfl ?_);refine gC_ (some 11) Tryz.func101 #[.int .u32 a0_0,.int .i64 x3_1] ?_;(with_reducible refine(r01Has.calls k1 a0_0 x3_1 true _ A4.out).mono ?_);rintro e w' ⟨rfl,⟨nd,rfl⟩⟩;refine⟨_,rfl, ?_⟩) | (go_at_call 101;(with_reducible refine(r01Has.calls k1 a0_1 x3_1 false _ A6.out).mono ?_);rintro e w' ⟨rfl,⟨nd,rfl⟩⟩) | (go_at_call 101;(with_reducible refine(r01Has.calls k1 a0_1 x3_1 true _ A6.out).mono ?_);rintro e w' ⟨rfl,⟨nd,rfl⟩⟩));first | (go_roundg k1;(case measure=>have:=HK1.out;omega);(case rel=>exact⟨(wrap64 (x3_1+1)),tS,H',⟨by have:=HK1.out;omega⟩,⟨tK BK238⟩,⟨tBs GE238⟩⟩)) | (go_ret;exact⟨tE,by repeat (first | (with_reducible first | exact HB.out | apply below_alloc | apply pw_below_drewN | apply below_drew1 | refine below_set ?_ GE238.out) | exact HB.out)⟩)):p:=h_
set_option maxHeartbeats 8000000 in
theorem r02Clash.calls(k:Nat)(a0_0:Int)(a0_1:Int)(r:Bool)(w:World)(h:r02Clash.f k a0_0 a0_1=some r) :
  Calls Tryz.prog 82 #[.agg #[.int .u32 a0_0,.int .u32 a0_1]] w fun e w'=>e=.returned (.bool r)∧Below w.heap.size w w':=by
 have hu113:=Tryz.underlying113
 have HB:=ak (Below.refl w.heap.size w)
 have H:(r02Clash.l0 k 0 a0_0 a0_1)=some r:=h
 clear h
 have H':=ak H
 clear H
 go_enter Tryz.func82,Tryz.ntmps82
 go_wp2_with (first | ((with_reducible refine gd_ 1 rfl ?_);refine boxE 1 #[.int .u32 a0_0,.int .u32 a0_1] 113 ?_;intro gb238 hg w2 hbox hb;have BK238:=ak (hbox);have GW238:=ak (tG:w.heap.size≤gb238);have GE238:=ak (tG:w.heap.size≤gb238);replace HB:=ak (below_step tB hb);clear hb hbox hg))
 go_loopg [3] k (fun kq v3 w'=>∃(x3_1:Int),v3=.int .i64 x3_1∧Aside0 (r02Clash.l0 kq x3_1 a0_0 a0_1=some r)∧Aside0 (kq≤k)∧Aside0 (w'.heap[gb238]? = some (.cells #[.int .u32 a0_0,.int .u32 a0_1] 113 (0,0)))∧Aside0 (Below w.heap.size w w'))
 case atStart=>exact⟨(0),tS,H',⟨Nat.le_refl _⟩,⟨tK BK238⟩,⟨tBs GE238⟩⟩
 case round =>
  clear H'
  obtain⟨x3_1,rfl,HA,HK1,BK238,HB⟩:=hrel
  cases gk with
  | zero=>exact absurd HA.out (by simp [r02Clash.l0])
  | succ k1 =>
   have H:=HA.out
   clear HA
   simp only [r02Clash.l0] at H
   replace H:=iD H
   rcases H with⟨c3b0,H⟩ | ⟨c3b0,H⟩
   ·replace H:=iX H
    obtain⟨t239,A4,H⟩:=H
    replace H:=iB H
    rcases H with⟨rfl,H⟩ | ⟨rfl,H⟩
    ·replace H:=iX H
     obtain⟨t240,A6,H⟩:=H
     replace H:=iB H
     rcases H with⟨rfl,H⟩ | ⟨rfl,H⟩
     ·exact r02Clash.z0
     exact r02Clash.z0
    have H':=ak H
    clear H
    have hcz10:=cz2 BK238.out
    go_wp2_with (first | ((with_reducible refine gf_ 101 rfl ?_);refine gC_ (some 11) Tryz.func101 #[.int .u32 a0_0,.int .i64 x3_1] ?_;(with_reducible refine(r01Has.calls k1 a0_0 x3_1 false _ A4.out).mono ?_);rintro e w' ⟨rfl,⟨nd,rfl⟩⟩;refine⟨_,rfl, ?_⟩))
    go_roundg k1
    case measure=>have:=HK1.out;omega
    case rel=>exact⟨(wrap64 (x3_1+1)),tS,H',⟨by have:=HK1.out;omega⟩,⟨tK BK238⟩,⟨tBs GE238⟩⟩
   obtain rfl:=Option.some.inj H
   go_wp2
   go_ret
   exact⟨tE,by repeat (first | (with_reducible first | exact HB.out | apply below_alloc | apply pw_below_drewN | apply below_drew1 | refine below_set ?_ GE238.out) | exact HB.out)⟩
def r05Right.l0:Nat→List (S113)→Int→Option (Bool)
  | 0,_,_=>none
  | k+1,x0,x3=>if x3<(x0.length:Int) then(if 0≤x3 then((r02Clash.f k ((rd_T113 x0 x3).f0) ((rd_T113 x0 x3).f1)).bind fun t243=>(if t243=true then(some false) else(r05Right.l0 k x0 (wrap64 (x3+1))))) else(none)) else(some true)
def r05Right.f(k:Nat)(l0:List (S113)):Option (Bool):=(r03Right.f k l0).bind fun t241=>(if t241=true then(r05Right.l0 k l0 0) else(some false))
theorem r05Right.mono_l:∀k,(∀y0 y1,LeO (r05Right.l0 k y0 y1) (r05Right.l0 (k+1) y0 y1))
  | 0=>fun _ _ r h=>by simp [r05Right.l0] at h
  | k+1=>by
    have ih0:=r05Right.mono_l k
    · intros;unfold r05Right.l0;have m0_:=@r02Clash.mono;have m1_:=@r03Right.mono;exact tMo
theorem r05Right.mono:∀a0 k,LeO (r05Right.f k a0) (r05Right.f (k+1) a0):=by
  intro a0 k
  have ih0:=r05Right.mono_l k
  unfold r05Right.f
  have m0_:=@r02Clash.mono
  have m1_:=@r03Right.mono
  exact tMo
set_option maxHeartbeats 8000000 in
theorem r05Right.calls(k:Nat)(A0:Option Addr)(c0:Nat)(l0:List (S113))(r:Bool)(w:World)(hr0:Kd.C k113 w A0 l0.length l0)(hc0:l0.length≤c0)(h:r05Right.f k l0=some r) :
  Calls Tryz.prog 66 #[.slice A0 l0.length c0] w fun e w'=>e=.returned (.bool r)∧Below w.heap.size w w':=by
 have hu113:=Tryz.underlying113
 have HR0:=ak hr0
 have HC0:=ak hc0
 clear hr0 hc0
 have HB:=ak (Below.refl w.heap.size w)
 have H:((r03Right.f k l0).bind fun t241=>(if t241=true then(r05Right.l0 k l0 0) else(some false)))=some r:=h
 clear h
 replace H:=iX H
 obtain⟨t241,A2,H⟩:=H
 replace H:=iB H
 rcases H with⟨rfl,H⟩ | ⟨rfl,H⟩
 ·have H':=ak H
  clear H
  go_enter Tryz.func66,Tryz.ntmps66
  go_wp2_with (first | ((with_reducible refine gf_ 65 rfl ?_);refine gC_ (some 5) Tryz.func65 #[.slice A0 l0.length c0] ?_;(with_reducible refine(r03Right.calls k _ _ l0 true _ ?side1 ?side2 A2.out).mono ?_);(case side1=>repeat (first | exact HR0.out | (with_reducible refine Kd.C_alloc ?_ _) | (with_reducible refine Kd.C_drewN ?_ _) | (with_reducible refine Kd.C_drew ?_)));(case side2=>exact HC0.out);rintro e w4 ⟨rfl,hb⟩;refine⟨_,rfl, ?_⟩;replace HB:=ak (below_step tB hb);(try clear hb)))
  go_loopg [3] k (fun kq v3 w'=>∃(x3_1:Int),v3=.int .i64 x3_1∧Aside0 (r05Right.l0 kq l0 x3_1=some r)∧Aside0 (kq≤k)∧Aside0 (Below w.heap.size w w'))
  case atStart=>exact⟨(0),tS,H',⟨Nat.le_refl _⟩,⟨tB⟩⟩
  case round =>
   clear H'
   obtain⟨x3_1,rfl,HA,HK1,HB⟩:=hrel
   cases gk with
   | zero=>exact absurd HA.out (by simp [r05Right.l0])
   | succ k1 =>
    have H:=HA.out
    clear HA
    simp only [r05Right.l0] at H
    replace H:=iD H
    rcases H with⟨c5b0,H⟩ | ⟨c5b0,H⟩
    ·replace H:=niD H
     obtain⟨c6b0,H⟩:=H
     replace H:=iX H
     obtain⟨t243,A7,H⟩:=H
     replace H:=iB H
     rcases H with⟨rfl,H⟩ | ⟨rfl,H⟩
     ·obtain rfl:=Option.some.inj H
      obtain⟨p242,q242,ad242,rfl,hx242_0,hx242_1⟩:=at_B113 HR0 HB x3_1
      go_wp2_with (first | ((with_reducible refine gf_ 82 rfl ?_);refine gC_ (some 17) Tryz.func82 #[.agg #[.int .u32 ((rd_T113 l0 x3_1).f0),.int .u32 ((rd_T113 l0 x3_1).f1)]] ?_;(with_reducible refine(r02Clash.calls k1 ((rd_T113 l0 x3_1).f0) ((rd_T113 l0 x3_1).f1) true _ A7.out).mono ?_);rintro e w9 ⟨rfl,hb⟩;refine⟨_,rfl, ?_⟩;replace HB:=ak (below_step tB hb);(try clear hb)))
      go_ret
      exact⟨tE,tB⟩
     have H':=ak H
     clear H
     obtain⟨p242,q242,ad242,rfl,hx242_0,hx242_1⟩:=at_B113 HR0 HB x3_1
     go_wp2_with (first | ((with_reducible refine gf_ 82 rfl ?_);refine gC_ (some 17) Tryz.func82 #[.agg #[.int .u32 ((rd_T113 l0 x3_1).f0),.int .u32 ((rd_T113 l0 x3_1).f1)]] ?_;(with_reducible refine(r02Clash.calls k1 ((rd_T113 l0 x3_1).f0) ((rd_T113 l0 x3_1).f1) false _ A7.out).mono ?_);rintro e w10 ⟨rfl,hb⟩;refine⟨_,rfl, ?_⟩;replace HB:=ak (below_step tB hb);(try clear hb)))
     go_roundg k1
     case measure=>have:=HK1.out;omega
     case rel=>exact⟨(wrap64 (x3_1+1)),tS,H',⟨by have:=HK1.out;omega⟩,⟨tB⟩⟩
    obtain rfl:=Option.some.inj H
    go_wp2
    go_ret
    exact⟨tE,tB⟩
 obtain rfl:=Option.some.inj H
 go_enter Tryz.func66,Tryz.ntmps66
 go_wp2_with (first | ((with_reducible refine gf_ 65 rfl ?_);refine gC_ (some 5) Tryz.func65 #[.slice A0 l0.length c0] ?_;(with_reducible refine(r03Right.calls k _ _ l0 false _ ?side1 ?side2 A2.out).mono ?_);(case side1=>repeat (first | exact HR0.out | (with_reducible refine Kd.C_alloc ?_ _) | (with_reducible refine Kd.C_drewN ?_ _) | (with_reducible refine Kd.C_drew ?_)));(case side2=>exact HC0.out);rintro e w11 ⟨rfl,hb⟩;refine⟨_,rfl, ?_⟩;replace HB:=ak (below_step tB hb);(try clear hb)))
 go_ret
 exact⟨tE,tB⟩
def r01List.l0:Nat→Int→List Int→Int→Option (List Int)
  | 0,_,_,_=>none
  | k+1,x0,x3,x4=>if x4<24 then((r01Has.f k x0 x4).bind fun t244=>(if t244=true then(if x3.length<17592186044416 then(r01List.l0 k x0 (x3++[x4]) (wrap64 (x4+1))) else(none)) else(r01List.l0 k x0 x3 (wrap64 (x4+1))))) else(some x3)
def r01List.f(k:Nat)(a0:Int):Option (List Int):=r01List.l0 k a0 ([]:List Int) 0
theorem r01List.mono_l:∀k,(∀y0 y1 y2,LeO (r01List.l0 k y0 y1 y2) (r01List.l0 (k+1) y0 y1 y2))
  | 0=>fun _ _ _ r h=>by simp [r01List.l0] at h
  | k+1=>by
    have ih0:=r01List.mono_l k
    · intros;unfold r01List.l0;have m0_:=@r01Has.mono;exact tMo
theorem r01List.mono:∀a0 k,LeO (r01List.f k a0) (r01List.f (k+1) a0):=by
  intro a0 k
  have ih0:=r01List.mono_l k
  unfold r01List.f
  have m0_:=@r01Has.mono
  exact tMo
set_option maxHeartbeats 8000000 in
theorem r01List.calls(k:Nat)(a0:Int)(r:List Int)(w:World)(h:r01List.f k a0=some r) :
  Calls Tryz.prog 83 #[.int .u32 a0] w fun e w'=>∃v0_:Value,e=.returned (v0_)∧Kd.R (Kd.int .i64) 3 w' w.heap.size (fun _=>True) v0_ r∧Below w.heap.size w w':=by
 have HB:=ak (Below.refl w.heap.size w)
 have H:(r01List.l0 k a0 ([]:List Int) 0)=some r:=h
 clear h
 have H':=ak H
 clear H
 go_enter Tryz.func83,Tryz.ntmps83
 go_wp2
 go_loopg [3,4] k (fun kq v3 v4 w'=>∃(x3_1:List Int) (x4_1:Int),v4=.int .i64 x4_1∧Aside0 (r01List.l0 kq a0 x3_1 x4_1=some r)∧Aside0 (kq≤k)∧Aside0 (Kd.R (Kd.int .i64) 3 w' w.heap.size (fun _=>True) v3 x3_1)∧Aside0 (Below w.heap.size w w'))
 case atStart=>exact⟨(([]:List Int)),(0),tS,H',⟨Nat.le_refl _⟩,⟨by first | exact Kd.R_nil _ _ _ _ _ | exact Kd.N_nil _ _ _ _ _ | exact Kd.V_nil _ _ _ _ _ | exact Kd.Q_nil _ _ _ _ _ | exact Kd.S_nil _ _ _ _ _⟩,⟨tB⟩⟩
 case round =>
  clear H'
  obtain⟨x3_1,x4_1,rfl,HA,HK1,HO_3,HB⟩:=hrel
  cases gk with
  | zero=>exact absurd HA.out (by simp [r01List.l0])
  | succ k1 =>
   have H:=HA.out
   clear HA
   simp only [r01List.l0] at H
   replace H:=iD H
   rcases H with⟨c2b0,H⟩ | ⟨c2b0,H⟩
   ·replace H:=iX H
    obtain⟨t244,A3,H⟩:=H
    replace H:=iB H
    rcases H with⟨rfl,H⟩ | ⟨rfl,H⟩
    ·replace H:=niC H
     obtain⟨c5,H⟩:=H
     have LMc5:=ak c5
     clear c5
     obtain⟨y245,hy245⟩:∃y_:List Int,y_=(x3_1++[x4_1]):=⟨_,rfl⟩
     replace H:(r01List.l0 k1 a0 y245 (wrap64 (x4_1+1)))=some r:=tY hy245 H
     have Ny245:=ak hy245
     clear hy245
     have H':=ak H
     clear H
     go_wp2_with (first | ((with_reducible refine gf_ 101 rfl ?_);refine gC_ (some 11) Tryz.func101 #[.int .u32 a0,.int .i64 x4_1] ?_;(with_reducible refine(r01Has.calls k1 a0 x4_1 true _ A3.out).mono ?_);rintro e w' ⟨rfl,⟨nd,rfl⟩⟩;refine⟨_,rfl, ?_⟩) | ((with_reducible refine gate_builtin (b:=.append) (xs:=#[.tmp 12,.tmp 14]) rfl ?_);at_builtin;refine Kd.R_append (Kd.int .i64) (w0:=w) w.heap.size rfl (.tmp 12) (.tmp 14) 134 3 (.int .i64 0) 8 rfl Tryz.underlying134 info3 rfl (by decide) (by omega) u3 x3_1 x4_1 [.int .i64 x4_1] (fun _=>True) (fun _=>False) rfl rfl ?aP (fun _ hk=>hk.elim) ?aF ?aO ?aB ?aS ?aL ?_;(case aP=>exact rfl);(case aB=>exact tB);(case aF=>exact(fun _ _=>trivial));(case aO=>exact(tR HO_3));(case aS=>exact(below_size tB));(case aL=>have:=LMc5.out;omega);intro v246 w6 ho hb hg hat;rw [←Ny245.out] at ho;replace HB:=ak (hb);have HO247:=ak (ho);clear HO_3 ho hb hg hat))
     go_roundg k1
     case measure=>have:=HK1.out;omega
     case rel=>exact⟨(y245),(wrap64 (x4_1+1)),tS,H',⟨by have:=HK1.out;omega⟩,⟨tR HO247⟩,⟨tB⟩⟩
    have H':=ak H
    clear H
    go_wp2_with (first | ((with_reducible refine gf_ 101 rfl ?_);refine gC_ (some 11) Tryz.func101 #[.int .u32 a0,.int .i64 x4_1] ?_;(with_reducible refine(r01Has.calls k1 a0 x4_1 false _ A3.out).mono ?_);rintro e w' ⟨rfl,⟨nd,rfl⟩⟩;refine⟨_,rfl, ?_⟩))
    go_roundg k1
    case measure=>have:=HK1.out;omega
    case rel=>exact⟨(x3_1),(wrap64 (x4_1+1)),tS,H',⟨by have:=HK1.out;omega⟩,⟨tR HO_3⟩,⟨tB⟩⟩
   obtain rfl:=Option.some.inj H
   go_wp2
   go_ret
   exact⟨_,tE,by (with_reducible repeat (first | apply Kd.R_alloc | apply Kd.R_drewN | apply Kd.R_drew));exact HO_3.out,tB⟩
def r01Set.l0:Nat→List Int→Int→Int→Option (Int)
  | 0,_,_,_=>none
  | k+1,x0,x3,x4=>if x4<(x0.length:Int) then(if 0≤x4 then((r01power.f k (rd x0 x4)).bind fun t249=>(r01Set.l0 k x0 (wrap64 (x3+t249)) (wrap64 (x4+1)))) else(none)) else(some ((x3) % 4294967296))
def r01Set.f(k:Nat)(l0:List Int):Option (Int):=r01Set.l0 k l0 0 0
theorem r01Set.mono_l:∀k,(∀y0 y1 y2,LeO (r01Set.l0 k y0 y1 y2) (r01Set.l0 (k+1) y0 y1 y2))
  | 0=>fun _ _ _ r h=>by simp [r01Set.l0] at h
  | k+1=>by
    have ih0:=r01Set.mono_l k
    · intros;unfold r01Set.l0;have m0_:=@r01power.mono;exact tMo
theorem r01Set.mono:∀a0 k,LeO (r01Set.f k a0) (r01Set.f (k+1) a0):=by
  intro a0 k
  have ih0:=r01Set.mono_l k
  unfold r01Set.f
  have m0_:=@r01power.mono
  exact tMo
set_option maxHeartbeats 8000000 in
theorem r01Set.calls(k:Nat)(A0:Option Addr)(c0:Nat)(l0:List Int)(r:Int)(w:World)(hr0:Kd.C (Kd.int .i64) w A0 l0.length l0)(hc0:l0.length≤c0)(h:r01Set.f k l0=some r) :
  Calls Tryz.prog 102 #[.slice A0 l0.length c0] w fun e w'=>e=.returned (.int .u32 r)∧Drawn0 w w':=by
 have HR0:=ak hr0
 have HC0:=ak hc0
 clear hr0 hc0
 have H:(r01Set.l0 k l0 0 0)=some r:=h
 clear h
 have H':=ak H
 clear H
 go_enter Tryz.func102,Tryz.ntmps102
 go_wp2
 go_loopg [3,4] k (fun kq v3 v4 w'=>∃(x3_1:Int) (x4_1:Int),v3=.int .i64 x3_1∧v4=.int .i64 x4_1∧Aside0 (r01Set.l0 kq l0 x3_1 x4_1=some r)∧Aside0 (kq≤k)∧Drawn0 w w')
 case atStart=>exact⟨(0),(0),tS,tS,H',⟨Nat.le_refl _⟩,tD⟩
 case round =>
  clear H'
  obtain⟨x3_1,x4_1,rfl,rfl,HA,HK1,⟨m1,rfl⟩⟩:=hrel
  cases gk with
  | zero=>exact absurd HA.out (by simp [r01Set.l0])
  | succ k1 =>
   have H:=HA.out
   clear HA
   simp only [r01Set.l0] at H
   replace H:=iD H
   rcases H with⟨c2b0,H⟩ | ⟨c2b0,H⟩
   ·replace H:=niD H
    obtain⟨c3b0,H⟩:=H
    replace H:=iX H
    obtain⟨t249,A4,H⟩:=H
    have H':=ak H
    clear H
    have p248:0≤(x4_1:Int):=tA
    have q248:x4_1<(l0.length:Int):=tA
    obtain⟨ad248,e248,hx248_0⟩:=Kd.at_int HR0.out x4_1 p248 q248
    cases e248
    replace p248:=eq_true p248
    replace q248:=eq_true q248
    go_wp2_with (first | ((with_reducible refine gf_ 112 rfl ?_);refine gC_ (some 16) Tryz.func112 #[.int .i64 (rd l0 x4_1)] ?_;(with_reducible refine(r01power.calls k1 (rd l0 x4_1) t249 _ A4.out).mono ?_);rintro e w' ⟨rfl,⟨nd,rfl⟩⟩;refine⟨_,rfl, ?_⟩))
    go_roundg k1
    case measure=>have:=HK1.out;omega
    case rel=>exact⟨(wrap64 (x3_1+t249)),(wrap64 (x4_1+1)),tS,tS,H',⟨by have:=HK1.out;omega⟩,tD⟩
   exact zz1
mutual
def r03Dims.l0:Nat→List (S113)→List Int→Int→Option (Int)
  | 0,_,_,_=>none
  | k+1,x0,x3,x4=>if x4<24 then(r03Dims.l1 k x0 x3 x4 false 0) else((r01Set.f k x3).bind fun t250=>(some t250))
def r03Dims.l1:Nat→List (S113)→List Int→Int→Bool→Int→Option (Int)
  | 0,_,_,_,_,_=>none
  | k+1,x0,x3,x4,x5,x6=>if x6<(x0.length:Int) then(if x5=true then(r03Dims.l1 k x0 x3 x4 true (wrap64 (x6+1))) else(if 0≤x6 then((r01Has.f k ((rd_T113 x0 x6).f0) x4).bind fun t252=>(if t252=true then(r03Dims.l1 k x0 x3 x4 true (wrap64 (x6+1))) else((r01Has.f k ((rd_T113 x0 x6).f1) x4).bind fun t254=>(r03Dims.l1 k x0 x3 x4 t254 (wrap64 (x6+1)))))) else(none))) else(if x5=true then(if x3.length<17592186044416 then(r03Dims.l0 k x0 (x3++[x4]) (wrap64 (x4+1))) else(none)) else(r03Dims.l0 k x0 x3 (wrap64 (x4+1))))
end
def r03Dims.f(k:Nat)(l0:List (S113)):Option (Int):=r03Dims.l0 k l0 ([]:List Int) 0
theorem r03Dims.mono_l:∀k,(∀y0 y1 y2,LeO (r03Dims.l0 k y0 y1 y2) (r03Dims.l0 (k+1) y0 y1 y2))∧(∀y0 y1 y2 y3 y4,LeO (r03Dims.l1 k y0 y1 y2 y3 y4) (r03Dims.l1 (k+1) y0 y1 y2 y3 y4))
  | 0=>⟨fun _ _ _ r h=>by simp [r03Dims.l0] at h,fun _ _ _ _ _ r h=>by simp [r03Dims.l1] at h⟩
  | k+1=>by
    obtain⟨ih0,ih1⟩:=r03Dims.mono_l k
    refine⟨?_, ?_⟩
    · intros;unfold r03Dims.l0;have m0_:=@r01Has.mono;have m1_:=@r01Set.mono;exact tMo
    · intros;unfold r03Dims.l1;have m0_:=@r01Has.mono;have m1_:=@r01Set.mono;exact tMo
theorem r03Dims.mono:∀a0 k,LeO (r03Dims.f k a0) (r03Dims.f (k+1) a0):=by
  intro a0 k
  obtain⟨ih0,ih1⟩:=r03Dims.mono_l k
  unfold r03Dims.f
  have m0_:=@r01Has.mono
  have m1_:=@r01Set.mono
  exact tMo
set_option maxHeartbeats 8000000 in
theorem r03Dims.calls(k:Nat)(A0:Option Addr)(c0:Nat)(l0:List (S113))(r:Int)(w:World)(hr0:Kd.C k113 w A0 l0.length l0)(hc0:l0.length≤c0)(h:r03Dims.f k l0=some r) :
  Calls Tryz.prog 84 #[.slice A0 l0.length c0] w fun e w'=>e=.returned (.int .u32 r)∧Below w.heap.size w w':=by
 have HR0:=ak hr0
 have HC0:=ak hc0
 clear hr0 hc0
 have HB:=ak (Below.refl w.heap.size w)
 have H:(r03Dims.l0 k l0 ([]:List Int) 0)=some r:=h
 clear h
 have H':=ak H
 clear H
 go_enter Tryz.func84,Tryz.ntmps84
 go_wp2
 go_loopg [3,4] k (fun kq v3 v4 w'=>∃(x3_1:List Int) (x4_1:Int),v4=.int .i64 x4_1∧Aside0 (r03Dims.l0 kq l0 x3_1 x4_1=some r)∧Aside0 (kq≤k)∧Aside0 (Kd.R (Kd.int .i64) 3 w' w.heap.size (fun _=>True) v3 x3_1)∧Aside0 (Below w.heap.size w w'))
 case atStart=>exact⟨(([]:List Int)),(0),tS,H',⟨Nat.le_refl _⟩,⟨by first | exact Kd.R_nil _ _ _ _ _ | exact Kd.N_nil _ _ _ _ _ | exact Kd.V_nil _ _ _ _ _ | exact Kd.Q_nil _ _ _ _ _ | exact Kd.S_nil _ _ _ _ _⟩,⟨tB⟩⟩
 case round =>
  clear H'
  obtain⟨x3_1,x4_1,rfl,HA,HK1,HO_3,HB⟩:=hrel
  cases gk with
  | zero=>exact absurd HA.out (by simp [r03Dims.l0])
  | succ k1 =>
   have H:=HA.out
   clear HA
   simp only [r03Dims.l0] at H
   replace H:=iD H
   rcases H with⟨c2b0,H⟩ | ⟨c2b0,H⟩
   ·have H':=ak H
    clear H
    go_wp2
    go_loopg [5,6] k1 (fun kq v5 v6 w'=>∃(x5_2:Bool) (x6_2:Int),v5=.bool x5_2∧v6=.int .i64 x6_2∧Aside0 (r03Dims.l1 kq l0 x3_1 x4_1 x5_2 x6_2=some r)∧Aside0 (kq≤k1)∧Aside0 (Kd.R (Kd.int .i64) 3 w' w.heap.size (fun _=>True) u3 x3_1)∧Aside0 (Below w.heap.size w w'))
    case atStart=>exact⟨(false),(0),tS,tS,H',⟨Nat.le_refl _⟩,⟨tR HO_3⟩,⟨tB⟩⟩
    case round =>
     clear H'
     try clear c2b0
     obtain⟨x5_2,x6_2,rfl,rfl,HA,HK2,HO_3,HB⟩:=hrel
     cases gk with
     | zero=>exact absurd HA.out (by simp [r03Dims.l1])
     | succ k2 =>
      have H:=HA.out
      clear HA
      simp only [r03Dims.l1] at H
      replace H:=iD H
      rcases H with⟨c3b0,H⟩ | ⟨c3b0,H⟩
      ·replace H:=iB H
       rcases H with⟨rfl,H⟩ | ⟨rfl,H⟩
       ·have H':=ak H
        clear H
        go_wp2
        go_roundg k2
        case measure=>have:=HK1.out;have:=HK2.out;omega
        case rel=>exact⟨(true),(wrap64 (x6_2+1)),tS,tS,H',⟨by have:=HK1.out;have:=HK2.out;omega⟩,⟨tR HO_3⟩,⟨tB⟩⟩
       replace H:=niD H
       obtain⟨c5b0,H⟩:=H
       replace H:=iX H
       obtain⟨t252,A6,H⟩:=H
       replace H:=iB H
       rcases H with⟨rfl,H⟩ | ⟨rfl,H⟩
       ·have H':=ak H
        clear H
        obtain⟨p251,q251,ad251,rfl,hx251_0,hx251_1⟩:=at_B113 HR0 HB x6_2
        go_wp2_with (first | (go_at_call 101;(with_reducible refine(r01Has.calls k2 ((rd_T113 l0 x6_2).f0) x4_1 true _ A6.out).mono ?_);rintro e w' ⟨rfl,⟨nd,rfl⟩⟩))
        go_roundg k2
        case measure=>have:=HK1.out;have:=HK2.out;omega
        case rel=>exact⟨(true),(wrap64 (x6_2+1)),tS,tS,H',⟨by have:=HK1.out;have:=HK2.out;omega⟩,⟨tR HO_3⟩,⟨tB⟩⟩
       replace H:=iX H
       obtain⟨t254,A8,H⟩:=H
       have H':=ak H
       clear H
       obtain⟨p251,q251,ad251,rfl,hx251_0,hx251_1⟩:=at_B113 HR0 HB x6_2
       go_wp2_with (first | (go_at_call 101;(with_reducible refine(r01Has.calls k2 ((rd_T113 l0 x6_2).f0) x4_1 false _ A6.out).mono ?_);rintro e w' ⟨rfl,⟨nd,rfl⟩⟩;obtain⟨p253,q253,ad253,e253,hx253_0,hx253_1⟩:=at_B113 HR0 HB x6_2;obtain rfl:ad251=ad253:=(by injection e253)) | (go_at_call 101;(with_reducible refine(r01Has.calls k2 ((rd_T113 l0 x6_2).f1) x4_1 t254 _ A8.out).mono ?_);rintro e w' ⟨rfl,⟨nd,rfl⟩⟩))
       go_roundg k2
       case measure=>have:=HK1.out;have:=HK2.out;omega
       case rel=>exact⟨(t254),(wrap64 (x6_2+1)),tS,tS,H',⟨by have:=HK1.out;have:=HK2.out;omega⟩,⟨tR HO_3⟩,⟨tB⟩⟩
      replace H:=iB H
      rcases H with⟨rfl,H⟩ | ⟨rfl,H⟩
      ·replace H:=niC H
       obtain⟨c10,H⟩:=H
       have LMc10:=ak c10
       clear c10
       obtain⟨y255,hy255⟩:∃y_:List Int,y_=(x3_1++[x4_1]):=⟨_,rfl⟩
       replace H:(r03Dims.l0 k2 l0 y255 (wrap64 (x4_1+1)))=some r:=tY hy255 H
       have Ny255:=ak hy255
       clear hy255
       have H':=ak H
       clear H
       go_wp2_with (first | ((with_reducible refine gate_builtin (b:=.append) (xs:=#[.tmp 37,.tmp 39]) rfl ?_);at_builtin;refine Kd.R_append (Kd.int .i64) (w0:=w) w.heap.size rfl (.tmp 37) (.tmp 39) 134 3 (.int .i64 0) 8 rfl Tryz.underlying134 info3 rfl (by decide) (by omega) u3 x3_1 x4_1 [.int .i64 x4_1] (fun _=>True) (fun _=>False) rfl rfl ?aP (fun _ hk=>hk.elim) ?aF ?aO ?aB ?aS ?aL ?_;(case aP=>exact rfl);(case aB=>exact tB);(case aF=>exact(fun _ _=>trivial));(case aO=>exact(tR HO_3));(case aS=>exact(below_size tB));(case aL=>have:=LMc10.out;omega);intro v256 w11 ho hb hg hat;rw [←Ny255.out] at ho;replace HB:=ak (hb);have HO257:=ak (ho);clear HO_3 ho hb hg hat))
       go_roundg k2
       case measure=>have:=HK1.out;have:=HK2.out;omega
       case rel=>exact⟨(y255),(wrap64 (x4_1+1)),tS,H',⟨by have:=HK1.out;have:=HK2.out;omega⟩,⟨tR HO257⟩,⟨tB⟩⟩
      have H':=ak H
      clear H
      go_wp2
      go_roundg k2
      case measure=>have:=HK1.out;have:=HK2.out;omega
      case rel=>exact⟨(x3_1),(wrap64 (x4_1+1)),tS,H',⟨by have:=HK1.out;have:=HK2.out;omega⟩,⟨tR HO_3⟩,⟨tB⟩⟩
   replace H:=iX H
   obtain⟨t250,A12,H⟩:=H
   obtain rfl:=Option.some.inj H
   obtain⟨Aoh_3,coh_3,eoh_3⟩:=Kd.R_slice HO_3.out
   subst eoh_3
   go_wp2_with (first | ((with_reducible refine gf_ 102 rfl ?_);refine gC_ (some 42) Tryz.func102 #[.slice Aoh_3 x3_1.length coh_3] ?_;(with_reducible refine(r01Set.calls k1 _ _ x3_1 t250 _ ?side1 ?side2 A12.out).mono ?_);(case side1=>exact tCr HO_3);(case side2=>exact(Kd.R_reads' HO_3.out).2.1);rintro e w' ⟨rfl,⟨nd,rfl⟩⟩;refine⟨_,rfl, ?_⟩))
   go_ret
   exact⟨tE,tB⟩
def r10low.f(k:Nat)(l0:List (S113))(a1:Int):Option (Bool):=(r03Dims.f k l0).bind fun t258=>((r01List.f k t258).bind fun t259=>(if (t259.length:Int)=0 then(some true) else(if 0≤(wrap64 ((t259.length:Int)-1)) then(if (wrap64 ((t259.length:Int)-1))<(t259.length:Int) then(some (decide ((rd t259 (wrap64 ((t259.length:Int)-1)))<a1))) else(none)) else(none))))
theorem r10low.mono:∀a0 a1 k,LeO (r10low.f k a0 a1) (r10low.f (k+1) a0 a1):=by
  intro a0 a1 k
  unfold r10low.f
  have m0_:=@r01List.mono
  have m1_:=@r03Dims.mono
  exact tMo
theorem r10low.z0{p:Prop}(h_:p:=by go_wp2_with (first | ((with_reducible refine gf_ 84 rfl ?_);refine gC_ (some 7) Tryz.func84 #[.slice A0 l0.length c0] ?_;(with_reducible refine(r03Dims.calls k _ _ l0 t258 _ ?side1 ?side2 A3.out).mono ?_);(case side1=>repeat (first | exact HR0.out | (with_reducible refine Kd.C_alloc ?_ _) | (with_reducible refine Kd.C_drewN ?_ _) | (with_reducible refine Kd.C_drew ?_)));(case side2=>exact HC0.out);rintro e wa ⟨rfl,hb⟩;refine⟨_,rfl, ?_⟩;replace HB:=ak (below_step tB hb);(try clear hb)) | ((with_reducible refine gf_ 83 rfl ?_);refine gC_ (some 8) Tryz.func83 #[.int .u32 t258] ?_;(with_reducible refine(r01List.calls k t258 t259 _ A4.out).mono ?_);rintro e wa ⟨v260,rfl,ho0,hb⟩;refine⟨_,rfl, ?_⟩;have HO261:=ak (Kd.R_lower ho0 (below_size tB));replace HB:=ak (below_step tB hb);(try clear hb);(try clear ho0);obtain⟨Aoh261,coh261,eoh261⟩:=Kd.R_slice HO261.out;subst eoh261;have p262:0≤((ji9):Int):=tA;have q262:(ji9)<(t259.length:Int):=tA;obtain⟨ad262,e262,hx262_0⟩:=Kd.at_int (Kd.R_reads' HO261.out).2.2 (ji9) p262 q262;cases e262;replace p262:=eq_true p262;replace q262:=eq_true q262) | ((with_reducible refine gf_ 83 rfl ?_);refine gC_ (some 8) Tryz.func83 #[.int .u32 t258] ?_;(with_reducible refine(r01List.calls k t258 t259 _ A4.out).mono ?_);rintro e wa ⟨v260,rfl,ho0,hb⟩;refine⟨_,rfl, ?_⟩;have HO261:=ak (Kd.R_lower ho0 (below_size tB));replace HB:=ak (below_step tB hb);(try clear hb);(try clear ho0);obtain⟨Aoh261,coh261,eoh261⟩:=Kd.R_slice HO261.out;subst eoh261));first | (go_ret;exact⟨by first | rfl | (simp [errW_none,errW_some]<;>rfl) | (simp only [←hji9];first | rfl | (simp [errW_none,errW_some]<;>rfl)) | (simp [*,errW_none,errW_some]<;>rfl),tB⟩) | (go_ret;exact⟨tE,tB⟩)):p:=h_
set_option maxHeartbeats 8000000 in
theorem r10low.calls(k:Nat)(A0:Option Addr)(c0:Nat)(l0:List (S113))(a1:Int)(r:Bool)(w:World)(hr0:Kd.C k113 w A0 l0.length l0)(hc0:l0.length≤c0)(h:r10low.f k l0 a1=some r) :
  Calls Tryz.prog 67 #[.slice A0 l0.length c0,.int .i64 a1] w fun e w'=>e=.returned (.bool r)∧Below w.heap.size w w':=by
 have HR0:=ak hr0
 have HC0:=ak hc0
 clear hr0 hc0
 have HB:=ak (Below.refl w.heap.size w)
 have H:((r03Dims.f k l0).bind fun t258=>((r01List.f k t258).bind fun t259=>(if (t259.length:Int)=0 then(some true) else(if 0≤(wrap64 ((t259.length:Int)-1)) then(if (wrap64 ((t259.length:Int)-1))<(t259.length:Int) then(some (decide ((rd t259 (wrap64 ((t259.length:Int)-1)))<a1))) else(none)) else(none)))))=some r:=h
 clear h
 replace H:=iX H
 obtain⟨t258,A3,H⟩:=H
 replace H:=iX H
 obtain⟨t259,A4,H⟩:=H
 replace H:=iE H
 rcases H with⟨c5b0,c5b1,H⟩ | ⟨c5,c5b0,c5b1,H⟩
 ·obtain rfl:=Option.some.inj H
  go_enter Tryz.func67,Tryz.ntmps67
  exact r10low.z0
 have c5b2:¬(t259=[]):=fun h_=>c5 (by rw [h_];rfl)
 obtain⟨ji9,hji9⟩:∃j_:Int,(wrap64 ((t259.length:Int)-1))=j_:=⟨_,rfl⟩
 replace H:(if 0≤(ji9) then(if (ji9)<(t259.length:Int) then(some (decide ((rd t259 (ji9))<a1))) else(none)) else(none))=some r:=by first | (rw [hji9] at H;exact H) | (simp only [hji9] at H ⊢;exact H)
 (try rw [hji9] at A3)
 (try rw [hji9] at A4)
 have hji9w:(IntKind.i64.wrap ((t259.length:Int)-1))=ji9:=(i64_w _).trans hji9
 replace H:=niD H
 obtain⟨c10b0,H⟩:=H
 replace H:=niD H
 obtain⟨c11b0,H⟩:=H
 obtain rfl:=Option.some.inj H
 go_enter Tryz.func67,Tryz.ntmps67
 exact r10low.z0
mutual
def r10Binds.j0:Nat→Int→Int→Bool→Option (Int×Int)
  | 0,_,_,_=>none
  | k+1,x0,x1,x15=>if x15=true then(some (1,0)) else(if x1=0 then(if x0=5 then(r10Binds.j1 k x0 x1 true) else(if x0=22 then(r10Binds.j1 k x0 x1 true) else(r10Binds.j1 k x0 x1 (x0==27)))) else(r10Binds.j1 k x0 x1 false))
def r10Binds.j1:Nat→Int→Int→Bool→Option (Int×Int)
  | 0,_,_,_=>none
  | k+1,x0,x1,x29=>if x29=true then(some (1,0)) else(if x1=0 then(if x0=11 then(some (0,1)) else(if x0=12 then(some (0,1)) else(if x0=14 then(some (0,1)) else(some (0,0))))) else(some (0,0)))
end
def r10Binds.f(k:Nat)(a0:Int)(a1:Int):Option (Int×Int):=if a1=1 then(if a0=4 then(r10Binds.j0 k a0 a1 true) else(r10Binds.j0 k a0 a1 (a0==7))) else(r10Binds.j0 k a0 a1 false)
set_option maxHeartbeats 8000000 in
theorem r10Binds.calls(k:Nat)(a0:Int)(a1:Int)(r1:Int)(r2:Int)(w:World)(h:r10Binds.f k a0 a1=some (r1,r2)) :
  Calls Tryz.prog 68 #[.int .i64 a0,.int .i64 a1] w fun e w'=>e=.returned (.tuple #[.int .i64 r1,.int .i64 r2])∧Drawn0 w w':=by
 have H:(if a1=1 then(if a0=4 then(r10Binds.j0 k a0 a1 true) else(r10Binds.j0 k a0 a1 (a0==7))) else(r10Binds.j0 k a0 a1 false))=some (r1,r2):=h
 clear h
 have HC3:=ak H
 clear H
 go_enter Tryz.func68,Tryz.ntmps68
 go_upto_region 1 with(fail)
 go_cut [15] (fun v15 wc=>∃(kq:Nat) (x15_2:Bool),v15=.bool x15_2∧Aside0 (r10Binds.j0 kq a0 a1 x15_2=some (r1,r2))∧Aside0 (kq≤k)∧Drawn0 w wc)
 case first =>
  have H:=HC3.out
  clear HC3
  replace H:=iE H
  rcases H with⟨c4b0,c4b1,H⟩ | ⟨c4,c4b0,c4b1,H⟩
  ·(first | rw [c4b0] | (simp only [i64_w,i32_w];rw [c4b0]) | skip)
   replace H:=iE H
   rcases H with⟨c5b0,c5b1,H⟩ | ⟨c5,c5b0,c5b1,H⟩
   ·have H':=ak H
    clear H
    go_wp2
    go_meet
    case rel=>exact⟨_,(true),tS,H',⟨by first | omega | exact Nat.le_refl _⟩,tD⟩
   exact zz6
  (first | rw [c4b0] | (simp only [i64_w,i32_w];rw [c4b0]) | skip)
  exact zz5
 case rest =>
  clear HC3
  obtain⟨kq,x15_2,rfl,HA,HJ2,⟨mc2,rfl⟩⟩:=hcut
  cases kq with
  | zero=>exact absurd HA.out (by simp [r10Binds.j0])
  | succ kj2 =>
   have H:=HA.out
   clear HA
   simp only [r10Binds.j0] at H
   replace H:=iB H
   rcases H with⟨rfl,H⟩ | ⟨rfl,H⟩
   ·exact zz7
   have HC7:=ak H
   clear H
   go_upto_region 3 with(fail)
   go_cut [29] (fun v29 wc=>∃(kq:Nat) (x29_6:Bool),v29=.bool x29_6∧Aside0 (r10Binds.j1 kq a0 a1 x29_6=some (r1,r2))∧Aside0 (kq≤kj2)∧Drawn0 w wc)
   case first =>
    have H:=HC7.out
    clear HC7
    replace H:=iE H
    rcases H with⟨c8b0,c8b1,H⟩ | ⟨c8,c8b0,c8b1,H⟩
    ·(first | rw [c8b0] | (simp only [i64_w,i32_w];rw [c8b0]) | skip)
     replace H:=iE H
     rcases H with⟨c9b0,c9b1,H⟩ | ⟨c9,c9b0,c9b1,H⟩
     ·exact zz9
     replace H:=iE H
     rcases H with⟨c10b0,c10b1,H⟩ | ⟨c10,c10b0,c10b1,H⟩
     ·exact zz9
     have H':=ak H
     clear H
     go_wp2
     go_meet
     case rel=>exact⟨_,((a0==27)),tS,H',⟨by have:=HJ2.out;first | omega | exact Nat.le_refl _⟩,tD⟩
    (first | rw [c8b0] | (simp only [i64_w,i32_w];rw [c8b0]) | skip)
    exact zz8
   case rest =>
    clear HC7
    obtain⟨kq,x29_6,rfl,HA,HJ6,⟨mc6,rfl⟩⟩:=hcut
    cases kq with
    | zero=>exact absurd HA.out (by simp [r10Binds.j1])
    | succ kj6 =>
     have H:=HA.out
     clear HA
     simp only [r10Binds.j1] at H
     replace H:=iB H
     rcases H with⟨rfl,H⟩ | ⟨rfl,H⟩
     ·exact zz7
     replace H:=iE H
     rcases H with⟨c12b0,c12b1,H⟩ | ⟨c12,c12b0,c12b1,H⟩
     ·replace H:=iE H
      rcases H with⟨c13b0,c13b1,H⟩ | ⟨c13,c13b0,c13b1,H⟩
      ·exact zz7
      replace H:=iE H
      rcases H with⟨c14b0,c14b1,H⟩ | ⟨c14,c14b0,c14b1,H⟩
      ·exact zz7
      replace H:=iE H
      rcases H with⟨c15b0,c15b1,H⟩ | ⟨c15,c15b0,c15b1,H⟩
      ·exact zz7
      exact zz7
     exact zz7
def r10More.f(a0:Int):Option (Int):=if a0=15 then(some 1) else(some 0)
set_option maxHeartbeats 8000000 in
theorem r10More.calls(a0:Int)(r:Int)(w:World)(h:r10More.f a0=some r) :
  Calls Tryz.prog 69 #[.int .i64 a0] w fun e w'=>e=.returned (.int .i64 r)∧Drawn0 w w':=by
 have H:(if a0=15 then(some 1) else(some 0))=some r:=h
 clear h
 replace H:=iE H
 rcases H with⟨c2b0,c2b1,H⟩ | ⟨c2,c2b0,c2b1,H⟩
 ·obtain rfl:=Option.some.inj H
  go_enter Tryz.func69,Tryz.ntmps69
  exact zz0
 obtain rfl:=Option.some.inj H
 go_enter Tryz.func69,Tryz.ntmps69
 exact zz0
theorem rpartsx(a:Int):r10Parts.f a=some (partsI a):=by
  have h:a=16∨a=15∨a=17∨a=18∨(a≠16∧a≠15∧a≠17∧a≠18):=by omega
  rcases h with rfl | rfl | rfl | rfl | ⟨h16,h15,h17,h18⟩
  · rfl
  · rfl
  · rfl
  · rfl
  · simp [r10Parts.f,partsI,h16,h15,h17,h18]
theorem rmorex(a:Int):r10More.f a=some (moreI a):=by
  unfold r10More.f moreI
  split<;>rfl
theorem rbindsx(a i:Int):r10Binds.f 8 a i=some (bindsI a i):=by
  have h:a=4∨a=7∨a=5∨a=22∨a=27∨a=11∨a=12∨a=14∨(a≠4∧a≠7∧a≠5∧a≠22∧a≠27∧a≠11∧a≠12∧a≠14):=by omega
  have hi:i=1∨i=0∨(i≠1∧i≠0):=by omega
  rcases hi with rfl | rfl | ⟨i1,i0⟩
  · rcases h with rfl | rfl | rfl | rfl | rfl | rfl | rfl | rfl | ⟨h4,h7,h5,h22,h27,h11,h12,h14⟩
    · rfl
    · rfl
    · rfl
    · rfl
    · rfl
    · rfl
    · rfl
    · rfl
    · simp [r10Binds.f,r10Binds.j0,r10Binds.j1,bindsI,h4,h7,h5,h22,h27,h11,h12,h14]
  · rcases h with rfl | rfl | rfl | rfl | rfl | rfl | rfl | rfl | ⟨h4,h7,h5,h22,h27,h11,h12,h14⟩
    · rfl
    · rfl
    · rfl
    · rfl
    · rfl
    · rfl
    · rfl
    · rfl
    · simp [r10Binds.f,r10Binds.j0,r10Binds.j1,bindsI,h4,h7,h5,h22,h27,h11,h12,h14]
  · simp [r10Binds.f,r10Binds.j0,r10Binds.j1,bindsI,i1,i0]
noncomputable def frR(l:List Cl):Bool:=valO false fun k=>r03Right.f k l
noncomputable def faR(l:List Cl):Bool:=valO false fun k=>r05Right.f k l
noncomputable def wiR(l:List Cl)(d:Int):Bool:=if l.length=0 then true else valO false fun k=>r10low.f k l d
noncomputable def nmR(s:ByteArray):Bool:=valO false fun k=>r10name.f k s
def PFr(l:List Cl):Prop:=(hasO fun k=>r03Right.f k l)∧(hasO fun k=>r05Right.f k l)∧(∀d,0≤d→d≤1000→hasO fun k=>r10low.f k l d)∧(l.length=0→∀d,∃k,r10low.f k l d=some true)
def PNr(s:ByteArray):Prop:=hasO fun k=>r10name.f k s
theorem rallP_all:RAllP PFr PNr frR faR wiR nmR where
  kids a w:=r10Kids.calls a _ w rfl
  parts a w:=(r10Parts.calls a _ w (rpartsx a)).mono fun e w' ⟨he,hb⟩=>⟨he,hb.below⟩
  more a w:=(r10More.calls a _ w (rmorex a)).mono fun e w' ⟨he,hb⟩=>⟨he,hb.below⟩
  binds a i w:=(r10Binds.calls 8 a i _ _ w (rbindsx a i)).mono fun e w' ⟨he,hb⟩=>⟨he,hb.below⟩
  fright A c l w hC hl hp:=by
    obtain⟨k,hk⟩:=valO_some (d:=false) (r03Right.mono l) hp.1
    exact r03Right.calls k A c l _ w hC hl hk
  faright A c l w hC hl hp:=by
    obtain⟨k,hk⟩:=valO_some (d:=false) (r05Right.mono l) hp.2.1
    exact r05Right.calls k A c l _ w hC hl hk
  low A c l d w hC hl hp h0 h1:=by
    unfold wiR
    by_cases h:l.length=0
    · rw [if_pos h]
      obtain⟨k,hk⟩:=hp.2.2.2 h d
      exact r10low.calls k A c l d _ w hC hl hk
    · rw [if_neg h]
      obtain⟨k,hk⟩:=valO_some (d:=false) (r10low.mono l d) (hp.2.2.1 d h0 h1)
      exact r10low.calls k A c l d _ w hC hl hk
  name s w hp:=by
    obtain⟨k,hk⟩:=valO_some (d:=false) (r10name.mono s) hp
    exact(r10name.calls k s _ w hk).mono fun e w' ⟨he,hb⟩=>⟨he,hb.below⟩
  nil d:=rfl
def rallG(t:Tm)(a1 a2:Int)(a3:Bool):Prop:=a3=true∧okS PFr PNr t∧0≤a1∧a1+sizeT t≤1000000000∧0≤a2∧a2≤25
noncomputable def r10All.f(a0_0 a0_1:Int)(a0_2:ByteArray)(l0_3:List S113)(l0_4:List S49)(l0_5:List S90)(a1 a2:Int)(a3:Bool):Option Bool:=@ite _ (rallG (⟨a0_0,a0_1,a0_2,l0_3,l0_4,l0_5⟩:Tm) a1 a2 a3) (Classical.propDecidable _) (some (allT frR faR wiR nmR (⟨a0_0,a0_1,a0_2,l0_3,l0_4,l0_5⟩:Tm) a1 a2)) none
theorem r10All.calls(a0_0:Int)(a0_1:Int)(a0_2:ByteArray)(A0_3:Option Addr)(c0_3:Nat)(l0_3:List (S113))(A0_4:Option Addr)(c0_4:Nat)(l0_4:List (S49))(A0_5:Option Addr)(c0_5:Nat)(l0_5:List (S90))(a1:Int)(a2:Int)(a3:Bool)(r:Bool)(w:World)(hr0_3:Kd.C k113 w A0_3 l0_3.length l0_3)(hc0_3:l0_3.length≤c0_3)(hr0_4:Kd.C k49 w A0_4 l0_4.length l0_4)(hc0_4:l0_4.length≤c0_4)(hr0_5:Kd.C k90 w A0_5 l0_5.length l0_5)(hc0_5:l0_5.length≤c0_5)(h:r10All.f a0_0 a0_1 a0_2 l0_3 l0_4 l0_5 a1 a2 a3=some r) :
    Calls Tryz.prog 44 #[.agg #[.int .i64 a0_0,.int .i64 a0_1,.string a0_2,.slice A0_3 l0_3.length c0_3,.slice A0_4 l0_4.length c0_4,.slice A0_5 l0_5.length c0_5],.int .i64 a1,.int .i64 a2,.bool a3] w fun e w'=>e=.returned (.bool r)∧Below w.heap.size w w':=by
 unfold r10All.f at h
 by_cases hr:rallG (⟨a0_0,a0_1,a0_2,l0_3,l0_4,l0_5⟩:Tm) a1 a2 a3
 ·rw [if_pos hr] at h
  obtain rfl:=Option.some.inj h
  obtain⟨rfl,h1,h2,h3,h4,h5⟩:=hr
  exact ref10_All rallP_all (sizeT (⟨a0_0,a0_1,a0_2,l0_3,l0_4,l0_5⟩:Tm)) (⟨a0_0,a0_1,a0_2,l0_3,l0_4,l0_5⟩:Tm) a1 a2 _ w (Nat.le_refl _) h1 h2 h3 h4 h5 (k49_mk w (⟨a0_0,a0_1,a0_2,l0_3,l0_4,l0_5⟩:Tm) hc0_3 hr0_3 hc0_4 hr0_4 hc0_5 hr0_5)
 ·rw [if_neg hr] at h
  exact absurd h (by simp)
def r10Right.j0:Nat→Int→Int→Bool→Int→Int→ByteArray→List (S113)→List (S49)→List (S90)→Option (Int)
  | 0,_,_,_,_,_,_,_,_,_=>none
  | k+1,x1,x2,x17,x264000,x264001,x264002,x264003,x264004,x264005=>if x17=true then(some 2) else((r10sized.f k x264000 x264001 x264002 x264003 x264004 x264005).bind fun t264=>(if t264=0 then((r10All.f x264000 x264001 x264002 x264003 x264004 x264005 x1 x2 true).bind fun t265=>(if t265=true then(some t264) else(some 100))) else(some t264)))
def r10Right.f(k:Nat)(a0_0:Int)(a0_1:Int)(a0_2:ByteArray)(l0_3:List (S113))(l0_4:List (S49))(l0_5:List (S90))(a1:Int)(a2:Int):Option (Int):=if a1<0 then(r10Right.j0 k a1 a2 true a0_0 a0_1 a0_2 l0_3 l0_4 l0_5) else(if a2<0 then(r10Right.j0 k a1 a2 true a0_0 a0_1 a0_2 l0_3 l0_4 l0_5) else(r10Right.j0 k a1 a2 (decide (a2 > 24)) a0_0 a0_1 a0_2 l0_3 l0_4 l0_5))
theorem r10Right.mono_l:∀k,(∀y0 y1 y2 y3 y4 y5 y6 y7 y8,LeO (r10Right.j0 k y0 y1 y2 y3 y4 y5 y6 y7 y8) (r10Right.j0 (k+1) y0 y1 y2 y3 y4 y5 y6 y7 y8))
  | 0=>fun _ _ _ _ _ _ _ _ _ r h=>by simp [r10Right.j0] at h
  | k+1=>by
    have ih0:=r10Right.mono_l k
    · intros;unfold r10Right.j0;have m0_:=@r10sized.mono;exact tMo
theorem r10Right.mono:∀a0 a1 a2 a3 a4 a5 a6 a7 k,LeO (r10Right.f k a0 a1 a2 a3 a4 a5 a6 a7) (r10Right.f (k+1) a0 a1 a2 a3 a4 a5 a6 a7):=by
  intro a0 a1 a2 a3 a4 a5 a6 a7 k
  have ih0:=r10Right.mono_l k
  unfold r10Right.f
  have m0_:=@r10sized.mono
  exact tMo
theorem r10Right.z0{p:Prop}(h_:p:=by obtain rfl:=Option.some.inj H;(try (have hcz:=cz6 BK263.out));go_wp2_with (first | ((with_reducible refine gf_ 43 rfl ?_);refine gC_ (some 19) Tryz.func43 #[.agg #[.int .i64 a0_0,.int .i64 a0_1,.string a0_2,.slice A0_3 l0_3.length c0_3,.slice A0_4 l0_4.length c0_4,.slice A0_5 l0_5.length c0_5]] ?_;(with_reducible refine(r10sized.calls kj3 a0_0 a0_1 a0_2 _ _ l0_3 _ _ l0_4 _ _ l0_5 t264 _ ?side1 ?side2 ?side3 ?side4 ?side5 ?side6 A9.out).mono ?_);(case side1=>exact tCb HR0_3 HB);(case side2=>exact HC0_3.out);(case side3=>exact tCb HR0_4 HB);(case side4=>exact HC0_4.out);(case side5=>exact tCb HR0_5 HB);(case side6=>exact HC0_5.out);rintro e wa ⟨rfl,hb⟩;refine⟨_,rfl, ?_⟩;replace BK263:=ak (blk_below (g:=gb263) (o:=.cells #[.int .i64 a0_0,.int .i64 a0_1,.string a0_2,.slice A0_3 l0_3.length c0_3,.slice A0_4 l0_4.length c0_4,.slice A0_5 l0_5.length c0_5] 49 (0,0)) (tK BK263) hb);replace HB:=ak (below_step (tBs GE263) hb);(try clear hb);have hcza:=cz6 BK263.out) | (go_at_call 44;(with_reducible refine(r10All.calls a0_0 a0_1 a0_2 _ _ l0_3 _ _ l0_4 _ _ l0_5 a1 a2 true false _ ?side1 ?side2 ?side3 ?side4 ?side5 ?side6 A11.out).mono ?_);(case side1=>exact tCb HR0_3 HB);(case side2=>exact HC0_3.out);(case side3=>exact tCb HR0_4 HB);(case side4=>exact HC0_4.out);(case side5=>exact tCb HR0_5 HB);(case side6=>exact HC0_5.out);rintro e wa ⟨rfl,hb⟩;replace BK263:=ak (blk_below (g:=gb263) (o:=.cells #[.int .i64 a0_0,.int .i64 a0_1,.string a0_2,.slice A0_3 l0_3.length c0_3,.slice A0_4 l0_4.length c0_4,.slice A0_5 l0_5.length c0_5] 49 (0,0)) (tK BK263) hb);replace HB:=ak (below_step (tBs GE263) hb);(try clear hb)) | (go_at_call 44;(with_reducible refine(r10All.calls a0_0 a0_1 a0_2 _ _ l0_3 _ _ l0_4 _ _ l0_5 a1 a2 true true _ ?side1 ?side2 ?side3 ?side4 ?side5 ?side6 A11.out).mono ?_);(case side1=>exact tCb HR0_3 HB);(case side2=>exact HC0_3.out);(case side3=>exact tCb HR0_4 HB);(case side4=>exact HC0_4.out);(case side5=>exact tCb HR0_5 HB);(case side6=>exact HC0_5.out);rintro e wa ⟨rfl,hb⟩;replace BK263:=ak (blk_below (g:=gb263) (o:=.cells #[.int .i64 a0_0,.int .i64 a0_1,.string a0_2,.slice A0_3 l0_3.length c0_3,.slice A0_4 l0_4.length c0_4,.slice A0_5 l0_5.length c0_5] 49 (0,0)) (tK BK263) hb);replace HB:=ak (below_step (tBs GE263) hb);(try clear hb)));go_ret;exact⟨tE,by repeat (first | (with_reducible first | exact HB.out | apply below_alloc | apply pw_below_drewN | apply below_drew1 | refine below_set ?_ GE263.out) | exact HB.out)⟩):p:=h_
set_option maxHeartbeats 8000000 in
theorem r10Right.calls(k:Nat)(a0_0:Int)(a0_1:Int)(a0_2:ByteArray)(A0_3:Option Addr)(c0_3:Nat)(l0_3:List (S113))(A0_4:Option Addr)(c0_4:Nat)(l0_4:List (S49))(A0_5:Option Addr)(c0_5:Nat)(l0_5:List (S90))(a1:Int)(a2:Int)(r:Int)(w:World)(hr0_3:Kd.C k113 w A0_3 l0_3.length l0_3)(hc0_3:l0_3.length≤c0_3)(hr0_4:Kd.C k49 w A0_4 l0_4.length l0_4)(hc0_4:l0_4.length≤c0_4)(hr0_5:Kd.C k90 w A0_5 l0_5.length l0_5)(hc0_5:l0_5.length≤c0_5)(h:r10Right.f k a0_0 a0_1 a0_2 l0_3 l0_4 l0_5 a1 a2=some r) :
  Calls Tryz.prog 25 #[.agg #[.int .i64 a0_0,.int .i64 a0_1,.string a0_2,.slice A0_3 l0_3.length c0_3,.slice A0_4 l0_4.length c0_4,.slice A0_5 l0_5.length c0_5],.int .i64 a1,.int .i64 a2] w fun e w'=>e=.returned (.int .i64 r)∧Below w.heap.size w w':=by
 have hu49:=Tryz.underlying49
 have HR0_3:=ak hr0_3
 have HC0_3:=ak hc0_3
 clear hr0_3 hc0_3
 have HR0_4:=ak hr0_4
 have HC0_4:=ak hc0_4
 clear hr0_4 hc0_4
 have HR0_5:=ak hr0_5
 have HC0_5:=ak hc0_5
 clear hr0_5 hc0_5
 have HB:=ak (Below.refl w.heap.size w)
 have H:(if a1<0 then(r10Right.j0 k a1 a2 true a0_0 a0_1 a0_2 l0_3 l0_4 l0_5) else(if a2<0 then(r10Right.j0 k a1 a2 true a0_0 a0_1 a0_2 l0_3 l0_4 l0_5) else(r10Right.j0 k a1 a2 (decide (a2 > 24)) a0_0 a0_1 a0_2 l0_3 l0_4 l0_5)))=some r:=h
 clear h
 have HC4:=ak H
 clear H
 go_enter Tryz.func25,Tryz.ntmps25
 go_upto_region 1 with(first | ((with_reducible refine gd_ 3 rfl ?_);refine boxE 3 #[.int .i64 a0_0,.int .i64 a0_1,.string a0_2,.slice A0_3 l0_3.length c0_3,.slice A0_4 l0_4.length c0_4,.slice A0_5 l0_5.length c0_5] 49 ?_;intro gb263 hg w5 hbox hb;have BK263:=ak (hbox);have GW263:=ak (tG:w.heap.size≤gb263);have GE263:=ak (tG:w.heap.size≤gb263);replace HB:=ak (below_step tB hb);clear hb hbox hg))
 (try simp only [Act.put,List.setIfInBounds_toArray,List.set_cons_zero,List.set_cons_succ])
 go_cut [17] (fun v17 wc=>∃(kq:Nat) (x17_3:Bool),v17=.bool x17_3∧Aside0 (r10Right.j0 kq a1 a2 x17_3 a0_0 a0_1 a0_2 l0_3 l0_4 l0_5=some r)∧Aside0 (kq≤k)∧Aside0 (wc.heap[gb263]? = some (.cells #[.int .i64 a0_0,.int .i64 a0_1,.string a0_2,(.slice A0_3 l0_3.length c0_3),(.slice A0_4 l0_4.length c0_4),(.slice A0_5 l0_5.length c0_5)] 49 (0,0)))∧Aside0 (Below w.heap.size w wc))
 case first =>
  have H:=HC4.out
  clear HC4
  replace H:=iD H
  rcases H with⟨c6b0,H⟩ | ⟨c6b0,H⟩
  ·(first | rw [c6b0] | (simp only [i64_w,i32_w];rw [c6b0]) | skip)
   exact zz10
  (first | rw [c6b0] | (simp only [i64_w,i32_w];rw [c6b0]) | skip)
  replace H:=iD H
  rcases H with⟨c7b0,H⟩ | ⟨c7b0,H⟩
  ·exact zz10
  have H':=ak H
  clear H
  go_wp2
  go_meet
  case rel=>exact⟨_,(decide (a2 > 24)),tS,H',⟨by first | omega | exact Nat.le_refl _⟩,⟨tK BK263⟩,⟨tBs GE263⟩⟩
 case rest =>
  clear HC4
  obtain⟨kq,x17_3,rfl,HA,HJ3,BK263,HB⟩:=hcut
  cases kq with
  | zero=>exact absurd HA.out (by simp [r10Right.j0])
  | succ kj3 =>
   have H:=HA.out
   clear HA
   simp only [r10Right.j0] at H
   replace H:=iB H
   rcases H with⟨rfl,H⟩ | ⟨rfl,H⟩
   ·obtain rfl:=Option.some.inj H
    go_wp2
    go_ret
    exact⟨tE,by repeat (first | (with_reducible first | exact HB.out | apply below_alloc | apply pw_below_drewN | apply below_drew1 | refine below_set ?_ GE263.out) | exact HB.out)⟩
   replace H:=iX H
   obtain⟨t264,A9,H⟩:=H
   replace H:=iE H
   rcases H with⟨c10b0,c10b1,H⟩ | ⟨c10,c10b0,c10b1,H⟩
   ·replace H:=iX H
    obtain⟨t265,A11,H⟩:=H
    replace H:=iB H
    rcases H with⟨rfl,H⟩ | ⟨rfl,H⟩
    ·exact r10Right.z0
    exact r10Right.z0
   obtain rfl:=Option.some.inj H
   have hcz21:=cz6 BK263.out
   go_wp2_with (first | ((with_reducible refine gf_ 43 rfl ?_);refine gC_ (some 19) Tryz.func43 #[.agg #[.int .i64 a0_0,.int .i64 a0_1,.string a0_2,.slice A0_3 l0_3.length c0_3,.slice A0_4 l0_4.length c0_4,.slice A0_5 l0_5.length c0_5]] ?_;(with_reducible refine(r10sized.calls kj3 a0_0 a0_1 a0_2 _ _ l0_3 _ _ l0_4 _ _ l0_5 t264 _ ?side1 ?side2 ?side3 ?side4 ?side5 ?side6 A9.out).mono ?_);(case side1=>exact tCb HR0_3 HB);(case side2=>exact HC0_3.out);(case side3=>exact tCb HR0_4 HB);(case side4=>exact HC0_4.out);(case side5=>exact tCb HR0_5 HB);(case side6=>exact HC0_5.out);rintro e w22 ⟨rfl,hb⟩;refine⟨_,rfl, ?_⟩;replace BK263:=ak (blk_below (g:=gb263) (o:=.cells #[.int .i64 a0_0,.int .i64 a0_1,.string a0_2,.slice A0_3 l0_3.length c0_3,.slice A0_4 l0_4.length c0_4,.slice A0_5 l0_5.length c0_5] 49 (0,0)) (tK BK263) hb);replace HB:=ak (below_step (tBs GE263) hb);(try clear hb)))
   go_ret
   exact⟨tE,by repeat (first | (with_reducible first | exact HB.out | apply below_alloc | apply pw_below_drewN | apply below_drew1 | refine below_set ?_ GE263.out) | exact HB.out)⟩
def r36rowed.f(a0:Int):Option (Bool):=if a0=13 then(some true) else(if a0=21 then(some true) else(if a0=26 then(some true) else(some (a0==14))))
set_option maxHeartbeats 8000000 in
theorem r36rowed.calls(a0:Int)(r:Bool)(w:World)(h:r36rowed.f a0=some r) :
  Calls Tryz.prog 45 #[.int .i64 a0] w fun e w'=>e=.returned (.bool r)∧Drawn0 w w':=by
 have H:(if a0=13 then(some true) else(if a0=21 then(some true) else(if a0=26 then(some true) else(some (a0==14)))))=some r:=h
 clear h
 replace H:=iE H
 rcases H with⟨c2b0,c2b1,H⟩ | ⟨c2,c2b0,c2b1,H⟩
 ·obtain rfl:=Option.some.inj H
  go_enter Tryz.func45,Tryz.ntmps45
  exact zz0
 replace H:=iE H
 rcases H with⟨c3b0,c3b1,H⟩ | ⟨c3,c3b0,c3b1,H⟩
 ·obtain rfl:=Option.some.inj H
  go_enter Tryz.func45,Tryz.ntmps45
  exact zz0
 replace H:=iE H
 rcases H with⟨c4b0,c4b1,H⟩ | ⟨c4,c4b0,c4b1,H⟩
 ·obtain rfl:=Option.some.inj H
  go_enter Tryz.func45,Tryz.ntmps45
  exact zz0
 obtain rfl:=Option.some.inj H
 go_enter Tryz.func45,Tryz.ntmps45
 exact zz0
noncomputable def nbQ(s:ByteArray):Bool:=valO false fun k=>r08Named.f k s
noncomputable def r3Q(l:List Cl):Bool:=valO false fun k=>r03Right.f k l
noncomputable def r5Q(l:List Cl):Bool:=valO false fun k=>r05Right.f k l
noncomputable def rtQ(t:Tm):Int:=valO 0 fun k=>r10Right.f k t.f0 t.f1 t.f2 t.f3 t.f4 t.f5 0 0
noncomputable def smQ(l:List Int):Int:=valO 0 fun k=>r36Sum.f k l
def PNQ(s:ByteArray):Prop:=hasO fun k=>r08Named.f k s
def PFQ(l:List Cl):Prop:=(hasO fun k=>r03Right.f k l)∧(hasO fun k=>r05Right.f k l)
def PTQ(t:Tm):Prop:=hasO fun k=>r10Right.f k t.f0 t.f1 t.f2 t.f3 t.f4 t.f5 0 0
def PSQ(l:List Int):Prop:=hasO fun k=>r36Sum.f k l
theorem rpartsQ(a:Int):r10Parts.f a=some (partsI a):=by
  have h:a=16∨a=15∨a=17∨a=18∨(a≠16∧a≠15∧a≠17∧a≠18):=by omega
  rcases h with rfl | rfl | rfl | rfl | ⟨h16,h15,h17,h18⟩
  · rfl
  · rfl
  · rfl
  · rfl
  · simp [r10Parts.f,partsI,h16,h15,h17,h18]
theorem rrowedQ(a:Int):r36rowed.f a=some (decide (a=13∨a=21∨a=26∨a=14)):=by
  have h:a=13∨a=21∨a=26∨a=14∨(a≠13∧a≠21∧a≠26∧a≠14):=by omega
  rcases h with rfl | rfl | rfl | rfl | ⟨h1,h2,h3,h4⟩
  · rfl
  · rfl
  · rfl
  · rfl
  · simp [r36rowed.f,h1,h2,h3,h4]
def rreadG:Prop:=(∀s:ByteArray,s.size≤1048576→PNQ s)∧∀(f:List Cl),f.length≤64→(∀x∈f,0≤x.f0∧x.f0≤2147483647∧0≤x.f1∧x.f1≤2147483647)→PFQ f
theorem readD_all(hg:rreadG):ReadD PNQ PFQ nbQ r3Q r5Q where
  named s w hT hp:=by
    obtain⟨k,hk⟩:=valO_some (d:=false) (r08Named.mono s) hp
    first | exact r08Named.calls k s _ w hk | exact(r08Named.calls k s _ w hk).mono fun e w' ⟨he,hb⟩=>⟨he,hb.below⟩
  fright A c l w hC hl hp:=by
    obtain⟨k,hk⟩:=valO_some (d:=false) (r03Right.mono l) hp.1
    exact r03Right.calls k A c l _ w hC hl hk
  faright A c l w hC hl hp:=by
    obtain⟨k,hk⟩:=valO_some (d:=false) (r05Right.mono l) hp.2
    exact r05Right.calls k A c l _ w hC hl hk
  kids:=ref10_Kids
  parts a w:=(r10Parts.calls a _ w (rpartsQ a)).mono fun e w' ⟨he,hb⟩=>⟨he,hb.below⟩
  rowed a w:=(r36rowed.calls a _ w (rrowedQ a)).mono fun e w' ⟨he,hb⟩=>⟨he,hb.below⟩
  pn:=hg.1
  pf:=hg.2
def rdecG(l:List Int):Prop:=rreadG∧(∀x∈l,0≤x∧x<256)∧(l.length≤1000000∨1048576<l.length)∧PSQ (l.take (l.length-4))∧∀(s:Nat) (t:Tm) (s1:Nat),termS nbQ (rgt r3Q r5Q false) (rgt r3Q r5Q true) (l.take (l.length-4)) 200 s=.ok (t,s1)→PTQ t
noncomputable def r36Decode.f(l0:List Int):Option (List S51×Int×Int):=@ite _ (rdecG l0) (Classical.propDecidable _) (some (rdecI nbQ (rgt r3Q r5Q false) (rgt r3Q r5Q true) rtQ smQ l0)) none
theorem r36Decode.calls(A0:Option Addr)(c0:Nat)(l0:List Int)(r1:List S51)(r2:Int)(r3:Int)(w:World)(HT:Aside0 (Tab w))(hr0:Kd.C (Kd.int .u8) w A0 l0.length l0)(hc0:l0.length≤c0)(h:r36Decode.f l0=some (r1,r2,r3)) :
    Calls Tryz.prog 14 #[.slice A0 l0.length c0] w fun e w'=>∃v0_:Value,e=.returned (.tuple #[v0_,.int .i64 r2,.int .i64 r3])∧Kd.R k51 51 w' w.heap.size (fun _=>True) v0_ r1∧Below w.heap.size w w':=by
 unfold r36Decode.f at h
 by_cases hr:rdecG l0
 ·rw [if_pos hr] at h
  have h2:=Option.some.inj h
  have hc:=ref36_Decode (readD_all hr.1) (PT:=PTQ) (rt:=rtQ) (fun t cs w hK hp=>by
   obtain⟨k,hk⟩:=valO_some (d:=0) (r10Right.mono t.f0 t.f1 t.f2 t.f3 t.f4 t.f5 0 0) hp
   obtain⟨A3,c3,A4,c4,A5,c5,rfl,l3,g3,l4,g4,l5,g5⟩:=k49_open hK
   exact r10Right.calls k t.f0 t.f1 t.f2 A3 c3 t.f3 A4 c4 t.f4 A5 c5 t.f5 0 0 _ w g3 l3 g4 l4 g5 l5 hk) (PS:=PSQ) (sm:=smQ) (fun A c l w hC hl hp=>by
   obtain⟨k,hk⟩:=valO_some (d:=0) (r36Sum.mono l) hp
   exact(r36Sum.calls k A c l _ w hC hl hk).mono fun e w' ⟨he,hb⟩=>⟨he,hb.below⟩) A0 c0 l0 w HT.out hr0 hc0 hr.2.2.1 hr.2.1 hr.2.2.2.1 hr.2.2.2.2
  rw [h2] at hc
  exact hc
 ·rw [if_neg hr] at h
  exact absurd h (by simp)
def sameG(a b:List S51):Prop:=a=b∧∀x∈a,okS (fun l=>∃k,r02Same.f k l l=some true) (fun _=>True) x.f1∧okS (fun l=>∃k,r02Same.f k l l=some true) (fun _=>True) x.f2
noncomputable def r36Same.f(a b:List S51):Option Bool:=@ite _ (sameG a b) (Classical.propDecidable _) (some true) none
theorem r36Same.calls(A0:Option Addr)(c0:Nat)(l0:List S51)(A1:Option Addr)(c1:Nat)(l1:List S51)(r:Bool)(w:World)(hr0:Kd.C k51 w A0 l0.length l0)(hc0:l0.length≤c0)(hr1:Kd.C k51 w A1 l1.length l1)(hc1:l1.length≤c1)(h:r36Same.f l0 l1=some r) :
    Calls Tryz.prog 15 #[.slice A0 l0.length c0,.slice A1 l1.length c1] w fun e w'=>e=.returned (.bool r)∧Below w.heap.size w w':=by
 unfold r36Same.f at h
 by_cases hr:sameG l0 l1
 ·rw [if_pos hr] at h
  obtain rfl:=Option.some.inj h
  obtain⟨rfl,hk⟩:=hr
  exact ref36_Same (PF:=fun l=>∃k,r02Same.f k l l=some true) (fun A1 c1 A2 c2 l w h1 h2 h3 h4 ⟨k,hp⟩=>(r02Same.calls k A1 c1 l A2 c2 l _ w h1 h2 h3 h4 hp).mono fun e w' ⟨he,hb⟩=>⟨he,hb.below⟩) A0 c0 A1 c1 l0 w hr0 hc0 hr1 hc1 hk
 ·rw [if_neg hr] at h
  exact absurd h (by simp)
end
end Go.Proofs.YtahdjajdaggmjaaGreatDoor.XPd
end
