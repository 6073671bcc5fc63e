/-
Walks: term.own,term.all.
-/
import Derived.Test.YtahdjajdaggmjaaGreatDoorZsiz
import Derived.StringKeys
import Derived.WalkSmall
import Derived.Tactics2
set_option maxRecDepth 100000
section
set_option linter.unusedVariables false
set_option linter.unusedSimpArgs false
namespace Go.Proofs.YtahdjajdaggmjaaGreatDoor.XPd
open Go.RowKit Go.Proofs.YtahdjajdaggmjaaGreatDoorW.PrintWords Go.Proofs.YtahdjajdaggmjaaGreatDoorW.PrintLast Go.Proofs.YtahdjajdaggmjaaGreatDoorW.PrintMore
structure OwnP(PF:List Cl→Prop)(PN:ByteArray→Prop)(fr fa:List Cl→Bool)(wi:List Cl→Int→Bool)(nm:ByteArray→Bool):Prop where
 kids:∀(a:Int) (w:World),Calls Tryz.prog 85 #[.int .i64 a] w fun e w'=>e=.returned (.int .i64 (kidsI a))∧∃n,w'=w.drewN n
 parts:∀(a:Int) (w:World),Calls Tryz.prog 41 #[.int .i64 a] w fun e w'=>e=.returned (.int .i64 (partsI a))∧∃n,w'=w.drewN n
 fright:∀(A:Option Addr) (c:Nat) (l:List Cl) (w:World),Kd.C k113 w A l.length l→l.length≤c→PF l→Calls Tryz.prog 87 #[.slice A l.length c] w fun e w'=>e=.returned (.bool (fr l))∧Below w.heap.size w w'
 faright:∀(A:Option Addr) (c:Nat) (l:List Cl) (w:World),Kd.C k113 w A l.length l→l.length≤c→PF l→Calls Tryz.prog 88 #[.slice A l.length c] w fun e w'=>e=.returned (.bool (fa l))∧Below w.heap.size w w'
 within:∀(A:Option Addr) (c:Nat) (l:List Cl) (d:Int) (w:World),Kd.C k113 w A l.length l→l.length≤c→PF l→0≤d→d≤1000→Calls Tryz.prog 96 #[.slice A l.length c,.int .i64 d] w fun e w'=>e=.returned (.bool (wi l d))∧Below w.heap.size w w'
 name:∀(s:ByteArray) (w:World),PN s→Calls Tryz.prog 95 #[.string s] w fun e w'=>e=.returned (.bool (nm s))∧Below w.heap.size w w'
def ownBad(t:Tm):Prop:=kidsI t.f0≠(t.f4.length:Int)∨t.f0≠1∧t.f1≠0∨t.f0≠2∧t.f2.size≠0∨partsI t.f0=0∧0<t.f5.length
instance (t:Tm):Decidable (ownBad t):=by unfold ownBad;infer_instance
theorem ieq0{n:Nat}(h:n=0):((n:Int)==0)=true:=by simp [h]
theorem ine0{n:Nat}(h:¬n=0):((n:Int)==0)=false:=by simp [h]
def ownR(fa:List Cl→Bool)(wi:List Cl→Int→Bool)(kind dims:Int)(b:Br):Bool:=decide ((b.f1.length:Int)=partsI kind)&&fa b.f0&&wi b.f0 dims
def ownB(fr fa:List Cl→Bool)(wi:List Cl→Int→Bool)(nm:ByteArray→Bool)(t:Tm)(vars dims:Int):Bool :=
 if ownBad t then false else if t.f0=1 then decide (t.f3.length=0)&&decide (0≤t.f1)&&(decide (vars<0)||decide (t.f1<vars))
 else if t.f0=2 then decide (t.f3.length=0)&&nm t.f2 else if t.f0=13∨t.f0=21∨t.f0=26 then fr t.f3&&wi t.f3 dims else if t.f0=14 then fa t.f3&&wi t.f3 dims
 else t.f5.all (ownR fa wi t.f0 dims)&&decide (t.f3.length=0)
def okN(PF:List Cl→Prop)(PN:ByteArray→Prop)(t:Tm):Prop:=PF t.f3∧PN t.f2∧∀b∈t.f5,PF b.f0
theorem str_no{s:ByteArray}(h:s.size=0):s.toList.isEmpty=true:=by
 rw [ByteArray.toList_eq,List.isEmpty_iff_length_eq_zero,data_length,h]
theorem str_yes{s:ByteArray}(h:¬s.size=0):s.toList.isEmpty=false:=by
 rw [Bool.eq_false_iff,ne_eq,ByteArray.toList_eq,List.isEmpty_iff_length_eq_zero,data_length]
 exact h
set_option maxHeartbeats 4000000 in
theorem term_own{PF:List Cl→Prop}{PN:ByteArray→Prop}{fr fa:List Cl→Bool}{wi:List Cl→Int→Bool}{nm:ByteArray→Bool}(OP:OwnP PF PN fr fa wi nm)(t:Tm)(cs:List Value)(vars dims:Int)(w:World)(hK:k49.K w t cs)(ho:okN PF PN t)(hd0:0≤dims)(hd1:dims≤1000) :
  Calls Tryz.prog 77 #[.agg cs.toArray,.int .i64 vars,.int .i64 dims] w fun e w'=>e=.returned (.bool (ownB fr fa wi nm t vars dims))∧Below w.heap.size w w':=by
 obtain⟨A3,c3,A4,c4,A5,c5,rfl,l3,g3,l4,g4,l5,g5⟩:=k49_open hK
 have HP:=ak OP
 have HO:=ak ho
 have HG3:=ak g3
 have HL3:=ak l3
 have HG5:=ak g5
 have hm4:t.f4.length≤9223372036854775807:=Kd.C_max g4
 have hm5:t.f5.length≤9223372036854775807:=Kd.C_max g5
 have HB0:=ak (below_alloc (Below.refl w.heap.size w) (.cells #[.int .i64 t.f0,.int .i64 t.f1,.string t.f2,.slice A3 t.f3.length c3,.slice A4 t.f4.length c4,.slice A5 t.f5.length c5] 49))
 have HT0:=ak (blk_new w (.cells #[.int .i64 t.f0,.int .i64 t.f1,.string t.f2,.slice A3 t.f3.length c3,.slice A4 t.f4.length c4,.slice A5 t.f5.length c5] 49))
 clear OP ho g3 g4 g5 l3 l4 l5 hK
 go_enter Tryz.func77,Tryz.ntmps77
 go_upto_region 1 with fail
 generalize hbt:w.heap.size=bt at *
 generalize hW0:w.alloc (.cells #[.int .i64 t.f0,.int .i64 t.f1,.string t.f2,.slice A3 t.f3.length c3,.slice A4 t.f4.length c4,.slice A5 t.f5.length c5] 49)=W0 at *
 clear hW0
 go_cut [47] from 9 to 47 (fun v47 wx=>∃bb:Bool,v47=.bool bb∧Aside0 (decide (ownBad t)=bb)∧Aside0 (Below bt w wx)∧Aside0 (wx.heap[bt]? = some (.cells #[.int .i64 t.f0,.int .i64 t.f1,.string t.f2,.slice A3 t.f3.length c3,.slice A4 t.f4.length c4,.slice A5 t.f5.length c5] 49 (0,0))))
 case first =>
  have hz0:=(blk_cell HT0.out 0).trans (rfl:_=some (Value.int .i64 t.f0))
  have hz1:=(blk_cell HT0.out 1).trans (rfl:_=some (Value.int .i64 t.f1))
  have hz2:=(blk_cell HT0.out 2).trans (rfl:_=some (Value.string t.f2))
  have hz4:=(blk_cell HT0.out 4).trans (rfl:_=some (Value.slice A4 t.f4.length c4))
  have hz5:=(blk_cell HT0.out 5).trans (rfl:_=some (Value.slice A5 t.f5.length c5))
  by_cases q1:kidsI t.f0=(t.f4.length:Int)
  ·have b1:(kidsI t.f0 != (t.f4.length:Int))=false:=by simp [q1]
   by_cases p1:t.f0=1
   ·have b2:(t.f0 != 1)=false:=by simp [p1]
    by_cases q2:t.f0=2
    ·have b4:(t.f0 != 2)=false:=by simp [q2]
     by_cases q4:partsI t.f0=0
     ·have b6:(partsI t.f0==0)=true:=by simp [q4]
      by_cases q5:t.f5.length=0
      ·have b7:decide (0<(t.f5.length:Int))=false:=decide_eq_false (by omega)
       have b8:decide (0<t.f5.length)=false:=decide_eq_false (by omega)
       have HQ:Aside0 (decide (ownBad t)=false):=⟨by refine decide_eq_false (fun h=>?_);unfold ownBad at h;omega⟩
       clear q1 p1 q2 q4 q5
       go_quiet (first | (go_at_call 85;exact Calls.quiet_of (HP.out.kids _ _)) | (go_at_call 41;exact Calls.quiet_of (HP.out.parts _ _)))
       go_wp2
       go_meet
       exact⟨_,rfl,HQ,⟨pw_below_drewN HB0.out _⟩,HT0⟩
      ·have b7:decide (0<(t.f5.length:Int))=true:=decide_eq_true (by omega)
       have b8:decide (0<t.f5.length)=true:=decide_eq_true (by omega)
       have HQ:Aside0 (decide (ownBad t)=true):=⟨by exact decide_eq_true (by unfold ownBad;omega)⟩
       clear q1 p1 q2 q4 q5
       go_quiet (first | (go_at_call 85;exact Calls.quiet_of (HP.out.kids _ _)) | (go_at_call 41;exact Calls.quiet_of (HP.out.parts _ _)))
       go_wp2
       go_meet
       exact⟨_,rfl,HQ,⟨pw_below_drewN HB0.out _⟩,HT0⟩
     ·have b6:(partsI t.f0==0)=false:=by simp [q4]
      have HQ:Aside0 (decide (ownBad t)=false):=⟨by refine decide_eq_false (fun h=>?_);unfold ownBad at h;omega⟩
      clear q1 p1 q2 q4
      go_quiet (first | (go_at_call 85;exact Calls.quiet_of (HP.out.kids _ _)) | (go_at_call 41;exact Calls.quiet_of (HP.out.parts _ _)))
      go_wp2
      go_meet
      exact⟨_,rfl,HQ,⟨pw_below_drewN HB0.out _⟩,HT0⟩
    ·have b4:(t.f0 != 2)=true:=by simp [q2]
     by_cases q3:t.f2.size=0
     ·have b5:=str_no q3
      by_cases q4:partsI t.f0=0
      ·have b6:(partsI t.f0==0)=true:=by simp [q4]
       by_cases q5:t.f5.length=0
       ·have b7:decide (0<(t.f5.length:Int))=false:=decide_eq_false (by omega)
        have b8:decide (0<t.f5.length)=false:=decide_eq_false (by omega)
        have HQ:Aside0 (decide (ownBad t)=false):=⟨by refine decide_eq_false (fun h=>?_);unfold ownBad at h;omega⟩
        clear q1 p1 q2 q3 q4 q5
        go_quiet (first | (go_at_call 85;exact Calls.quiet_of (HP.out.kids _ _)) | (go_at_call 41;exact Calls.quiet_of (HP.out.parts _ _)))
        go_wp2
        go_meet
        exact⟨_,rfl,HQ,⟨pw_below_drewN HB0.out _⟩,HT0⟩
       ·have b7:decide (0<(t.f5.length:Int))=true:=decide_eq_true (by omega)
        have b8:decide (0<t.f5.length)=true:=decide_eq_true (by omega)
        have HQ:Aside0 (decide (ownBad t)=true):=⟨by exact decide_eq_true (by unfold ownBad;omega)⟩
        clear q1 p1 q2 q3 q4 q5
        go_quiet (first | (go_at_call 85;exact Calls.quiet_of (HP.out.kids _ _)) | (go_at_call 41;exact Calls.quiet_of (HP.out.parts _ _)))
        go_wp2
        go_meet
        exact⟨_,rfl,HQ,⟨pw_below_drewN HB0.out _⟩,HT0⟩
      ·have b6:(partsI t.f0==0)=false:=by simp [q4]
       have HQ:Aside0 (decide (ownBad t)=false):=⟨by refine decide_eq_false (fun h=>?_);unfold ownBad at h;omega⟩
       clear q1 p1 q2 q3 q4
       go_quiet (first | (go_at_call 85;exact Calls.quiet_of (HP.out.kids _ _)) | (go_at_call 41;exact Calls.quiet_of (HP.out.parts _ _)))
       go_wp2
       go_meet
       exact⟨_,rfl,HQ,⟨pw_below_drewN HB0.out _⟩,HT0⟩
     ·have b5:=str_yes q3
      have HQ:Aside0 (decide (ownBad t)=true):=⟨by exact decide_eq_true (by unfold ownBad;omega)⟩
      clear q1 p1 q2 q3
      go_quiet (first | (go_at_call 85;exact Calls.quiet_of (HP.out.kids _ _)) | (go_at_call 41;exact Calls.quiet_of (HP.out.parts _ _)))
      go_wp2
      go_meet
      exact⟨_,rfl,HQ,⟨pw_below_drewN HB0.out _⟩,HT0⟩
   ·have b2:(t.f0 != 1)=true:=by simp [p1]
    by_cases p2:t.f1=0
    ·have b3:(t.f1 != 0)=false:=by simp [p2]
     by_cases q2:t.f0=2
     ·have b4:(t.f0 != 2)=false:=by simp [q2]
      by_cases q4:partsI t.f0=0
      ·have b6:(partsI t.f0==0)=true:=by simp [q4]
       by_cases q5:t.f5.length=0
       ·have b7:decide (0<(t.f5.length:Int))=false:=decide_eq_false (by omega)
        have b8:decide (0<t.f5.length)=false:=decide_eq_false (by omega)
        have HQ:Aside0 (decide (ownBad t)=false):=⟨by refine decide_eq_false (fun h=>?_);unfold ownBad at h;omega⟩
        clear q1 p1 p2 q2 q4 q5
        go_quiet (first | (go_at_call 85;exact Calls.quiet_of (HP.out.kids _ _)) | (go_at_call 41;exact Calls.quiet_of (HP.out.parts _ _)))
        go_wp2
        go_meet
        exact⟨_,rfl,HQ,⟨pw_below_drewN HB0.out _⟩,HT0⟩
       ·have b7:decide (0<(t.f5.length:Int))=true:=decide_eq_true (by omega)
        have b8:decide (0<t.f5.length)=true:=decide_eq_true (by omega)
        have HQ:Aside0 (decide (ownBad t)=true):=⟨by exact decide_eq_true (by unfold ownBad;omega)⟩
        clear q1 p1 p2 q2 q4 q5
        go_quiet (first | (go_at_call 85;exact Calls.quiet_of (HP.out.kids _ _)) | (go_at_call 41;exact Calls.quiet_of (HP.out.parts _ _)))
        go_wp2
        go_meet
        exact⟨_,rfl,HQ,⟨pw_below_drewN HB0.out _⟩,HT0⟩
      ·have b6:(partsI t.f0==0)=false:=by simp [q4]
       have HQ:Aside0 (decide (ownBad t)=false):=⟨by refine decide_eq_false (fun h=>?_);unfold ownBad at h;omega⟩
       clear q1 p1 p2 q2 q4
       go_quiet (first | (go_at_call 85;exact Calls.quiet_of (HP.out.kids _ _)) | (go_at_call 41;exact Calls.quiet_of (HP.out.parts _ _)))
       go_wp2
       go_meet
       exact⟨_,rfl,HQ,⟨pw_below_drewN HB0.out _⟩,HT0⟩
     ·have b4:(t.f0 != 2)=true:=by simp [q2]
      by_cases q3:t.f2.size=0
      ·have b5:=str_no q3
       by_cases q4:partsI t.f0=0
       ·have b6:(partsI t.f0==0)=true:=by simp [q4]
        by_cases q5:t.f5.length=0
        ·have b7:decide (0<(t.f5.length:Int))=false:=decide_eq_false (by omega)
         have b8:decide (0<t.f5.length)=false:=decide_eq_false (by omega)
         have HQ:Aside0 (decide (ownBad t)=false):=⟨by refine decide_eq_false (fun h=>?_);unfold ownBad at h;omega⟩
         clear q1 p1 p2 q2 q3 q4 q5
         go_quiet (first | (go_at_call 85;exact Calls.quiet_of (HP.out.kids _ _)) | (go_at_call 41;exact Calls.quiet_of (HP.out.parts _ _)))
         go_wp2
         go_meet
         exact⟨_,rfl,HQ,⟨pw_below_drewN HB0.out _⟩,HT0⟩
        ·have b7:decide (0<(t.f5.length:Int))=true:=decide_eq_true (by omega)
         have b8:decide (0<t.f5.length)=true:=decide_eq_true (by omega)
         have HQ:Aside0 (decide (ownBad t)=true):=⟨by exact decide_eq_true (by unfold ownBad;omega)⟩
         clear q1 p1 p2 q2 q3 q4 q5
         go_quiet (first | (go_at_call 85;exact Calls.quiet_of (HP.out.kids _ _)) | (go_at_call 41;exact Calls.quiet_of (HP.out.parts _ _)))
         go_wp2
         go_meet
         exact⟨_,rfl,HQ,⟨pw_below_drewN HB0.out _⟩,HT0⟩
       ·have b6:(partsI t.f0==0)=false:=by simp [q4]
        have HQ:Aside0 (decide (ownBad t)=false):=⟨by refine decide_eq_false (fun h=>?_);unfold ownBad at h;omega⟩
        clear q1 p1 p2 q2 q3 q4
        go_quiet (first | (go_at_call 85;exact Calls.quiet_of (HP.out.kids _ _)) | (go_at_call 41;exact Calls.quiet_of (HP.out.parts _ _)))
        go_wp2
        go_meet
        exact⟨_,rfl,HQ,⟨pw_below_drewN HB0.out _⟩,HT0⟩
      ·have b5:=str_yes q3
       have HQ:Aside0 (decide (ownBad t)=true):=⟨by exact decide_eq_true (by unfold ownBad;omega)⟩
       clear q1 p1 p2 q2 q3
       go_quiet (first | (go_at_call 85;exact Calls.quiet_of (HP.out.kids _ _)) | (go_at_call 41;exact Calls.quiet_of (HP.out.parts _ _)))
       go_wp2
       go_meet
       exact⟨_,rfl,HQ,⟨pw_below_drewN HB0.out _⟩,HT0⟩
    ·have b3:(t.f1 != 0)=true:=by simp [p2]
     have HQ:Aside0 (decide (ownBad t)=true):=⟨by exact decide_eq_true (by unfold ownBad;omega)⟩
     clear q1 p1 p2
     go_quiet (first | (go_at_call 85;exact Calls.quiet_of (HP.out.kids _ _)) | (go_at_call 41;exact Calls.quiet_of (HP.out.parts _ _)))
     go_wp2
     go_meet
     exact⟨_,rfl,HQ,⟨pw_below_drewN HB0.out _⟩,HT0⟩
  ·have b1:(kidsI t.f0 != (t.f4.length:Int))=true:=by simp [q1]
   have HQ:Aside0 (ownBad t):=⟨.inl q1⟩
   clear q1
   go_quiet (first | (go_at_call 85;exact Calls.quiet_of (HP.out.kids _ _)) | (go_at_call 41;exact Calls.quiet_of (HP.out.parts _ _)))
   go_wp2
   go_meet
   exact⟨true,rfl,⟨decide_eq_true HQ.out⟩,⟨pw_below_drewN HB0.out _⟩,HT0⟩
 case rest =>
  clear HB0 HT0
  obtain⟨bb,rfl,HBB,HB,HT⟩:=hcut
  have hz0:=(blk_cell HT.out 0).trans (rfl:_=some (Value.int .i64 t.f0))
  have hz1:=(blk_cell HT.out 1).trans (rfl:_=some (Value.int .i64 t.f1))
  have hz2:=(blk_cell HT.out 2).trans (rfl:_=some (Value.string t.f2))
  have hz3:=(blk_cell HT.out 3).trans (rfl:_=some (Value.slice A3 t.f3.length c3))
  have hz5:=(blk_cell HT.out 5).trans (rfl:_=some (Value.slice A5 t.f5.length c5))
  have hlen3:=Kd.C_max HG3.out
  cases bb
  rotate_left
  ·have hbad:ownBad t:=of_decide_eq_true HBB.out
   have HQ:Aside0 (ownB fr fa wi nm t vars dims=false):=⟨by rw [ownB,if_pos hbad]⟩
   clear hbad
   go_wp2
   go_ret
   exact⟨by rw [HQ.out];rfl,by rw [hbt];exact HB.out⟩
  ·have hbad:¬ownBad t:=of_decide_eq_false HBB.out
   have HQ0:Aside0 (ownB fr fa wi nm t vars dims=if t.f0=1 then decide (t.f3.length=0)&&decide (0≤t.f1)&&(decide (vars<0)||decide (t.f1<vars))
     else if t.f0=2 then decide (t.f3.length=0)&&nm t.f2 else if t.f0=13∨t.f0=21∨t.f0=26 then fr t.f3&&wi t.f3 dims else if t.f0=14 then fa t.f3&&wi t.f3 dims
     else t.f5.all (ownR fa wi t.f0 dims)&&decide (t.f3.length=0)):=⟨by rw [ownB,if_neg hbad]⟩
   clear hbad
   by_cases k1:t.f0=1
   ·have b1:(t.f0==1)=true:=by simp [k1]
    have HQ1:Aside0 (ownB fr fa wi nm t vars dims=(decide (t.f3.length=0)&&decide (0≤t.f1)&&(decide (vars<0)||decide (t.f1<vars)))):=⟨by rw [HQ0.out,if_pos k1]⟩
    clear k1
    by_cases r1:t.f3.length=0
    ·have d1:((t.f3.length:Int)==0)=true:=ieq0 r1
     have e1:decide (t.f3.length=0)=true:=decide_eq_true r1
     by_cases r2:0≤t.f1
     ·have e2:decide (0≤t.f1)=true:=decide_eq_true r2
      by_cases r3:vars<0
      ·have e3:decide (vars<0)=true:=decide_eq_true r3
       have HQ:Aside0 (ownB fr fa wi nm t vars dims=true):=⟨by rw [HQ1.out,e1,e2,e3];rfl⟩
       clear r1 r2 r3
       go_wp2
       go_ret
       exact⟨by rw [HQ.out];rfl,by rw [hbt];exact HB.out⟩
      ·have e3:decide (vars<0)=false:=decide_eq_false r3
       have HQ:Aside0 (ownB fr fa wi nm t vars dims=decide (t.f1<vars)):=⟨by rw [HQ1.out,e1,e2,e3];rfl⟩
       clear r1 r2 r3
       go_wp2
       go_ret
       exact⟨by rw [HQ.out];rfl,by rw [hbt];exact HB.out⟩
     ·have e2:decide (0≤t.f1)=false:=decide_eq_false r2
      have HQ:Aside0 (ownB fr fa wi nm t vars dims=false):=⟨by rw [HQ1.out,e1,e2];rfl⟩
      clear r1 r2
      go_wp2
      go_ret
      exact⟨by rw [HQ.out];rfl,by rw [hbt];exact HB.out⟩
    ·have d1:((t.f3.length:Int)==0)=false:=ine0 r1
     have HQ:Aside0 (ownB fr fa wi nm t vars dims=false):=⟨by rw [HQ1.out,decide_eq_false r1];rfl⟩
     clear r1
     go_wp2
     go_ret
     exact⟨by rw [HQ.out];rfl,by rw [hbt];exact HB.out⟩
   ·have b1:(t.f0==1)=false:=by simp [k1]
    by_cases k2:t.f0=2
    ·have b2:(t.f0==2)=true:=by simp [k2]
     have HQ1:Aside0 (ownB fr fa wi nm t vars dims=(decide (t.f3.length=0)&&nm t.f2)):=⟨by rw [HQ0.out,if_neg k1,if_pos k2]⟩
     have hcn:=HP.out.name t.f2 wc HO.out.2.1
     clear k1 k2
     by_cases r1:t.f3.length=0
     ·have d1:((t.f3.length:Int)==0)=true:=ieq0 r1
      have HQ:Aside0 (ownB fr fa wi nm t vars dims=nm t.f2):=⟨by rw [HQ1.out,decide_eq_true r1];rfl⟩
      clear r1
      go_wp2_with (go_at_call 95;refine hcn.mono ?_;rintro e w2 ⟨rfl,hb2⟩;have HB2:=ak (HB.out.trans (hb2.mono (by have:=HB.out.size;omega)));clear hb2 hcn)
      go_ret
      exact⟨by rw [HQ.out];rfl,by rw [hbt];exact HB2.out⟩
     ·have d1:((t.f3.length:Int)==0)=false:=ine0 r1
      have HQ:Aside0 (ownB fr fa wi nm t vars dims=false):=⟨by rw [HQ1.out,decide_eq_false r1];rfl⟩
      clear r1
      go_wp2
      go_ret
      exact⟨by rw [HQ.out];rfl,by rw [hbt];exact HB.out⟩
    ·have b2:(t.f0==2)=false:=by simp [k2]
     have HBw:Aside0 (Below w.heap.size w wc):=⟨by rw [hbt];exact HB.out⟩
     by_cases k3:t.f0=13∨t.f0=21∨t.f0=26
     ·have hbs:(t.f0==13)=true∨(t.f0==13)=false∧(t.f0==21)=true∨(t.f0==13)=false∧(t.f0==21)=false∧(t.f0==26)=true:=by
       rcases k3 with e | e | e<;>simp [e]
      have HQ1:Aside0 (ownB fr fa wi nm t vars dims=(fr t.f3&&wi t.f3 dims)):=⟨by rw [HQ0.out,if_neg k1,if_neg k2,if_pos k3]⟩
      clear k1 k2 k3
      have hcr:=HP.out.fright A3 c3 t.f3 wc (Kd.C_below HG3.out HBw.out) HL3.out HO.out.1
      cases hr:fr t.f3
      ·rw [hr] at hcr
       have HQ:Aside0 (ownB fr fa wi nm t vars dims=false):=⟨by rw [HQ1.out,hr];rfl⟩
       clear hr
       rcases hbs with b3 | ⟨b3,b4⟩ | ⟨b3,b4,b5⟩
       all_goals
        go_wp2_with (go_at_call 87;refine hcr.mono ?_;rintro e w2 ⟨rfl,hb2⟩;have HB2:=ak (HB.out.trans (hb2.mono (by have:=HB.out.size;omega)));clear hb2 hcr)
        go_ret
        exact⟨by rw [HQ.out];rfl,by rw [hbt];exact HB2.out⟩
      ·rw [hr] at hcr
       have HQ:Aside0 (ownB fr fa wi nm t vars dims=wi t.f3 dims):=⟨by rw [HQ1.out,hr];rfl⟩
       clear hr
       rcases hbs with b3 | ⟨b3,b4⟩ | ⟨b3,b4,b5⟩
       all_goals
        go_wp2_with (first
         | (go_at_call 87;refine hcr.mono ?_;rintro e w2 ⟨rfl,hb2⟩;have HB2:=ak (below_step HBw.out hb2);have HT2:=ak (blk_below HT.out hb2);have hz3b:=(blk_cell HT2.out 3).trans (rfl:_=some (Value.slice A3 t.f3.length c3));have hcw:=HP.out.within A3 c3 t.f3 dims w2 (Kd.C_below HG3.out HB2.out) HL3.out HO.out.1 hd0 hd1;clear hb2 hcr)
         | (go_at_call 96;refine hcw.mono ?_;rintro e w3 ⟨rfl,hb3⟩;have HB3:=ak (below_step HB2.out hb3);clear hb3 hcw))
        go_ret
        exact⟨by rw [HQ.out];rfl,HB3.out⟩
     ·have b3:(t.f0==13)=false:=by simp;omega
      have b4:(t.f0==21)=false:=by simp;omega
      have b5:(t.f0==26)=false:=by simp;omega
      by_cases k4:t.f0=14
      ·have b6:(t.f0==14)=true:=by simp [k4]
       have HQ1:Aside0 (ownB fr fa wi nm t vars dims=(fa t.f3&&wi t.f3 dims)):=⟨by rw [HQ0.out,if_neg k1,if_neg k2,if_neg k3,if_pos k4]⟩
       clear k1 k2 k3 k4
       have hcr:=HP.out.faright A3 c3 t.f3 wc (Kd.C_below HG3.out HBw.out) HL3.out HO.out.1
       cases hr:fa t.f3
       ·rw [hr] at hcr
        have HQ:Aside0 (ownB fr fa wi nm t vars dims=false):=⟨by rw [HQ1.out,hr];rfl⟩
        clear hr
        go_wp2_with (go_at_call 88;refine hcr.mono ?_;rintro e w2 ⟨rfl,hb2⟩;have HB2:=ak (HB.out.trans (hb2.mono (by have:=HB.out.size;omega)));clear hb2 hcr)
        go_ret
        exact⟨by rw [HQ.out];rfl,by rw [hbt];exact HB2.out⟩
       ·rw [hr] at hcr
        have HQ:Aside0 (ownB fr fa wi nm t vars dims=wi t.f3 dims):=⟨by rw [HQ1.out,hr];rfl⟩
        clear hr
        go_wp2_with (first
         | (go_at_call 88;refine hcr.mono ?_;rintro e w2 ⟨rfl,hb2⟩;have HB2:=ak (below_step HBw.out hb2);have HT2:=ak (blk_below HT.out hb2);have hz3b:=(blk_cell HT2.out 3).trans (rfl:_=some (Value.slice A3 t.f3.length c3));have hcw:=HP.out.within A3 c3 t.f3 dims w2 (Kd.C_below HG3.out HB2.out) HL3.out HO.out.1 hd0 hd1;clear hb2 hcr)
         | (go_at_call 96;refine hcw.mono ?_;rintro e w3 ⟨rfl,hb3⟩;have HB3:=ak (below_step HB2.out hb3);clear hb3 hcw))
        go_ret
        exact⟨by rw [HQ.out];rfl,HB3.out⟩
      ·have b6:(t.f0==14)=false:=by simp [k4]
       have HQ1:Aside0 (ownB fr fa wi nm t vars dims=(t.f5.all (ownR fa wi t.f0 dims)&&decide (t.f3.length=0))):=⟨by rw [HQ0.out,if_neg k1,if_neg k2,if_neg k3,if_neg k4]⟩
       clear k1 k2 k3 k4 HQ0 hz1 hz2 hz3
       go_wp2
       go_loopg [109] (t.f5.length+1) (fun kq v109 wx=>∃i:Nat,v109=.int .i64 (i:Int)∧i≤t.f5.length∧kq+i=t.f5.length+1∧Aside0 ((t.f5.take i).all (ownR fa wi t.f0 dims)=true)∧Aside0 (Below w.heap.size w wx)∧Aside0 (wx.heap[bt]? = some (.cells #[.int .i64 t.f0,.int .i64 t.f1,.string t.f2,.slice A3 t.f3.length c3,.slice A4 t.f4.length c4,.slice A5 t.f5.length c5] 49 (0,0))))
       case atStart=>exact⟨0,rfl,Nat.zero_le _,rfl,⟨rfl⟩,HBw,HT⟩
       case round =>
        clear HB HT HBw hz5 hz0
        obtain⟨i,rfl,hi,hki,HA,HB,HT⟩:=hrel
        by_cases hli:i<t.f5.length
        ·have hdi:decide ((i:Int)<(t.f5.length:Int))=true:=decide_eq_true (by omega)
         obtain⟨ad,A0b,c0b,A1b,c1b,e,h0,h1,l0,g0,l1,g1⟩:=at_br HG5.out i hli
         cases e
         have hmb:t.f5[i]∈t.f5:=List.getElem_mem _
         obtain⟨b,hbb⟩:∃b,t.f5[i]=b:=⟨_,rfl⟩
         have htk:(t.f5.take (i+1)).all (ownR fa wi t.f0 dims)=ownR fa wi t.f0 dims b:=by rw [List.take_succ_eq_append_getElem hli,List.all_append,HA.out,hbb];simp
         have hall:ownR fa wi t.f0 dims b=false→t.f5.all (ownR fa wi t.f0 dims)=false:=fun h=>by rw [List.all_eq_false];exact⟨b,by rw [←hbb];exact hmb,by rw [h];exact Bool.false_ne_true⟩
         rw [hbb] at h0 h1 l0 g0 l1 g1 hmb
         replace h0:=pw_cell_below HB.out h0
         replace h1:=pw_cell_below HB.out h1
         have hmk1:b.f1.length≤9223372036854775807:=Kd.C_max g1
         have HTK:=ak htk
         have HALL:=ak hall
         have HOK:=ak (HO.out.2.2 b hmb)
         have HG0:=ak g0
         have HL0:=ak l0
         clear htk hall hmb hbb g0 g1 l0 l1
         have HBA:=ak (HB.out.alloc HB.out.size (.cells #[.slice A0b b.f0.length c0b,.slice A1b b.f1.length c1b] 90))
         have HTA:=ak (blk_alloc HT.out (.cells #[.slice A0b b.f0.length c0b,.slice A1b b.f1.length c1b] 90))
         have HNA:=ak (blk_new wr (.cells #[.slice A0b b.f0.length c0b,.slice A1b b.f1.length c1b] 90))
         go_upto_region 17 with fail
         generalize hbr:wr.heap.size=bb at *
         generalize hWA:wr.alloc (.cells #[.slice A0b b.f0.length c0b,.slice A1b b.f1.length c1b] 90)=WA at *
         clear hWA hbr h0 h1 HB HT
         have hn0:=(blk_cell HNA.out 0).trans (rfl:_=some (Value.slice A0b b.f0.length c0b))
         have hn1:=(blk_cell HNA.out 1).trans (rfl:_=some (Value.slice A1b b.f1.length c1b))
         have hz0:=(blk_cell HTA.out 0).trans (rfl:_=some (Value.int .i64 t.f0))
         by_cases q1:(b.f1.length:Int)=partsI t.f0
         ·have b1:((b.f1.length:Int) != partsI t.f0)=false:=by simp [q1]
          cases hf:fa b.f0
          ·have HQ:Aside0 (ownR fa wi t.f0 dims b=false):=⟨by rw [ownR,decide_eq_true q1,hf];rfl⟩
           have hcf:∀w1,Below w.heap.size w w1→Calls Tryz.prog 88 #[.slice A0b b.f0.length c0b] w1 fun e w'=>e=.returned (.bool false)∧Below w1.heap.size w1 w':=fun w1 h=>by have:=HP.out.faright A0b c0b b.f0 w1 (Kd.C_below HG0.out h) HL0.out HOK.out;rwa [hf] at this
           clear hf q1
           refine start_ (n:=20) (S:=fun w'=>w'.cell? ⟨bb,0,none⟩=some (.slice A0b b.f0.length c0b)∧w'.cell? ⟨bb,1,none⟩=some (.slice A1b b.f1.length c1b)∧w'.cell? ⟨bt,0,none⟩=some (.int .i64 t.f0)) (ds:=[]) #[false,false,false,false,false,false,false,false,false,false,false,false,false,false,false,false,false,false,false,false] (by kernel_rfl) rfl rfl ⟨hn0,hn1,hz0⟩ (fun hHeld=>?_)
           have HBD:=ak (below_drew HBA.out)
           clear hn0 hn1 hz0
           generalize WA.drew=W1 at *
           refine pu_ 0 113 ?_
           refine ta_ 1 114 ?_
           refine pu_ 2 115 ?_
           refine pu_ 3 116 ?_
           refine ta_ 4 117 ?_
           refine on_ 5 (some 118) fun K hK=>?_
           refine goes_ Tryz.func41 (by kernel_rfl) rfl #[.int .i64 t.f0] (by rfl) rfl rfl (by (try simp only [List.map_toArray,List.map_cons,List.map_nil]);first | done | rfl) ?_
           with_reducible refine(HP.out.parts t.f0 _).mono ?_
           rintro e w2 ⟨rfl,n2,rfl⟩
           refine⟨_,rfl, ?_⟩
           have hHeld_:=hHeld
           refine hK.out _ _ hHeld (fun hHeld=>?_)
           clear hK K hHeld_
           refine no_ 118 ?_
           refine pu_ 6 119 ?_
           refine pu_ 7 120 ?_
           refine pu_ 8 121 ?_
           refine ta_ 9 122 ?_
           refine on_ 10 (some 123) fun K hK=>?_
           refine goes_ Tryz.func88 (by kernel_rfl) rfl #[.slice A0b b.f0.length c0b] (by rfl) rfl rfl (by (try simp only [List.map_toArray,List.map_cons,List.map_nil]);first | done | rfl) ?_
           with_reducible refine(hcf _ (pw_below_drewN HBD.out _)).mono ?_
           rintro e w3 ⟨rfl,hb3⟩
           refine⟨_,rfl, ?_⟩
           have HB3:=ak (below_step (pw_below_drewN HBD.out _) hb3)
           have s0:=pw_cell_below hb3 hHeld.1
           have s1:=pw_cell_below hb3 hHeld.2.1
           have s2:=pw_cell_below hb3 hHeld.2.2
           clear hb3
           have hHeld_:=hHeld
           refine hK.out _ _ ⟨s0,s1,s2⟩ (fun hHeld=>?_)
           clear hK K hHeld_
           refine no_ 123 ?_
           refine pu_ 11 124 ?_
           refine pu_ 12 125 ?_
           refine pu_ 13 126 ?_
           refine po_ 14 127 ?_
           refine po_ 15 128 ?_
           refine po_ 16 129 ?_
           refine po_ 17 130 ?_
           refine po_ 18 131 ?_
           refine pu_ 19 132 ?_
           refine done_ (by kernel_rfl) ?_
           go_wp2
           go_ret
           exact⟨by rw [HQ1.out,HALL.out HQ.out];rfl,HB3.out⟩
          ·have HFA:Aside0 (∀w1,w1.cell? ⟨bb,0,none⟩=some (.slice A0b b.f0.length c0b)∧w1.cell? ⟨bb,1,none⟩=some (.slice A1b b.f1.length c1b)∧w1.cell? ⟨bt,0,none⟩=some (.int .i64 t.f0)∧w1.heap[bt]? = some (.cells #[.int .i64 t.f0,.int .i64 t.f1,.string t.f2,.slice A3 t.f3.length c3,.slice A4 t.f4.length c4,.slice (some ad) t.f5.length c5] 49 (0,0))∧Below w.heap.size w w1→Calls Tryz.prog 88 #[.slice A0b b.f0.length c0b] w1 fun e w'=>e=.returned (.bool true)∧w'.cell? ⟨bb,0,none⟩=some (.slice A0b b.f0.length c0b)∧w'.cell? ⟨bb,1,none⟩=some (.slice A1b b.f1.length c1b)∧w'.cell? ⟨bt,0,none⟩=some (.int .i64 t.f0)∧w'.heap[bt]? = some (.cells #[.int .i64 t.f0,.int .i64 t.f1,.string t.f2,.slice A3 t.f3.length c3,.slice A4 t.f4.length c4,.slice (some ad) t.f5.length c5] 49 (0,0))∧Below w.heap.size w w'):=⟨fun w1 ⟨h0,h1,h2,h3,h⟩=>by have:=HP.out.faright A0b c0b b.f0 w1 (Kd.C_below HG0.out h) HL0.out HOK.out;rw [hf] at this;exact this.mono fun e w' ⟨he,hb⟩=>⟨he,pw_cell_below hb h0,pw_cell_below hb h1,pw_cell_below hb h2,blk_below h3 hb,below_step h hb⟩⟩
           cases hw:wi b.f0 dims
           ·have HQ:Aside0 (ownR fa wi t.f0 dims b=false):=⟨by rw [ownR,decide_eq_true q1,hf,hw];rfl⟩
            have HWI:Aside0 (∀w1,w1.cell? ⟨bb,0,none⟩=some (.slice A0b b.f0.length c0b)∧w1.cell? ⟨bb,1,none⟩=some (.slice A1b b.f1.length c1b)∧w1.cell? ⟨bt,0,none⟩=some (.int .i64 t.f0)∧w1.heap[bt]? = some (.cells #[.int .i64 t.f0,.int .i64 t.f1,.string t.f2,.slice A3 t.f3.length c3,.slice A4 t.f4.length c4,.slice (some ad) t.f5.length c5] 49 (0,0))∧Below w.heap.size w w1→Calls Tryz.prog 96 #[.slice A0b b.f0.length c0b,.int .i64 dims] w1 fun e w'=>e=.returned (.bool false)∧w'.cell? ⟨bb,0,none⟩=some (.slice A0b b.f0.length c0b)∧w'.cell? ⟨bb,1,none⟩=some (.slice A1b b.f1.length c1b)∧w'.cell? ⟨bt,0,none⟩=some (.int .i64 t.f0)∧w'.heap[bt]? = some (.cells #[.int .i64 t.f0,.int .i64 t.f1,.string t.f2,.slice A3 t.f3.length c3,.slice A4 t.f4.length c4,.slice (some ad) t.f5.length c5] 49 (0,0))∧Below w.heap.size w w'):=⟨fun w1 ⟨h0,h1,h2,h3,h⟩=>by have:=HP.out.within A0b c0b b.f0 dims w1 (Kd.C_below HG0.out h) HL0.out HOK.out hd0 hd1;rw [hw] at this;exact this.mono fun e w' ⟨he,hb⟩=>⟨he,pw_cell_below hb h0,pw_cell_below hb h1,pw_cell_below hb h2,blk_below h3 hb,below_step h hb⟩⟩
            clear hf hw q1
            go_region_held3 (fun w'=>w'.cell? ⟨bb,0,none⟩=some (.slice A0b b.f0.length c0b)∧w'.cell? ⟨bb,1,none⟩=some (.slice A1b b.f1.length c1b)∧w'.cell? ⟨bt,0,none⟩=some (.int .i64 t.f0)∧w'.heap[bt]? = some (.cells #[.int .i64 t.f0,.int .i64 t.f1,.string t.f2,.slice A3 t.f3.length c3,.slice A4 t.f4.length c4,.slice (some ad) t.f5.length c5] 49 (0,0))∧Below w.heap.size w w')
             (refine⟨?_, ?_, ?_, ?_, ?_⟩<;>first | assumption | exact below_drew HBA.out | exact HTA.out | exact pw_below_drewN HBA.out _)
             (first
              | (go_at_call 41;refine(HP.out.parts _ _).mono ?_;rintro e w2 ⟨rfl,n2,rfl⟩)
              | (go_at_call 88;refine(HFA.out _ (by refine⟨?_, ?_, ?_, ?_, ?_⟩<;>first | assumption | exact below_drew HBA.out | exact HTA.out | exact pw_below_drewN HBA.out _)).mono ?_;rintro e w2 ⟨rfl,s0,s1,s2,s2b,s3⟩)
              | (go_at_call 96;refine(HWI.out _ (by refine⟨?_, ?_, ?_, ?_, ?_⟩<;>first | assumption | exact below_drew HBA.out | exact HTA.out | exact pw_below_drewN HBA.out _)).mono ?_;rintro e w3 ⟨rfl,s4,s5,s6,s6b,s7⟩))
            go_wp2
            go_ret
            exact⟨by rw [HQ1.out,HALL.out HQ.out];rfl,s7⟩
           ·have HQ:Aside0 (ownR fa wi t.f0 dims b=true):=⟨by rw [ownR,decide_eq_true q1,hf,hw];rfl⟩
            have HWI:Aside0 (∀w1,w1.cell? ⟨bb,0,none⟩=some (.slice A0b b.f0.length c0b)∧w1.cell? ⟨bb,1,none⟩=some (.slice A1b b.f1.length c1b)∧w1.cell? ⟨bt,0,none⟩=some (.int .i64 t.f0)∧w1.heap[bt]? = some (.cells #[.int .i64 t.f0,.int .i64 t.f1,.string t.f2,.slice A3 t.f3.length c3,.slice A4 t.f4.length c4,.slice (some ad) t.f5.length c5] 49 (0,0))∧Below w.heap.size w w1→Calls Tryz.prog 96 #[.slice A0b b.f0.length c0b,.int .i64 dims] w1 fun e w'=>e=.returned (.bool true)∧w'.cell? ⟨bb,0,none⟩=some (.slice A0b b.f0.length c0b)∧w'.cell? ⟨bb,1,none⟩=some (.slice A1b b.f1.length c1b)∧w'.cell? ⟨bt,0,none⟩=some (.int .i64 t.f0)∧w'.heap[bt]? = some (.cells #[.int .i64 t.f0,.int .i64 t.f1,.string t.f2,.slice A3 t.f3.length c3,.slice A4 t.f4.length c4,.slice (some ad) t.f5.length c5] 49 (0,0))∧Below w.heap.size w w'):=⟨fun w1 ⟨h0,h1,h2,h3,h⟩=>by have:=HP.out.within A0b c0b b.f0 dims w1 (Kd.C_below HG0.out h) HL0.out HOK.out hd0 hd1;rw [hw] at this;exact this.mono fun e w' ⟨he,hb⟩=>⟨he,pw_cell_below hb h0,pw_cell_below hb h1,pw_cell_below hb h2,blk_below h3 hb,below_step h hb⟩⟩
            clear hf hw q1
            go_region_held3 (fun w'=>w'.cell? ⟨bb,0,none⟩=some (.slice A0b b.f0.length c0b)∧w'.cell? ⟨bb,1,none⟩=some (.slice A1b b.f1.length c1b)∧w'.cell? ⟨bt,0,none⟩=some (.int .i64 t.f0)∧w'.heap[bt]? = some (.cells #[.int .i64 t.f0,.int .i64 t.f1,.string t.f2,.slice A3 t.f3.length c3,.slice A4 t.f4.length c4,.slice (some ad) t.f5.length c5] 49 (0,0))∧Below w.heap.size w w')
             (refine⟨?_, ?_, ?_, ?_, ?_⟩<;>first | assumption | exact below_drew HBA.out | exact HTA.out | exact pw_below_drewN HBA.out _)
             (first
              | (go_at_call 41;refine(HP.out.parts _ _).mono ?_;rintro e w2 ⟨rfl,n2,rfl⟩)
              | (go_at_call 88;refine(HFA.out _ (by refine⟨?_, ?_, ?_, ?_, ?_⟩<;>first | assumption | exact below_drew HBA.out | exact HTA.out | exact pw_below_drewN HBA.out _)).mono ?_;rintro e w2 ⟨rfl,s0,s1,s2,s2b,s3⟩)
              | (go_at_call 96;refine(HWI.out _ (by refine⟨?_, ?_, ?_, ?_, ?_⟩<;>first | assumption | exact below_drew HBA.out | exact HTA.out | exact pw_below_drewN HBA.out _)).mono ?_;rintro e w3 ⟨rfl,s4,s5,s6,s6b,s7⟩))
            go_wp2
            go_roundg (gk-1)
            case measure=>omega
            case rel=>exact⟨i+1,rfl,by omega,by omega,⟨by rw [HTK.out,HQ.out]⟩,⟨s7⟩,⟨s6b⟩⟩
         ·have b1:((b.f1.length:Int) != partsI t.f0)=true:=by simp [q1]
          have HQ:Aside0 (ownR fa wi t.f0 dims b=false):=⟨by rw [ownR,decide_eq_false q1];rfl⟩
          clear q1
          go_quiet ((go_at_call 41;exact Calls.quiet_of (HP.out.parts _ _)))
          go_wp2
          go_ret
          exact⟨by rw [HQ1.out,HALL.out HQ.out];rfl,pw_below_drewN HBA.out _⟩
        ·have hdi:decide ((i:Int)<(t.f5.length:Int))=false:=decide_eq_false (by omega)
         have hz3:=(blk_cell HT.out 3).trans (rfl:_=some (Value.slice A3 t.f3.length c3))
         have HQ:Aside0 (ownB fr fa wi nm t vars dims=decide (t.f3.length=0)):=⟨by have h:=HA.out;rw [List.take_of_length_le (by omega)] at h;rw [HQ1.out,h,Bool.true_and]⟩
         clear hki
         by_cases r1:t.f3.length=0
         ·have d1:((t.f3.length:Int)==0)=true:=ieq0 r1
          have HQ2:Aside0 (ownB fr fa wi nm t vars dims=true):=⟨by rw [HQ.out,decide_eq_true r1]⟩
          clear r1
          go_wp2
          go_ret
          exact⟨by rw [HQ2.out];rfl,HB.out⟩
         ·have d1:((t.f3.length:Int)==0)=false:=ine0 r1
          have HQ2:Aside0 (ownB fr fa wi nm t vars dims=false):=⟨by rw [HQ.out,decide_eq_false r1]⟩
          clear r1
          go_wp2
          go_ret
          exact⟨by rw [HQ2.out];rfl,HB.out⟩
section
variable (fr fa:List Cl→Bool)(wi:List Cl→Int→Bool)(nm:ByteArray→Bool)
mutual
def allT:Tm→Int→Int→Bool
 | ⟨k,n,s,r,ks,bs⟩,v,d=>decide (d≤24)&&ownB fr fa wi nm ⟨k,n,s,r,ks,bs⟩ v d&&(allL k ks 0 v d&&allBs k bs v d)
def allL(kind:Int):List Tm→Nat→Int→Int→Bool
 | [],_,_,_=>true
 | t :: r,i,v,d=>allT t (v+(bindsI kind (i:Int)).1) (d+(bindsI kind (i:Int)).2)&&allL kind r (i+1) v d
def allBs(kind:Int):List Br→Int→Int→Bool
 | [],_,_=>true
 | b :: r,v,d=>allBr kind b v d&&allBs kind r v d
def allBr(kind:Int):Br→Int→Int→Bool
 | ⟨_,ks⟩,v,d=>allP ks v (d+moreI kind)
def allP:List Tm→Int→Int→Bool
 | [],_,_=>true
 | t :: r,v,d=>allT t v d&&allP r v d
end
end
section
variable (PF:List Cl→Prop)(PN:ByteArray→Prop)
mutual
def okS:Tm→Prop
 | ⟨_,_,s,r,ks,bs⟩=>PF r∧PN s∧okSL ks∧okSB bs
def okSL:List Tm→Prop
 | []=>True
 | t :: r=>okS t∧okSL r
def okSB:List Br→Prop
 | []=>True
 | b :: r=>okSR b∧okSB r
def okSR:Br→Prop
 | ⟨f,ks⟩=>PF f∧okSL ks
end
end
section
variable {PF:List Cl→Prop}{PN:ByteArray→Prop}
theorem okS_eq{t:Tm}(h:okS PF PN t):PF t.f3∧PN t.f2∧okSL PF PN t.f4∧okSB PF PN t.f5:=by
 cases t
 rwa [okS] at h
theorem okSR_eq{b:Br}(h:okSR PF PN b):PF b.f0∧okSL PF PN b.f1:=by
 cases b
 rwa [okSR] at h
theorem okSL_mem{k:Tm}:∀ {l:List Tm},okSL PF PN l→k∈l→okS PF PN k
 | [],_,h=>absurd h (by simp)
 | t :: r,ho,h=>by
  rw [okSL] at ho
  rcases List.mem_cons.1 h with rfl | h
  ·exact ho.1
  ·exact okSL_mem ho.2 h
theorem okSB_mem{b:Br}:∀ {l:List Br},okSB PF PN l→b∈l→okSR PF PN b
 | [],_,h=>absurd h (by simp)
 | t :: r,ho,h=>by
  rw [okSB] at ho
  rcases List.mem_cons.1 h with rfl | h
  ·exact ho.1
  ·exact okSB_mem ho.2 h
theorem okS_N{t:Tm}(h:okS PF PN t):okN PF PN t:=⟨(okS_eq h).1,(okS_eq h).2.1,fun b hb=>(okSR_eq (okSB_mem (okS_eq h).2.2.2 hb)).1⟩
end
section
variable {PF:List Cl→Prop}{PN:ByteArray→Prop}{fr fa:List Cl→Bool}{wi:List Cl→Int→Bool}{nm:ByteArray→Bool}
theorem allT_eq(t:Tm)(v d:Int):allT fr fa wi nm t v d=(decide (d≤24)&&ownB fr fa wi nm t v d&&(allL fr fa wi nm t.f0 t.f4 0 v d&&allBs fr fa wi nm t.f0 t.f5 v d)):=by
 cases t
 rw [allT]
theorem eachL_all3(p:Tm→Int→Int→Bool):∀l:List (Tm×Int×Int),(eachL (fun k v d (_:Unit)=>(p k v d,())) l ()).1=l.all (fun x=>p x.1 x.2.1 x.2.2)
 | []=>by rw [eachL];rfl
 | (k,v,d) :: r=>by
  cases h:p k v d
  ·rw [eachL_no (by exact h),List.all_cons,h]
   rfl
  ·rw [eachL_yes (by exact h),List.all_cons,h,Bool.true_and]
   exact eachL_all3 p r
theorem all_kidsA(kind v d:Int):∀(l:List Tm) (i:Nat),(kidsA kind l i).all (fun x=>allT fr fa wi nm x.1 (v+x.2.1) (d+x.2.2))=allL fr fa wi nm kind l i v d
 | [],_=>by rw [kidsA,allL];rfl
 | k :: r,i=>by rw [kidsA,List.all_cons,all_kidsA kind v d r,allL]
theorem all_kidsP(kind v d:Int):∀(l:List Tm),(kidsP kind l).all (fun x=>allT fr fa wi nm x.1 (v+x.2.1) (d+x.2.2))=allP fr fa wi nm l v (d+moreI kind)
 | []=>by rw [allP];rfl
 | k :: r=>by
  rw [kidsP,List.map_cons,List.all_cons,←kidsP,all_kidsP kind v d r,allP]
  simp
theorem all_kidsB(kind v d:Int):∀(l:List Br),(kidsB kind l).all (fun x=>allT fr fa wi nm x.1 (v+x.2.1) (d+x.2.2))=allBs fr fa wi nm kind l v d
 | []=>by rw [allBs];rfl
 | ⟨f,ks⟩ :: r=>by
  rw [kidsB,List.flatMap_cons,List.all_append,←kidsB,all_kidsB kind v d r,allBs,allBr,all_kidsP]
theorem all_kids(t:Tm)(v d:Int):(eachL (fun k x y (_:Unit)=>(allT fr fa wi nm k (v+x) (d+y),())) (kidsOf t) ()).1=(allL fr fa wi nm t.f0 t.f4 0 v d&&allBs fr fa wi nm t.f0 t.f5 v d):=by
 rw [eachL_all3 (fun k x y=>allT fr fa wi nm k (v+x) (d+y)),kidsOf,List.all_append,all_kidsA,all_kidsB]
set_option maxHeartbeats 1000000 in
theorem all_fn(vars dims:Int)(h0:0≤vars)(h1:vars≤1000000000)(h2:0≤dims)(h3:dims≤24)(k:Tm)(HIH:Aside0 (∀(v d:Int) (ks:List Value) (w:World),0≤v∧v≤1∧0≤d∧d≤1→k49.K w k ks→Calls Tryz.prog 55 #[.agg ks.toArray,.int .i64 (vars+v),.int .i64 (dims+d),.bool true] w fun e w'=>e=.returned (.bool (allT fr fa wi nm k (vars+v) (dims+d)))∧Below w.heap.size w w'))
  (v d:Int) (hvd:0≤v∧v≤1∧0≤d∧d≤1) (ks:List Value) (bv bd bb:Nat) (w:World) (hK:k49.K w k ks) (hv:w.heap[bv]? = some (.cells #[.int .i64 vars] 3 (0,0))) (hd:w.heap[bd]? = some (.cells #[.int .i64 dims] 3 (0,0))) (hb:w.heap[bb]? = some (.cells #[.bool true] 4 (0,0))) :
  Calls Tryz.prog 79 #[.agg ks.toArray,.int .i64 v,.int .i64 d,.pointer (some ⟨bv,0,none⟩),.pointer (some ⟨bd,0,none⟩),.pointer (some ⟨bb,0,none⟩)] w fun e w'=>e=.returned (.bool (allT fr fa wi nm k (vars+v) (dims+d)))∧Below w.heap.size w w':=by
 obtain⟨A3,c3,A4,c4,A5,c5,rfl,l3,g3,l4,g4,l5,g5⟩:=k49_open hK
 have hba:Below w.heap.size w (w.alloc (.cells #[.int .i64 k.f0,.int .i64 k.f1,.string k.f2,.slice A3 k.f3.length c3,.slice A4 k.f4.length c4,.slice A5 k.f5.length c5] 49)):=below_alloc (Below.refl _ _) _
 have hzv:=(blk_cell (blk_below hv hba) 0).trans (rfl:_=some (Value.int .i64 vars))
 have hzd:=(blk_cell (blk_below hd hba) 0).trans (rfl:_=some (Value.int .i64 dims))
 have hzb:=(blk_cell (blk_below hb hba) 0).trans (rfl:_=some (Value.bool true))
 have hc:=HIH.out v d _ _ hvd (k49.K_below hba hK)
 have HBA:=ak hba
 have hd0:decide (vars<0)=false:=decide_eq_false (by omega)
 obtain⟨v0,v1,d0,d1⟩:=hvd
 clear hba hv hd hb g3 g4 g5 l3 l4 l5 hK
 go_enter Tryz.func79,Tryz.ntmps79
 go_wp2_with (go_at_call 55;refine hc.mono ?_;rintro e w1 ⟨rfl,hb1⟩;have HB1:=ak hb1;clear hb1 hc)
 go_ret
 exact⟨rfl,below_step HBA.out HB1.out⟩
set_option maxHeartbeats 2000000 in
theorem term_all(OP:OwnP PF PN fr fa wi nm)(HBinds:Aside0 (∀(a i:Int) (w:World),Calls Tryz.prog 97 #[.int .i64 a,.int .i64 i] w fun e w'=>e=.returned (.tuple #[.int .i64 (bindsI a i).1,.int .i64 (bindsI a i).2])∧Below w.heap.size w w'))
  (eg:∀args w,(callFunc 79 args).run Tryz.prog w=.ok (.enter 79 args) w):∀(N:Nat) (k:Tm) (vars dims:Int) (ks:List Value) (w:World),sizeT k≤N→okS PF PN k→0≤vars→vars+N≤1000000000→0≤dims→dims≤25→k49.K w k ks →
  Calls Tryz.prog 55 #[.agg ks.toArray,.int .i64 vars,.int .i64 dims,.bool true] w fun e w'=>e=.returned (.bool (allT fr fa wi nm k vars dims))∧Below w.heap.size w w':=by
 intro N
 induction N with
 | zero=>intro k vars dims ks w h;have:=sizeT_pos k;omega
 | succ N ih =>
 intro k vars dims ks w hN ho h0 h1 h2 h3 hK
 have HIH:=ak ih
 have HO:=ak ho
 have hco:=fun w1 hb=>term_own OP k ks vars dims w1 (k49.K_below hb hK) (okS_N ho) h2 (by omega)
 obtain⟨A3,c3,A4,c4,A5,c5,rfl,l3,g3,l4,g4,l5,g5⟩:=k49_open hK
 have HK:=ak hK
 have HQ:=ak (allT_eq (fr:=fr) (fa:=fa) (wi:=wi) (nm:=nm) k vars dims)
 clear g3 g4 g5 l3 l4 l5 hK ih ho
 have hba:Below w.heap.size w ((((w.alloc (.cells #[.int .i64 k.f0,.int .i64 k.f1,.string k.f2,.slice A3 k.f3.length c3,.slice A4 k.f4.length c4,.slice A5 k.f5.length c5] 49)).alloc (.cells #[.int .i64 vars] 3)).alloc (.cells #[.int .i64 dims] 3)).alloc (.cells #[.bool true] 4)):=((((Below.refl _ _).alloc (Nat.le_refl _) _).alloc (by simp) _).alloc (by simp;omega) _).alloc (by simp;omega) _
 have hbv:((((w.alloc (.cells #[.int .i64 k.f0,.int .i64 k.f1,.string k.f2,.slice A3 k.f3.length c3,.slice A4 k.f4.length c4,.slice A5 k.f5.length c5] 49)).alloc (.cells #[.int .i64 vars] 3)).alloc (.cells #[.int .i64 dims] 3)).alloc (.cells #[.bool true] 4)).heap[w.heap.size+1]? = some (.cells #[.int .i64 vars] 3 (0,0)):=by
  have:=blk_new (w.alloc (.cells #[.int .i64 k.f0,.int .i64 k.f1,.string k.f2,.slice A3 k.f3.length c3,.slice A4 k.f4.length c4,.slice A5 k.f5.length c5] 49)) (.cells #[.int .i64 vars] 3)
  rw [World.size_alloc] at this
  exact blk_alloc (blk_alloc this _) _
 have hbd:((((w.alloc (.cells #[.int .i64 k.f0,.int .i64 k.f1,.string k.f2,.slice A3 k.f3.length c3,.slice A4 k.f4.length c4,.slice A5 k.f5.length c5] 49)).alloc (.cells #[.int .i64 vars] 3)).alloc (.cells #[.int .i64 dims] 3)).alloc (.cells #[.bool true] 4)).heap[w.heap.size+1+1]? = some (.cells #[.int .i64 dims] 3 (0,0)):=by
  have:=blk_new ((w.alloc (.cells #[.int .i64 k.f0,.int .i64 k.f1,.string k.f2,.slice A3 k.f3.length c3,.slice A4 k.f4.length c4,.slice A5 k.f5.length c5] 49)).alloc (.cells #[.int .i64 vars] 3)) (.cells #[.int .i64 dims] 3)
  rw [World.size_alloc,World.size_alloc] at this
  exact blk_alloc this _
 have hbb:((((w.alloc (.cells #[.int .i64 k.f0,.int .i64 k.f1,.string k.f2,.slice A3 k.f3.length c3,.slice A4 k.f4.length c4,.slice A5 k.f5.length c5] 49)).alloc (.cells #[.int .i64 vars] 3)).alloc (.cells #[.int .i64 dims] 3)).alloc (.cells #[.bool true] 4)).heap[w.heap.size+1+1+1]? = some (.cells #[.bool true] 4 (0,0)):=by
  have:=blk_new (((w.alloc (.cells #[.int .i64 k.f0,.int .i64 k.f1,.string k.f2,.slice A3 k.f3.length c3,.slice A4 k.f4.length c4,.slice A5 k.f5.length c5] 49)).alloc (.cells #[.int .i64 vars] 3)).alloc (.cells #[.int .i64 dims] 3)) (.cells #[.bool true] 4)
  rw [World.size_alloc,World.size_alloc,World.size_alloc] at this
  exact this
 have hnb:((((w.alloc (.cells #[.int .i64 k.f0,.int .i64 k.f1,.string k.f2,.slice A3 k.f3.length c3,.slice A4 k.f4.length c4,.slice A5 k.f5.length c5] 49)).alloc (.cells #[.int .i64 vars] 3)).alloc (.cells #[.int .i64 dims] 3)).alloc (.cells #[.bool true] 4)).heap[w.heap.size]? = some (.cells #[.int .i64 k.f0,.int .i64 k.f1,.string k.f2,.slice A3 k.f3.length c3,.slice A4 k.f4.length c4,.slice A5 k.f5.length c5] 49 (0,0)):=blk_alloc (blk_alloc (blk_alloc (blk_new _ _) _) _) _
 have hmf:∀(fn:Fn) (first cap:Array Value) (w:World),(Instr.makeFunc fn first cap).run Tryz.prog w=.ok (.func fn first cap) w:=fun _ _ _ _=>rfl
 by_cases q1:dims≤24
 ·have e1:decide (24<dims)=false:=decide_eq_false (by omega)
  have hco':=hco _ hba
  cases hw:ownB fr fa wi nm k vars dims
  ·have HR:Aside0 (allT fr fa wi nm k vars dims=false):=⟨by rw [HQ.out,hw,decide_eq_true q1];rfl⟩
   rw [hw] at hco'
   have HBA:=ak hba
   clear hw hco hba hbv hbd hbb hnb
   go_enter Tryz.func55,Tryz.ntmps55
   go_wp2_with (go_at_call 77;refine hco'.mono ?_;rintro e w1 ⟨rfl,hb1⟩;have HB1:=ak hb1;clear hb1 hco')
   go_ret
   exact⟨by rw [HR.out];rfl,below_step HBA.out HB1.out⟩
  ·have HR:Aside0 (allT fr fa wi nm k vars dims=(eachL (fun k x y (_:Unit)=>(allT fr fa wi nm k (vars+x) (dims+y),())) (kidsOf k) ()).1):=⟨by rw [HQ.out,hw,decide_eq_true q1,all_kids];rfl⟩
   rw [hw] at hco'
   have HBA:=ak hba
   have HBV:=ak hbv
   have HBD:=ak hbd
   have HBB:=ak hbb
   have HNB:=ak hnb
   have HEA:Aside0 (∀w1,Below w.heap.size w w1→w1.heap[w.heap.size+1]? = some (.cells #[.int .i64 vars] 3 (0,0))→w1.heap[w.heap.size+1+1]? = some (.cells #[.int .i64 dims] 3 (0,0))→w1.heap[w.heap.size+1+1+1]? = some (.cells #[.bool true] 4 (0,0)) →
     Calls Tryz.prog 78 #[.agg #[.int .i64 k.f0,.int .i64 k.f1,.string k.f2,.slice A3 k.f3.length c3,.slice A4 k.f4.length c4,.slice A5 k.f5.length c5],.func (.func 79) #[] #[.pointer (some ⟨w.heap.size+1,0,none⟩),.pointer (some ⟨w.heap.size+1+1,0,none⟩),.pointer (some ⟨w.heap.size+1+1+1,0,none⟩)]] w1 fun e w'=>e=.returned (.bool (allT fr fa wi nm k vars dims))∧Below w.heap.size w w'):=⟨fun w1 g0 g1 g2 g3=>by
    rw [HR.out]
    refine(te_each3 HBinds.out 79 (.pointer (some ⟨w.heap.size+1,0,none⟩)) (.pointer (some ⟨w.heap.size+1+1,0,none⟩)) (.pointer (some ⟨w.heap.size+1+1+1,0,none⟩)) (fun k x y (_:Unit)=>(allT fr fa wi nm k (vars+x) (dims+y),())) (fun _ wx=>Below w.heap.size w wx∧wx.heap[w.heap.size+1]? = some (.cells #[.int .i64 vars] 3 (0,0))∧wx.heap[w.heap.size+1+1]? = some (.cells #[.int .i64 dims] 3 (0,0))∧wx.heap[w.heap.size+1+1+1]? = some (.cells #[.bool true] 4 (0,0))) (fun wx=>Below w.heap.size w wx) (fun q=>sizeT q<sizeT k∧okS PF PN q) w k _ () w1 eg HK.out
     (fun _ _ h=>h.1) (fun _ _ _ h hb=>⟨below_step h.1 hb,blk_below h.2.1 hb,blk_below h.2.2.1 hb,blk_below h.2.2.2 hb⟩)
     (fun q v d s qs w2 hq hvd hs hqK=>(all_fn vars dims h0 (by omega) h2 q1 q ⟨fun v d ks w3 hvd hK3=>HIH.out q (vars+v) (dims+d) ks w3 (by omega) hq.2 (by omega) (by omega) (by omega) (by omega) hK3⟩ v d hvd qs _ _ _ w2 (k49.K_below hs.1 hqK) hs.2.1 hs.2.2.1 hs.2.2.2).mono (fun e w' ⟨he,hb⟩=>⟨he,fun _=>⟨below_step hs.1 hb,blk_below hs.2.1 hb,blk_below hs.2.2.1 hb,blk_below hs.2.2.2 hb⟩,fun _=>below_step hs.1 hb,KeepT.of_below hb⟩))
     (fun q hq=>⟨sizeT_kid hq,okSL_mem (okS_eq HO.out).2.2.1 hq⟩) (fun b hb q hq=>⟨sizeT_part hb hq,okSL_mem (okSR_eq (okSB_mem (okS_eq HO.out).2.2.2 hb)).2 hq⟩) ⟨g0,g1,g2,g3⟩).mono ?_
    rintro e w' ⟨he,hs1,hn1,_⟩
    refine⟨he, ?_⟩
    cases hx:(eachL (fun k x y (_:Unit)=>(allT fr fa wi nm k (vars+x) (dims+y),())) (kidsOf k) ()).1
    ·exact hn1 hx
    ·exact(hs1 hx).1⟩
   clear hw hco hba hbv hbd hbb hnb
   go_enter Tryz.func55,Tryz.ntmps55
   go_wp2_with (first
    | (go_at_call 77;refine hco'.mono ?_;rintro e w1 ⟨rfl,hb1⟩;have HN1:=ak (blk_below HNB.out hb1);have hq0:=(blk_cell HN1.out 0).trans (rfl:_=some (Value.int .i64 k.f0));have hq1:=(blk_cell HN1.out 1).trans (rfl:_=some (Value.int .i64 k.f1));have hq2:=(blk_cell HN1.out 2).trans (rfl:_=some (Value.string k.f2));have hq3:=(blk_cell HN1.out 3).trans (rfl:_=some (Value.slice A3 k.f3.length c3));have hq4:=(blk_cell HN1.out 4).trans (rfl:_=some (Value.slice A4 k.f4.length c4));have hq5:=(blk_cell HN1.out 5).trans (rfl:_=some (Value.slice A5 k.f5.length c5));have hce:=HEA.out w1 (below_step HBA.out hb1) (blk_below HBV.out hb1) (blk_below HBD.out hb1) (blk_below HBB.out hb1);clear hb1 hco')
    | (go_at_call 78;refine hce.mono ?_;rintro e w2 ⟨rfl,hb2⟩;have HB2:=ak hb2;clear hb2 hce))
   go_ret
   exact⟨rfl,HB2.out⟩
 ·have e1:decide (24<dims)=true:=decide_eq_true (by omega)
  have HR:Aside0 (allT fr fa wi nm k vars dims=false):=⟨by rw [HQ.out,decide_eq_false q1];rfl⟩
  have HBA:=ak hba
  clear hco hba hbv hbd hbb hnb
  go_enter Tryz.func55,Tryz.ntmps55
  go_wp2
  go_ret
  exact⟨by rw [HR.out];rfl,HBA.out⟩
end
abbrev En:=S59
theorem rd_T59_at{xs:List S59}{j:Nat}(h:j<xs.length):rd_T59 xs ((j:Nat):Int)=xs[j]:=by
 unfold rd_T59
 rw [Int.toNat_natCast,List.getD_eq_getElem?_getD,List.getElem?_eq_getElem h]
 rfl
def memB(s:ByteArray)(l:List ByteArray):Bool:=l.any fun q=>q.data.toList==s.data.toList
theorem memB_cons(s q:ByteArray)(l:List ByteArray):memB s (q :: l)=(q.data.toList==s.data.toList||memB s l):=rfl
theorem plainElem_bool_inv{P:Program}{e:TypeId}(he:P.underlying e=some .bool){v:Value}{z:DataW Unit×List MemPlace}(h:plainElem P e v=some z):∃a,v=.bool a∧z=(.lit (.bool a),[]):=by
 unfold plainElem at h
 rw [he] at h
 cases v<;>simp at h
 obtain rfl:=h
 exact⟨_,rfl,rfl⟩
def MSt(w:World)(b:Nat)(seen:List ByteArray):Prop :=
 ∃D:DataW Unit,w.ownsMap Tryz.prog 9 (plainElem Tryz.prog 4) b seen.length D∧∀s:ByteArray,D.atKey (.string s.data.toList) (.lit (.bool false))=.lit (.bool (memB s seen))
theorem MSt.below{w w1:World}{b:Nat}{seen:List ByteArray}(h:MSt w b seen)(hb:Below w.heap.size w w1):MSt w1 b seen:=by
 obtain⟨D,⟨es,clock,hh,r⟩,hD⟩:=h
 exact⟨D,⟨es,clock,blk_below hh hb,r⟩,hD⟩
theorem MSt.made(w:World):MSt (w.alloc (.map #[] 0)) w.heap.size []:=⟨.map [],World.ownsMap_made _ _ _ _,fun s=>by simp [DataW.atKey,memB]⟩
theorem MSt.lt{w:World}{b:Nat}{seen:List ByteArray}(h:MSt w b seen):b<w.heap.size:=by
 obtain⟨D,h,_⟩:=h
 exact h.lt
section
variable {ops:Array Oper}{rest:List Oper}{o:Oper}{a:Act}{Q:Exit→Act→World→Prop}
theorem zero_bool(w:World):(zeroValue 4).run Tryz.prog w=.ok (.bool false) w:=by kernel_rfl
theorem MSt.run{w:World}{b:Nat}{seen:List ByteArray}(h:MSt w b seen)(s:ByteArray)(hs:s.size≤1000000):(Instr.lookup 74 (.map (some b)) (.string s) false).run Tryz.prog w=.ok (.bool (memB s seen)) w:=by
 obtain⟨D,ho,hD⟩:=h
 obtain⟨v,ps,hrun,hv⟩:=ho.lookup (Maps.string_keyed Tryz.underlying9) Tryz.underlying74 (zero_bool w) (plainElem_bool Tryz.underlying4 false) (WideMaps.keyOf_string_mk (s:=s) Tryz.underlying9 (by simp only [maxLen];omega))
 rw [hD s] at hv
 obtain⟨x,rfl,hx⟩:=plainElem_bool_inv Tryz.underlying4 hv
 have h1:memB s seen=x:=Lit.bool.inj (DataW.lit.inj (Prod.mk.inj hx).1)
 rw [h1]
 exact hrun
end
theorem below_mapset{w0 w w1:World}{b:Nat}(hb:Below w0.heap.size w0 w)(hl:w0.heap.size≤b)(hg:w.grownBy w1 (some b)):Below w0.heap.size w0 w1:=hb.grown hg hb.size (fun k hk=>by injection hk with hk;omega)
def refuse(at_ c:Int):Ending:=.panicked [{ v:=.iface 69 (.agg #[.int .i64 at_,.int .i64 c]),recovered:=false }]
structure RSt(w0 w:World)(p:Nat)(bs:List Int)(s m:Nat):Prop where
 old:w0.heap.size≤p
 row:∃A c,w.heap[p]? = some (.cells #[.slice A bs.length c,.int .i64 (s:Int),.map (some m)] 76 (0,0))∧bs.length≤c∧Kd.C (Kd.int .u8) w0 A bs.length bs
 len:bs.length≤1048576
 le:s≤bs.length
 oct:∀x∈bs,0≤x∧x<256
theorem cells3{w:World}{b t:Nat}{u0 u1 u2:Value}(h:w.heap[b]? = some (.cells #[u0,u1,u2] t (0,0))):w.cell? ⟨b,0,none⟩=some u0∧w.cell? ⟨b,1,none⟩=some u1∧w.cell? ⟨b,2,none⟩=some u2∧w.frozen? ⟨b,0,none⟩=false∧w.frozen? ⟨b,1,none⟩=false∧w.frozen? ⟨b,2,none⟩=false:=by
 simp [World.cell?,World.frozen?,h]
theorem three_set1{w:World}{b t:Nat}{u0 u1 u2:Value}(h:w.heap[b]? = some (.cells #[u0,u1,u2] t (0,0)))(u:Value):(w.setCell ⟨b,1,none⟩ u).heap[b]? = some (.cells #[u0,u,u2] t (0,0)):=by
 have hlt:=lt_of_block h
 have h':w.heap[b]=.cells #[u0,u1,u2] t (0,0):=by simpa [Array.getElem?_eq_getElem hlt] using h
 show(w.heap.modify b _)[b]? = _
 rw [Array.getElem?_eq_getElem (by simpa using hlt),Array.getElem_modify_self,h']
 rfl
theorem RSt.lt{w0 w:World}{p:Nat}{bs:List Int}{s m:Nat}(h:RSt w0 w p bs s m):p<w.heap.size:=by
 obtain⟨A,c,hv,_⟩:=h.row
 exact blk_lt hv
theorem RSt.kept{w0 w w1:World}{p:Nat}{bs:List Int}{s m:Nat}{S:Nat→Prop}(h:RSt w0 w p bs s m)(hk:Kept w w1 S)(hp:¬S p):RSt w0 w1 p bs s m:=by
 obtain⟨A,c,hv,hc,hr⟩:=h.row
 exact⟨h.old,⟨A,c,blk_kept hv hk hp,hc,hr⟩,h.len,h.le,h.oct⟩
theorem RSt.below{w0 w w1:World}{p:Nat}{bs:List Int}{s m:Nat}(h:RSt w0 w p bs s m)(hb:Below w.heap.size w w1):RSt w0 w1 p bs s m:=h.kept (Kept.of_below hb (fun _=>False)) id
theorem RSt.move{w0 w:World}{p:Nat}{bs:List Int}{s m:Nat}(h:RSt w0 w p bs s m)(s2:Nat)(h2:s2≤bs.length):RSt w0 (w.setCell ⟨p,1,none⟩ (.int .i64 (s2:Int))) p bs s2 m:=by
 obtain⟨A,c,hv,hc,hr⟩:=h.row
 exact⟨h.old,⟨A,c,three_set1 hv _,hc,hr⟩,h.len,h2,h.oct⟩
theorem source_fail(p:Value)(at_ c:Int)(w:World):Calls Tryz.prog 30 #[p,.int .i64 at_,.int .i64 c] w fun e w'=>e=refuse at_ c∧w'=w:=by
 go_enter Tryz.func30,Tryz.ntmps30
 go_wp2
 simp [bodyPost,refuse]
theorem RSt.at_{w0 w:World}{p:Nat}{bs:List Int}{s m:Nat}(h:RSt w0 w p bs s m)(hb:Below w0.heap.size w0 w):∃A c,w.heap[p]? = some (.cells #[.slice A bs.length c,.int .i64 (s:Int),.map (some m)] 76 (0,0))∧bs.length≤c∧Kd.C (Kd.int .u8) w A bs.length bs:=by
 obtain⟨A,c,hv,hc,hr⟩:=h.row
 exact⟨A,c,hv,hc,Kd.C_below hr hb⟩
theorem rd_oct{bs:List Int}(h:∀x∈bs,0≤x∧x<256)(i:Int):0≤rd bs i∧rd bs i<256:=by
 unfold rd
 rw [List.getD_eq_getElem?_getD]
 rcases Nat.lt_or_ge i.toNat bs.length with hi | hi
 ·rw [List.getElem?_eq_getElem hi]
  exact h _ (List.getElem_mem hi)
 ·rw [List.getElem?_eq_none hi]
  simp
theorem source_byte_no(w0:World)(p:Nat)(bs:List Int)(s m:Nat)(at_:Int)(w:World)(hb:Below w0.heap.size w0 w)(hr:RSt w0 w p bs s m)(hs:¬s<bs.length) :
  Calls Tryz.prog 29 #[.pointer (some ⟨p,0,none⟩),.int .i64 at_] w fun e w'=>e=refuse at_ 61∧Drawn0 w w':=by
 obtain⟨A,c,hv,hc,hC⟩:=hr.at_ hb
 obtain⟨c0,c1,c2,f0,f1,f2⟩:=cells3 hv
 have hd:bs.length≤s:=by omega
 clear hv hC hs hr hb
 go_enter Tryz.func29,Tryz.ntmps29
 go_wp2
 go_quiet (fail)
 go_wp2_with (with_reducible refine(source_fail _ _ _ _).mono ?_;rintro e w' ⟨rfl,rfl⟩)
 rename_i hq
 cases hq
 simp [bodyPost,refuse]
 exact⟨nq,rfl⟩
theorem cell_from{w0 w:World}{a:Addr}{v:Value}(h:w0.cell? a=some v)(hb:Below w0.heap.size w0 w):w.cell? a=some v:=by
 have:=hb.block a.block (World.block_lt_of_cell? w0 _ h)
 simpa [World.cell?,this] using h
theorem cell_far{w:World}{a:Addr}{p j:Nat}{u v:Value}(h:w.cell? a=some v)(hp:a.block≠p):(w.setCell ⟨p,j,none⟩ u).cell? a=some v:=by
 have:=Below.heap_setCell w ⟨p,j,none⟩ u a.block hp
 simpa [World.cell?,this] using h
theorem source_byte(w0:World)(p:Nat)(bs:List Int)(s m:Nat)(at_:Int)(w:World)(hb:Below w0.heap.size w0 w)(hr:RSt w0 w p bs s m)(hs:s<bs.length) :
  Calls Tryz.prog 29 #[.pointer (some ⟨p,0,none⟩),.int .i64 at_] w fun e w'=>e=.returned (.int .u8 (rd bs s))∧RSt w0 w' p bs (s+1) m∧Below w0.heap.size w0 w'∧Kept w w' (fun k=>k=p):=by
 obtain⟨A,c,hv,hc,hC0⟩:=hr.row
 have hl:=hr.len
 obtain⟨c0,c1,c2,f0,f1,f2⟩:=cells3 hv
 have hd:¬bs.length≤s:=by omega
 obtain⟨ad,rfl,ha⟩:=Kd.at_int hC0 (s:Int) (by omega) (by omega)
 rw [Int.toNat_natCast] at ha
 have hne:(ad.add s).block≠p:=fun e=>by
  have h1:=World.block_lt_of_cell? w0 _ ha
  have h2:=hr.old
  omega
 have HA:=ak (cell_from ha hb)
 have HN:=ak hne
 have hi1:(0:Int)≤(s:Int):=by omega
 have hi2:(s:Int)<(bs.length:Int):=by omega
 have HH:=ak hr
 have HB:=ak hb
 have HV:=ak hv
 have HL:=ak hl
 have hw1:wrap64 ((s:Int)+1)=(s:Int)+1:=by unfold wrap64;omega
 have hw2:IntKind.i64.wrap (s:Int)=(s:Int):=by rw [show IntKind.i64.wrap (s:Int)=wrap64 (s:Int) from i64_w _];unfold wrap64;omega
 clear hC0 hr hb ha hne hv hl
 go_enter Tryz.func29,Tryz.ntmps29
 go_wp2
 go_quiet (fail)
 go_wp2
 have hv1:(w.drewN nq).heap[p]? = some (.cells #[.slice (some ad) bs.length c,.int .i64 (s:Int),.map (some m)] 76 (0,0)):=HV.out
 have hv2:=three_set1 hv1 (.int .i64 ((s:Int)+1))
 have ha2:=cell_far (j:=1) (u:=.int .i64 ((s:Int)+1)) (show(w.drewN nq).cell? (ad.add s)=_ from HA.out) HN.out
 have HR2:=ak (show RSt w0 ((w.drewN nq).setCell ⟨p,1,none⟩ (.int .i64 ((s:Int)+1))) p bs (s+1) m from RSt.move (w:=w.drewN nq) (HH.out.below (pw_below_drewN (Below.refl _ _) nq)) (s+1) (by omega))
 have HB2:=ak ((pw_below_drewN HB.out nq).setCell (p:=⟨p,1,none⟩) HH.out.old (.int .i64 ((s:Int)+1)))
 have HK2:=ak (((Kept.refl w (fun k=>k=p)).drewN nq).setCell (p:=⟨p,1,none⟩) (.inl rfl) (.int .i64 ((s:Int)+1)))
 clear c0 c1 c2 f0 f1 f2 hw1 HV hv1 HA HB HH
 revert HR2 HB2 HK2 hv2 ha2
 generalize (w.drewN nq).setCell ⟨p,1,none⟩ (.int .i64 ((s:Int)+1))=W
 intro hv2 ha2 HR2 HB2 HK2
 obtain⟨c0,c1,c2,f0,f1,f2⟩:=cells3 hv2
 clear hv2
 go_quiet (fail)
 go_wp2
 go_ret
 exact⟨rfl,HR2.out.below (pw_below_drewN (Below.refl _ _) nq),pw_below_drewN HB2.out nq,HK2.out.drewN nq⟩
def numG(bs:List Int)(a:Nat):Nat→Nat→Nat→Nat→Except (Int×Int) (Nat×Nat)
 | 0,_,_,_=>.error ((a:Int),61)
 | k+1,n,i,s =>
  if s<bs.length then
   if 2147483647<n+(rd bs s).toNat % 128 * 128 ^ i∨4<i∨(rd bs s).toNat=0∧0<i then .error ((a:Int),61)
   else if (rd bs s).toNat<128 then .ok (n+(rd bs s).toNat % 128 * 128 ^ i,s+1)
   else numG bs a k (n+(rd bs s).toNat % 128 * 128 ^ i) (i+1) (s+1)
  else .error ((a:Int),61)
def numS(bs:List Int)(s:Nat):Except (Int×Int) (Nat×Nat):=numG bs s 6 0 0 s
def RPost{α:Type}(w0 w:World)(p m:Nat)(bs:List Int)(mk:α→World→Value→Prop)(r:Except (Int×Int) (α×Nat))(e:Ending)(w':World):Prop :=
 Below w0.heap.size w0 w'∧Kept w w' (fun k=>k=p)∧match r with
  | .ok (x,s)=>RSt w0 w' p bs s m∧∃v,e=.returned v∧mk x w' v
  | .error (a,c)=>e=refuse a c
def intV(n:Nat)(w:World)(v:Value):Prop:=v=.int .i64 (n:Int)
theorem and127:∀r:Fin 256,bits .and .u8 ((r.val:Nat):Int) 127=((r.val % 128:Nat):Int):=by decide
theorem wrap_u64n(n:Nat)(h:n<18446744073709551616):IntKind.u64.wrap (n:Int)=(n:Int):=by
 simp [IntKind.wrap,IntKind.bits,IntKind.signed]
 omega
theorem or_shl(n c i:Nat)(hn:n<128 ^ i)(hc:c<256)(hi:i<6) :
  bits .or .u64 (n:Int) (IntKind.u64.wrap (IntKind.u64.wrap (bits .and .u8 (c:Int) 127) * 2 ^ (7 * i)))=((n+c % 128 * 128 ^ i:Nat):Int):=by
 have h1:bits .and .u8 (c:Int) 127=((c % 128:Nat):Int):=and127 ⟨c,hc⟩
 have h2:(128:Nat) ^ i=2 ^ (7 * i):=by rw [show(128:Nat)=2 ^ 7 from rfl,←Nat.pow_mul]
 have h3:(2:Nat) ^ (7 * i)≤2 ^ 35:=Nat.pow_le_pow_right (by omega) (by omega)
 have h4:c % 128 * 2 ^ (7 * i)≤127 * 2 ^ 35:=Nat.mul_le_mul (by omega) h3
 rw [h2] at hn ⊢
 rw [h1,wrap_u64n _ (by omega),show(((c % 128:Nat):Int) * 2 ^ (7 * i))=((c % 128 * 2 ^ (7 * i):Nat):Int) by rw [Int.natCast_mul];congr 1,wrap_u64n _ (by omega)]
 have ha:n<2 ^ 63:=by omega
 have hb:c % 128 * 2 ^ (7 * i)<2 ^ 63:=by omega
 rw [(bits_nat .u64 63 (by decide) (fun m h0 h1=>by obtain⟨a,rfl⟩:=Int.eq_ofNat_of_zero_le h0;exact wrap_u64n a (by omega)) n _ ha hb).2]
 congr 1
 rw [Nat.or_comm,Nat.mul_comm,←Nat.two_pow_add_eq_or_of_lt hn,Nat.add_comm]
theorem RPost.no{α:Type}{w0 w w':World}{p m:Nat}{bs:List Int}{mk:α→World→Value→Prop}{r:Except (Int×Int) (α×Nat)}{a c:Int}(hr:r=.error (a,c))(hb:Below w0.heap.size w0 w')(hk:Kept w w' (fun k=>k=p)):RPost w0 w p m bs mk r (refuse a c) w':=by
 subst hr
 exact⟨hb,hk,rfl⟩
theorem RPost.yes{α:Type}{w0 w w':World}{p m:Nat}{bs:List Int}{mk:α→World→Value→Prop}{r:Except (Int×Int) (α×Nat)}{x:α}{s:Nat}{v:Value}(hr:r=.ok (x,s))(hb:Below w0.heap.size w0 w')(hk:Kept w w' (fun k=>k=p))(hR:RSt w0 w' p bs s m)(hm:mk x w' v):RPost w0 w p m bs mk r (.returned v) w':=by
 subst hr
 exact⟨hb,hk,hR,v,rfl,hm⟩
set_option maxHeartbeats 1000000 in
theorem source_number(w0:World)(p:Nat)(bs:List Int)(s m:Nat)(w:World)(hb:Below w0.heap.size w0 w)(hr:RSt w0 w p bs s m) :
  Calls Tryz.prog 31 #[.pointer (some ⟨p,0,none⟩)] w (RPost w0 w p m bs intV (numS bs s)):=by
 obtain⟨A,c,hv,hc,hC0⟩:=hr.row
 obtain⟨c0,c1,c2,f0,f1,f2⟩:=cells3 hv
 have HR:=ak hr
 have HB:=ak hb
 clear hr hb hC0 hv
 go_enter Tryz.func31,Tryz.ntmps31
 go_wp2
 go_loopg [4,5,6] 6 (fun kq v4 v5 v6 w'=>∃(n i s2:Nat),v4=.int .u64 (n:Int)∧v5=.int .u64 ((7 * i:Nat):Int)∧i+kq=6∧i≤5∧n≤2147483647∧Aside0 (n<128 ^ i)∧Aside0 (numG bs s kq n i s2=numS bs s)∧Aside0 (RSt w0 w' p bs s2 m)∧Aside0 (Below w0.heap.size w0 w')∧Aside0 (Kept w w' (fun k=>k=p)))
 case atStart=>exact⟨0,0,s,rfl,rfl,rfl,by omega,by omega,⟨by decide⟩,⟨rfl⟩,HR,HB,⟨Kept.refl _ _⟩⟩
 case round =>
  clear HB HR c0 c1 c2 f0 f1 f2
  obtain⟨n,i,s2,rfl,rfl,hk,hi5,hn,hni,HG,HR,HB,HK⟩:=hrel
  by_cases hs:s2<bs.length
  ·have ho:=rd_oct HR.out.oct (s2:Int)
   obtain⟨cN,hcN⟩:=Int.eq_ofNat_of_zero_le ho.1
   have hc6:cN<256:=by omega
   have hlt:i<6:=by omega
   have hq:=or_shl n cN i hni.out hc6 hlt
   obtain⟨g2,rfl⟩:∃g2,gk=g2+1:=⟨gk-1,by omega⟩
   have hG:=HG.out
   rw [numG,if_pos hs,hcN,show((cN:Int)).toNat=cN from rfl] at hG
   have HC:=ak hcN
   clear ho HG hcN
   generalize hqq:n+cN % 128 * 128 ^ i=q at hq hG
   by_cases h1:2147483647<q
   ·rw [if_pos (.inl h1)] at hG
    have HG:=ak hG.symm
    clear hG hqq
    go_wp2_with (first | ((with_reducible refine(source_byte w0 p bs s2 m _ _ HB.out HR.out hs).mono ?_);rintro e w1 ⟨rfl,hr1,hb1,hk1⟩;rw [HC.out];have HR1:=ak hr1;have HB1:=ak hb1;have HK1:=ak (HK.out.then_ hk1 (fun _ h=>.inl h));clear hr1 hb1 hk1) | ((with_reducible refine(source_fail _ _ _ _).mono ?_);rintro e w2 ⟨rfl,rfl⟩))
    rename_i hq9;cases hq9;simp only [bodyPost];exact⟨trivial,RPost.no HG.out HB1.out HK1.out⟩
   ·by_cases h2:4<i
    ·have h2':(35:Int)<7 * (i:Int)+7:=by omega
     rw [if_pos (.inr (.inl h2))] at hG
     have HG:=ak hG.symm
     clear hG hqq
     go_wp2_with (first | ((with_reducible refine(source_byte w0 p bs s2 m _ _ HB.out HR.out hs).mono ?_);rintro e w1 ⟨rfl,hr1,hb1,hk1⟩;rw [HC.out];have HR1:=ak hr1;have HB1:=ak hb1;have HK1:=ak (HK.out.then_ hk1 (fun _ h=>.inl h));clear hr1 hb1 hk1) | ((with_reducible refine(source_fail _ _ _ _).mono ?_);rintro e w2 ⟨rfl,rfl⟩))
     rename_i hq9;cases hq9;simp only [bodyPost];exact⟨trivial,RPost.no HG.out HB1.out HK1.out⟩
    ·have h2':¬(35:Int)<7 * (i:Int)+7:=by omega
     by_cases h4:cN=0
     ·by_cases h5:0<i
      ·have h5':(7:Int)<7 * (i:Int)+7:=by omega
       rw [if_pos (.inr (.inr ⟨h4,h5⟩))] at hG
       subst h4
       have hq':bits .or .u64 (n:Int) (IntKind.u64.wrap (IntKind.u64.wrap (bits .and .u8 0 127) * 2 ^ (7 * i)))=(q:Int):=hq
       have HG:=ak hG.symm
       clear hG hqq
       go_wp2_with (first | ((with_reducible refine(source_byte w0 p bs s2 m _ _ HB.out HR.out hs).mono ?_);rintro e w1 ⟨rfl,hr1,hb1,hk1⟩;rw [HC.out];have HR1:=ak hr1;have HB1:=ak hb1;have HK1:=ak (HK.out.then_ hk1 (fun _ h=>.inl h));clear hr1 hb1 hk1) | ((with_reducible refine(source_fail _ _ _ _).mono ?_);rintro e w2 ⟨rfl,rfl⟩))
       rename_i hq9;cases hq9;simp only [bodyPost];exact⟨trivial,RPost.no HG.out HB1.out HK1.out⟩
      ·have h5':¬(7:Int)<7 * (i:Int)+7:=by omega
       rw [if_neg (by omega),if_pos (by omega)] at hG
       subst h4
       have hq':bits .or .u64 (n:Int) (IntKind.u64.wrap (IntKind.u64.wrap (bits .and .u8 0 127) * 2 ^ (7 * i)))=(q:Int):=hq
       have HG:=ak hG.symm
       clear hG hqq
       go_wp2_with (first | ((with_reducible refine(source_byte w0 p bs s2 m _ _ HB.out HR.out hs).mono ?_);rintro e w1 ⟨rfl,hr1,hb1,hk1⟩;rw [HC.out];have HR1:=ak hr1;have HB1:=ak hb1;have HK1:=ak (HK.out.then_ hk1 (fun _ h=>.inl h));clear hr1 hb1 hk1) | ((with_reducible refine(source_fail _ _ _ _).mono ?_);rintro e w2 ⟨rfl,rfl⟩))
       go_ret;exact RPost.yes HG.out HB1.out HK1.out HR1.out rfl
     ·by_cases h6:cN<128
      ·rw [if_neg (by omega),if_pos h6] at hG
       have HG:=ak hG.symm
       clear hG hqq
       go_wp2_with (first | ((with_reducible refine(source_byte w0 p bs s2 m _ _ HB.out HR.out hs).mono ?_);rintro e w1 ⟨rfl,hr1,hb1,hk1⟩;rw [HC.out];have HR1:=ak hr1;have HB1:=ak hb1;have HK1:=ak (HK.out.then_ hk1 (fun _ h=>.inl h));clear hr1 hb1 hk1) | ((with_reducible refine(source_fail _ _ _ _).mono ?_);rintro e w2 ⟨rfl,rfl⟩))
       go_ret;exact RPost.yes HG.out HB1.out HK1.out HR1.out rfl
      ·have hqb:q<128 ^ (i+1):=by
        rw [←hqq,Nat.pow_succ]
        have h7:cN % 128 * 128 ^ i≤127 * 128 ^ i:=Nat.mul_le_mul_right _ (by omega)
        have h8:=hni.out
        omega
       have HQ:=ak hqb;rw [if_neg (by omega),if_neg h6] at hG;have HG:=ak hG;clear hG hqq hqb
       go_wp2_with (first | ((with_reducible refine(source_byte w0 p bs s2 m _ _ HB.out HR.out hs).mono ?_);rintro e w1 ⟨rfl,hr1,hb1,hk1⟩;rw [HC.out];have HR1:=ak hr1;have HB1:=ak hb1;have HK1:=ak (HK.out.then_ hk1 (fun _ h=>.inl h));clear hr1 hb1 hk1) | ((with_reducible refine(source_fail _ _ _ _).mono ?_);rintro e w2 ⟨rfl,rfl⟩))
       go_roundg g2
       case measure=>omega
       case rel=>exact⟨q,i+1,s2+1,rfl,rfl,by omega,by omega,by omega,HQ,HG,HR1,HB1,HK1⟩
  ·have hG:=HG.out
   obtain⟨g2,rfl⟩:∃g2,gk=g2+1:=⟨gk-1,by omega⟩
   rw [numG,if_neg hs] at hG
   have HG:=ak hG.symm
   clear hG
   go_wp2_with ((with_reducible refine(source_byte_no w0 p bs s2 m _ _ HB.out HR.out hs).mono ?_);rintro e w1 ⟨rfl,hd1⟩)
   rename_i hq9;cases hq9;simp only [bodyPost]
   obtain⟨m1,rfl⟩:=hd1
   exact⟨trivial,RPost.no HG.out (pw_below_drewN HB.out m1) (HK.out.drewN m1)⟩
structure DSt(w0 w:World)(p:Nat)(bs:List Int)(s:Nat)(e a:Int):Prop where
 old:w0.heap.size≤p
 row:∃A c,w.heap[p]? = some (.cells #[.slice A bs.length c,.int .i64 (s:Int),.int .i64 e,.int .i64 a] 84 (0,0))∧bs.length≤c∧Kd.C (Kd.int .u8) w0 A bs.length bs
 len:bs.length≤1048576
 le:s≤bs.length
 oct:∀x∈bs,0≤x∧x<256
theorem cells4{w:World}{b t:Nat}{u0 u1 u2 u3:Value}(h:w.heap[b]? = some (.cells #[u0,u1,u2,u3] t (0,0))):w.cell? ⟨b,0,none⟩=some u0∧w.cell? ⟨b,1,none⟩=some u1∧w.cell? ⟨b,2,none⟩=some u2∧w.cell? ⟨b,3,none⟩=some u3∧w.frozen? ⟨b,0,none⟩=false∧w.frozen? ⟨b,1,none⟩=false∧w.frozen? ⟨b,2,none⟩=false∧w.frozen? ⟨b,3,none⟩=false:=by
 simp [World.cell?,World.frozen?,h]
theorem four_set{w:World}{b t:Nat}{cs:Array Value}(h:w.heap[b]? = some (.cells cs t (0,0)))(i:Nat)(u:Value):(w.setCell ⟨b,i,none⟩ u).heap[b]? = some (.cells (cs.setIfInBounds i u) t (0,0)):=by
 have hlt:=lt_of_block h
 have h':w.heap[b]=.cells cs t (0,0):=by simpa [Array.getElem?_eq_getElem hlt] using h
 show(w.heap.modify b _)[b]? = _
 rw [Array.getElem?_eq_getElem (by simpa using hlt),Array.getElem_modify_self,h']
 rfl
theorem DSt.lt{w0 w:World}{p:Nat}{bs:List Int}{s:Nat}{e a:Int}(h:DSt w0 w p bs s e a):p<w.heap.size:=by
 obtain⟨A,c,hv,_⟩:=h.row
 exact blk_lt hv
theorem DSt.kept{w0 w w1:World}{p:Nat}{bs:List Int}{s:Nat}{e a:Int}{S:Nat→Prop}(h:DSt w0 w p bs s e a)(hk:Kept w w1 S)(hp:¬S p):DSt w0 w1 p bs s e a:=by
 obtain⟨A,c,hv,hc,hr⟩:=h.row
 exact⟨h.old,⟨A,c,blk_kept hv hk hp,hc,hr⟩,h.len,h.le,h.oct⟩
theorem DSt.below{w0 w w1:World}{p:Nat}{bs:List Int}{s:Nat}{e a:Int}(h:DSt w0 w p bs s e a)(hb:Below w.heap.size w w1):DSt w0 w1 p bs s e a:=h.kept (Kept.of_below hb (fun _=>False)) id
theorem DSt.move{w0 w:World}{p:Nat}{bs:List Int}{s:Nat}{e a:Int}(h:DSt w0 w p bs s e a)(s2:Nat)(h2:s2≤bs.length):DSt w0 (w.setCell ⟨p,1,none⟩ (.int .i64 (s2:Int))) p bs s2 e a:=by
 obtain⟨A,c,hv,hc,hr⟩:=h.row
 exact⟨h.old,⟨A,c,four_set hv _ _,hc,hr⟩,h.len,h2,h.oct⟩
theorem DSt.stop{w0 w:World}{p:Nat}{bs:List Int}{s:Nat}{e a:Int}(h:DSt w0 w p bs s e a)(e2 a2:Int):DSt w0 ((w.setCell ⟨p,2,none⟩ (.int .i64 e2)).setCell ⟨p,3,none⟩ (.int .i64 a2)) p bs s e2 a2:=by
 obtain⟨A,c,hv,hc,hr⟩:=h.row
 exact⟨h.old,⟨A,c,four_set (four_set hv _ _) _ _,hc,hr⟩,h.len,h.le,h.oct⟩
def DK(w0 w w':World)(p:Nat):Prop:=Below w0.heap.size w0 w'∧Kept w w' (fun k=>k=p)
def stk(e x y:Int):Int:=if e=0 then x else y
theorem R_bad(w0:World)(p:Nat)(bs:List Int)(s:Nat)(e a at_ c:Int)(w:World)(hb:Below w0.heap.size w0 w)(hr:DSt w0 w p bs s e a) :
  Calls Tryz.prog 35 #[.pointer (some ⟨p,0,none⟩),.int .i64 at_,.int .i64 c] w fun x w'=>x=.returned (.tuple #[])∧DSt w0 w' p bs s (stk e c e) (stk e at_ a)∧DK w0 w w' p:=by
 obtain⟨A,cc,hv,hc,hC⟩:=hr.row
 obtain⟨c0,c1,c2,c3,f0,f1,f2,f3⟩:=cells4 hv
 have HR:=ak hr
 have HB:=ak hb
 clear hv hC hr hb
 by_cases h0:e=0
 ·have b0:(e==0)=true:=by simp [h0]
  subst h0
  clear b0
  go_enter Tryz.func35,Tryz.ntmps35
  go_wp2
  go_end0
  exact⟨rfl,by rw [stk,stk,if_pos rfl,if_pos rfl];exact HR.out.stop c at_,(HB.out.setCell HR.out.old _ (p:=⟨p,2,none⟩)).setCell HR.out.old _ (p:=⟨p,3,none⟩),((Kept.refl w (fun k=>k=p)).setCell (.inl rfl) _).setCell (.inl rfl) _⟩
 ·have b0:(e==0)=false:=by simp [h0]
  have H0:=ak h0
  clear h0
  go_enter Tryz.func35,Tryz.ntmps35
  go_wp2
  go_end0
  exact⟨rfl,by rw [stk,stk,if_neg H0.out,if_neg H0.out];exact HR.out,HB.out,Kept.refl _ _⟩
theorem R_bad0(w0:World)(p:Nat)(bs:List Int)(s:Nat)(a at_ c:Int)(w:World)(hb:Below w0.heap.size w0 w)(hr:DSt w0 w p bs s 0 a) :
  Calls Tryz.prog 35 #[.pointer (some ⟨p,0,none⟩),.int .i64 at_,.int .i64 c] w fun x w'=>x=.returned (.tuple #[])∧DSt w0 w' p bs s c at_∧DK w0 w w' p:=R_bad w0 p bs s 0 a at_ c w hb hr
theorem DK.trans{w0 w w1 w2:World}{p:Nat}(h:DK w0 w w1 p)(k:DK w0 w1 w2 p):DK w0 w w2 p:=⟨k.1,h.2.then_ k.2 (fun _ h=>.inl h)⟩
theorem DK.drewN{w0 w w1:World}{p:Nat}(h:DK w0 w w1 p)(n:Nat):DK w0 w (w1.drewN n) p:=⟨pw_below_drewN h.1 n,h.2.drewN n⟩
theorem DSt.drewN{w0 w:World}{p:Nat}{bs:List Int}{s:Nat}{e a:Int}(h:DSt w0 w p bs s e a)(n:Nat):DSt w0 (w.drewN n) p bs s e a:=h.below (pw_below_drewN (Below.refl _ _) n)
def DPost{α:Type}(w0 w:World)(p:Nat)(bs:List Int)(a0:Int)(mk:α→World→Value→Prop)(r:Except (Int×Int) (α×Nat))(e:Ending)(w':World):Prop :=
 DK w0 w w' p∧∃v,e=.returned v∧match r with
  | .ok (x,s)=>mk x w' v∧DSt w0 w' p bs s 0 a0
  | .error (a,c)=>(∃y,mk y w' v)∧c≠0∧∃s,DSt w0 w' p bs s c a
theorem DPost.no{α:Type}{w0 w w':World}{p s:Nat}{bs:List Int}{a0 a c:Int}{mk:α→World→Value→Prop}{r:Except (Int×Int) (α×Nat)}{v:Value}(hr:r=.error (a,c))(hk:DK w0 w w' p)(hR:DSt w0 w' p bs s c a)(hc:c≠0)(y:α)(hy:mk y w' v):DPost w0 w p bs a0 mk r (.returned v) w':=by
 subst hr
 exact⟨hk,v,rfl,⟨y,hy⟩,hc,s,hR⟩
theorem DPost.yes{α:Type}{w0 w w':World}{p s:Nat}{bs:List Int}{a0:Int}{mk:α→World→Value→Prop}{r:Except (Int×Int) (α×Nat)}{x:α}{v:Value}(hr:r=.ok (x,s))(hk:DK w0 w w' p)(hR:DSt w0 w' p bs s 0 a0)(hm:mk x w' v):DPost w0 w p bs a0 mk r (.returned v) w':=by
 subst hr
 exact⟨hk,v,rfl,hm,hR⟩
def NumI(bs:List Int)(s:Nat)(a:Int)(kq n i s2:Nat)(u e2 a2:Int):Prop :=
 (e2=0∧a2=a∧i+kq=7∧i≤5∧u=((128 ^ i:Nat):Int)∧s2=s+i∧n≤2147483647∧n<128 ^ i∧numG bs s (kq-1) n i s2=numS bs s)∨(e2=61∧a2=(s:Int)∧numS bs s=.error ((s:Int),61))
theorem dw64{a:Int}(h0 : -9223372036854775808≤a)(h1:a<9223372036854775808):wrap64 a=a:=by unfold wrap64;omega
theorem dwI{a:Int}(h0 : -9223372036854775808≤a)(h1:a<9223372036854775808):IntKind.i64.wrap a=a:=by rw [show IntKind.i64.wrap a=wrap64 a from i64_w _];exact dw64 h0 h1
structure NumW(s s2 i n cN:Nat)(u:Int):Prop where
 sub:wrap64 ((s2:Int)-(s:Int))=(i:Int)
 subI:IntKind.i64.wrap ((s2:Int)-(s:Int))=(i:Int)
 inc:wrap64 ((s2:Int)+1)=(s2:Int)+1
 idI:IntKind.i64.wrap (s2:Int)=(s2:Int)
 cI:IntKind.i64.wrap (cN:Int)=(cN:Int)
 md:Int.tmod (cN:Int) 128=((cN % 128:Nat):Int)
 mul:wrap64 (((cN % 128:Nat):Int) * u)=((cN % 128 * 128 ^ i:Nat):Int)
 mulI:IntKind.i64.wrap (((cN % 128:Nat):Int) * u)=((cN % 128 * 128 ^ i:Nat):Int)
 add:wrap64 ((n:Int)+((cN % 128 * 128 ^ i:Nat):Int))=((n+cN % 128 * 128 ^ i:Nat):Int)
 addI:IntKind.i64.wrap ((n:Int)+((cN % 128 * 128 ^ i:Nat):Int))=((n+cN % 128 * 128 ^ i:Nat):Int)
 sum:wrap64 ((n:Int)+wrap64 ((cN:Int) % 128 * u))=((n+cN % 128 * 128 ^ i:Nat):Int)
 up:wrap64 (u * 128)=((128 ^ (i+1):Nat):Int)
 sub1:wrap64 ((s2:Int)+1-(s:Int))=(i:Int)+1
 sub1I:IntKind.i64.wrap ((s2:Int)+1-(s:Int))=(i:Int)+1
theorem pow128{i:Nat}(h:i≤5):128 ^ i≤34359738368:=Nat.le_trans (Nat.pow_le_pow_right (by decide) h) (by decide)
theorem numW{s s2 i n cN:Nat}{u:Int}(hs:s2=s+i)(hb:s2≤1048576)(hi:i≤5)(hn:n≤2147483647)(hc:cN<256)(hu:u=((128 ^ i:Nat):Int)):NumW s s2 i n cN u:=by
 have hp:=pow128 hi
 have hm:cN % 128 * 128 ^ i≤127 * 34359738368:=Nat.mul_le_mul (by omega) hp
 have h2:128 ^ (i+1)=128 ^ i * 128:=Nat.pow_succ 128 i
 have e1:((cN % 128:Nat):Int) * u=((cN % 128 * 128 ^ i:Nat):Int):=by rw [hu,Int.natCast_mul]
 have e2:u * 128=((128 ^ (i+1):Nat):Int):=by rw [hu,h2,Int.natCast_mul];rfl
 have e3:(n:Int)+((cN % 128 * 128 ^ i:Nat):Int)=((n+cN % 128 * 128 ^ i:Nat):Int):=(Int.natCast_add _ _).symm
 have e4:(s2:Int)-(s:Int)=(i:Int):=by omega
 have e6:(s2:Int)+1-(s:Int)=(i:Int)+1:=by omega
 have e7:(cN:Int) % 128=((cN % 128:Nat):Int):=rfl
 obtain⟨q,hq⟩:∃q,cN % 128 * 128 ^ i=q:=⟨_,rfl⟩
 obtain⟨Q,hQ⟩:∃Q,128 ^ (i+1)=Q:=⟨_,rfl⟩
 have hQ2:Q≤4398046511104:=by omega
 rw [hq] at hm e1 e3
 rw [hQ] at e2
 clear h2 hp
 refine⟨?_, ?_, ?_, ?_, ?_,rfl, ?_, ?_, ?_, ?_, ?_, ?_, ?_, ?_⟩
 ·rw [e4];exact dw64 (by omega) (by omega)
 ·rw [e4];exact dwI (by omega) (by omega)
 ·exact dw64 (by omega) (by omega)
 ·exact dwI (by omega) (by omega)
 ·exact dwI (by omega) (by omega)
 ·rw [hq,e1];exact dw64 (by omega) (by omega)
 ·rw [hq,e1];exact dwI (by omega) (by omega)
 ·rw [hq,e3];exact dw64 (by omega) (by omega)
 ·rw [hq,e3];exact dwI (by omega) (by omega)
 ·rw [e7,e1,dw64 (a:=(q:Int)) (by omega) (by omega),hq,e3];exact dw64 (by omega) (by omega)
 ·rw [hQ,e2];exact dw64 (by omega) (by omega)
 ·rw [e6];exact dw64 (by omega) (by omega)
 ·rw [e6];exact dwI (by omega) (by omega)
set_option maxHeartbeats 1000000 in
theorem R_number(w0:World)(p:Nat)(bs:List Int)(s:Nat)(a:Int)(w:World)(hb:Below w0.heap.size w0 w)(hr:DSt w0 w p bs s 0 a) :
  Calls Tryz.prog 33 #[.pointer (some ⟨p,0,none⟩)] w (DPost w0 w p bs a intV (numS bs s)):=by
 obtain⟨A,c,hv,hc,hC0⟩:=hr.row
 obtain⟨c0,c1,c2,c3,f0,f1,f2,f3⟩:=cells4 hv
 have HR:=ak hr
 have HB:=ak hb
 clear hr hb hC0 hv
 go_enter Tryz.func33,Tryz.ntmps33
 go_wp2
 clear c0 c1 c2 c3 f0 f1 f2 f3
 go_loopg [4,5,6] 7 (fun kq v4 v5 v6 w'=>∃(n i s2:Nat) (u e2 a2:Int),v4=.int .i64 (n:Int)∧v5=.int .i64 u∧1≤kq∧Aside0 (NumI bs s a kq n i s2 u e2 a2)∧Aside0 (DSt w0 w' p bs s2 e2 a2)∧Aside0 (DK w0 w w' p))
 case atStart=>exact⟨0,0,s,1,0,a,rfl,rfl,by omega,⟨.inl ⟨rfl,rfl,rfl,by omega,rfl,rfl,by omega,by decide,rfl⟩⟩,HR,⟨HB.out,Kept.refl _ _⟩⟩
 case round =>
  clear HB HR
  obtain⟨n,i,s2,u,e2,a2,rfl,rfl,hk,HN,HR,HK⟩:=hrel
  obtain⟨A,c,hv,hc,hC0⟩:=HR.out.row
  obtain⟨c0,c1,c2,c3,f0,f1,f2,f3⟩:=cells4 hv
  rcases HN.out with⟨rfl,rfl,hik,hi5,hu,hs2,hn,hni,hG⟩ | ⟨rfl,rfl,hE⟩
  ·have hsl:=HR.out.le
   have hln:=HR.out.len
   have hb1:s2≤1048576:=by omega
   have HG:=ak hG
   have HV:=ak hv
   have HU:=ak hu
   have HS2:=ak hs2
   have HIK:=ak hik
   have HNI:=ak hni
   have HHN:=ak hn
   have hgk:gk-1=(gk-2)+1:=by omega
   have HGK:=ak hgk
   clear hG hv HN hu hs2 hni hgk
   by_cases h1:s2<bs.length
   ·have d1:decide ((bs.length:Int)≤(s2:Int))=false:=decide_eq_false (by omega)
    have e1:¬bs.length≤s2:=by omega
    by_cases h2:i<5
    ·have d2:decide ((5:Int)≤(i:Int))=false:=decide_eq_false (by omega)
     have e2:¬5≤i:=by omega
     have e3:¬(5:Int)≤(i:Int):=by omega
     obtain⟨ad,rfl,ha⟩:=Kd.at_int hC0 (s2:Int) (by omega) (by omega)
     rw [Int.toNat_natCast] at ha
     have hne:(ad.add s2).block≠p:=fun e=>by
      have h1:=World.block_lt_of_cell? w0 _ ha
      have h2:=HR.out.old
      omega
     have ho:=rd_oct HR.out.oct (s2:Int)
     obtain⟨cN,hcN⟩:=Int.eq_ofNat_of_zero_le ho.1
     have hc6:cN<256:=by omega
     rw [hcN] at ha
     have HA:=ak (cell_from ha HK.out.1)
     have HN:=ak hne
     have hi1:(0:Int)≤(s2:Int):=by omega
     have hi2:(s2:Int)<(bs.length:Int):=by omega
     have ha1:=HA.out
     have HCN:=ak hcN
     have HW:=ak (numW HS2.out hb1 hi5 HHN.out hc6 HU.out)
     clear ho hcN hC0 ha hne
     have w1:=HW.out.sub
     have w2:=HW.out.subI
     go_wp2
     go_quiet (fail)
     rename Nat=>n1
     clear w1 w2
     have w4:=HW.out.idI
     go_upto_region 8 with fail
     go_quiet (fail)
     clear w4 hi1 hi2 d1 d2 e1 e2 e3 ha1
     have w3:=HW.out.inc
     have w5:=HW.out.cI
     go_upto_region 10 with fail
     clear w3 w5
     have hv1:(wr.drewN (n1+nq)).heap[p]? = _:=HV.out
     have hv2:=four_set hv1 1 (.int .i64 ((s2:Int)+1))
     have HR2:=ak (show DSt w0 ((wr.drewN (n1+nq)).setCell ⟨p,1,none⟩ (.int .i64 ((s2:Int)+1))) p bs (s2+1) 0 a2 from DSt.move (w:=wr.drewN (n1+nq)) (HR.out.drewN (n1+nq)) (s2+1) h1)
     have HK2:Aside0 (DK w0 w ((wr.drewN (n1+nq)).setCell ⟨p,1,none⟩ (.int .i64 ((s2:Int)+1))) p):=⟨(HK.out.drewN (n1+nq)).1.setCell HR.out.old _,(HK.out.drewN (n1+nq)).2.setCell (.inl rfl) _⟩
     clear HR HK HV hv1 c0 c1 c2 c3 f0 f1 f2 f3 HA
     revert HR2 HK2 hv2
     generalize (wr.drewN (n1+nq)).setCell ⟨p,1,none⟩ (.int .i64 ((s2:Int)+1))=W
     intro hv2 HR2 HK2
     obtain⟨c0,c1,c2,c3,f0,f1,f2,f3⟩:=cells4 (show W.heap[p]? = some (.cells #[.slice (some ad) bs.length c,.int .i64 ((s2:Int)+1),.int .i64 0,.int .i64 a2] 84 (0,0)) from hv2)
     clear hv2
     obtain⟨q,hq⟩:∃q,cN % 128 * 128 ^ i=q:=⟨_,rfl⟩
     have hG:=HG.out
     rw [HGK.out,numG,if_pos h1,HCN.out,show((cN:Int)).toNat=cN from rfl,hq] at hG
     have w8:=HW.out.sum
     obtain⟨U2,hU2⟩:∃U2,wrap64 (u * 128)=U2:=⟨_,rfl⟩
     have HU2:Aside0 (U2=((128 ^ (i+1):Nat):Int)):=⟨hU2.symm.trans HW.out.up⟩
     have wa:=HW.out.sub1
     obtain⟨nn,hnn⟩:∃nn,n+q=nn:=⟨_,rfl⟩
     rw [hq,hnn] at w8
     rw [hnn] at hG
     have HN2:Aside0 (nn<128 ^ (i+1)):=⟨by
      have h7:cN % 128 * 128 ^ i≤127 * 128 ^ i:=Nat.mul_le_mul_right _ (by have:=Nat.mod_lt cN (show 0<128 by decide);exact Nat.le_of_lt_succ this)
      have h8:=HNI.out
      rw [hq] at h7
      rw [Nat.pow_succ,←hnn]
      clear w8 wa hG hU2
      omega⟩
     clear hnn
     have hio:0<i∨i=0:=Nat.eq_zero_or_pos i |>.symm
     by_cases hA:2147483647<nn
     ·have d3:decide ((2147483647:Int)<((nn:Nat):Int))=true:=decide_eq_true (Int.ofNat_lt.2 hA)
      rw [if_pos (.inl hA)] at hG
      have HE:=ak hG.symm
      clear hG HG hq
      by_cases h128:cN<128
      ·have d6:decide ((cN:Int)<128)=true:=decide_eq_true (Int.ofNat_lt.2 h128)
       go_wp2_with (go_at_call 35;refine(R_bad0 w0 p bs (s2+1) _ _ _ _ HK2.out.1 HR2.out).mono ?_;rintro e w1 ⟨rfl,hr1,hk1⟩;have HR3:=ak hr1;have HK3:=ak (HK2.out.trans hk1);clear hr1 hk1)
       go_ret
       exact DPost.no HE.out HK3.out HR3.out (by decide) (nn) rfl
      ·have d6:decide ((cN:Int)<128)=false:=decide_eq_false (fun h=>h128 (Int.ofNat_lt.1 h))
       go_wp2_with (go_at_call 35;refine(R_bad0 w0 p bs (s2+1) _ _ _ _ HK2.out.1 HR2.out).mono ?_;rintro e w1 ⟨rfl,hr1,hk1⟩;have HR3:=ak hr1;have HK3:=ak (HK2.out.trans hk1);clear hr1 hk1)
       go_roundg (gk-1)
       case measure=>exact Nat.sub_lt hk Nat.one_pos
       case rel=>exact⟨nn,i,s2+1,_,61,(s:Int),rfl,rfl,by rw [HGK.out];exact Nat.le_add_left _ _,⟨.inr ⟨rfl,rfl,HE.out⟩⟩,HR3,HK3⟩
     ·have d3:decide ((2147483647:Int)<((nn:Nat):Int))=false:=decide_eq_false (fun h=>hA (Int.ofNat_lt.1 h))
      have HA2:=ak hA
      by_cases h0:cN=0
      ·have b4:((cN:Int)==0)=true:=by subst h0;rfl
       have h128:cN<128:=by rw [h0];decide
       have d6:decide ((cN:Int)<128)=true:=decide_eq_true (Int.ofNat_lt.2 h128)
       rcases hio with hi0 | hi0
       ·have d5:decide ((1:Int)<(i:Int)+1)=true:=decide_eq_true (Int.lt_add_of_pos_left 1 (Int.ofNat_lt.2 hi0))
        rw [if_pos (.inr (.inr ⟨h0,hi0⟩))] at hG
        have HE:=ak hG.symm
        clear hG HG hq h0 hA hi0 h128
        go_wp2_with (go_at_call 35;refine(R_bad0 w0 p bs (s2+1) _ _ _ _ HK2.out.1 HR2.out).mono ?_;rintro e w1 ⟨rfl,hr1,hk1⟩;have HR3:=ak hr1;have HK3:=ak (HK2.out.trans hk1);clear hr1 hk1)
        go_ret
        exact DPost.no HE.out HK3.out HR3.out (by decide) (nn) rfl
       ·have d5:decide ((1:Int)<(i:Int)+1)=false:=by rw [hi0];rfl
        have hno:¬(2147483647<nn∨4<i∨cN=0∧0<i):=by
         rintro(h | h | ⟨_,h⟩)
         ·exact hA h
         ·exact absurd h2 (Nat.not_lt.2 h)
         ·rw [hi0] at h
          exact absurd h (by decide)
        rw [if_neg hno,if_pos h128] at hG
        have HE:=ak hG.symm
        clear hG HG hq h0 hA hi0 h128 hno
        go_wp2
        go_ret
        exact DPost.yes HE.out HK2.out HR2.out (congrArg (Value.int .i64) w8)
      ·have b4:((cN:Int)==0)=false:=by rw [beq_eq_false_iff_ne];exact fun h=>h0 (Int.ofNat_eq_zero.1 h)
       have hno:¬(2147483647<nn∨4<i∨cN=0∧0<i):=by
        rintro(h | h | ⟨h,_⟩)
        ·exact hA h
        ·exact absurd h2 (Nat.not_lt.2 h)
        ·exact h0 h
       rw [if_neg hno] at hG
       by_cases h128:cN<128
       ·have d6:decide ((cN:Int)<128)=true:=decide_eq_true (Int.ofNat_lt.2 h128)
        rw [if_pos h128] at hG
        have HE:=ak hG.symm
        clear hG HG hq h0 hA h128 hno
        go_wp2
        go_ret
        exact DPost.yes HE.out HK2.out HR2.out (congrArg (Value.int .i64) w8)
       ·have d6:decide ((cN:Int)<128)=false:=decide_eq_false (fun h=>h128 (Int.ofNat_lt.1 h))
        rw [if_neg h128] at hG
        have HE:=ak hG
        have HI2:Aside0 (NumI bs s a2 (gk-1) (nn) (i+1) (s2+1) U2 0 a2):=⟨.inl ⟨rfl,rfl,by clear w8 wa hG hU2;have:=HIK.out;omega,h2,HU2.out,by rw [HS2.out];rfl,Nat.le_of_not_lt hA,HN2.out,HE.out⟩⟩
        clear hG HG hq h0 hA h128 hno
        go_wp2
        go_roundg (gk-1)
        case measure=>exact Nat.sub_lt hk Nat.one_pos
        case rel=>exact⟨nn,i+1,s2+1,U2,0,a2,congrArg (Value.int .i64) w8,congrArg (Value.int .i64) hU2,by rw [HGK.out];exact Nat.le_add_left _ _,HI2,HR2,HK2⟩
    ·have d2:decide ((5:Int)≤(i:Int))=true:=decide_eq_true (by omega)
     have e2:5≤i:=by omega
     have e3:(5:Int)≤(i:Int):=by omega
     have HE:Aside0 (numS bs s=.error ((s:Int),61)):=⟨by rw [←HG.out,HGK.out,numG,if_pos h1,if_pos (.inr (.inl (by omega)))]⟩
     have HW:=ak (numW (cN:=0) HS2.out hb1 hi5 HHN.out (by decide) HU.out)
     have w1:=HW.out.sub
     have w2:=HW.out.subI
     clear HG HV HW
     go_wp2
     go_quiet (fail)
     have HR1:=ak (HR.out.drewN nq)
     have HK1:=ak (HK.out.drewN nq)
     go_wp2_with (go_at_call 35;refine(R_bad0 w0 p bs s2 _ _ _ _ HK1.out.1 HR1.out).mono ?_;rintro e w1 ⟨rfl,hr1,hk1⟩;have HR2:=ak hr1;have HK2:=ak (HK1.out.trans hk1);clear hr1 hk1)
     go_ret
     exact DPost.no HE.out HK2.out HR2.out (by decide) 0 rfl
   ·have d1:decide ((bs.length:Int)≤(s2:Int))=true:=decide_eq_true (by omega)
    have e1:bs.length≤s2:=by omega
    have HE:Aside0 (numS bs s=.error ((s:Int),61)):=⟨by rw [←HG.out,HGK.out,numG,if_neg h1]⟩
    clear HG HV
    go_wp2
    go_quiet (fail)
    have HR1:=ak (HR.out.drewN nq)
    have HK1:=ak (HK.out.drewN nq)
    go_wp2_with (go_at_call 35;refine(R_bad0 w0 p bs s2 _ _ _ _ HK1.out.1 HR1.out).mono ?_;rintro e w1 ⟨rfl,hr1,hk1⟩;have HR2:=ak hr1;have HK2:=ak (HK1.out.trans hk1);clear hr1 hk1)
    go_ret
    exact DPost.no HE.out HK2.out HR2.out (by decide) 0 rfl
  ·clear hv hC0
   have HE:=ak hE
   clear hE HN
   go_wp2
   go_ret
   exact DPost.no HE.out HK.out HR.out (by decide) 0 rfl
def strV(s:ByteArray)(w:World)(v:Value):Prop:=v=.string s
def textS(nb:ByteArray→Bool)(bs:List Int)(s:Nat):Except (Int×Int) (ByteArray×Nat) :=
 match numS bs s with
 | .error e=>.error e
 | .ok (n,s2)=>if bs.length-s2<n then .error ((s:Int),61) else if nb (strOfNums ((bs.take (s2+n)).drop s2))=true then .ok (strOfNums ((bs.take (s2+n)).drop s2),s2+n) else .error ((s:Int),61)
theorem textS_size{nb:ByteArray→Bool}{bs:List Int}{s s1:Nat}{x:ByteArray}(h:textS nb bs s=.ok (x,s1)):x.size≤bs.length:=by
 unfold textS at h
 split at h
 ·cases h
 ·split at h
  ·cases h
  ·split at h
   ·cases h
    simp only [strOfNums,ByteArray.size,List.size_toArray,List.length_map,List.length_drop,List.length_take]
    omega
   ·cases h
theorem RPost.err{α:Type}{w0 w w':World}{p m:Nat}{bs:List Int}{mk:α→World→Value→Prop}{r:Except (Int×Int) (α×Nat)}{x:Int×Int}(hr:r=.error x)(hb:Below w0.heap.size w0 w')(hk:Kept w w' (fun k=>k=p)):RPost w0 w p m bs mk r (refuse x.1 x.2) w':=RPost.no hr hb hk
theorem w64r{a:Int}(h0 : -9223372036854775808≤a)(h1:a<9223372036854775808):wrap64 a=a:=by unfold wrap64;omega
theorem wI64{a:Int}(h0 : -9223372036854775808≤a)(h1:a<9223372036854775808):IntKind.i64.wrap a=a:=by rw [show IntKind.i64.wrap a=wrap64 a from i64_w _];exact w64r h0 h1
set_option maxHeartbeats 1000000 in
theorem reader_text{PN:ByteArray→Prop}{nb:ByteArray→Bool}(HN:∀(s:ByteArray) (w:World),Tab w→PN s→Calls Tryz.prog 38 #[.string s] w fun e w'=>e=.returned (.bool (nb s))∧Below w.heap.size w w')
  (w0:World) (p:Nat) (bs:List Int) (s m:Nat) (w:World) (hT:Tab w0) (hpn:∀s:ByteArray,s.size≤bs.length→PN s) (hb:Below w0.heap.size w0 w) (hr:RSt w0 w p bs s m) :
  Calls Tryz.prog 48 #[.pointer (some ⟨p,0,none⟩)] w (RPost w0 w p m bs strV (textS nb bs s)):=by
 obtain⟨A,c,hv,hc,hC0⟩:=hr.row
 have hl:=hr.len
 obtain⟨c0,c1,c2,f0,f1,f2⟩:=cells3 hv
 have hcn:=source_number w0 p bs s m w hb hr
 have HN0:=ak HN
 have HP0:=ak hpn
 have HT0:=ak hT
 clear hr hb hC0 hv hc HN hpn hT
 rcases hq:numS bs s with x | ⟨n,s2⟩
 ·rw [hq] at hcn
  have HQ:=ak hq
  clear hq
  go_enter Tryz.func48,Tryz.ntmps48
  go_wp2_with (go_at_call 31;refine hcn.mono ?_;rintro e w1 ⟨hb1,hk1,rfl⟩)
  rename_i hq9
  cases hq9
  simp only [bodyPost]
  exact⟨trivial,RPost.err (by rw [textS,HQ.out]) hb1 hk1⟩
 ·rw [hq] at hcn
  have HQ:=ak hq
  clear hq
  have hcn2:Calls Tryz.prog 31 #[.pointer (some ⟨p,0,none⟩)] w fun e w'=>Below w0.heap.size w0 w'∧Kept w w' (fun k=>k=p)∧RSt w0 w' p bs s2 m∧e=.returned (.int .i64 (n:Int)):=hcn.mono fun e w' ⟨h1,h2,h3,v,h4,h5⟩=>⟨h1,h2,h3,by rw [h4,h5]⟩
  clear hcn
  go_enter Tryz.func48,Tryz.ntmps48
  go_upto_region 3 with(go_at_call 31;refine hcn2.mono ?_;rintro e w1 ⟨hb1,hk1,hr1,rfl⟩)
  clear hcn2 c0 c1 c2 f0 f1 f2
  obtain⟨A1,k1,hv1,hc1,hC1⟩:=hr1.at_ hb1
  obtain⟨c0,c1,c2,f0,f1,f2⟩:=cells3 hv1
  have hle:=hr1.le
  have HB1:=ak hb1
  have HK1:=ak hk1
  have HR1:=ak hr1
  have HC1:=ak hC1
  have HV1:=ak hv1
  clear hb1 hk1 hr1 hC1 hv1
  have hw1:=wI64 (a:=(bs.length:Int)-(s2:Int)) (by omega) (by omega)
  have hw2:=w64r (a:=(bs.length:Int)-(s2:Int)) (by omega) (by omega)
  by_cases h1:bs.length-s2<n
  ·have h1':decide ((bs.length:Int)-(s2:Int)<(n:Int))=true:=decide_eq_true (by omega)
   have HE:Aside0 (textS nb bs s=.error ((s:Int),61)):=⟨by rw [textS,HQ.out];exact if_pos h1⟩
   clear h1
   go_quiet (fail)
   go_wp2_with ((with_reducible refine(source_fail _ _ _ _).mono ?_);rintro e w2 ⟨rfl,rfl⟩)
   rename_i hq9
   cases hq9
   simp only [bodyPost]
   exact⟨trivial,RPost.no HE.out (pw_below_drewN HB1.out _) (HK1.out.drewN _)⟩
  ·have h1':decide ((bs.length:Int)-(s2:Int)<(n:Int))=false:=decide_eq_false (by omega)
   obtain⟨sv,hsv⟩:∃sv,sv=strOfNums ((bs.take (s2+n)).drop s2):=⟨_,rfl⟩
   have hsz:sv.size≤bs.length:=by
    rw [hsv]
    simp only [strOfNums,ByteArray.size,List.size_toArray,List.length_map,List.length_drop,List.length_take]
    omega
   have hTX:Aside0 (textS nb bs s=if nb sv=true then .ok (sv,s2+n) else .error ((s:Int),61)):=⟨by rw [textS,HQ.out];show(if bs.length-s2<n then _ else _)=_;rw [if_neg h1,←hsv]⟩
   go_quiet (fail)
   go_wp2
   have hR1:=HR1.out.below (w1:=w1.drewN nq) (pw_below_drewN (Below.refl _ _) _)
   have hB1:=pw_below_drewN HB1.out nq
   have hK1:=HK1.out.drewN nq
   clear hw1 hw2 h1' c0 c1 c2 f0 f1 f2 HR1 HB1 HK1 HC1 HV1 hc1
   revert hR1 hB1 hK1
   generalize w1.drewN nq=W1
   intro hR1 hB1 hK1
   obtain⟨A1,k1,hv1,hc1,hC1⟩:=hR1.at_ hB1
   obtain⟨c0,c1,c2,f0,f1,f2⟩:=cells3 hv1
   have HR1:=ak hR1
   have HB1:=ak hB1
   have HK1:=ak hK1
   have HC1:=ak hC1
   obtain⟨i5,hi5,hz5⟩:=Option.map_eq_some_iff.1 uint8_info
   simp only [Prod.mk.injEq] at hz5
   have hcut:=cut_mid (P:=Tryz.prog) 23 5 .i64 .i64 Tryz.underlying23 hi5 1 hz5.2.1 A1 bs.length k1 (s2:Int) ((s2:Int)+(n:Int)) (by omega) (by omega) (by omega) hc1
   rw [show((s2:Int)+(n:Int)).toNat=s2+n by omega,show((s2:Int)).toNat=s2 by omega,show s2+n-s2=n by omega,Nat.mul_one] at hcut
   obtain⟨A9,hA9⟩:∃A9,A9=(if k1=s2 then A1 else A1.map (fun x=>x.add s2)):=⟨_,rfl⟩
   rw [←hA9] at hcut
   have hml:((bs.take (s2+n)).drop s2).length=n:=by rw [List.length_drop,List.length_take];omega
   have hst2:∀j,(convert 23 9 (.slice A9 n (k1-s2))).run Tryz.prog (W1.drewN j)=.ok (.string sv) (W1.drewN j):=fun j=>by
    have hmid:=Kd.C_mid (Kd.C_below HC1.out (pw_below_drewN (Below.refl _ _) j)) (lo:=s2) (hi:=s2+n) (by omega) (by omega) hc1
    rw [hml,show(Kd.int IntKind.u8).sz=1 from rfl,Nat.mul_one,←hA9] at hmid
    have hst:=Kd.C_string Tryz.underlying23 Tryz.underlying5 Tryz.underlying9 (c:=k1-s2) hmid
    rw [←hsv] at hst
    exact hst
   have hw3:=wI64 (a:=(s2:Int)+(n:Int)) (by omega) (by omega)
   have hw4:=w64r (a:=(s2:Int)+(n:Int)) (by omega) (by omega)
   clear hml hsv hi5 hz5 hA9 hR1 hB1 hK1 hC1 hv1
   go_quiet (fail)
   have hR2:=HR1.out.below (w1:=W1.drewN nq) (pw_below_drewN (Below.refl _ _) _)
   have hB2:=pw_below_drewN HB1.out nq
   have hK2:=HK1.out.drewN nq
   clear hw3 hw4 hcut hst2 c0 c1 c2 f0 f1 f2 HR1 HB1 HK1 HC1 hc1
   revert hR2 hB2 hK2
   generalize W1.drewN nq=W2
   intro hR2 hB2 hK2
   have hcnm:=HN0.out sv W2 (Tab.below HT0.out hB2) (HP0.out sv hsz)
   have HR2:=ak hR2
   have HB2:=ak hB2
   have HK2:=ak hK2
   clear hR2 hB2 hK2
   by_cases h2:nb sv=true
   ·rw [h2] at hcnm
    have HE:Aside0 (textS nb bs s=.ok (sv,s2+n)):=⟨by rw [hTX.out,if_pos h2]⟩
    clear h2 hTX
    go_upto_region 8 with(go_at_call 38;refine hcnm.mono ?_;rintro e w3 ⟨rfl,hb3⟩;have hR3:=HR2.out.below hb3;have hB3:=below_step HB2.out hb3;have hK3:=HK2.out.below hb3;obtain⟨A3,k3,hv3,hc3,hC3⟩:=hR3.at_ hB3;obtain⟨c0,c1,c2,f0,f1,f2⟩:=cells3 hv3;have HR3:=ak hR3;have HB3:=ak hB3;have HK3:=ak hK3;clear hb3 hR3 hB3 hK3 hv3 hC3 hcnm)
    have hw3:=wI64 (a:=(s2:Int)+(n:Int)) (by omega) (by omega)
    have hw4:=w64r (a:=(s2:Int)+(n:Int)) (by omega) (by omega)
    go_wp2
    go_ret
    exact RPost.yes HE.out (HB3.out.setCell (p:=⟨p,1,none⟩) HR3.out.old _) (HK3.out.setCell (p:=⟨p,1,none⟩) (.inl rfl) _) (HR3.out.move (s2+n) (by omega)) rfl
   ·have h2':nb sv=false:=by simpa using h2
    rw [h2'] at hcnm
    have HE:Aside0 (textS nb bs s=.error ((s:Int),61)):=⟨by rw [hTX.out,if_neg h2]⟩
    clear h2 hTX h2'
    go_wp2_with (first | (go_at_call 38;refine hcnm.mono ?_;rintro e w3 ⟨rfl,hb3⟩;have HB3:=ak (below_step HB2.out hb3);have HK3:=ak (HK2.out.below hb3);clear hb3 hcnm) | ((with_reducible refine(source_fail _ _ _ _).mono ?_);rintro e w2 ⟨rfl,rfl⟩))
    rename_i hq9
    cases hq9
    simp only [bodyPost]
    exact⟨trivial,RPost.no HE.out HB3.out HK3.out⟩
theorem DSt.at_{w0 w:World}{p s:Nat}{bs:List Int}{e a:Int}(h:DSt w0 w p bs s e a)(hb:Below w0.heap.size w0 w):∃A c,w.heap[p]? = some (.cells #[.slice A bs.length c,.int .i64 (s:Int),.int .i64 e,.int .i64 a] 84 (0,0))∧bs.length≤c∧Kd.C (Kd.int .u8) w A bs.length bs:=by
 obtain⟨A,c,hv,hc,hr⟩:=h.row
 exact⟨A,c,hv,hc,Kd.C_below hr hb⟩
theorem DK.below{w0 w w1 w2:World}{p:Nat}(h:DK w0 w w1 p)(hb:Below w1.heap.size w1 w2):DK w0 w w2 p:=⟨below_step h.1 hb,h.2.below hb⟩
set_option maxHeartbeats 1000000 in
theorem R_name{PN:ByteArray→Prop}{nb:ByteArray→Bool}(HN:∀(s:ByteArray) (w:World),Tab w→PN s→Calls Tryz.prog 23 #[.string s] w fun e w'=>e=.returned (.bool (nb s))∧Below w.heap.size w w')
  (w0:World) (p:Nat) (bs:List Int) (s:Nat) (a:Int) (w:World) (hT:Tab w0) (hpn:∀s:ByteArray,s.size≤bs.length→PN s) (hb:Below w0.heap.size w0 w) (hr:DSt w0 w p bs s 0 a) :
  Calls Tryz.prog 34 #[.pointer (some ⟨p,0,none⟩)] w (DPost w0 w p bs a strV (textS nb bs s)):=by
 obtain⟨A,c,hv,hc,hC0⟩:=hr.row
 have hl:=hr.len
 obtain⟨c0,c1,c2,c3,f0,f1,f2,f3⟩:=cells4 hv
 have hcn:=R_number w0 p bs s a w hb hr
 have HN0:=ak HN
 have HP0:=ak hpn
 have HT0:=ak hT
 clear hr hb hC0 hv hc HN hpn hT
 rcases hq:numS bs s with⟨x,y⟩ | ⟨n,s2⟩
 ·rw [hq] at hcn
  have hcn2:Calls Tryz.prog 33 #[.pointer (some ⟨p,0,none⟩)] w fun e w'=>∃(z s3:Nat),DK w0 w w' p∧DSt w0 w' p bs s3 y x∧y≠0∧e=.returned (.int .i64 (z:Int)):=hcn.mono fun e w' ⟨h1,v,h2,⟨z,h3⟩,h4,s3,h5⟩=>⟨z,s3,h1,h5,h4,by rw [h2,h3]⟩
  have HE:Aside0 (textS nb bs s=.error (x,y)):=⟨by rw [textS,hq]⟩
  clear hq hcn
  go_enter Tryz.func34,Tryz.ntmps34
  go_wp2_with (go_at_call 33;refine hcn2.mono ?_;rintro e w1 ⟨z,s3,hk1,hr1,hy,rfl⟩;obtain⟨A3,k3,hv3,hc3,hC3⟩:=hr1.row;clear c0 c1 c2 c3 f0 f1 f2 f3;obtain⟨c0,c1,c2,c3,f0,f1,f2,f3⟩:=cells4 hv3;have HR1:=ak hr1;have HK1:=ak hk1;have HY:=ak hy;have hyb:(y != 0)=true:=(bne_iff_ne (a:=y) (b:=0)).2 hy;clear hr1 hk1 hy hv3 hC3 hcn2)
  go_ret
  exact DPost.no HE.out HK1.out HR1.out HY.out _ rfl
 ·rw [hq] at hcn
  have HQ:=ak hq
  clear hq
  have hcn2:Calls Tryz.prog 33 #[.pointer (some ⟨p,0,none⟩)] w fun e w'=>DK w0 w w' p∧DSt w0 w' p bs s2 0 a∧e=.returned (.int .i64 (n:Int)):=hcn.mono fun e w' ⟨h1,v,h2,h3,h4⟩=>⟨h1,h4,by rw [h2,h3]⟩
  clear hcn
  go_enter Tryz.func34,Tryz.ntmps34
  go_upto_region 5 with(go_at_call 33;refine hcn2.mono ?_;rintro e w1 ⟨hk1,hr1,rfl⟩;obtain⟨A1,k1,hv1,hc1,hC1⟩:=hr1.at_ hk1.1;clear c0 c1 c2 c3 f0 f1 f2 f3;obtain⟨c0,c1,c2,c3,f0,f1,f2,f3⟩:=cells4 hv1;have HK1:=ak hk1;have HR1:=ak hr1;have HC1:=ak hC1;have HV1:=ak hv1;clear hk1 hr1 hC1 hv1 hcn2)
  have hle:=HR1.out.le
  have hw1:=wI64 (a:=(bs.length:Int)-(s2:Int)) (by omega) (by omega)
  have hw2:=w64r (a:=(bs.length:Int)-(s2:Int)) (by omega) (by omega)
  by_cases h1:bs.length-s2<n
  ·have h1':decide ((bs.length:Int)-(s2:Int)<(n:Int))=true:=decide_eq_true (by omega)
   have HE:Aside0 (textS nb bs s=.error ((s:Int),61)):=⟨by rw [textS,HQ.out];exact if_pos h1⟩
   clear h1
   go_quiet (fail)
   have HR2:=ak (HR1.out.drewN nq)
   have HK2:=ak (HK1.out.drewN nq)
   go_wp2_with (go_at_call 35;refine(R_bad0 w0 p bs s2 _ _ _ _ HK2.out.1 HR2.out).mono ?_;rintro e w3 ⟨rfl,hr3,hk3⟩;have HR3:=ak hr3;have HK3:=ak (HK2.out.trans hk3);clear hr3 hk3)
   go_ret
   exact DPost.no HE.out HK3.out HR3.out (by decide) _ rfl
  ·have h1':decide ((bs.length:Int)-(s2:Int)<(n:Int))=false:=decide_eq_false (by omega)
   obtain⟨sv,hsv⟩:∃sv,sv=strOfNums ((bs.take (s2+n)).drop s2):=⟨_,rfl⟩
   have hsz:sv.size≤bs.length:=by
    rw [hsv]
    simp only [strOfNums,ByteArray.size,List.size_toArray,List.length_map,List.length_drop,List.length_take]
    omega
   have hTX:Aside0 (textS nb bs s=if nb sv=true then .ok (sv,s2+n) else .error ((s:Int),61)):=⟨by rw [textS,HQ.out];show(if bs.length-s2<n then _ else _)=_;rw [if_neg h1,←hsv]⟩
   go_quiet (fail)
   go_wp2
   have hR1:=HR1.out.drewN nq
   have hK1:=HK1.out.drewN nq
   clear hw1 hw2 h1' c0 c1 c2 c3 f0 f1 f2 f3 HR1 HK1 HC1 HV1 hc1
   revert hR1 hK1
   generalize w1.drewN nq=W1
   intro hR1 hK1
   obtain⟨A1,k1,hv1,hc1,hC1⟩:=hR1.at_ hK1.1
   obtain⟨c0,c1,c2,c3,f0,f1,f2,f3⟩:=cells4 hv1
   have HR1:=ak hR1
   have HK1:=ak hK1
   have HC1:=ak hC1
   obtain⟨i5,hi5,hz5⟩:=Option.map_eq_some_iff.1 uint8_info
   simp only [Prod.mk.injEq] at hz5
   have hcut:=cut_mid (P:=Tryz.prog) 23 5 .i64 .i64 Tryz.underlying23 hi5 1 hz5.2.1 A1 bs.length k1 (s2:Int) ((s2:Int)+(n:Int)) (by omega) (by omega) (by omega) hc1
   rw [show((s2:Int)+(n:Int)).toNat=s2+n by omega,show((s2:Int)).toNat=s2 by omega,show s2+n-s2=n by omega,Nat.mul_one] at hcut
   obtain⟨A9,hA9⟩:∃A9,A9=(if k1=s2 then A1 else A1.map (fun x=>x.add s2)):=⟨_,rfl⟩
   rw [←hA9] at hcut
   have hml:((bs.take (s2+n)).drop s2).length=n:=by rw [List.length_drop,List.length_take];omega
   have hst2:∀j,(convert 23 9 (.slice A9 n (k1-s2))).run Tryz.prog (W1.drewN j)=.ok (.string sv) (W1.drewN j):=fun j=>by
    have hmid:=Kd.C_mid (Kd.C_below HC1.out (pw_below_drewN (Below.refl _ _) j)) (lo:=s2) (hi:=s2+n) (by omega) (by omega) hc1
    rw [hml,show(Kd.int IntKind.u8).sz=1 from rfl,Nat.mul_one,←hA9] at hmid
    have hst:=Kd.C_string Tryz.underlying23 Tryz.underlying5 Tryz.underlying9 (c:=k1-s2) hmid
    rw [←hsv] at hst
    exact hst
   have hw3:=wI64 (a:=(s2:Int)+(n:Int)) (by omega) (by omega)
   have hw4:=w64r (a:=(s2:Int)+(n:Int)) (by omega) (by omega)
   clear hml hsv hi5 hz5 hA9 hR1 hK1 hC1 hv1
   go_quiet (fail)
   have hR2:=HR1.out.drewN nq
   have hK2:=HK1.out.drewN nq
   clear hw3 hw4 hcut hst2 c0 c1 c2 c3 f0 f1 f2 f3 HR1 HK1 HC1 hc1
   revert hR2 hK2
   generalize W1.drewN nq=W2
   intro hR2 hK2
   have hcnm:=HN0.out sv W2 (Tab.below HT0.out hK2.1) (HP0.out sv hsz)
   have HR2:=ak hR2
   have HK2:=ak hK2
   clear hR2 hK2
   have hw3:=wI64 (a:=(s2:Int)+(n:Int)) (by omega) (by omega)
   have hw4:=w64r (a:=(s2:Int)+(n:Int)) (by omega) (by omega)
   have h2n:s2+n≤bs.length:=by clear hw3 hw4;omega
   by_cases h2:nb sv=true
   ·rw [h2] at hcnm
    have HE:Aside0 (textS nb bs s=.ok (sv,s2+n)):=⟨by rw [hTX.out,if_pos h2]⟩
    clear h2 hTX
    go_wp2_with (go_at_call 23;refine hcnm.mono ?_;rintro e w3 ⟨rfl,hb3⟩;have hR3:=HR2.out.below hb3;have hK3:=HK2.out.below hb3;obtain⟨A3,k3,hv3,hc3,hC3⟩:=hR3.at_ hK3.1;obtain⟨c0,c1,c2,c3,f0,f1,f2,f3⟩:=cells4 hv3;have HR3:=ak hR3;have HK3:=ak hK3;clear hb3 hR3 hK3 hv3 hC3 hcnm)
    go_ret
    exact DPost.yes HE.out ⟨HK3.out.1.setCell (p:=⟨p,1,none⟩) HR3.out.old _,HK3.out.2.setCell (p:=⟨p,1,none⟩) (.inl rfl) _⟩ (HR3.out.move (s2+n) h2n) rfl
   ·have h2':nb sv=false:=by simpa using h2
    rw [h2'] at hcnm
    have HE:Aside0 (textS nb bs s=.error ((s:Int),61)):=⟨by rw [hTX.out,if_neg h2]⟩
    clear h2 hTX h2'
    go_wp2_with (first | (go_at_call 23;refine hcnm.mono ?_;rintro e w3 ⟨rfl,hb3⟩;have HR3:=ak (HR2.out.below hb3);have HK3:=ak (HK2.out.below hb3);clear hb3 hcnm) | (go_at_call 35;refine(R_bad0 w0 p bs s2 _ _ _ _ HK3.out.1 HR3.out).mono ?_;rintro e w4 ⟨rfl,hr4,hk4⟩;have hK4:=HK3.out.trans hk4;obtain⟨A4,k4,hv4,hc4,hC4⟩:=hr4.at_ hK4.1;obtain⟨c0,c1,c2,c3,f0,f1,f2,f3⟩:=cells4 hv4;have HR4:=ak hr4;have HK4:=ak hK4;clear hr4 hk4 hK4 hv4 hC4))
    go_ret
    exact DPost.no HE.out ⟨HK4.out.1.setCell (p:=⟨p,1,none⟩) HR4.out.old _,HK4.out.2.setCell (p:=⟨p,1,none⟩) (.inl rfl) _⟩ (HR4.out.move (s2+n) h2n) (by decide) _ rfl
theorem R_numberE(w0:World)(p:Nat)(bs:List Int)(s:Nat)(e a:Int)(w:World)(he:e≠0)(hb:Below w0.heap.size w0 w)(hr:DSt w0 w p bs s e a) :
  Calls Tryz.prog 33 #[.pointer (some ⟨p,0,none⟩)] w fun x w'=>x=.returned (.int .i64 0)∧DSt w0 w' p bs s e a∧DK w0 w w' p:=by
 obtain⟨A,c,hv,hc,hC0⟩:=hr.row
 obtain⟨c0,c1,c2,c3,f0,f1,f2,f3⟩:=cells4 hv
 have HR:=ak hr
 have HB:=ak hb
 have he0:(e==0)=false:=beq_eq_false_iff_ne.2 he
 have HE:=ak he
 clear hr hb hC0 hv he he0
 go_enter Tryz.func33,Tryz.ntmps33
 go_wp2
 clear c0 c1 c2 c3 f0 f1 f2 f3
 go_loopg [4,5,6] 1 (fun kq v4 v5 v6 w'=>Aside0 (DSt w0 w' p bs s e a)∧Aside0 (DK w0 w w' p))
 case atStart=>exact⟨HR,⟨HB.out,Kept.refl _ _⟩⟩
 case round =>
  clear HB HR
  obtain⟨HR,HK⟩:=hrel
  obtain⟨A,c,hv,hc,hC0⟩:=HR.out.row
  obtain⟨c0,c1,c2,c3,f0,f1,f2,f3⟩:=cells4 hv
  clear hv hC0
  have he0:(e==0)=false:=beq_eq_false_iff_ne.2 HE.out
  go_wp2
  go_ret
  exact⟨rfl,HR.out,HK.out⟩
theorem cl_info:(Tryz.prog.info? 113).map (fun i=>(i.zero,i.size,i.bytes))=some (some (.agg #[.int .u32 0,.int .u32 0]),2,8):=by kernel_rfl
theorem RPost.ok_{α:Type}{w0 w:World}{p m:Nat}{bs:List Int}{mk:α→World→Value→Prop}{r:Except (Int×Int) (α×Nat)}{x:α}{s:Nat}{f:FuncId}{args:Array Value}(hr:r=.ok (x,s))(h:Calls Tryz.prog f args w (RPost w0 w p m bs mk r)) :
  Calls Tryz.prog f args w fun e w'=>Below w0.heap.size w0 w'∧Kept w w' (fun k=>k=p)∧RSt w0 w' p bs s m∧∃v,e=.returned v∧mk x w' v:=by
 subst hr
 exact h
theorem RPost.er_{α:Type}{w0 w:World}{p m:Nat}{bs:List Int}{mk:α→World→Value→Prop}{r:Except (Int×Int) (α×Nat)}{x:Int×Int}{f:FuncId}{args:Array Value}(hr:r=.error x)(h:Calls Tryz.prog f args w (RPost w0 w p m bs mk r)) :
  Calls Tryz.prog f args w fun e w'=>e=refuse x.1 x.2∧Below w0.heap.size w0 w'∧Kept w w' (fun k=>k=p):=by
 subst hr
 exact h.mono fun e w' ⟨h1,h2,h3⟩=>⟨h3,h1,h2⟩
theorem number_ok{w0:World}{p:Nat}{bs:List Int}{s m n s2:Nat}{w:World}(hq:numS bs s=.ok (n,s2))(hb:Below w0.heap.size w0 w)(hr:RSt w0 w p bs s m) :
  Calls Tryz.prog 31 #[.pointer (some ⟨p,0,none⟩)] w fun e w'=>e=.returned (.int .i64 (n:Int))∧Below w0.heap.size w0 w'∧Kept w w' (fun k=>k=p)∧RSt w0 w' p bs s2 m :=
 (RPost.ok_ hq (source_number w0 p bs s m w hb hr)).mono fun e w' ⟨h1,h2,h3,v,h4,h5⟩=>⟨by rw [h4,h5],h1,h2,h3⟩
theorem number_er{w0:World}{p:Nat}{bs:List Int}{s m:Nat}{x:Int×Int}{w:World}(hq:numS bs s=.error x)(hb:Below w0.heap.size w0 w)(hr:RSt w0 w p bs s m) :
  Calls Tryz.prog 31 #[.pointer (some ⟨p,0,none⟩)] w fun e w'=>e=refuse x.1 x.2∧Below w0.heap.size w0 w'∧Kept w w' (fun k=>k=p) :=
 RPost.er_ hq (source_number w0 p bs s m w hb hr)
theorem numG_le{bs:List Int}{a:Nat}:∀(k n i s:Nat) {r s2:Nat},numG bs a k n i s=.ok (r,s2)→r≤2147483647
 | 0,_,_,_,_,_,h=>by cases h
 | k+1,n,i,s,r,s2,h=>by
  rw [numG] at h
  split at h
  ·split at h
   ·cases h
   ·split at h
    ·cases h
     omega
    ·exact numG_le k _ _ _ h
  ·cases h
theorem numS_le{bs:List Int}{s r s2:Nat}(h:numS bs s=.ok (r,s2)):r≤2147483647:=numG_le _ _ _ _ h
def clsG(bs:List Int):Nat→List Cl→Nat→Except (Int×Int) (List Cl×Nat)
 | 0,acc,s=>.ok (acc,s)
 | n+1,acc,s=>match numS bs s with
  | .error e=>.error e
  | .ok (a,s1)=>match numS bs s1 with
   | .error e=>.error e
   | .ok (b,s2)=>clsG bs n (acc++[⟨(a:Int),(b:Int)⟩]) s2
def finR(right:List Cl→Bool)(s:Nat):Except (Int×Int) (List Cl×Nat)→Except (Int×Int) (List Cl×Nat)
 | .error e=>.error e
 | .ok (f,s2)=>if right f=true then .ok (f,s2) else .error ((s:Int),61)
def rowS(right:List Cl→Bool)(bs:List Int)(s:Nat):Except (Int×Int) (List Cl×Nat) :=
 match numS bs s with
 | .error e=>.error e
 | .ok (n,s1)=>if 64<n then .error ((s:Int),61) else finR right s (clsG bs n [] s1)
def rowV(base:Nat)(f:List Cl)(w:World)(v:Value):Prop:=Kd.R k113 113 w base (fun _=>True) v f
theorem u32w{a:Int}(h0:0≤a)(h1:a≤2147483647):IntKind.u32.wrap a=a:=by
 simp [IntKind.wrap,IntKind.bits,IntKind.signed]
 omega
theorem R_stay{α:Type}{d:Kd α}{e base:Nat}{w w1:World}{v:Value}{xs:List α}{S:Nat→Prop}(h:d.R e w base (fun _=>True) v xs)(hk:Kept w w1 S)(hS:∀k,S k→k<base):d.R e w1 base (fun _=>True) v xs :=
 Kd.R_mono (ok:=fun k=>True∧base≤k∧k<w.heap.size∧∃q,q∈e :: d.E∧∃cells,w.heap[k]? = some (.cells cells q (0,0))) (Kd.R_kept (Kd.R_bound h) hk (fun k hk1 hk2=>by have:=hS k hk2;omega)) (fun _ _=>trivial)
theorem M_stay{α:Type}{d:Kd α}{base:Nat}{w w1:World}{x:α}{cs:List Value}{S:Nat→Prop}(h:d.M w base (fun _=>True) x cs)(hk:Kept w w1 S)(hS:∀k,S k→k<base):d.M w1 base (fun _=>True) x cs :=
 d.M_mono (ok:=fun k=>True∧base≤k∧k<w.heap.size∧∃q,q∈d.E∧∃cells,w.heap[k]? = some (.cells cells q (0,0))) (fun _ _=>trivial) (Kd.M_kept (d.M_bound h) hk (fun k hk1 hk2=>by have:=hS k hk2;omega))
theorem two_set1{w:World}{b t:Nat}{u0 u1:Value}(h:w.heap[b]? = some (.cells #[u0,u1] t (0,0)))(u:Value):(w.setCell ⟨b,1,none⟩ u).heap[b]? = some (.cells #[u0,u] t (0,0)):=by
 have hlt:=lt_of_block h
 have h':w.heap[b]=.cells #[u0,u1] t (0,0):=by simpa [Array.getElem?_eq_getElem hlt] using h
 show(w.heap.modify b _)[b]? = _
 rw [Array.getElem?_eq_getElem (by simpa using hlt),Array.getElem_modify_self,h']
 rfl
theorem cells2{w:World}{b t:Nat}{u0 u1:Value}(h:w.heap[b]? = some (.cells #[u0,u1] t (0,0))):w.cell? ⟨b,0,none⟩=some u0∧w.cell? ⟨b,1,none⟩=some u1∧w.frozen? ⟨b,0,none⟩=false∧w.frozen? ⟨b,1,none⟩=false:=by
 simp [World.cell?,World.frozen?,h]
theorem app_keep{W w1:World}{base:Nat}{v:Value}(hg:W.grownBy w1 v.ownBlock)(hbase:∀k,v.ownBlock=some k→base≤k):Kept W w1 (fun k=>base≤k) :=
 ⟨hg.size,fun i hi hn=>hg.block i hi (fun he=>hn (hbase i he.symm))⟩
theorem below_up{w0 W w1:World}{base:Nat}(h:Below w0.heap.size w0 W)(hb:Below base W w1)(hle:w0.heap.size≤base):Below w0.heap.size w0 w1:=h.trans (hb.mono hle)
set_option maxHeartbeats 4000000 in
theorem reader_row(F:FuncId)(right:List Cl→Bool)(PF:List Cl→Prop)(HF:∀(A:Option Addr) (c:Nat) (l:List Cl) (w:World),Kd.C k113 w A l.length l→l.length≤c→PF l→Calls Tryz.prog F #[.slice A l.length c] w fun e w'=>e=.returned (.bool (right l))∧Below w.heap.size w w')
  (eg:∀args w,(callFunc F args).run Tryz.prog w=.ok (.enter F args) w) (w0:World) (p:Nat) (bs:List Int) (s m:Nat) (w:World) (hpf:∀(f:List Cl),f.length≤64→(∀x∈f,0≤x.f0∧x.f0≤2147483647∧0≤x.f1∧x.f1≤2147483647)→PF f) (hb:Below w0.heap.size w0 w) (hr:RSt w0 w p bs s m) :
  Calls Tryz.prog 86 #[.pointer (some ⟨p,0,none⟩),.func (.func F) #[] #[]] w (RPost w0 w p m bs (rowV w.heap.size) (rowS right bs s)):=by
 obtain⟨A,c,hv,hc,hC0⟩:=hr.row
 obtain⟨c0,c1,c2,f0,f1,f2⟩:=cells3 hv
 have hpw:Aside0 (p<w.heap.size):=⟨hr.lt⟩
 have hw0p:Aside0 (w0.heap.size≤w.heap.size):=⟨hb.size⟩
 rcases hq:numS bs s with x | ⟨n,s1⟩
 ·have hcn:=number_er hq hb hr
  have HE:Aside0 (rowS right bs s=.error x):=⟨by rw [rowS,hq]⟩
  clear hr hb hv hc hC0 hq HF hpf
  go_enter Tryz.func86,Tryz.ntmps86
  go_wp2_with (go_at_call 31;refine hcn.mono ?_;rintro e w1 ⟨rfl,hb1,hk1⟩)
  rename_i hq9
  cases hq9
  simp only [bodyPost]
  exact⟨trivial,RPost.err HE.out hb1 hk1⟩
 ·have hcn:=number_ok hq hb hr
  have hn:=numS_le hq
  by_cases h64:64<n
  ·have HE:Aside0 (rowS right bs s=.error ((s:Int),61)):=⟨by rw [rowS,hq];exact if_pos h64⟩
   have h64':(64:Int)<(n:Int):=by omega
   clear hr hb hv hc hC0 hq HF hpf h64
   go_enter Tryz.func86,Tryz.ntmps86
   go_wp2_with (first | (go_at_call 31;refine hcn.mono ?_;rintro e w1 ⟨rfl,hb1,hk1,hr1⟩;have HB1:=ak hb1;have HK1:=ak hk1;clear hb1 hk1 hr1 hcn) | ((with_reducible refine(source_fail _ _ _ _).mono ?_);rintro e w2 ⟨rfl,rfl⟩))
   rename_i hq9
   cases hq9
   simp only [bodyPost]
   exact⟨trivial,RPost.no HE.out HB1.out HK1.out⟩
  ·have HE:Aside0 (rowS right bs s=finR right s (clsG bs n [] s1)):=⟨by rw [rowS,hq];exact if_neg h64⟩
   have h64':¬(64:Int)<(n:Int):=by omega
   have HFF:=ak HF
   have HPF:=ak hpf
   clear hr hb hv hc hC0 hq HF hpf
   go_enter Tryz.func86,Tryz.ntmps86
   go_wp2_with (go_at_call 31;refine hcn.mono ?_;rintro e w1 ⟨rfl,hb1,hk1,hr1⟩;have HB1:=ak hb1;have HK1:=ak hk1;have HR1:=ak hr1;clear hb1 hk1 hr1 hcn)
   clear c0 c1 c2 f0 f1 f2
   have HS1:Aside0 (w.heap.size≤w1.heap.size):=⟨HK1.out.1⟩
   go_loopg [7,26] (n+1) (fun kq v7 v26 wx=>∃(i:Nat) (acc:List Cl) (s2:Nat),v26=.int .i64 (i:Int)∧i≤n∧kq+i=n+1∧acc.length=i∧Aside0 (clsG bs (n-i) acc s2=clsG bs n [] s1)∧Aside0 (∀x∈acc,0≤x.f0∧x.f0≤2147483647∧0≤x.f1∧x.f1≤2147483647)∧Aside0 (RSt w0 wx p bs s2 m)∧Aside0 (Below w0.heap.size w0 wx)∧Aside0 (Kept w wx (fun k=>k=p))∧Aside0 (Kd.R k113 113 wx w.heap.size (fun _=>True) v7 acc))
   case atStart=>exact⟨0,[],s1,rfl,Nat.zero_le _,rfl,rfl,⟨rfl⟩,⟨fun x hx=>absurd hx (by simp)⟩,HR1,HB1,HK1,⟨Kd.R_nil _ _ _ _ _⟩⟩
   case round =>
    clear HR1 HB1 HK1
    obtain⟨i,acc,s2,rfl,hi,hk,hal,HG,HU,HR,HB,HK,HO⟩:=hrel
    by_cases hlt:i<n
    ·obtain⟨d,hd⟩:∃d,n-i=d+1:=⟨n-i-1,by omega⟩
     have hd2:d=n-(i+1):=by omega
     have hG:=HG.out
     rw [hd,clsG] at hG
     have hlt':decide ((i:Int)<(n:Int))=true:=decide_eq_true (by omega)
     have hpr:Aside0 (p<wr.heap.size):=⟨HR.out.lt⟩
     rcases h1:numS bs s2 with x | ⟨a,s3⟩
     ·have hcA:=number_er h1 HB.out HR.out
      rw [h1] at hG
      have HE2:Aside0 (rowS right bs s=.error x):=⟨by rw [HE.out,←hG];rfl⟩
      clear hG h1 hd hd2
      go_wp2_with (go_at_call 31;refine hcA.mono ?_;rintro e wa ⟨rfl,hba,hka⟩)
      rename_i hq9
      cases hq9
      simp only [bodyPost]
      exact⟨trivial,RPost.err HE2.out hba (HK.out.then_ hka (fun _ h=>.inl h))⟩
     ·have hcA:=number_ok h1 HB.out HR.out
      have ha:=numS_le h1
      have hau:=u32w (a:=(a:Int)) (by omega) (by omega)
      rw [h1] at hG
      rcases h2:numS bs s3 with x | ⟨b,s4⟩
      ·have hG2:(Except.error x:Except (Int×Int) (List Cl×Nat))=clsG bs n [] s1:=by simpa [h2] using hG
       have HE2:Aside0 (rowS right bs s=.error x):=⟨by rw [HE.out,←hG2];rfl⟩
       have H2:=ak h2
       clear hG hG2 h1 h2 hd hd2
       go_wp2_with (first | (go_at_call 31;refine hcA.mono ?_;rintro e wa ⟨rfl,hba,hka,hra⟩;have hcB:=number_er H2.out (below_alloc hba (.cells #[.int .u32 (a:Int),.int .u32 0] 113)) (hra.below (below_alloc (Below.refl _ _) (.cells #[.int .u32 (a:Int),.int .u32 0] 113)));have HKA:=ak ((HK.out.then_ hka (fun _ h=>.inl h)).alloc (.cells #[.int .u32 (a:Int),.int .u32 0] 113));clear hba hka hra hcA) | (go_at_call 31;refine hcB.mono ?_;rintro e wb ⟨rfl,hbb,hkb⟩))
       rename_i hq9
       cases hq9
       simp only [bodyPost]
       exact⟨trivial,RPost.err HE2.out hbb (HKA.out.then_ hkb (fun _ h=>.inl h))⟩
      ·have hG2:clsG bs (n-(i+1)) (acc++[⟨(a:Int),(b:Int)⟩]) s4=clsG bs n [] s1:=by rw [←hd2];simpa [h2] using hG
       have HG2:=ak hG2
       have hb0:=numS_le h2
       have hbu:=u32w (a:=(b:Int)) (by omega) (by omega)
       have H2:=ak h2
       have HU2:Aside0 (∀x∈acc++[(⟨(a:Int),(b:Int)⟩:Cl)],0≤x.f0∧x.f0≤2147483647∧0≤x.f1∧x.f1≤2147483647):=⟨fun x hx=>by
        rcases List.mem_append.1 hx with hx | hx
        ·exact HU.out x hx
        ·rw [List.mem_singleton.1 hx]
         exact⟨by show(0:Int)≤(a:Int);omega,by show(a:Int)≤2147483647;omega,by show(0:Int)≤(b:Int);omega,by show(b:Int)≤2147483647;omega⟩⟩
       clear hG hG2 h1 h2 hd hd2
       go_wp2_with (first | (go_at_call 31;refine hcA.mono ?_;rintro e wa ⟨rfl,hba,hka,hra⟩;have hcB:=number_ok H2.out (below_alloc hba (.cells #[.int .u32 (a:Int),.int .u32 0] 113)) (hra.below (below_alloc (Below.refl _ _) (.cells #[.int .u32 (a:Int),.int .u32 0] 113)));have HKA:=ak (hka.alloc (.cells #[.int .u32 (a:Int),.int .u32 0] 113));have HNA:=ak (blk_new wa (.cells #[.int .u32 (a:Int),.int .u32 0] 113));have HSA:Aside0 (wr.heap.size≤wa.heap.size):=⟨hka.1⟩;clear hba hka hra hcA) | (go_at_call 31;refine hcB.mono ?_;rintro e wb ⟨rfl,hbb,hkb,hrb⟩;have HNB:=ak (blk_kept HNA.out hkb (by have:=HSA.out;have:=hpr.out;omega));obtain⟨d0,d1,g0,g1⟩:=cells2 HNB.out;have HKB:=ak (HKA.out.then_ hkb (fun _ h=>.inl h));have HBB:=ak hbb;have HRB:=ak hrb;have HKW:=ak (HKB.out.setCell (p:=⟨wa.heap.size,1,none⟩) (.inr HSA.out) (.int .u32 (b:Int)));have HOW:=ak (R_stay HO.out HKW.out (fun k hk=>by rw [hk];exact hpw.out));have HBW:=ak (HBB.out.setCell (p:=⟨wa.heap.size,1,none⟩) (by have:=HB.out.size;have:=HSA.out;show w0.heap.size≤wa.heap.size;omega) (.int .u32 (b:Int)));have HRW:=ak (HRB.out.kept (Kept.setCell (Kept.refl wb (fun k=>k=wa.heap.size)) (p:=⟨wa.heap.size,1,none⟩) (.inl rfl) (.int .u32 (b:Int))) (by have:=HSA.out;have:=hpr.out;omega));have HKWW:=ak (HK.out.then_ HKW.out (fun _ h=>.inl h));clear hbb hkb hrb hcB) | (at_builtin;refine Kd.R_append k113 (w0:=wb.setCell ⟨wa.heap.size,1,none⟩ (.int .u32 (b:Int))) w.heap.size rfl (.tmp 40) (.tmp 42) 45 113 (.agg #[.int .u32 0,.int .u32 0]) 8 rfl Tryz.underlying45 cl_info rfl (by decide) (by omega) u7 acc ⟨(a:Int),(b:Int)⟩ [.int .u32 (a:Int),.int .u32 (b:Int)] (fun _=>True) (fun _=>False) rfl (by rw [World.size_setCell];rfl) (k113_mkM _ _ _ _) (fun _ hk=>hk.elim) (fun _ _=>trivial) HOW.out (Below.refl _ _) HKWW.out.1 (by omega) ?_;intro v1 wc ho hb1 hg hat;have HOC:=ak ho;have HAC:=ak (app_keep hg (Kd.R_base HOW.out));have HBC:=ak (below_up HBW.out hb1 hw0p.out);clear ho hb1 hg hat))
       go_roundg (gk-1)
       case measure=>omega
       case rel=>exact⟨i+1,acc++[⟨(a:Int),(b:Int)⟩],s4,rfl,by omega,by omega,by simp [hal],HG2,HU2,⟨HRW.out.kept HAC.out (by have:=hpw.out;omega)⟩,HBC,⟨HKWW.out.then_ HAC.out (fun _ h=>.inr h)⟩,HOC⟩
    ·have hlt':decide ((i:Int)<(n:Int))=false:=decide_eq_false (by omega)
     have hG:=HG.out
     rw [show n-i=0 by omega,clsG] at hG
     obtain⟨A4,c4,rfl⟩:=Kd.R_slice HO.out
     have hrd:=Kd.R_reads' HO.out
     have hcf:=HFF.out A4 c4 acc wr hrd.2.2 hrd.2.1 (HPF.out acc (by omega) HU.out)
     have hG3:Aside0 (rowS right bs s=if right acc=true then .ok (acc,s2) else .error ((s:Int),61)):=⟨by rw [HE.out,←hG];rfl⟩
     rw [hal] at hcf
     clear hG hrd
     cases hra:right acc
     ·rw [hra] at hcf
      have HE2:Aside0 (rowS right bs s=.error ((s:Int),61)):=⟨by rw [hG3.out,hra];rfl⟩
      clear hG3 hra
      go_wp2_with (first | (go_at_fn F;refine hcf.mono ?_;rintro e wd ⟨rfl,hbd⟩;have HBD:=ak (below_step HB.out hbd);have HKD:=ak (HK.out.below hbd);clear hbd hcf) | ((with_reducible refine(source_fail _ _ _ _).mono ?_);rintro e w2 ⟨rfl,rfl⟩))
      rename_i hq9
      cases hq9
      simp only [bodyPost]
      exact⟨trivial,RPost.no HE2.out HBD.out HKD.out⟩
     ·rw [hra] at hcf
      have HE2:Aside0 (rowS right bs s=.ok (acc,s2)):=⟨by rw [hG3.out,hra];rfl⟩
      clear hG3 hra
      go_wp2_with (go_at_fn F;refine hcf.mono ?_;rintro e wd ⟨rfl,hbd⟩;have HBD:=ak (below_step HB.out hbd);have HKD:=ak (HK.out.below hbd);have HRD:=ak (HR.out.below hbd);have HOD:=ak (Kd.R_below HO.out hbd);clear hbd hcf)
      go_ret
      exact RPost.yes HE2.out HBD.out HKD.out HRD.out (by have h9:=HOD.out;rw [hal] at h9;exact h9)
end Go.Proofs.YtahdjajdaggmjaaGreatDoor.XPd
end
