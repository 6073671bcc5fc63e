/-
Walk: pack.Decode.
-/
import Derived.Test.YtahdjajdaggmjaaGreatDoorYent
set_option maxRecDepth 100000
section
set_option linter.unusedVariables false
set_option linter.unusedSimpArgs false
namespace Go.Proofs.YtahdjajdaggmjaaGreatDoor.XPd
open Go.RowKit Go.Proofs.YtahdjajdaggmjaaGreatDoorW.PrintWords Go.Proofs.YtahdjajdaggmjaaGreatDoorW.PrintLast Go.Proofs.YtahdjajdaggmjaaGreatDoorW.PrintMore
theorem Res3.made(w:World)(v:Value)(a e:Int):Res3 (((w.alloc (.cells #[v] 29)).alloc (.cells #[.int .i64 a] 3)).alloc (.cells #[.int .i64 e] 26)) w.heap.size v a e:=by
 refine⟨?_, ?_, ?_⟩
 ·exact blk_below (blk_below (blk_new w _) (below_alloc (Below.refl _ _) _)) (below_alloc (Below.refl _ _) _)
 ·exact blk_below (by have:=blk_new (w.alloc (.cells #[v] 29)) (.cells #[.int .i64 a] 3);simpa using this) (below_alloc (Below.refl _ _) _)
 ·have:=blk_new ((w.alloc (.cells #[v] 29)).alloc (.cells #[.int .i64 a] 3)) (.cells #[.int .i64 e] 26)
  simpa using this
theorem made_below(w:World)(v:Value)(a e:Int):Below w.heap.size w (((w.alloc (.cells #[v] 29)).alloc (.cells #[.int .i64 a] 3)).alloc (.cells #[.int .i64 e] 26)):=below_alloc (below_alloc (below_alloc (Below.refl w.heap.size w) _) _) _
def OnlyN(Q:Exit→Act→World→Prop):Exit→Act→World→Prop
 | .normal,a,w=>Q .normal a w
 | _,_,_=>False
theorem only_of{Q:Exit→Act→World→Prop}{a:Act}{w:World}(h:Q .normal a w):OnlyN Q .normal a w:=h
theorem only_n{P:Program}{c:Code}{a:Act}{w:World}{Q:Exit→Act→World→Prop}(h:c.wp P (OnlyN Q) a w):c.wp P Q a w :=
 Code.wp_mono (fun e a w h=>by cases e<;>first | exact h | exact h.elim) h
theorem strNums_ne{xs ys:List Int}(hx:∀x∈xs,0≤x∧x<256)(hy:∀x∈ys,0≤x∧x<256)(h:xs≠ys):((strOfNums xs).toList==(strOfNums ys).toList)=false:=by
 rw [Bool.eq_false_iff,ne_eq,beq_iff_eq,ByteArray.toList_eq,ByteArray.toList_eq]
 have back:∀ {zs:List Int},(∀x∈zs,0≤x∧x<256)→(strOfNums zs).data.toList.map (fun b=>((b.toNat:Nat):Int))=zs:=by
  intro zs hz
  simp only [strOfNums,List.map_map]
  conv=>rhs;rw [←List.map_id zs]
  refine List.map_congr_left fun x hx=>?_
  obtain⟨h0,h1⟩:=hz x hx
  simp only [Function.comp,id]
  rw [UInt8.toNat_ofNat_of_lt' (by show x.toNat<256;omega)]
  omega
 exact fun e=>h (by rw [←back hx,←back hy,e])
theorem res3_out{w:World}{g:Nat}{v:Value}{a e:Int}(h:Res3 w g v a e)(x0 x1:Value)(ts:List Value) :
  (results Tryz.f13 ⟨x0 :: x1 :: .pointer (some ⟨g,0,none⟩) :: .pointer (some ⟨g+1,0,none⟩) :: .pointer (some ⟨g+2,0,none⟩) :: ts⟩).run Tryz.prog w=.ok (.tuple #[v,.int .i64 a,.int .i64 e]) w:=by
 have h0:=cell_of_one h.1
 have h1:=cell_of_one h.2.1
 have h2:=cell_of_one h.2.2
 simp [results,Tryz.results13,go_sem,h0,h1,h2]
def upD(n k:Nat):Array Bool:=(List.replicate k true++List.replicate (n-k) false).toArray
def headB(bs:List Int):Option Int:=if rd bs 0≠72 then some 0 else if rd bs 1≠67 then some 1 else if rd bs 2≠1 then some 2 else none
theorem headB_of{bs:List Int}(h:rd bs 0=72∧rd bs 1=67∧rd bs 2=1):headB bs=none:=by
 simp [headB,h]
theorem lit_made(w2:World)(o:Obj):(((w2.alloc (.map #[] 0)).alloc o).alloc (.cells #[.int .u8 72,.int .u8 67,.int .u8 1] 5)).heap[w2.heap.size+1+1]? = some (.cells #[.int .u8 72,.int .u8 67,.int .u8 1] 5 (0,0)):=by
 have:=blk_new ((w2.alloc (.map #[] 0)).alloc o) (.cells #[.int .u8 72,.int .u8 67,.int .u8 1] 5)
 simpa using this
theorem en_info:(Tryz.prog.info? 59).map (fun i=>(i.zero,i.size,i.bytes))=some (some (.agg #[.string ⟨#[]⟩,.int .i64 0,.int .i64 0,.string ⟨#[]⟩,.slice none 0 0,.slice none 0 0,.slice none 0 0,.int .i64 0,.int .i64 0,.string ⟨#[]⟩,.slice none 0 0,.slice none 0 0,.slice none 0 0]),13,224):=by kernel_rfl
theorem en_cells{w:World}{base:Nat}{x:En}{cs:List Value}(h:k59.M w base (fun _=>True) x cs):∃P3 px3 P4 px4 P5 px5 Q3 qx3 Q4 qx4 Q5 qx5,cs=[.string x.f0,.int .i64 x.f1.f0,.int .i64 x.f1.f1,.string x.f1.f2,.slice P3 x.f1.f3.length px3,.slice P4 x.f1.f4.length px4,.slice P5 x.f1.f5.length px5,.int .i64 x.f2.f0,.int .i64 x.f2.f1,.string x.f2.f2,.slice Q3 x.f2.f3.length qx3,.slice Q4 x.f2.f4.length qx4,.slice Q5 x.f2.f5.length qx5]:=by
 obtain⟨c0,c1,rfl,h0,c2,c3,rfl,h1,h2⟩:=h
 obtain⟨P3,px3,P4,px4,P5,px5,rfl⟩:=tm_cells h1
 obtain⟨Q3,qx3,Q4,qx4,Q5,qx5,rfl⟩:=tm_cells h2
 obtain rfl:c0=[.string x.f0]:=h0
 exact⟨P3,px3,P4,px4,P5,px5,Q3,qx3,Q4,qx4,Q5,qx5,rfl⟩
def entsS(nb:ByteArray→Bool)(fr fa:List Cl→Bool)(rt:Tm→Int)(bs:List Int):Nat→List En→Nat→Except (Int×Int) (List En×Nat)
 | 0,acc,s=>.ok (acc,s)
 | n+1,acc,s=>match entS nb fr fa rt bs (acc.map (·.f0)).reverse s with
  | .error e=>.error e
  | .ok (x,s1)=>entsS nb fr fa rt bs n (acc++[x]) s1
theorem entsS_ok{nb:ByteArray→Bool}{fr fa:List Cl→Bool}{rt:Tm→Int}{bs:List Int}{n s s1:Nat}{acc:List En}{x:En}(h:entS nb fr fa rt bs (acc.map (·.f0)).reverse s=.ok (x,s1)):entsS nb fr fa rt bs (n+1) acc s=entsS nb fr fa rt bs n (acc++[x]) s1:=by
 rw [entsS,h]
theorem entsS_er{nb:ByteArray→Bool}{fr fa:List Cl→Bool}{rt:Tm→Int}{bs:List Int}{n s:Nat}{acc:List En}{y:Int×Int}(h:entS nb fr fa rt bs (acc.map (·.f0)).reverse s=.error y):entsS nb fr fa rt bs (n+1) acc s=.error y:=by
 rw [entsS,h]
def endS(bs:List Int):Except (Int×Int) (List En×Nat)→Except (Int×Int) (List En)
 | .error e=>.error e
 | .ok (l,s)=>if s<bs.length then .error ((s:Int),61) else .ok l
def bodyS(nb:ByteArray→Bool)(fr fa:List Cl→Bool)(rt:Tm→Int)(bs:List Int):Except (Int×Int) (List En) :=
 match headB bs with
 | some a=>.error (a,61)
 | none=>match numS bs 3 with
  | .error e=>.error e
  | .ok (n,s)=>endS bs (entsS nb fr fa rt bs n [] s)
def outD:Except (Int×Int) (List En)→List En×Int×Int
 | .error e=>([],e.1,e.2)
 | .ok l=>(l,0,0)
def decI(nb:ByteArray→Bool)(fr fa:List Cl→Bool)(rt:Tm→Int)(sl:List Int→List Int)(l:List Int):List En×Int×Int :=
 if 1048576<l.length then([],0,3) else if l.length<8 then([],0,61) else if sl (l.take (l.length-4))≠l then([],((l.length-4:Nat):Int),271)
 else outD (bodyS nb fr fa rt (l.take (l.length-4)))
def PanQ(Q:Exit→Act→World→Prop):Exit→Act→World→Prop
 | .panic c,a,w=>∀a':Act,a'.defers=a.defers→a'.tmps[2]? = a.tmps[2]?→a'.tmps[3]? = a.tmps[3]?→a'.tmps[4]? = a.tmps[4]?→Q (.panic c) a' w
 | e,a,w=>Q e a w
theorem panq_of{Q:Exit→Act→World→Prop}{a:Act}{w:World}(h:Q .normal a w):PanQ Q .normal a w:=h
theorem panq_n{P:Program}{c:Code}{a:Act}{w:World}{Q:Exit→Act→World→Prop}(h:c.wp P (PanQ Q) a w):c.wp P Q a w :=
 Code.wp_mono (fun e a w h=>by cases e<;>first | exact h | exact h a rfl rfl rfl rfl) h
theorem put_tmp{a:Act}{d:Option Tmp}{v:Value}{j:Nat}(h:d≠some j):(a.put d v).tmps[j]? = a.tmps[j]? := by
 cases d with
 | none=>rfl
 | some i =>
  have hij:i≠j:=fun e=>h (by rw [e])
  show(a.tmps.setIfInBounds i v)[j]? = _
  rw [Array.getElem?_setIfInBounds_ne hij]
theorem put_defers{a:Act}{d:Option Tmp}{v:Value}:(a.put d v).defers=a.defers:=by
 cases d<;>rfl
theorem panq_put{Q:Exit→Act→World→Prop}{oi:Oper}{v:Value}(hd:oi.dst≠some 2∧oi.dst≠some 3∧oi.dst≠some 4):∀c a w,PanQ Q (.panic c) (a.put oi.dst v) w→PanQ Q (.panic c) a w :=
 fun c a w h a' h0 h2 h3 h4=>h a' (h0.trans put_defers.symm) (h2.trans (put_tmp hd.1).symm) (h3.trans (put_tmp hd.2.1).symm) (h4.trans (put_tmp hd.2.2).symm)
theorem res3_outA{w:World}{g:Nat}{v:Value}{a e:Int}(h:Res3 w g v a e){tmps:Array Value}(h2:tmps[2]? = some (.pointer (some ⟨g,0,none⟩)))(h3:tmps[3]? = some (.pointer (some ⟨g+1,0,none⟩)))(h4:tmps[4]? = some (.pointer (some ⟨g+2,0,none⟩))) :
  (results Tryz.f13 tmps).run Tryz.prog w=.ok (.tuple #[v,.int .i64 a,.int .i64 e]) w:=by
 obtain⟨ts⟩:=tmps
 match ts,h2,h3,h4 with
 | x0 :: x1 :: x2 :: x3 :: x4 :: r,h2,h3,h4 =>
  obtain rfl:x2=.pointer (some ⟨g,0,none⟩):=by simpa using h2
  obtain rfl:x3=.pointer (some ⟨g+1,0,none⟩):=by simpa using h3
  obtain rfl:x4=.pointer (some ⟨g+2,0,none⟩):=by simpa using h4
  exact res3_out h x0 x1 r
 | [],h2,_,_=>simp at h2
 | [_],h2,_,_=>simp at h2
 | [_,_],h2,_,_=>simp at h2
 | [_,_,_],_,h3,_=>simp at h3
 | [_,_,_,_],_,_,h4=>simp at h4
theorem dec_panic{g:Nat}{v:Value}{a0 e0 at_ c:Int}{w:World}{tmps:Array Value}{R:Ending→World→Prop}{fv:Fn}{cap dargs:Array Value}(h2:tmps[2]? = some (.pointer (some ⟨g,0,none⟩)))(h3:tmps[3]? = some (.pointer (some ⟨g+1,0,none⟩)))(h4:tmps[4]? = some (.pointer (some ⟨g+2,0,none⟩)))(h:Res3 w g v a0 e0)
  (hi:∀w,(invoke (.fn fv cap) dargs).run Tryz.prog w=.ok (.enter 28 #[.pointer (some ⟨g,0,none⟩),.pointer (some ⟨g+1,0,none⟩),.pointer (some ⟨g+2,0,none⟩)]) w)
  (hR:∀w',Res3 w' g (.slice none 0 0) at_ c→Below g w w'→R (.returned (.tuple #[.slice none 0 0,.int .i64 at_,.int .i64 c])) w') :
  Leaves Tryz.prog Tryz.f13 tmps R [{ target:=.fn fv cap,args:=dargs }] (.panicking [{ v:=.iface 69 (.agg #[.int .i64 at_,.int .i64 c]),recovered:=false }]) w:=by
 refine leaves_cons (f:=28) (args:=#[.pointer (some ⟨g,0,none⟩),.pointer (some ⟨g+1,0,none⟩),.pointer (some ⟨g+2,0,none⟩)]) (by simp) (hi w) ?_
 refine(decode_catch g v a0 e0 at_ c w h).mono ?_
 rintro e u' w' ⟨rfl,rfl,hr,hk,hb⟩
 exact⟨_,res3_outA hr h2 h3 h4,hR w' hr hb⟩
theorem rst_madeW(w w2:World)(A0:Option Addr)(c0:Nat)(lt:List Int)(hw:w.heap.size≤w2.heap.size)(hC:Kd.C (Kd.int .u8) w A0 lt.length lt)(hc:lt.length≤c0)(hl:lt.length≤1048576)(ho:∀x∈lt,0≤x∧x<256) :
  RSt w (((w2.alloc (.map #[] 0)).alloc (.cells #[.slice A0 lt.length c0,.int .i64 0,.map (some w2.heap.size)] 76)).alloc (.cells #[.int .u8 72,.int .u8 67,.int .u8 1] 5)) (w2.heap.size+1) lt 0 w2.heap.size:=by
 refine⟨by omega,⟨A0,c0, ?_,hc,hC⟩,hl,Nat.zero_le _,ho⟩
 refine blk_below ?_ (below_alloc (Below.refl _ _) _)
 have:=blk_new (w2.alloc (.map #[] 0)) (.cells #[.slice A0 lt.length c0,.int .i64 0,.map (some w2.heap.size)] 76)
 simpa using this
set_option maxHeartbeats 4000000 in
theorem pa_Decode{PN:ByteArray→Prop}{PF:List Cl→Prop}{PT:Tm→Prop}{PS:List Int→Prop}{nb:ByteArray→Bool}{fr fa:List Cl→Bool}{rt:Tm→Int}{sl:List Int→List Int}(RP:ReadP PN PF nb fr fa)
  (HR:∀(t:Tm) (cs:List Value) (w:World),k49.K w t cs→PT t→Calls Tryz.prog 39 #[.agg cs.toArray,.int .i64 0,.int .i64 0] w fun e w'=>e=.returned (.int .i64 (rt t))∧Below w.heap.size w w')
  (hsl:∀(u:Value) (l:List Int) (w0 w:World),Below w0.heap.size w0 w→Kd.R (Kd.int .u8) 5 w w0.heap.size (fun _=>True) u l→PS l →
  Calls Tryz.prog 22 #[u] w fun e w'=>∃v,e=.returned v∧Kd.R (Kd.int .u8) 5 w' w0.heap.size (fun _=>True) v (sl l)∧Below w0.heap.size w0 w') (A0:Option Addr) (c0:Nat) (l:List Int) (w:World) (hT:Tab w) (hC:Kd.C (Kd.int .u8) w A0 l.length l) (hc:l.length≤c0)
  (hbl:l.length≤1000000∨1048576<l.length) (ho:∀x∈l,0≤x∧x<256) (hps:PS (l.take (l.length-4))) (hso:∀x∈sl (l.take (l.length-4)),0≤x∧x<256) (hpt:∀(s:Nat) (t:Tm) (s1:Nat),termS nb fr fa (l.take (l.length-4)) 200 s=.ok (t,s1)→PT t) :
  Calls Tryz.prog 13 #[.slice A0 l.length c0] w (fun e w'=>∃v,e=.returned (.tuple #[v,.int .i64 (decI nb fr fa rt sl l).2.1,.int .i64 (decI nb fr fa rt sl l).2.2])∧Kd.R k59 59 w' w.heap.size (fun _=>True) v (decI nb fr fa rt sl l).1∧Below w.heap.size w w'):=by
 have hmf:∀(fn:Fn) (first cap:Array Value) (w:World),(Instr.makeFunc fn first cap).run Tryz.prog w=.ok (.func fn first cap) w:=fun _ _ _ _=>rfl
 have hmm:=@run_makeMap Tryz.prog
 have HC:=ak hC
 have HTT:=ak hT
 have HRR:=ak HR
 clear hC hT HR
 go_enter_defers Tryz.func13,Tryz.ntmps13
 by_cases h1:1048576<l.length
 ·have h1':(1048576:Int)<(l.length:Int):=by omega
  have hd:decI nb fr fa rt sl l=([],0,3):=by rw [decI,if_pos h1]
  have HD:=ak hd
  clear hd
  go_wp2
  exact⟨_,res3_out (Res3.made w (.slice none 0 0) 0 3) _ _ _,.slice none 0 0,by rw [HD.out],by rw [HD.out];exact Kd.R_nil _ _ _ _ _,made_below w _ _ _⟩
 ·by_cases h2:l.length<8
  ·have h1':¬(1048576:Int)<(l.length:Int):=by omega
   have h2':(l.length:Int)<8:=by omega
   have hd:decI nb fr fa rt sl l=([],0,61):=by rw [decI,if_neg h1,if_pos h2]
   have HD:=ak hd
   clear hd
   go_wp2
   exact⟨_,res3_out (Res3.made w (.slice none 0 0) 0 61) _ _ _,.slice none 0 0,by rw [HD.out],by rw [HD.out];exact Kd.R_nil _ _ _ _ _,made_below w _ _ _⟩
  ·have h1':¬(1048576:Int)<(l.length:Int):=by omega
   have h2':¬(l.length:Int)<8:=by omega
   have h4:wrap64 ((l.length:Int)-4)=(l.length:Int)-4:=by unfold wrap64;omega
   have hR0:=Res3.made w (.slice none 0 0) 0 0
   have hB0:=made_below w (.slice none 0 0) 0 0
   have hS0:(((w.alloc (.cells #[.slice none 0 0] 29)).alloc (.cells #[.int .i64 0] 3)).alloc (.cells #[.int .i64 0] 26)).heap.size=w.heap.size+3:=by simp
   go_upto_if 0 with(fail)
   clear h4
   revert hR0 hB0 hS0
   generalize ((w.alloc (.cells #[.slice none 0 0] 29)).alloc (.cells #[.int .i64 0] 3)).alloc (.cells #[.int .i64 0] 26)=W0
   intro hR0 hB0 hS0
   have HR0:=ak hR0
   have HB0:=ak hB0
   have HS0:=ak hS0
   clear hR0 hB0 hS0
   obtain⟨lt,hlt⟩:∃lt,lt=l.take (l.length-4):=⟨_,rfl⟩
   rw [←hlt] at hps hso hpt
   have HLL:=ak (show lt.length=l.length-4 by rw [hlt,List.length_take];omega)
   have hst:∀W,Below W0.heap.size W0 W→(convert 23 9 (.slice A0 l.length c0)).run Tryz.prog W=.ok (.string (strOfNums l)) W:=fun W hW=>Kd.C_string Tryz.underlying23 Tryz.underlying5 Tryz.underlying9 (Kd.C_below (Kd.C_below HC.out HB0.out) hW)
   have HCW:=ak (show Kd.C (Kd.int .u8) w A0 lt.length lt from by
    have h6:=Kd.C_take HC.out (m:=l.length-4) (by omega)
    rw [←hlt] at h6
    exact h6)
   have HCT:=ak (show ∀W,Below W0.heap.size W0 W→ReadsRow ((Kd.int .u8).K W) (Kd.int .u8).sz W A0 lt.length lt from fun W hW=>Kd.C_below (Kd.C_below HCW.out HB0.out) hW)
   have HLT:=ak (show(([]:List Int).length+lt.length) * 1≤140737488355328 by rw [HLL.out,List.length_nil];omega)
   have HLT2:=ak hlt
   have hcut:∀W:World,(Instr.slice 23 (.slice A0 l.length c0) none (some (.int .i64 ((l.length:Int)-4))) none).run Tryz.prog W=.ok (.slice A0 lt.length c0) W:=fun W=>by
    obtain⟨i5,hi5,hz5⟩:=Option.map_eq_some_iff.1 uint8_info
    simp only [Prod.mk.injEq] at hz5
    have h6:=(print_take_int (P:=Tryz.prog) (k:=.u8) 23 5 Tryz.underlying23 hi5 hz5.2.1 A0 c0 l ((l.length:Int)-4) (by omega) (by omega) hc).1 W
    rw [show((l.length:Int)-4).toNat=l.length-4 by omega,←hlt] at h6
    exact h6
   clear hlt
   by_cases h3:sl lt=l
   ·have HDI:Aside0 (decI nb fr fa rt sl l=outD (bodyS nb fr fa rt lt)):=⟨by rw [decI,if_neg h1,if_neg h2,←HLT2.out,if_neg (fun e=>e h3)]⟩
    refine only_n ?_
    refine start_ (n:=10) (S:=fun w'=>Below W0.heap.size W0 w') (ds:=[]) (upD 10 0) (by kernel_rfl) rfl (by kernel_rfl) (below_drew (Below.refl _ _)) (fun hHeld=>?_)
    refine pu_ 0 21 ?_
    refine pu_ 1 22 ?_
    refine pu_ 6 27 ?_
    refine take_ (i:=7) (N:=some 28) (v:=?_) (a':=?_) #[true,true,false,false,false,false,true,true,false,false] rfl rfl (by kernel_rfl) (fun _ _ _ h=>h) (Or.inl ⟨by rfl, ?_⟩) hHeld ?_ ?_
    (rotate_left;(intro w' s0;have hs1:=hst w' s0;go_simp;with_reducible rfl);rotate_left;(simp only [Act.put,List.setIfInBounds_toArray,List.set_cons_zero,List.set_cons_succ];rfl))
    refine pu_ 2 23 ?_
    refine on_ 3 (some 24) fun K hK=>?_
    refine Kd.R_append_rows_step (Kd.int .u8) (w0:=W0) W0.heap.size (by rfl) (.const (.slice none 0 0)) (.tmp 23) 23 5 (.int .u8 0) 1 rfl Tryz.underlying23 uint8_info rfl (by decide) (by decide) (.slice none 0 0) [] lt A0 lt.length c0 (fun _=>True) (fun _=>False) rfl rfl (Kd.R_nil _ _ _ _ _) (HCT.out _ hHeld) (fun _ _ h=>h) (fun _ hk=>hk.elim) (fun _ _=>trivial) hHeld hHeld.size HLT.out ?_
    intro v1 w1 hr1 hb1 hg1 hat1
    have HR1:=ak hr1
    clear hr1 hat1
    have hHeld_:=hHeld
    refine hK.out _ _ hb1 (fun hHeld=>?_)
    clear hK K hHeld_
    refine no_ 24 ?_
    refine on_ 4 (some 25) fun K hK=>?_
    refine goes_ Tryz.func22 (by kernel_rfl) rfl #[v1] (by rfl) rfl rfl (by (try simp only [List.map_toArray,List.map_cons,List.map_nil]);first | done | rfl) ?_
    with_reducible refine(hsl v1 lt W0 _ hHeld (by simpa using HR1.out) hps).mono ?_
    rintro e w2 ⟨v2,rfl,hr2,hb2⟩
    refine⟨_,rfl, ?_⟩
    obtain⟨A2,n2,c2,rfl⟩:=slice3 hr2
    have hcv:=Kd.C_string Tryz.underlying23 Tryz.underlying5 Tryz.underlying9 (c:=c2) (Kd.R_reads' hr2).2.2
    rw [←(Kd.R_reads' hr2).1] at hcv
    rw [h3] at hcv
    clear hr2
    have HB2_:=ak hb2
    have hHeld_:=hHeld
    refine hK.out _ _ hb2 (fun hHeld=>?_)
    clear hK K hHeld_
    refine no_ 25 ?_
    refine on_ 5 (some 26) fun K hK=>?_
    rw [if_pos (by rfl)]
    go_simp
    have hHeld_:=hHeld
    refine hK.out _ _ hHeld_ (fun hHeld=>?_)
    clear hK K hHeld_ hcv
    refine pu_ 8 29 ?_
    refine pu_ 9 20 ?_
    refine done_ (by kernel_rfl) ?_
    refine only_of ?_
    have h4:wrap64 ((l.length:Int)-4)=(l.length:Int)-4:=by unfold wrap64;omega
    go_wp2
    have HBw:=ak (below_step HB0.out hHeld)
    have HSW:Aside0 (w.heap.size+3≤w2.heap.size):=⟨by have:=hHeld.size;have:=HS0.out;omega⟩
    have HO:=ak (show ∀x∈lt,0≤x∧x<256 from fun x hx=>by rw [HLT2.out] at hx;exact ho x (List.mem_of_mem_take hx))
    have HRd:=ak (rst_madeW w w2 A0 c0 lt (by have:=HSW.out;omega) HCW.out (by rw [HLL.out];omega) (by rw [HLL.out];omega) HO.out)
    have hq:=lit_made w2 (.cells #[.slice A0 lt.length c0,.int .i64 0,.map (some w2.heap.size)] 76)
    have hB3:=below_alloc (below_alloc (below_alloc HBw.out (.map #[] 0)) (.cells #[.slice A0 lt.length c0,.int .i64 0,.map (some w2.heap.size)] 76)) (.cells #[.int .u8 72,.int .u8 67,.int .u8 1] 5)
    have hL3:=below_alloc (below_alloc (below_alloc (Below.refl w2.heap.size w2) (.map #[] 0)) (.cells #[.slice A0 lt.length c0,.int .i64 0,.map (some w2.heap.size)] 76)) (.cells #[.int .u8 72,.int .u8 67,.int .u8 1] 5)
    have hRes:=(HR0.out.below hHeld).below hL3
    have hM3:=((MSt.made w2).below (below_alloc (Below.refl _ _) (.cells #[.slice A0 lt.length c0,.int .i64 0,.map (some w2.heap.size)] 76))).below (below_alloc (Below.refl _ _) (.cells #[.int .u8 72,.int .u8 67,.int .u8 1] 5))
    clear h4 hst hcut hHeld HB2_ HCT HLT HR0 HB0 hL3
    revert hq hB3 HRd hRes hM3
    generalize ((w2.alloc (.map #[] 0)).alloc (.cells #[.slice A0 lt.length c0,.int .i64 0,.map (some w2.heap.size)] 76)).alloc (.cells #[.int .u8 72,.int .u8 67,.int .u8 1] 5)=W3
    intro HRd hq hB3 hRes hM3
    have HB3:=ak hB3
    have HRes:=ak hRes
    have HM3:=ak hM3
    clear hB3 hRes hM3
    go_loopg [8,43] 3 (fun kq v8 v43 w'=>∃(j:Nat),v43=.int .i64 (j:Int)∧j+kq=3∧Aside0 (RSt w w' (w2.heap.size+1) lt j w2.heap.size)∧Aside0 (Below w.heap.size w w')∧Aside0 (Kept W3 w' (fun k=>k=w2.heap.size+1))∧Aside0 ((1≤j→rd lt 0=72)∧(2≤j→rd lt 1=67)∧(3≤j→rd lt 2=1)))
    case atStart=>exact⟨0,rfl,rfl,HRd,HB3,⟨Kept.refl _ _⟩,⟨fun h=>absurd h (by omega),fun h=>absurd h (by omega),fun h=>absurd h (by omega)⟩⟩
    case round =>
     obtain⟨j,rfl,hj,HR,HB,HK,HHD⟩:=hrel
     by_cases hj3:j=3
     ·subst hj3
      clear hj HRd hq HB3
      have HHN:Aside0 (headB lt=none):=⟨headB_of ⟨HHD.out.1 (by omega),HHD.out.2.1 (by omega),HHD.out.2.2 (by omega)⟩⟩
      have HR3:=ak (HRes.out.kept HK.out (by have:=HSW.out;omega))
      have HM:=ak (HM3.out.kept HK.out (by omega))
      clear HRes HM3 HHD
      rcases hn:numS lt 3 with y | ⟨n,s3⟩
      ·have hd:decI nb fr fa rt sl l=([],y.1,y.2):=by rw [HDI.out,bodyS,HHN.out,hn];rfl
       have HD:=ak hd
       have hcE:=number_er hn HB.out HR.out
       clear hd hn
       go_wp2_with (go_at_call 31;refine hcE.mono ?_;rintro e w4 ⟨rfl,hb4,hk4⟩)
       rename_i hq9
       cases hq9
       show Leaves Tryz.prog Tryz.f13 _ _ _ (.panicking _) _
       refine dec_panic (g:=w.heap.size) rfl rfl rfl (HR3.out.kept hk4 (by have:=HSW.out;omega)) (fun w'=>by simp [go_sem]) ?_
       intro w' hr9 hb9
       exact⟨.slice none 0 0,by rw [HD.out],by rw [HD.out];exact Kd.R_nil _ _ _ _ _,(hb4).trans hb9⟩
      ·have HDI2:Aside0 (decI nb fr fa rt sl l=outD (endS lt (entsS nb fr fa rt lt n [] s3))):=⟨by rw [HDI.out,bodyS,HHN.out,hn]⟩
       have hn31:=numS_le hn
       have hcE:=number_ok hn HB.out HR.out
       clear hn
       go_wp2_with (go_at_call 31;refine hcE.mono ?_;rintro e w4 ⟨rfl,hb4,hk4,hr4⟩;have HB4:=ak hb4;have HR4:=ak hr4;have HR34:=ak (HR3.out.kept hk4 (by have:=HSW.out;omega));have HM4:=ak (HM.out.kept hk4 (by omega));clear hb4 hk4 hr4 hcE)
       obtain⟨B2,hB2⟩:∃B2,B2=w4.heap.size:=⟨_,rfl⟩
       have HPB:Aside0 (w.heap.size+3≤w2.heap.size∧w2.heap.size+1<B2):=⟨HSW.out,by have:=HR4.out.lt;omega⟩
       have HWB:Aside0 (w.heap.size≤B2):=⟨by have:=HPB.out;omega⟩
       have HB2S:Aside0 (B2≤w4.heap.size):=⟨by omega⟩
       clear HB HR HK HR3 HM hB2
       obtain⟨go,rfl⟩:∃go,go=gk:=⟨_,rfl⟩
       obtain⟨wo,rfl⟩:∃wo:World,wo=wr:=⟨_,rfl⟩
       go_loopg [73] (n+1) (fun kq v73 wy=>∃(i:Nat) (acc:List En) (s:Nat) (vs:Value),v73=.int .i64 (i:Int)∧i≤n∧kq+i=n+1∧Aside0 (acc.length=i)∧Aside0 (entsS nb fr fa rt lt (n-i) acc s=entsS nb fr fa rt lt n [] s3)∧Aside0 (B2≤wy.heap.size)∧Aside0 (RSt w wy (w2.heap.size+1) lt s w2.heap.size)∧Aside0 (Below w.heap.size w wy)∧Aside0 (MSt wy w2.heap.size (acc.map (·.f0)).reverse)∧Aside0 (Res3 wy w.heap.size vs 0 0)∧Aside0 (Kd.R k59 59 wy B2 (fun _=>True) vs acc))
       case atStart=>exact⟨0,[],s3,.slice none 0 0,rfl,Nat.zero_le _,rfl,⟨rfl⟩,⟨rfl⟩,HB2S,HR4,HB4,HM4,HR34,⟨Kd.R_nil _ _ _ _ _⟩⟩
       case round =>
        clear HB4 HR4 HR34 HM4 HB2S
        obtain⟨i,acc,s,vs,rfl,hi,hk73,HAL,HG0,HBS,HR,HB,HM,HR3,HG⟩:=hrel
        obtain⟨A55,n55,c55,rfl⟩:=slice3 HG.out
        have hlen:lt.length≤1000000:=by have:=HLL.out;omega
        have hal:acc.length≤2147483647:=by have:=HAL.out;omega
        by_cases hlt:i<n
        ·have hlt':decide ((i:Int)<(n:Int))=true:=decide_eq_true (by omega)
         obtain⟨dd,hdd2⟩:∃dd,n-i=dd+1:=⟨n-i-1,by omega⟩
         have hdd3:dd=n-(i+1):=by omega
         have hG:=HG0.out
         rw [hdd2] at hG
         have hent:=reader_entry RP HRR.out w (w2.heap.size+1) w2.heap.size lt (acc.map (·.f0)).reverse HTT.out hpt hlen (by rw [List.length_reverse,List.length_map];omega) s wr.drew (below_drew HB.out) (HR.out.below (below_drew (Below.refl _ _))) (HM.out.below (below_drew (Below.refl _ _))) (by have:=HPB.out;omega) (by omega)
         have hvs:wr.drew.cell? ⟨w.heap.size,0,none⟩=some (.slice A55 n55 c55):=cell_of_one HR3.out.1
         have HR3d:Aside0 (Res3 wr.drew w.heap.size (.slice A55 n55 c55) 0 0):=HR3
         have HGd:=ak (Kd.R_drew HG.out)
         have HBSd:Aside0 (B2≤wr.drew.heap.size):=HBS
         clear HR3 HG HBS HR HB HM
         rcases hq:entS nb fr fa rt lt (acc.map (·.f0)).reverse s with y | ⟨x,s4⟩
         ·have hG2:=(entsS_er (n:=dd) hq).symm.trans hG
          have hd:decI nb fr fa rt sl l=([],y.1,y.2):=by rw [HDI2.out,←hG2];rfl
          have HD:=ak hd
          rw [hq] at hent
          have hcE:=hent
          clear hd hG hG2 hq hent hdd2 hdd3
          go_wp2
          refine panq_n ?_
          refine start_ (n:=6) (S:=fun w'=>w'.cell? ⟨w.heap.size,0,none⟩=some (.slice A55 n55 c55)) (ds:=[5]) (upD 6 0) (by kernel_rfl) rfl (by kernel_rfl) (show wr.drew.cell? ⟨w.heap.size,0,none⟩=some (.slice A55 n55 c55) from hvs) (fun hHeld=>?_)
          clear hvs
          generalize wr.drew=wd at *
          refine ta_ (hQ:=panq_put (by decide)) 0 75 ?_
          refine pu_ (hQ:=panq_put (by decide)) 1 76 ?_
          refine on_ 2 (some 77) fun K hK=>?_
          refine callP_ Tryz.func32 (by kernel_rfl) rfl #[.pointer (some ⟨w2.heap.size+1,0,none⟩)] (by rfl) rfl rfl (by (try simp only [List.map_toArray,List.map_cons,List.map_nil]);first | done | rfl) ?_
          refine hcE.mono ?_
          rintro e w5 ⟨hb5,hk5,rfl⟩
          refine .inr ⟨_,rfl, ?_⟩
          intro a' hd9 h29 h39 h49
          show Leaves Tryz.prog Tryz.f13 a'.tmps _ a'.defers (.panicking _) _
          rw [hd9]
          refine dec_panic (g:=w.heap.size) (h29.trans rfl) (h39.trans rfl) (h49.trans rfl) (HR3d.out.kept hk5 (by have:=HPB.out;omega)) (fun w'=>by simp [go_sem]) ?_
          intro w' hr9 hb9
          exact⟨.slice none 0 0,by rw [HD.out],by rw [HD.out];exact Kd.R_nil _ _ _ _ _,(hb5).trans hb9⟩
         ·have hG2:=(entsS_ok (n:=dd) hq).symm.trans hG
          have HG2:Aside0 (entsS nb fr fa rt lt (n-(i+1)) (acc++[x]) s4=entsS nb fr fa rt lt n [] s3):=⟨by rw [←hdd3];exact hG2⟩
          rw [hq] at hent
          have hcE:=hent
          clear hG hG2 hq hent hdd2 hdd3
          go_wp2
          refine panq_n ?_
          refine start_ (n:=6) (S:=fun w'=>w'.cell? ⟨w.heap.size,0,none⟩=some (.slice A55 n55 c55)) (ds:=[5]) (upD 6 0) (by kernel_rfl) rfl (by kernel_rfl) (show wr.drew.cell? ⟨w.heap.size,0,none⟩=some (.slice A55 n55 c55) from hvs) (fun hHeld=>?_)
          clear hvs
          generalize wr.drew=wd at *
          refine ta_ (hQ:=panq_put (by decide)) 0 75 ?_
          refine pu_ (hQ:=panq_put (by decide)) 1 76 ?_
          refine on_ 2 (some 77) fun K hK=>?_
          refine callP_ Tryz.func32 (by kernel_rfl) rfl #[.pointer (some ⟨w2.heap.size+1,0,none⟩)] (by rfl) rfl rfl (by (try simp only [List.map_toArray,List.map_cons,List.map_nil]);first | done | rfl) ?_
          refine hcE.mono ?_
          rintro e w5 ⟨hb5,hk5,hr5,hm5,v,rfl,cs,rfl,hM5⟩
          refine .inl ⟨_,rfl, ?_⟩
          obtain⟨P3,px3,P4,px4,P5,px5,Q3,qx3,Q4,qx4,Q5,qx5,rfl⟩:=en_cells hM5
          have HB5:=ak hb5
          have HR5:=ak hr5
          have HM5:=ak hm5
          have HE5:=ak hM5
          have HR35:=ak (HR3d.out.kept hk5 (by have:=HPB.out;omega))
          have HG5:=ak (R_stay HGd.out hk5 (fun k hk=>by have:=HPB.out;omega))
          have HS5:Aside0 (wd.heap.size≤w5.heap.size):=⟨hk5.1⟩
          clear hb5 hk5 hr5 hm5 hM5
          have hHeld_:=hHeld
          refine hK.out _ _ (cell_of_one HR35.out.1) (fun hHeld=>?_)
          clear hK K hHeld_
          refine no_ 77 ?_
          refine on_ 3 (some 78) fun K hK=>?_
          refine event_step (v:=.slice (some ⟨w5.heap.size,0,none⟩) 1 1) (w1:=w5.alloc (.cells #[.string x.f0,.int .i64 x.f1.f0,.int .i64 x.f1.f1,.string x.f1.f2,.slice P3 x.f1.f3.length px3,.slice P4 x.f1.f4.length px4,.slice P5 x.f1.f5.length px5,.int .i64 x.f2.f0,.int .i64 x.f2.f1,.string x.f2.f2,.slice Q3 x.f2.f3.length qx3,.slice Q4 x.f2.f4.length qx4,.slice Q5 x.f2.f5.length qx5] 59)) (by rfl) (by first | (go_simp;done) | (go_simp;rfl)) ?_
          have hHeld_:=hHeld
          refine hK.out _ _ (World.cell?_alloc_old_ hHeld_) (fun hHeld=>?_)
          clear hK K hHeld_
          refine no_ 78 ?_
          refine on_ 4 (some 79) fun K hK=>?_
          refine Kd.R_append_step k59 (w0:=w5) B2 (by rfl) (.tmp 75) (.tmp 78) 29 59 (.agg #[.string ⟨#[]⟩,.int .i64 0,.int .i64 0,.string ⟨#[]⟩,.slice none 0 0,.slice none 0 0,.slice none 0 0,.int .i64 0,.int .i64 0,.string ⟨#[]⟩,.slice none 0 0,.slice none 0 0,.slice none 0 0]) 224 rfl Tryz.underlying29 en_info rfl (by decide) (by omega) (.slice A55 n55 c55) acc x [.string x.f0,.int .i64 x.f1.f0,.int .i64 x.f1.f1,.string x.f1.f2,.slice P3 x.f1.f3.length px3,.slice P4 x.f1.f4.length px4,.slice P5 x.f1.f5.length px5,.int .i64 x.f2.f0,.int .i64 x.f2.f1,.string x.f2.f2,.slice Q3 x.f2.f3.length qx3,.slice Q4 x.f2.f4.length qx4,.slice Q5 x.f2.f5.length qx5] (fun _=>True) (fun k=>wd.heap.size≤k) rfl rfl (M_from HE5.out HBSd.out) (fun k hk=>⟨trivial,fun h9=>by have:=Kd.R_lt HGd.out k h9.symm;omega⟩) (fun _ _=>trivial) HG5.out (Below.refl _ _) (Nat.le_trans HBSd.out HS5.out) (by omega) ?_
          intro v1 w6 ho hb6 hg hat
          have hak:=app_keep hg (Kd.R_base HG5.out)
          have HB6:=ak (below_up HB5.out hb6 HWB.out)
          have HR6:=ak (HR5.out.kept hak (by have:=HPB.out;omega))
          have HM6:=ak (HM5.out.kept hak (by have:=HPB.out;omega))
          have HR36:=ak (HR35.out.kept hak (by have:=HPB.out;omega))
          obtain⟨A6,n6,c6,rfl⟩:=slice3 ho
          have HO6:=ak ho
          have HS6:Aside0 (B2≤w6.heap.size):=⟨Nat.le_trans (Nat.le_trans HBSd.out HS5.out) hak.1⟩
          clear ho hb6 hg hat hak
          have hHeld_:=hHeld
          refine hK.out _ _ (cell_of_one HR36.out.1) (fun hHeld=>?_)
          clear hK K hHeld_
          refine no_ 79 ?_
          refine last_ (i:=5) (N:=none) (upD 6 6) rfl rfl (by kernel_rfl) (by decide) (fun K hK=>?_)
          have hf6:=free_of_one HR36.out.1
          refine skip_ (w1:=w6.setCell ⟨w.heap.size,0,none⟩ (.slice A6 n6 c6)) (by rfl) rfl (by go_simp) ?_
          refine hK.out _ _ ?_
          clear hK K
          refine done_ (by kernel_rfl) ?_
          refine panq_of ?_
          have HK7:=ak ((Kept.refl w6 (fun k=>k=w.heap.size)).setCell (p:=⟨w.heap.size,0,none⟩) (.inl rfl) (.slice A6 n6 c6))
          have HR7:=ak (HR6.out.kept HK7.out (by have:=HPB.out;omega))
          have HB7:=ak (HB6.out.setCell (p:=⟨w.heap.size,0,none⟩) (Nat.le_refl _) (.slice A6 n6 c6))
          have HM7:=ak (HM6.out.kept HK7.out (by have:=HPB.out;omega))
          have HR37:=ak (HR36.out.set0 (.slice A6 n6 c6))
          have HO7:=ak (R_stay HO6.out HK7.out (fun k hk=>by have:=HPB.out;omega))
          have HB27:Aside0 (B2≤(w6.setCell ⟨w.heap.size,0,none⟩ (.slice A6 n6 c6)).heap.size):=⟨by rw [World.size_setCell];exact HS6.out⟩
          have HAL2:Aside0 ((acc++[x]).length=i+1):=⟨by rw [List.length_append,HAL.out];rfl⟩
          have HMM:Aside0 (MSt (w6.setCell ⟨w.heap.size,0,none⟩ (.slice A6 n6 c6)) w2.heap.size ((acc++[x]).map (·.f0)).reverse):=⟨by rw [List.map_append,List.reverse_append];exact HM7.out⟩
          clear hHeld hf6 HR6 HB6 HM6 HR36 HO6 HB5 HR5 HM5 HE5 HR35 HG5 HS5 HM7
          go_wp2
          go_roundg (gk-1)
          case measure=>omega
          case rel=>exact⟨i+1,acc++[x],s4,_,rfl,by omega,by omega,HAL2,HG2,HB27,HR7,HB7,HMM,HR37,HO7⟩
        ·have hlt':decide ((i:Int)<(n:Int))=false:=decide_eq_false (by omega)
         have hG:=HG0.out
         rw [show n-i=0 by omega,entsS] at hG
         have HDI3:Aside0 (decI nb fr fa rt sl l=outD (endS lt (.ok (acc,s)))):=⟨by rw [HDI2.out,←hG]⟩
         obtain⟨A9,cap9,hv9,hc9,hC9⟩:=HR.out.row
         obtain⟨d0,d1,d2,e0,e1,e2⟩:=cells3 hv9
         clear hG hv9 hc9 hC9
         by_cases hls:s<lt.length
         ·have hls':decide ((s:Int)<(lt.length:Int))=true:=decide_eq_true (by omega)
          have hlsN:decide (s<lt.length)=true:=decide_eq_true hls
          have hd:decI nb fr fa rt sl l=([],(s:Int),61):=by
           rw [HDI3.out,endS,if_pos hls]
           rfl
          have HD:=ak hd
          clear hd hls
          go_wp2
          go_quiet (fail)
          have HR5:=HR.out.below (w1:=wr.drewN nq) (pw_below_drewN (Below.refl _ _) nq)
          have HB5:=pw_below_drewN HB.out nq
          have HR35:=HR3.out.below (w1:=wr.drewN nq) (pw_below_drewN (Below.refl _ _) nq)
          clear d0 d1 d2 e0 e1 e2
          revert HR5 HB5 HR35
          generalize wr.drewN nq=W5
          intro HR5 HB5 HR35
          obtain⟨A9,cap9,hv9,hc9,hC9⟩:=HR5.row
          obtain⟨d0,d1,d2,e0,e1,e2⟩:=cells3 hv9
          have HRX:=ak (show Res3 W5.drew w.heap.size (.slice A55 n55 c55) 0 0 from HR35)
          have HBX:=ak (below_drew HB5)
          clear hv9 hc9 hC9 HR5 HB5 HR35
          go_wp2
          refine panq_n ?_
          refine start_ (n:=9) (S:=fun w'=>w'.cell? ⟨w2.heap.size+1,1,none⟩=some (.int .i64 (s:Int))) (ds:=[]) (upD 9 0) (by kernel_rfl) rfl (by kernel_rfl) (show W5.drew.cell? ⟨w2.heap.size+1,1,none⟩=_ from d1) (fun hHeld=>?_)
          refine pu_ (hQ:=panq_put (by decide)) 0 93 ?_
          refine pu_ (hQ:=panq_put (by decide)) 1 94 ?_
          refine pu_ (hQ:=panq_put (by decide)) 2 95 ?_
          refine pu_ (hQ:=panq_put (by decide)) 3 96 ?_
          refine pu_ (hQ:=panq_put (by decide)) 4 97 ?_
          refine pu_ (hQ:=panq_put (by decide)) 5 98 ?_
          refine pu_ (hQ:=panq_put (by decide)) 6 99 ?_
          refine ta_ (hQ:=panq_put (by decide)) 7 100 ?_
          refine on_ 8 (some 101) fun K hK=>?_
          refine callP_ Tryz.func30 (by kernel_rfl) rfl #[.pointer (some ⟨w2.heap.size+1,0,none⟩),.int .i64 (s:Int),.int .i64 61] (by rfl) rfl rfl (by (try simp only [List.map_toArray,List.map_cons,List.map_nil]);first | done | rfl) ?_
          refine(source_fail _ _ _ _).mono ?_
          rintro e w9 ⟨rfl,rfl⟩
          refine .inr ⟨_,rfl, ?_⟩
          intro a' hd9 h29 h39 h49
          show Leaves Tryz.prog Tryz.f13 a'.tmps _ a'.defers (.panicking _) _
          rw [hd9]
          refine dec_panic (g:=w.heap.size) (h29.trans rfl) (h39.trans rfl) (h49.trans rfl) HRX.out (fun w'=>by simp [go_sem]) ?_
          intro w' hr9 hb9
          exact⟨.slice none 0 0,by rw [HD.out],by rw [HD.out];exact Kd.R_nil _ _ _ _ _,(HBX.out).trans hb9⟩
         ·have hls':decide ((s:Int)<(lt.length:Int))=false:=decide_eq_false (by omega)
          have hlsN:decide (s<lt.length)=false:=decide_eq_false hls
          have hd:decI nb fr fa rt sl l=(acc,0,0):=by
           rw [HDI3.out,endS,if_neg hls]
           rfl
          have HD:=ak hd
          clear hd hls
          go_wp2
          go_quiet (fail)
          have HB5:=pw_below_drewN HB.out nq
          have HR35:=HR3.out.below (w1:=wr.drewN nq) (pw_below_drewN (Below.refl _ _) nq)
          have HG5:=Kd.R_drewN HG.out nq
          clear d0 d1 d2 e0 e1 e2
          revert HB5 HR35 HG5
          generalize wr.drewN nq=W5
          intro HB5 HR35 HG5
          have r0:W5.cell? ⟨w.heap.size,0,none⟩=some (.slice A55 n55 c55):=cell_of_one HR35.1
          have r1:W5.cell? ⟨w.heap.size+1,0,none⟩=some (.int .i64 0):=cell_of_one HR35.2.1
          have r2:W5.cell? ⟨w.heap.size+1+1,0,none⟩=some (.int .i64 0):=cell_of_one HR35.2.2
          have f0:W5.frozen? ⟨w.heap.size,0,none⟩=false:=free_of_one HR35.1
          have f1:W5.frozen? ⟨w.heap.size+1,0,none⟩=false:=free_of_one HR35.2.1
          have f2:W5.frozen? ⟨w.heap.size+1+1,0,none⟩=false:=free_of_one HR35.2.2
          have HR6:=ak (((HR35.set0 (.slice A55 n55 c55)).set1 0).set2 0)
          have HB6:=ak (((HB5.setCell (p:=⟨w.heap.size,0,none⟩) (Nat.le_refl _) (.slice A55 n55 c55)).setCell (p:=⟨w.heap.size+1,0,none⟩) (Nat.le_succ _) (.int .i64 0)).setCell (p:=⟨w.heap.size+1+1,0,none⟩) (by show w.heap.size≤w.heap.size+1+1;omega) (.int .i64 0))
          have HK6:=((((Kept.refl W5 (fun k=>k≤w.heap.size+2)).setCell (p:=⟨w.heap.size,0,none⟩) (.inl (Nat.le_add_right _ _)) (.slice A55 n55 c55)).setCell (p:=⟨w.heap.size+1,0,none⟩) (.inl (Nat.le_succ _)) (.int .i64 0)).setCell (p:=⟨w.heap.size+1+1,0,none⟩) (.inl (Nat.le_refl _)) (.int .i64 0))
          have HG6:=ak (Kd.R_lower (R_stay HG5 HK6 (fun k hk=>by have:=HPB.out;omega)) HWB.out)
          clear HB5 HR35 HG5 HK6
          go_wp2
          refine leaves_cons (f:=28) (args:=#[.pointer (some ⟨w.heap.size,0,none⟩),.pointer (some ⟨w.heap.size+1,0,none⟩),.pointer (some ⟨w.heap.size+2,0,none⟩)]) (by simp) (by simp [go_sem]) ?_
          refine(decode_idle w.heap.size _).mono ?_
          rintro e u' w'' ⟨rfl,rfl,rfl⟩
          exact⟨_,res3_out HR6.out _ _ _,.slice A55 n55 c55,by rw [HD.out],by rw [HD.out];exact HG6.out,HB6.out⟩
     ·obtain⟨s0,s1,s2,_⟩:=cells3 (blk_kept hq HK.out (by omega))
      have hlc:=(rfl:(0:Int)=0)
      rcases(show j=0∨j=1∨j=2 by omega) with rfl | rfl | rfl
      ·
       by_cases hm:rd lt 0=72
       ·clear hlc
        go_wp2
        refine only_n ?_
        refine start_ (n:=11) (S:=fun w'=>Below w.heap.size w w') (ds:=[]) (upD 11 0) (by kernel_rfl) rfl (by kernel_rfl) (below_drew HB.out) (fun hHeld=>?_)
        have HRD:=ak (show RSt w wr.drew (w2.heap.size+1) lt 0 w2.heap.size from HR.out.below (below_drew (Below.refl _ _)))
        refine pu_ 0 47 ?_
        refine pu_ 1 48 ?_
        refine pu_ 2 49 ?_
        refine pu_ 3 50 ?_
        refine pu_ 4 51 ?_
        refine pu_ 5 52 ?_
        refine pu_ 6 53 ?_
        refine pu_ 9 56 ?_
        obtain⟨A9,cap9,hv9,hc9,hC9⟩:=HRD.out.row
        have hat9:=(cells3 hv9).2.1
        clear hv9 hc9 hC9
        refine on_ 7 (some 54) fun K hK=>?_
        rw [if_pos (by rfl)]
        go_simp
        have hHeld_:=hHeld
        refine hK.out _ _ hHeld_ (fun hHeld=>?_)
        clear hK K hHeld_ hat9
        refine on_ 8 (some 55) fun K hK=>?_
        refine goes_ Tryz.func29 (by kernel_rfl) rfl #[.pointer (some ⟨w2.heap.size+1,0,none⟩),.int .i64 0] (by rfl) rfl rfl (by (try simp only [List.map_toArray,List.map_cons,List.map_nil]);first | done | rfl) ?_
        with_reducible refine(source_byte w (w2.heap.size+1) lt 0 w2.heap.size 0 _ hHeld HRD.out (by have:=HLL.out;omega)).mono ?_
        rintro e w4 ⟨rfl,hr4,hb4,hk4⟩
        refine⟨_,rfl, ?_⟩
        rw [show rd lt ((0:Nat):Int)=72 from hm]
        have HR4:=ak hr4
        have HB4:=ak hb4
        have HK4:=ak (HK.out.then_ (show Kept wr w4 _ from hk4) (fun _ h=>.inl h))
        clear hr4 hk4
        have hHeld_:=hHeld
        refine hK.out _ _ hb4 (fun hHeld=>?_)
        clear hK K hHeld_
        refine no_ 55 ?_
        refine pu_ 10 57 ?_
        refine done_ (by kernel_rfl) ?_
        refine only_of ?_
        clear hHeld HB HR HRD HK
        go_wp2
        go_roundg (gk-1)
        case measure=>omega
        case rel=>exact⟨1,rfl,by omega,HR4,HB4,HK4,⟨fun _=>hm,fun h=>absurd h (by omega),fun h=>absurd h (by omega)⟩⟩
       ·clear hlc
        have hmb:(rd lt 0 != 72)=true:=by simp [hm]
        have hd:decI nb fr fa rt sl l=([],0,61):=by
         rw [HDI.out,bodyS,show headB lt=some 0 from by rw [headB,if_pos hm]]
         rfl
        have HD:=ak hd
        clear hd hm
        go_wp2
        refine only_n ?_
        refine start_ (n:=11) (S:=fun w'=>Below w.heap.size w w') (ds:=[]) (upD 11 0) (by kernel_rfl) rfl (by kernel_rfl) (below_drew HB.out) (fun hHeld=>?_)
        have HRD:=ak (show RSt w wr.drew (w2.heap.size+1) lt 0 w2.heap.size from HR.out.below (below_drew (Below.refl _ _)))
        refine pu_ 0 47 ?_
        refine pu_ 1 48 ?_
        refine pu_ 2 49 ?_
        refine pu_ 3 50 ?_
        refine pu_ 4 51 ?_
        refine pu_ 5 52 ?_
        refine pu_ 6 53 ?_
        refine pu_ 9 56 ?_
        obtain⟨A9,cap9,hv9,hc9,hC9⟩:=HRD.out.row
        have hat9:=(cells3 hv9).2.1
        clear hv9 hc9 hC9
        refine on_ 7 (some 54) fun K hK=>?_
        rw [if_pos (by rfl)]
        go_simp
        have hHeld_:=hHeld
        refine hK.out _ _ hHeld_ (fun hHeld=>?_)
        clear hK K hHeld_ hat9
        refine on_ 8 (some 55) fun K hK=>?_
        refine goes_ Tryz.func29 (by kernel_rfl) rfl #[.pointer (some ⟨w2.heap.size+1,0,none⟩),.int .i64 0] (by rfl) rfl rfl (by (try simp only [List.map_toArray,List.map_cons,List.map_nil]);first | done | rfl) ?_
        with_reducible refine(source_byte w (w2.heap.size+1) lt 0 w2.heap.size 0 _ hHeld HRD.out (by have:=HLL.out;omega)).mono ?_
        rintro e w4 ⟨rfl,hr4,hb4,hk4⟩
        refine⟨_,rfl, ?_⟩
        rw [show rd lt ((0:Nat):Int)=rd lt 0 from rfl]
        have HR4:=ak hr4
        have HB4:=ak hb4
        have HK4:=ak (HK.out.then_ (show Kept wr w4 _ from hk4) (fun _ h=>.inl h))
        clear hr4 hk4
        have hHeld_:=hHeld
        refine hK.out _ _ hb4 (fun hHeld=>?_)
        clear hK K hHeld_
        refine no_ 55 ?_
        refine pu_ 10 57 ?_
        refine done_ (by kernel_rfl) ?_
        refine only_of ?_
        clear hHeld HB HR HRD HK
        go_wp2
        obtain⟨A9,cap9,hv9,hc9,hC9⟩:=HR4.out.row
        obtain⟨d0,d1,d2,e0,e1,e2⟩:=cells3 hv9
        clear hv9 hc9 hC9
        have HRX:=ak (show Res3 w4.drew w.heap.size (.slice none 0 0) 0 0 from(HRes.out.kept HK4.out (by have:=HSW.out;omega)))
        have HBX:=ak (below_drew HB4.out)
        refine panq_n ?_
        refine start_ (n:=10) (S:=fun w'=>w'.cell? ⟨w2.heap.size+1,1,none⟩=some (.int .i64 1)) (ds:=[]) (upD 10 0) (by kernel_rfl) rfl (by kernel_rfl) (show w4.drew.cell? ⟨w2.heap.size+1,1,none⟩=_ from d1) (fun hHeld=>?_)
        refine pu_ (hQ:=panq_put (by decide)) 0 58 ?_
        refine pu_ (hQ:=panq_put (by decide)) 1 59 ?_
        refine pu_ (hQ:=panq_put (by decide)) 2 60 ?_
        refine pu_ (hQ:=panq_put (by decide)) 3 61 ?_
        refine pu_ (hQ:=panq_put (by decide)) 4 62 ?_
        refine pu_ (hQ:=panq_put (by decide)) 5 63 ?_
        refine pu_ (hQ:=panq_put (by decide)) 6 64 ?_
        refine ta_ (hQ:=panq_put (by decide)) 7 65 ?_
        refine pu_ (hQ:=panq_put (by decide)) 8 66 ?_
        refine on_ 9 (some 67) fun K hK=>?_
        refine callP_ Tryz.func30 (by kernel_rfl) rfl #[.pointer (some ⟨w2.heap.size+1,0,none⟩),.int .i64 0,.int .i64 61] (by rfl) rfl rfl (by (try simp only [List.map_toArray,List.map_cons,List.map_nil]);first | done | rfl) ?_
        refine(source_fail _ _ _ _).mono ?_
        rintro e w9 ⟨rfl,rfl⟩
        refine .inr ⟨_,rfl, ?_⟩
        intro a' hd9 h29 h39 h49
        show Leaves Tryz.prog Tryz.f13 a'.tmps _ a'.defers (.panicking _) _
        rw [hd9]
        refine dec_panic (g:=w.heap.size) (h29.trans rfl) (h39.trans rfl) (h49.trans rfl) HRX.out (fun w'=>by simp [go_sem]) ?_
        intro w' hr9 hb9
        exact⟨.slice none 0 0,by rw [HD.out],by rw [HD.out];exact Kd.R_nil _ _ _ _ _,(HBX.out).trans hb9⟩
      ·
       by_cases hm:rd lt 1=67
       ·clear hlc
        go_wp2
        refine only_n ?_
        refine start_ (n:=11) (S:=fun w'=>Below w.heap.size w w') (ds:=[]) (upD 11 0) (by kernel_rfl) rfl (by kernel_rfl) (below_drew HB.out) (fun hHeld=>?_)
        have HRD:=ak (show RSt w wr.drew (w2.heap.size+1) lt 1 w2.heap.size from HR.out.below (below_drew (Below.refl _ _)))
        refine pu_ 0 47 ?_
        refine pu_ 1 48 ?_
        refine pu_ 2 49 ?_
        refine pu_ 3 50 ?_
        refine pu_ 4 51 ?_
        refine pu_ 5 52 ?_
        refine pu_ 6 53 ?_
        refine pu_ 9 56 ?_
        obtain⟨A9,cap9,hv9,hc9,hC9⟩:=HRD.out.row
        have hat9:=(cells3 hv9).2.1
        clear hv9 hc9 hC9
        refine on_ 7 (some 54) fun K hK=>?_
        rw [if_pos (by rfl)]
        go_simp
        have hHeld_:=hHeld
        refine hK.out _ _ hHeld_ (fun hHeld=>?_)
        clear hK K hHeld_ hat9
        refine on_ 8 (some 55) fun K hK=>?_
        refine goes_ Tryz.func29 (by kernel_rfl) rfl #[.pointer (some ⟨w2.heap.size+1,0,none⟩),.int .i64 1] (by rfl) rfl rfl (by (try simp only [List.map_toArray,List.map_cons,List.map_nil]);first | done | rfl) ?_
        with_reducible refine(source_byte w (w2.heap.size+1) lt 1 w2.heap.size 1 _ hHeld HRD.out (by have:=HLL.out;omega)).mono ?_
        rintro e w4 ⟨rfl,hr4,hb4,hk4⟩
        refine⟨_,rfl, ?_⟩
        rw [show rd lt ((1:Nat):Int)=67 from hm]
        have HR4:=ak hr4
        have HB4:=ak hb4
        have HK4:=ak (HK.out.then_ (show Kept wr w4 _ from hk4) (fun _ h=>.inl h))
        clear hr4 hk4
        have hHeld_:=hHeld
        refine hK.out _ _ hb4 (fun hHeld=>?_)
        clear hK K hHeld_
        refine no_ 55 ?_
        refine pu_ 10 57 ?_
        refine done_ (by kernel_rfl) ?_
        refine only_of ?_
        clear hHeld HB HR HRD HK
        go_wp2
        go_roundg (gk-1)
        case measure=>omega
        case rel=>exact⟨2,rfl,by omega,HR4,HB4,HK4,⟨fun _=>HHD.out.1 (by omega),fun _=>hm,fun h=>absurd h (by omega)⟩⟩
       ·clear hlc
        have hmb:(rd lt 1 != 67)=true:=by simp [hm]
        have hd:decI nb fr fa rt sl l=([],1,61):=by
         rw [HDI.out,bodyS,show headB lt=some 1 from by rw [headB,if_neg (fun h=>h (HHD.out.1 (by omega))),if_pos hm]]
         rfl
        have HD:=ak hd
        clear hd hm
        go_wp2
        refine only_n ?_
        refine start_ (n:=11) (S:=fun w'=>Below w.heap.size w w') (ds:=[]) (upD 11 0) (by kernel_rfl) rfl (by kernel_rfl) (below_drew HB.out) (fun hHeld=>?_)
        have HRD:=ak (show RSt w wr.drew (w2.heap.size+1) lt 1 w2.heap.size from HR.out.below (below_drew (Below.refl _ _)))
        refine pu_ 0 47 ?_
        refine pu_ 1 48 ?_
        refine pu_ 2 49 ?_
        refine pu_ 3 50 ?_
        refine pu_ 4 51 ?_
        refine pu_ 5 52 ?_
        refine pu_ 6 53 ?_
        refine pu_ 9 56 ?_
        obtain⟨A9,cap9,hv9,hc9,hC9⟩:=HRD.out.row
        have hat9:=(cells3 hv9).2.1
        clear hv9 hc9 hC9
        refine on_ 7 (some 54) fun K hK=>?_
        rw [if_pos (by rfl)]
        go_simp
        have hHeld_:=hHeld
        refine hK.out _ _ hHeld_ (fun hHeld=>?_)
        clear hK K hHeld_ hat9
        refine on_ 8 (some 55) fun K hK=>?_
        refine goes_ Tryz.func29 (by kernel_rfl) rfl #[.pointer (some ⟨w2.heap.size+1,0,none⟩),.int .i64 1] (by rfl) rfl rfl (by (try simp only [List.map_toArray,List.map_cons,List.map_nil]);first | done | rfl) ?_
        with_reducible refine(source_byte w (w2.heap.size+1) lt 1 w2.heap.size 1 _ hHeld HRD.out (by have:=HLL.out;omega)).mono ?_
        rintro e w4 ⟨rfl,hr4,hb4,hk4⟩
        refine⟨_,rfl, ?_⟩
        rw [show rd lt ((1:Nat):Int)=rd lt 1 from rfl]
        have HR4:=ak hr4
        have HB4:=ak hb4
        have HK4:=ak (HK.out.then_ (show Kept wr w4 _ from hk4) (fun _ h=>.inl h))
        clear hr4 hk4
        have hHeld_:=hHeld
        refine hK.out _ _ hb4 (fun hHeld=>?_)
        clear hK K hHeld_
        refine no_ 55 ?_
        refine pu_ 10 57 ?_
        refine done_ (by kernel_rfl) ?_
        refine only_of ?_
        clear hHeld HB HR HRD HK
        go_wp2
        obtain⟨A9,cap9,hv9,hc9,hC9⟩:=HR4.out.row
        obtain⟨d0,d1,d2,e0,e1,e2⟩:=cells3 hv9
        clear hv9 hc9 hC9
        have HRX:=ak (show Res3 w4.drew w.heap.size (.slice none 0 0) 0 0 from(HRes.out.kept HK4.out (by have:=HSW.out;omega)))
        have HBX:=ak (below_drew HB4.out)
        refine panq_n ?_
        refine start_ (n:=10) (S:=fun w'=>w'.cell? ⟨w2.heap.size+1,1,none⟩=some (.int .i64 2)) (ds:=[]) (upD 10 0) (by kernel_rfl) rfl (by kernel_rfl) (show w4.drew.cell? ⟨w2.heap.size+1,1,none⟩=_ from d1) (fun hHeld=>?_)
        refine pu_ (hQ:=panq_put (by decide)) 0 58 ?_
        refine pu_ (hQ:=panq_put (by decide)) 1 59 ?_
        refine pu_ (hQ:=panq_put (by decide)) 2 60 ?_
        refine pu_ (hQ:=panq_put (by decide)) 3 61 ?_
        refine pu_ (hQ:=panq_put (by decide)) 4 62 ?_
        refine pu_ (hQ:=panq_put (by decide)) 5 63 ?_
        refine pu_ (hQ:=panq_put (by decide)) 6 64 ?_
        refine ta_ (hQ:=panq_put (by decide)) 7 65 ?_
        refine pu_ (hQ:=panq_put (by decide)) 8 66 ?_
        refine on_ 9 (some 67) fun K hK=>?_
        refine callP_ Tryz.func30 (by kernel_rfl) rfl #[.pointer (some ⟨w2.heap.size+1,0,none⟩),.int .i64 1,.int .i64 61] (by rfl) rfl rfl (by (try simp only [List.map_toArray,List.map_cons,List.map_nil]);first | done | rfl) ?_
        refine(source_fail _ _ _ _).mono ?_
        rintro e w9 ⟨rfl,rfl⟩
        refine .inr ⟨_,rfl, ?_⟩
        intro a' hd9 h29 h39 h49
        show Leaves Tryz.prog Tryz.f13 a'.tmps _ a'.defers (.panicking _) _
        rw [hd9]
        refine dec_panic (g:=w.heap.size) (h29.trans rfl) (h39.trans rfl) (h49.trans rfl) HRX.out (fun w'=>by simp [go_sem]) ?_
        intro w' hr9 hb9
        exact⟨.slice none 0 0,by rw [HD.out],by rw [HD.out];exact Kd.R_nil _ _ _ _ _,(HBX.out).trans hb9⟩
      ·
       by_cases hm:rd lt 2=1
       ·clear hlc
        go_wp2
        refine only_n ?_
        refine start_ (n:=11) (S:=fun w'=>Below w.heap.size w w') (ds:=[]) (upD 11 0) (by kernel_rfl) rfl (by kernel_rfl) (below_drew HB.out) (fun hHeld=>?_)
        have HRD:=ak (show RSt w wr.drew (w2.heap.size+1) lt 2 w2.heap.size from HR.out.below (below_drew (Below.refl _ _)))
        refine pu_ 0 47 ?_
        refine pu_ 1 48 ?_
        refine pu_ 2 49 ?_
        refine pu_ 3 50 ?_
        refine pu_ 4 51 ?_
        refine pu_ 5 52 ?_
        refine pu_ 6 53 ?_
        refine pu_ 9 56 ?_
        obtain⟨A9,cap9,hv9,hc9,hC9⟩:=HRD.out.row
        have hat9:=(cells3 hv9).2.1
        clear hv9 hc9 hC9
        refine on_ 7 (some 54) fun K hK=>?_
        rw [if_pos (by rfl)]
        go_simp
        have hHeld_:=hHeld
        refine hK.out _ _ hHeld_ (fun hHeld=>?_)
        clear hK K hHeld_ hat9
        refine on_ 8 (some 55) fun K hK=>?_
        refine goes_ Tryz.func29 (by kernel_rfl) rfl #[.pointer (some ⟨w2.heap.size+1,0,none⟩),.int .i64 2] (by rfl) rfl rfl (by (try simp only [List.map_toArray,List.map_cons,List.map_nil]);first | done | rfl) ?_
        with_reducible refine(source_byte w (w2.heap.size+1) lt 2 w2.heap.size 2 _ hHeld HRD.out (by have:=HLL.out;omega)).mono ?_
        rintro e w4 ⟨rfl,hr4,hb4,hk4⟩
        refine⟨_,rfl, ?_⟩
        rw [show rd lt ((2:Nat):Int)=1 from hm]
        have HR4:=ak hr4
        have HB4:=ak hb4
        have HK4:=ak (HK.out.then_ (show Kept wr w4 _ from hk4) (fun _ h=>.inl h))
        clear hr4 hk4
        have hHeld_:=hHeld
        refine hK.out _ _ hb4 (fun hHeld=>?_)
        clear hK K hHeld_
        refine no_ 55 ?_
        refine pu_ 10 57 ?_
        refine done_ (by kernel_rfl) ?_
        refine only_of ?_
        clear hHeld HB HR HRD HK
        go_wp2
        go_roundg (gk-1)
        case measure=>omega
        case rel=>exact⟨3,rfl,by omega,HR4,HB4,HK4,⟨fun _=>HHD.out.1 (by omega),fun _=>HHD.out.2.1 (by omega),fun _=>hm⟩⟩
       ·clear hlc
        have hmb:(rd lt 2 != 1)=true:=by simp [hm]
        have hd:decI nb fr fa rt sl l=([],2,61):=by
         rw [HDI.out,bodyS,show headB lt=some 2 from by rw [headB,if_neg (fun h=>h (HHD.out.1 (by omega))),if_neg (fun h=>h (HHD.out.2.1 (by omega))),if_pos hm]]
         rfl
        have HD:=ak hd
        clear hd hm
        go_wp2
        refine only_n ?_
        refine start_ (n:=11) (S:=fun w'=>Below w.heap.size w w') (ds:=[]) (upD 11 0) (by kernel_rfl) rfl (by kernel_rfl) (below_drew HB.out) (fun hHeld=>?_)
        have HRD:=ak (show RSt w wr.drew (w2.heap.size+1) lt 2 w2.heap.size from HR.out.below (below_drew (Below.refl _ _)))
        refine pu_ 0 47 ?_
        refine pu_ 1 48 ?_
        refine pu_ 2 49 ?_
        refine pu_ 3 50 ?_
        refine pu_ 4 51 ?_
        refine pu_ 5 52 ?_
        refine pu_ 6 53 ?_
        refine pu_ 9 56 ?_
        obtain⟨A9,cap9,hv9,hc9,hC9⟩:=HRD.out.row
        have hat9:=(cells3 hv9).2.1
        clear hv9 hc9 hC9
        refine on_ 7 (some 54) fun K hK=>?_
        rw [if_pos (by rfl)]
        go_simp
        have hHeld_:=hHeld
        refine hK.out _ _ hHeld_ (fun hHeld=>?_)
        clear hK K hHeld_ hat9
        refine on_ 8 (some 55) fun K hK=>?_
        refine goes_ Tryz.func29 (by kernel_rfl) rfl #[.pointer (some ⟨w2.heap.size+1,0,none⟩),.int .i64 2] (by rfl) rfl rfl (by (try simp only [List.map_toArray,List.map_cons,List.map_nil]);first | done | rfl) ?_
        with_reducible refine(source_byte w (w2.heap.size+1) lt 2 w2.heap.size 2 _ hHeld HRD.out (by have:=HLL.out;omega)).mono ?_
        rintro e w4 ⟨rfl,hr4,hb4,hk4⟩
        refine⟨_,rfl, ?_⟩
        rw [show rd lt ((2:Nat):Int)=rd lt 2 from rfl]
        have HR4:=ak hr4
        have HB4:=ak hb4
        have HK4:=ak (HK.out.then_ (show Kept wr w4 _ from hk4) (fun _ h=>.inl h))
        clear hr4 hk4
        have hHeld_:=hHeld
        refine hK.out _ _ hb4 (fun hHeld=>?_)
        clear hK K hHeld_
        refine no_ 55 ?_
        refine pu_ 10 57 ?_
        refine done_ (by kernel_rfl) ?_
        refine only_of ?_
        clear hHeld HB HR HRD HK
        go_wp2
        obtain⟨A9,cap9,hv9,hc9,hC9⟩:=HR4.out.row
        obtain⟨d0,d1,d2,e0,e1,e2⟩:=cells3 hv9
        clear hv9 hc9 hC9
        have HRX:=ak (show Res3 w4.drew w.heap.size (.slice none 0 0) 0 0 from(HRes.out.kept HK4.out (by have:=HSW.out;omega)))
        have HBX:=ak (below_drew HB4.out)
        refine panq_n ?_
        refine start_ (n:=10) (S:=fun w'=>w'.cell? ⟨w2.heap.size+1,1,none⟩=some (.int .i64 3)) (ds:=[]) (upD 10 0) (by kernel_rfl) rfl (by kernel_rfl) (show w4.drew.cell? ⟨w2.heap.size+1,1,none⟩=_ from d1) (fun hHeld=>?_)
        refine pu_ (hQ:=panq_put (by decide)) 0 58 ?_
        refine pu_ (hQ:=panq_put (by decide)) 1 59 ?_
        refine pu_ (hQ:=panq_put (by decide)) 2 60 ?_
        refine pu_ (hQ:=panq_put (by decide)) 3 61 ?_
        refine pu_ (hQ:=panq_put (by decide)) 4 62 ?_
        refine pu_ (hQ:=panq_put (by decide)) 5 63 ?_
        refine pu_ (hQ:=panq_put (by decide)) 6 64 ?_
        refine ta_ (hQ:=panq_put (by decide)) 7 65 ?_
        refine pu_ (hQ:=panq_put (by decide)) 8 66 ?_
        refine on_ 9 (some 67) fun K hK=>?_
        refine callP_ Tryz.func30 (by kernel_rfl) rfl #[.pointer (some ⟨w2.heap.size+1,0,none⟩),.int .i64 2,.int .i64 61] (by rfl) rfl rfl (by (try simp only [List.map_toArray,List.map_cons,List.map_nil]);first | done | rfl) ?_
        refine(source_fail _ _ _ _).mono ?_
        rintro e w9 ⟨rfl,rfl⟩
        refine .inr ⟨_,rfl, ?_⟩
        intro a' hd9 h29 h39 h49
        show Leaves Tryz.prog Tryz.f13 a'.tmps _ a'.defers (.panicking _) _
        rw [hd9]
        refine dec_panic (g:=w.heap.size) (h29.trans rfl) (h39.trans rfl) (h49.trans rfl) HRX.out (fun w'=>by simp [go_sem]) ?_
        intro w' hr9 hb9
        exact⟨.slice none 0 0,by rw [HD.out],by rw [HD.out];exact Kd.R_nil _ _ _ _ _,(HBX.out).trans hb9⟩
   ·have hne:((strOfNums (sl lt)).toList==(strOfNums l).toList)=false:=strNums_ne hso ho h3
    refine only_n ?_
    refine start_ (n:=10) (S:=fun w'=>Below W0.heap.size W0 w') (ds:=[]) (upD 10 0) (by kernel_rfl) rfl (by kernel_rfl) (below_drew (Below.refl _ _)) (fun hHeld=>?_)
    refine pu_ 0 21 ?_
    refine pu_ 1 22 ?_
    refine pu_ 6 27 ?_
    refine take_ (i:=7) (N:=some 28) (v:=?_) (a':=?_) #[true,true,false,false,false,false,true,true,false,false] rfl rfl (by kernel_rfl) (fun _ _ _ h=>h) (Or.inl ⟨by rfl, ?_⟩) hHeld ?_ ?_
    (rotate_left;(intro w' s0;have hs1:=hst w' s0;go_simp;with_reducible rfl);rotate_left;(simp only [Act.put,List.setIfInBounds_toArray,List.set_cons_zero,List.set_cons_succ];rfl))
    refine pu_ 2 23 ?_
    refine on_ 3 (some 24) fun K hK=>?_
    refine Kd.R_append_rows_step (Kd.int .u8) (w0:=W0) W0.heap.size (by rfl) (.const (.slice none 0 0)) (.tmp 23) 23 5 (.int .u8 0) 1 rfl Tryz.underlying23 uint8_info rfl (by decide) (by decide) (.slice none 0 0) [] lt A0 lt.length c0 (fun _=>True) (fun _=>False) rfl rfl (Kd.R_nil _ _ _ _ _) (HCT.out _ hHeld) (fun _ _ h=>h) (fun _ hk=>hk.elim) (fun _ _=>trivial) hHeld hHeld.size HLT.out ?_
    intro v1 w1 hr1 hb1 hg1 hat1
    have HR1:=ak hr1
    clear hr1 hat1
    have hHeld_:=hHeld
    refine hK.out _ _ hb1 (fun hHeld=>?_)
    clear hK K hHeld_
    refine no_ 24 ?_
    refine on_ 4 (some 25) fun K hK=>?_
    refine goes_ Tryz.func22 (by kernel_rfl) rfl #[v1] (by rfl) rfl rfl (by (try simp only [List.map_toArray,List.map_cons,List.map_nil]);first | done | rfl) ?_
    with_reducible refine(hsl v1 lt W0 _ hHeld (by simpa using HR1.out) hps).mono ?_
    rintro e w2 ⟨v2,rfl,hr2,hb2⟩
    refine⟨_,rfl, ?_⟩
    obtain⟨A2,n2,c2,rfl⟩:=slice3 hr2
    have hcv:=Kd.C_string Tryz.underlying23 Tryz.underlying5 Tryz.underlying9 (c:=c2) (Kd.R_reads' hr2).2.2
    rw [←(Kd.R_reads' hr2).1] at hcv
    clear hr2
    have HB2_:=ak hb2
    have hHeld_:=hHeld
    refine hK.out _ _ hb2 (fun hHeld=>?_)
    clear hK K hHeld_
    refine no_ 25 ?_
    refine on_ 5 (some 26) fun K hK=>?_
    rw [if_pos (by rfl)]
    go_simp
    have hHeld_:=hHeld
    refine hK.out _ _ hHeld_ (fun hHeld=>?_)
    clear hK K hHeld_ hcv
    refine pu_ 8 29 ?_
    refine pu_ 9 20 ?_
    refine done_ (by kernel_rfl) ?_
    refine only_of ?_
    have HR2:=ak (HR0.out.below hHeld)
    have c0:w2.cell? ⟨w.heap.size,0,none⟩=some (.slice none 0 0):=cell_of_one HR2.out.1
    have c1:w2.cell? ⟨w.heap.size+1,0,none⟩=some (.int .i64 0):=cell_of_one HR2.out.2.1
    have c2:w2.cell? ⟨w.heap.size+1+1,0,none⟩=some (.int .i64 0):=cell_of_one HR2.out.2.2
    have f0:w2.frozen? ⟨w.heap.size,0,none⟩=false:=free_of_one HR2.out.1
    have f1:w2.frozen? ⟨w.heap.size+1,0,none⟩=false:=free_of_one HR2.out.2.1
    have f2:w2.frozen? ⟨w.heap.size+1+1,0,none⟩=false:=free_of_one HR2.out.2.2
    have HHeld:=ak hHeld
    have hd:decI nb fr fa rt sl l=([],(l.length:Int)-4,271):=by
     rw [decI,if_neg h1,if_neg h2,←HLT2.out,if_pos h3,show((l.length-4:Nat):Int)=(l.length:Int)-4 by omega]
    have HD:=ak hd
    clear hHeld hd
    go_wp2
    exact⟨_,res3_out (((HR2.out.set0 (.slice none 0 0)).set1 _).set2 271) _ _ _,.slice none 0 0,by rw [HD.out],by rw [HD.out];exact Kd.R_nil _ _ _ _ _,(((below_step HB0.out HHeld.out).setCell (p:=⟨w.heap.size,0,none⟩) (Nat.le_refl _) _).setCell (p:=⟨w.heap.size+1,0,none⟩) (Nat.le_succ _) _).setCell (p:=⟨w.heap.size+1+1,0,none⟩) (by show w.heap.size≤w.heap.size+1+1;omega) _⟩
abbrev E26:=S51
def toE(x:En):E26:=⟨x.f0,x.f1,x.f2⟩
def ofE(x:E26):En:=⟨x.f0,x.f1,x.f2⟩
def bigJ(l:List Int)(e:Nat):Nat→Int
 | 0=>0
 | j+1=>bigJ l e j * 256+rd l ((e:Int)+(j:Int))
theorem bigJ_lt{l:List Int}{e:Nat}(ho:∀x∈l,0≤x∧x<256):∀j,0≤bigJ l e j∧bigJ l e j<((256 ^ j:Nat):Int)
 | 0=>by
  show(0:Int)≤0∧(0:Int)<((256 ^ 0:Nat):Int)
  decide
 | j+1=>by
  have h1:=bigJ_lt (l:=l) (e:=e) ho j
  have h2:=rd_oct ho ((e:Int)+(j:Int))
  have h3:(256 ^ (j+1):Nat)=256 ^ j * 256:=Nat.pow_succ 256 j
  rw [bigJ,h3]
  omega
def outR:Except (Int×Int) (List En)→List E26×Int×Int
 | .error e=>([],e.1,e.2)
 | .ok l=>(l.map toE,0,0)
def rdecI(nb:ByteArray→Bool)(fr fa:List Cl→Bool)(rt:Tm→Int)(sm:List Int→Int)(l:List Int):List E26×Int×Int :=
 if 1048576<l.length then([],0,3) else if l.length<8 then([],0,61) else if bigJ l (l.length-4) 4≠sm (l.take (l.length-4)) then([],((l.length-4:Nat):Int),271)
 else outR (bodyS nb fr fa rt (l.take (l.length-4)))
def DecP(w:World)(D:List E26×Int×Int)(e:Ending)(w':World):Prop:=∃v,e=.returned (.tuple #[v,.int .i64 D.2.1,.int .i64 D.2.2])∧Kd.R k51 51 w' w.heap.size (fun _=>True) v D.1∧Below w.heap.size w w'
theorem DecP.no{w w':World}{D:List E26×Int×Int}{a c:Int}(hD:D=([],a,c))(hb:Below w.heap.size w w'):DecP w D (.returned (.tuple #[.slice none 0 0,.int .i64 a,.int .i64 c])) w':=by
 subst hD
 exact⟨_,rfl,Kd.R_nil _ _ _ _ _,hb⟩
theorem rd_take{l:List Int}{n:Nat}{i:Int}(h0:0≤i)(h:i<n)(hl:n≤l.length):rd (l.take n) i=rd l i:=by
 unfold rd
 rw [List.getD_eq_getElem?_getD,List.getD_eq_getElem?_getD,List.getElem?_take_of_lt (by omega)]
section
variable (nb:ByteArray→Bool)(fr fa:List Cl→Bool)(rt:Tm→Int)(bs:List Int)
def bodyN:Except (Int×Int) (Nat×Nat)→Except (Int×Int) (List En)
 | .error e=>.error e
 | .ok (n,s)=>endS bs (entsS nb fr fa rt bs n [] s)
def eK3(d:Nat)(acc:List En)(y:ByteArray)(t1:Tm):Except (Int×Int) (Tm×Nat)→Except (Int×Int) (List En)
 | .error e=>.error e
 | .ok (t2,s3)=>endS bs (entsS nb fr fa rt bs d (acc++[⟨y,t1,t2⟩]) s3)
def eK2(d:Nat)(acc:List En)(y:ByteArray):Except (Int×Int) (Tm×Nat)→Except (Int×Int) (List En)
 | .error e=>.error e
 | .ok (t1,s2)=>eK3 nb fr fa rt bs d acc y t1 (wholeS nb fr fa rt bs s2)
def eK1(d:Nat)(acc:List En)(s:Nat):Except (Int×Int) (ByteArray×Nat)→Except (Int×Int) (List En)
 | .error e=>.error e
 | .ok (y,s1)=>if memB y (acc.map (·.f0)).reverse=true then .error ((s:Int),61) else eK2 nb fr fa rt bs d acc y (wholeS nb fr fa rt bs s1)
theorem bodyS_num(h:headB bs=none):bodyS nb fr fa rt bs=bodyN nb fr fa rt bs (numS bs 3):=by
 rw [bodyS,h]
 dsimp only
 rcases numS bs 3 with e | ⟨n,s⟩<;>rfl
theorem ents_succ(d:Nat)(acc:List En)(s:Nat):endS bs (entsS nb fr fa rt bs (d+1) acc s)=eK1 nb fr fa rt bs d acc s (textS nb bs s):=by
 rw [entsS,entS]
 rcases textS nb bs s with e | ⟨y,s1⟩
 ·rfl
 ·dsimp only [eK1]
  by_cases hm:memB y (acc.map (·.f0)).reverse=true
  ·rw [if_pos hm,if_pos hm]
   rfl
  ·rw [if_neg hm,if_neg hm]
   rcases wholeS nb fr fa rt bs s1 with e | ⟨t1,s2⟩
   ·rfl
   ·dsimp only [eK2]
    rcases wholeS nb fr fa rt bs s2 with e | ⟨t2,s3⟩<;>rfl
end
def DupP(acc:List E26)(y:ByteArray)(s:Nat)(e5 a5:Int)(j:Nat)(e a:Int):Prop :=
 (e5≠0∧e=e5∧a=a5)∨(e5=0∧((e=0∧a=a5∧memB y ((acc.take j).map (·.f0))=false)∨(e=61∧a=(s:Int)∧memB y ((acc.take j).map (·.f0))=true)))
theorem memB_take{acc:List E26}{y:ByteArray}{j:Nat}(hj:j<acc.length):memB y ((acc.take (j+1)).map (·.f0))=(memB y ((acc.take j).map (·.f0))||(acc[j].f0.data.toList==y.data.toList)):=by
 rw [List.take_succ_eq_append_getElem hj,List.map_append]
 unfold memB
 rw [List.any_append]
 simp
theorem DupP.no{acc:List E26}{y:ByteArray}{s j:Nat}{e5 a5 e a:Int}(h:DupP acc y s e5 a5 j e a)(hj:j<acc.length)(hm:(acc[j].f0.data.toList==y.data.toList)=false):DupP acc y s e5 a5 (j+1) e a:=by
 unfold DupP
 rw [memB_take hj,hm,Bool.or_false]
 exact h
theorem DupP.yes{acc:List E26}{y:ByteArray}{s j:Nat}{e5 a5 e a:Int}(h:DupP acc y s e5 a5 j e a)(hj:j<acc.length)(hm:(acc[j].f0.data.toList==y.data.toList)=true):DupP acc y s e5 a5 (j+1) (stk e 61 e) (stk e (s:Int) a):=by
 unfold DupP
 rw [memB_take hj,hm,Bool.or_true]
 unfold stk
 rcases h with⟨h1,rfl,rfl⟩ | ⟨h1,⟨rfl,rfl,_⟩ | ⟨rfl,rfl,_⟩⟩
 ·rw [if_neg h1,if_neg h1]
  exact .inl ⟨h1,rfl,rfl⟩
 ·exact .inr ⟨h1,.inr ⟨if_pos rfl,if_pos rfl,rfl⟩⟩
 ·exact .inr ⟨h1,.inr ⟨if_neg (by decide),if_neg (by decide),rfl⟩⟩
theorem memB_rev(y:ByteArray)(l:List ByteArray):memB y l.reverse=memB y l:=by
 unfold memB
 rw [List.any_reverse]
theorem map_ofE(acc:List E26):(acc.map ofE).map (·.f0)=acc.map (·.f0):=by
 rw [List.map_map]
 rfl
theorem map_toE(acc:List E26):(acc.map ofE).map toE=acc:=by
 rw [List.map_map]
 exact List.map_id'' (fun _=>rfl) acc
theorem So.dup{nb:ByteArray→Bool}{fr fa:List Cl→Bool}{rt:Tm→Int}{bs:List Int}{R:Except (Int×Int) (List En)}{d s s5:Nat}{acc:List E26}{y:ByteArray}{e5 a5 e a:Int}(h:So R (eK1 nb fr fa rt bs d (acc.map ofE) s (.ok (y,s5))) 0 e5 a5)(hd:DupP acc y s e5 a5 acc.length e a):So R (eK2 nb fr fa rt bs d (acc.map ofE) y (wholeS nb fr fa rt bs s5)) 0 e a:=by
 rw [eK1,memB_rev,map_ofE] at h
 unfold DupP at hd
 rw [List.take_length] at hd
 rcases h with⟨h0,h1,h2⟩ | ⟨h0,h2⟩
 ·rcases hd with⟨g,_⟩ | ⟨_,⟨g1,g2,g3⟩ | ⟨g1,g2,g3⟩⟩
  ·exact absurd h0 g
  ·rw [if_neg (by rw [g3];exact Bool.false_ne_true)] at h2
   exact .inl ⟨g1,g2.trans h1,h2⟩
  ·rw [if_pos g3] at h2
   exact .inr ⟨by rw [g1];decide,by rw [g1,g2];exact h2⟩
 ·rcases hd with⟨_,g1,g2⟩ | ⟨g,_⟩
  ·exact .inr ⟨by rw [g1];exact h0,by rw [g1,g2];exact h2⟩
  ·exact absurd g h0
theorem So.whole{α β:Type}{R C:Except (Int×Int) β}{r:Except (Int×Int) (α×Nat)}{F:Except (Int×Int) (α×Nat)→Except (Int×Int) β}{a0 e a e1 a1:Int}{y:α}{s:Nat}(hF:∀y,F (.error y)=.error y)(hC:C=F r)(h:So R C a0 e a)(hz:(e=0→Got r a y s e1 a1)∧(e≠0→e1=e∧a1=a)):So R (F (.ok (y,s))) a0 e1 a1:=by
 by_cases h0:e=0
 ·subst h0
  exact So.next hF hC h (hz.1 rfl)
 ·obtain⟨rfl,rfl⟩:=hz.2 h0
  rcases h with h | h
  ·exact absurd h.1 h0
  ·exact .inr h
theorem R_whole_all{PN:ByteArray→Prop}{PF:List Cl→Prop}{PT:Tm→Prop}{nb:ByteArray→Bool}{fr fa:List Cl→Bool}{rt:Tm→Int}(RP:ReadD PN PF nb fr fa)
  (HR:∀(t:Tm) (cs:List Value) (w:World),k49.K w t cs→PT t→Calls Tryz.prog 25 #[.agg cs.toArray,.int .i64 0,.int .i64 0] w fun e w'=>e=.returned (.int .i64 (rt t))∧Below w.heap.size w w')
  (w0:World) (p:Nat) (bs:List Int) (hT:Tab w0) (hpt:∀(s:Nat) (t:Tm) (s1:Nat),termS nb (rgt fr fa false) (rgt fr fa true) bs 200 s=.ok (t,s1)→PT t) (s:Nat) (e a:Int) (w:World) (hb:Below w0.heap.size w0 w) (hr:DSt w0 w p bs s e a) :
  Calls Tryz.prog 36 #[.pointer (some ⟨p,0,none⟩)] w (DZ w0 w p bs (fun t s1 e1 a1=>(e=0→Got (wholeS nb (rgt fr fa false) (rgt fr fa true) rt bs s) a t s1 e1 a1)∧(e≠0→e1=e∧a1=a))):=by
 by_cases h0:e=0
 ·subst h0
  exact(R_whole RP HR w0 p bs hT hpt s a w hb hr).mono fun x w' ⟨h1,v,t,s1,c,b,h2,h3,h4,h5⟩=>⟨h1,v,t,s1,c,b,h2,h3,h4,fun _=>h5,fun h=>absurd rfl h⟩
 ·exact(R_wholeE HR w0 p bs s e a h0 w hb hr).mono fun x w' ⟨h1,v,t,s1,c,b,h2,h3,h4,h5⟩=>⟨h1,v,t,s1,c,b,h2,h3,h4,fun h=>absurd h h0,fun _=>h5⟩
theorem cells13{w:World}{b t:Nat}{z0 z1 z2 z3 z4 z5 z6 z7 z8 z9 z10 z11 z12:Value}(h:w.heap[b]? = some (.cells #[z0,z1,z2,z3,z4,z5,z6,z7,z8,z9,z10,z11,z12] t (0,0))):(w.cell? ⟨b,0,none⟩=some z0∧w.cell? ⟨b,1,none⟩=some z1∧w.cell? ⟨b,2,none⟩=some z2∧w.cell? ⟨b,3,none⟩=some z3∧w.cell? ⟨b,4,none⟩=some z4∧w.cell? ⟨b,5,none⟩=some z5∧w.cell? ⟨b,6,none⟩=some z6∧w.cell? ⟨b,7,none⟩=some z7∧w.cell? ⟨b,8,none⟩=some z8∧w.cell? ⟨b,9,none⟩=some z9∧w.cell? ⟨b,10,none⟩=some z10∧w.cell? ⟨b,11,none⟩=some z11∧w.cell? ⟨b,12,none⟩=some z12)∧(w.frozen? ⟨b,0,none⟩=false∧w.frozen? ⟨b,1,none⟩=false∧w.frozen? ⟨b,2,none⟩=false∧w.frozen? ⟨b,3,none⟩=false∧w.frozen? ⟨b,4,none⟩=false∧w.frozen? ⟨b,5,none⟩=false∧w.frozen? ⟨b,6,none⟩=false∧w.frozen? ⟨b,7,none⟩=false∧w.frozen? ⟨b,8,none⟩=false∧w.frozen? ⟨b,9,none⟩=false∧w.frozen? ⟨b,10,none⟩=false∧w.frozen? ⟨b,11,none⟩=false∧w.frozen? ⟨b,12,none⟩=false) :=
 ⟨⟨(blk_cell h 0).trans rfl,(blk_cell h 1).trans rfl,(blk_cell h 2).trans rfl,(blk_cell h 3).trans rfl,(blk_cell h 4).trans rfl,(blk_cell h 5).trans rfl,(blk_cell h 6).trans rfl,(blk_cell h 7).trans rfl,(blk_cell h 8).trans rfl,(blk_cell h 9).trans rfl,(blk_cell h 10).trans rfl,(blk_cell h 11).trans rfl,(blk_cell h 12).trans rfl⟩,⟨blk_frozen h 0,blk_frozen h 1,blk_frozen h 2,blk_frozen h 3,blk_frozen h 4,blk_frozen h 5,blk_frozen h 6,blk_frozen h 7,blk_frozen h 8,blk_frozen h 9,blk_frozen h 10,blk_frozen h 11,blk_frozen h 12⟩⟩
theorem DupP.start{acc:List E26}{y:ByteArray}{s:Nat}{e5 a5:Int}:DupP acc y s e5 a5 0 e5 a5:=by
 by_cases h:e5=0
 ·exact .inr ⟨h,.inl ⟨h,rfl,rfl⟩⟩
 ·exact .inl ⟨h,rfl,rfl⟩
theorem rdE_at{acc:List E26}{j:Nat}(h:j<acc.length):rd_T51 acc (j:Int)=acc[j]:=by
 unfold rd_T51
 rw [Int.toNat_natCast,List.getD_eq_getElem?_getD,List.getElem?_eq_getElem h]
 rfl
theorem e26_info:(Tryz.prog.info? 51).map (fun i=>(i.zero,i.size,i.bytes))=some (some (.agg #[.string ⟨#[]⟩,.int .i64 0,.int .i64 0,.string ⟨#[]⟩,.slice none 0 0,.slice none 0 0,.slice none 0 0,.int .i64 0,.int .i64 0,.string ⟨#[]⟩,.slice none 0 0,.slice none 0 0,.slice none 0 0]),13,224):=by kernel_rfl
def HdN(bs:List Int)(j:Nat):Prop:=(0<j→rd bs 0=72)∧(1<j→rd bs 1=67)∧(2<j→rd bs 2=1)
set_option maxHeartbeats 4000000 in
theorem ref36_Decode{PN:ByteArray→Prop}{PF:List Cl→Prop}{nb:ByteArray→Bool}{fr fa:List Cl→Bool}(RP:ReadD PN PF nb fr fa){PT:Tm→Prop}{rt:Tm→Int}
  (HR:∀(t:Tm) (cs:List Value) (w:World),k49.K w t cs→PT t→Calls Tryz.prog 25 #[.agg cs.toArray,.int .i64 0,.int .i64 0] w fun e w'=>e=.returned (.int .i64 (rt t))∧Below w.heap.size w w') {PS:List Int→Prop} {sm:List Int→Int}
  (HS:∀(A:Option Addr) (c:Nat) (l:List Int) (w:World),Kd.C (Kd.int .u8) w A l.length l→l.length≤c→PS l→Calls Tryz.prog 12 #[.slice A l.length c] w fun e w'=>e=.returned (.int .i64 (sm l))∧Below w.heap.size w w')
  (A0:Option Addr) (c0:Nat) (l:List Int) (w:World) (hT:Tab w) (hC:Kd.C (Kd.int .u8) w A0 l.length l) (hc:l.length≤c0)
  (hbl:l.length≤1000000∨1048576<l.length) (ho:∀x∈l,0≤x∧x<256) (hps:PS (l.take (l.length-4))) (hpt:∀(s:Nat) (t:Tm) (s1:Nat),termS nb (rgt fr fa false) (rgt fr fa true) (l.take (l.length-4)) 200 s=.ok (t,s1)→PT t) :
  Calls Tryz.prog 14 #[.slice A0 l.length c0] w (DecP w (rdecI nb (rgt fr fa false) (rgt fr fa true) rt sm l)):=by
 obtain⟨D,hD⟩:∃D,D=rdecI nb (rgt fr fa false) (rgt fr fa true) rt sm l:=⟨_,rfl⟩
 rw [←hD]
 have HC:=ak hC
 have HTT:=ak hT
 have HRR:=ak HR
 have HSS:=ak HS
 have HP:=ak RP
 have HO:=ak ho
 have HPT:=ak hpt
 clear hC hT HR HS RP ho hpt
 go_enter Tryz.func14,Tryz.ntmps14
 by_cases h1:1048576<l.length
 ·have h1':decide ((1048576:Int)<(l.length:Int))=true:=decide_eq_true (by omega)
  have h1'':(1048576:Int)<(l.length:Int):=by omega
  have HD:Aside0 (D=([],0,3)):=⟨by rw [hD,rdecI,if_pos h1]⟩
  clear hD
  go_wp2
  go_ret3
  exact DecP.no HD.out (Below.refl _ _)
 ·by_cases h2:l.length<8
  ·have h1':decide ((1048576:Int)<(l.length:Int))=false:=decide_eq_false (by omega)
   have h1'':¬(1048576:Int)<(l.length:Int):=by omega
   have h2':decide ((l.length:Int)<8)=true:=decide_eq_true (by omega)
   have h2'':(l.length:Int)<8:=by omega
   have HD:Aside0 (D=([],0,61)):=⟨by rw [hD,rdecI,if_neg h1,if_pos h2]⟩
   clear hD
   go_wp2
   go_ret3
   exact DecP.no HD.out (Below.refl _ _)
  ·have h1':decide ((1048576:Int)<(l.length:Int))=false:=decide_eq_false (by omega)
   have h1'':¬(1048576:Int)<(l.length:Int):=by omega
   have h2':decide ((l.length:Int)<8)=false:=decide_eq_false (by omega)
   have h2'':¬(l.length:Int)<8:=by omega
   obtain⟨en,hen⟩:∃en:Nat,l.length=en+4:=⟨l.length-4,by omega⟩
   have h4:wrap64 ((l.length:Int)-4)=(l.length:Int)-4:=by unfold wrap64;omega
   obtain⟨lt,hlt⟩:∃lt,lt=l.take (l.length-4):=⟨_,rfl⟩
   have hll:lt.length=en:=by rw [hlt,List.length_take];omega
   have HLL:=ak hll
   have HLT:=ak hlt
   have HCW:=ak (show Kd.C (Kd.int .u8) w A0 lt.length lt from by
    have h6:=Kd.C_take HC.out (m:=l.length-4) (by omega)
    rw [←hlt] at h6
    exact h6)
   have HEN:=ak hen
   have HD:Aside0 (D=if bigJ l en 4≠sm lt then([],(en:Int),271) else outR (bodyS nb (rgt fr fa false) (rgt fr fa true) rt lt)):=⟨by rw [hD,rdecI,if_neg h1,if_neg h2,hlt,show l.length-4=en by omega]⟩
   have hcut:∀W:World,(Instr.slice 23 (.slice A0 l.length c0) none (some (.int .i64 ((l.length:Int)-4))) none).run Tryz.prog W=.ok (.slice A0 lt.length c0) W:=fun W=>by
    obtain⟨i5,hi5,hz5⟩:=Option.map_eq_some_iff.1 uint8_info
    simp only [Prod.mk.injEq] at hz5
    have h6:=(print_take_int (P:=Tryz.prog) (k:=.u8) 23 5 Tryz.underlying23 hi5 hz5.2.1 A0 c0 l ((l.length:Int)-4) (by omega) (by omega) hc).1 W
    rw [show((l.length:Int)-4).toNat=l.length-4 by omega,←hlt] at h6
    exact h6
   have hps2:Aside0 (PS lt):=⟨by rw [hlt];exact hps⟩
   have hen2:en≤1000000∧4≤en:=by omega
   have HPT2:Aside0 (∀(s:Nat) (t:Tm) (s1:Nat),termS nb (rgt fr fa false) (rgt fr fa true) lt 200 s=.ok (t,s1)→PT t):=⟨by rw [hlt];exact HPT.out⟩
   clear hD hll hlt hps HPT h1 h2 hbl hen
   have HCL:Aside0 (lt.length≤c0):=⟨by have h5:=HEN.out;have:=HLL.out;omega⟩
   go_upto_region 6 with fail
   clear h1' h1'' h2' h2'' h4
   go_wp2
   go_loopg [6,7] 5 (fun kq v6 v7 wx=>∃(j:Nat) (s i:Int),v6=.int .i64 s∧v7=.int .i64 i∧j≤4∧kq+j=5∧Aside0 (s=bigJ l en j)∧Aside0 (i=(en:Int)+(j:Int))∧Aside0 (Below w.heap.size w wx))
   case atStart=>exact⟨0,0,_,rfl,rfl,by omega,rfl,⟨rfl⟩,⟨by have:=HEN.out;omega⟩,⟨Below.refl _ _⟩⟩
   case round =>
    obtain⟨j,s,i,rfl,rfl,hj,hk,HJ,HI,HB⟩:=hrel
    by_cases hj4:j<4
    ·have d2:i<(l.length:Int):=by have:=HEN.out;have:=HI.out;omega
     have d1:decide (i<(l.length:Int))=true:=decide_eq_true d2
     have d3:(0:Int)≤i:=by have:=HI.out;omega
     obtain⟨ad,rfl,ha⟩:=Kd.at_int HC.out i d3 d2
     have hb:=rd_oct HO.out i
     have h9:=bigJ_lt (l:=l) (e:=en) HO.out (j+1)
     have h8:=bigJ_lt (l:=l) (e:=en) HO.out j
     have h7:(256 ^ (j+1):Nat)≤256 ^ 4:=Nat.pow_le_pow_right (by decide) (by omega)
     have h6:(256 ^ j:Nat)≤256 ^ 4:=Nat.pow_le_pow_right (by decide) (by omega)
     rw [←HJ.out] at h8
     obtain⟨b,hbb⟩:∃b,b=rd l i:=⟨_,rfl⟩
     rw [←hbb] at ha hb
     have HJ2:s * 256+b=bigJ l en (j+1):=by rw [bigJ,←HJ.out,hbb,HI.out]
     rw [←HJ2] at h9
     have ha2:=cell_from ha HB.out
     have hw1:IntKind.i64.wrap b=b:=wI64 (a:=b) (by omega) (by omega)
     obtain⟨s8,hs8⟩:∃s8,wrap64 (s * 256)=s8:=⟨_,rfl⟩
     have hs8':s8=s * 256:=hs8.symm.trans (w64r (a:=s * 256) (by omega) (by omega))
     obtain⟨s9,hs9⟩:∃s9,wrap64 (s8+b)=s9:=⟨_,rfl⟩
     have HS9:Aside0 (s9=bigJ l en (j+1)):=⟨by rw [←hs9,hs8',w64r (a:=s * 256+b) (by omega) (by omega),HJ2]⟩
     obtain⟨i9,hi9⟩:∃i9,wrap64 (i+1)=i9:=⟨_,rfl⟩
     have HI9:Aside0 (i9=(en:Int)+((j+1:Nat):Int)):=⟨by rw [←hi9,w64r (a:=i+1) (by omega) (by have:=HI.out;omega),HI.out];omega⟩
     clear h9 h8 h7 h6 hbb hb HJ2 hs8'
     go_wp2
     go_roundg (gk-1)
     case measure=>omega
     case rel=>exact⟨j+1,s9,i9,congrArg (Value.int .i64) hs9,congrArg (Value.int .i64) hi9,hj4,by omega,HS9,HI9,HB⟩
    ·have d2:¬i<(l.length:Int):=by have:=HEN.out;have:=HI.out;omega
     have d1:decide (i<(l.length:Int))=false:=decide_eq_false d2
     obtain rfl:j=4:=by omega
     have hcS:=HSS.out A0 c0 lt wr (Kd.C_below HCW.out HB.out) HCL.out hps2.out
     clear hk
     by_cases hsm:s=sm lt
     ·have q1:(s != sm lt)=false:=by simp [hsm]
      have HD2:Aside0 (D=outR (bodyS nb (rgt fr fa false) (rgt fr fa true) rt lt)):=⟨by rw [HD.out,if_neg (by rw [←HJ.out];exact fun h=>h hsm)]⟩
      clear hsm HD
      go_upto_region 13 with(go_at_call 12;refine hcS.mono ?_;rintro e w2 ⟨rfl,hb2⟩;have HB2:=ak (below_step HB.out hb2);clear hb2 hcS)
      go_wp2
      obtain⟨bm,hbm⟩:∃bm,bm=w2.heap.size:=⟨_,rfl⟩
      have HM2:=ak (blk_new w2 (.cells #[.int .u8 72,.int .u8 67,.int .u8 1] 81))
      have HB3:=ak (below_alloc HB2.out (.cells #[.int .u8 72,.int .u8 67,.int .u8 1] 81))
      have HBM:Aside0 (w.heap.size≤bm):=⟨by rw [hbm];exact HB2.out.size⟩
      rw [←hbm] at HM2
      rw [←hbm]
      clear hbm HB2 HB HJ HI
      go_loopg [9] 4 (fun kq v9 wx=>∃j:Nat,v9=.int .i64 (j:Int)∧j≤3∧kq+j=4∧Aside0 (HdN lt j)∧Aside0 (Below w.heap.size w wx)∧Aside0 (wx.heap[bm]? = some (.cells #[.int .u8 72,.int .u8 67,.int .u8 1] 81 (0,0))))
      case atStart=>exact⟨0,rfl,by omega,rfl,⟨fun h=>absurd h (by omega),fun h=>absurd h (by omega),fun h=>absurd h (by omega)⟩,HB3,HM2⟩
      case round =>
       clear HB3 HM2
       obtain⟨j,rfl,hj,hk,HHD,HB,HM⟩:=hrel
       by_cases hj3:j<3
       ·have d1:decide ((j:Int)<3)=true:=decide_eq_true (by omega)
        have d1':(j:Int)<3:=by omega
        have d2:(j:Int)<(l.length:Int):=by have:=HEN.out;omega
        have d3:(0:Int)≤(j:Int):=by omega
        obtain⟨ad,rfl,ha⟩:=Kd.at_int HC.out (j:Int) d3 d2
        have hrt:rd lt (j:Int)=rd l (j:Int):=by rw [HLT.out];exact rd_take d3 (by have:=HEN.out;omega) (by omega)
        rw [←hrt,Int.toNat_natCast] at ha
        have ha2:=cell_from ha HB.out
        obtain⟨m,hmc,hmm⟩:∃m:Int,wr.cell? ⟨bm,j,none⟩=some (.int .u8 m)∧((j=0∧m=72)∨(j=1∧m=67)∨(j=2∧m=1)):=by
         have h9:j=0∨j=1∨j=2:=by omega
         rcases h9 with rfl | rfl | rfl
         ·exact⟨72,(blk_cell HM.out 0).trans rfl,.inl ⟨rfl,rfl⟩⟩
         ·exact⟨67,(blk_cell HM.out 1).trans rfl,.inr (.inl ⟨rfl,rfl⟩)⟩
         ·exact⟨1,(blk_cell HM.out 2).trans rfl,.inr (.inr ⟨rfl,rfl⟩)⟩
        have HMM:=ak hmm
        obtain⟨x,hx⟩:∃x,x=rd lt (j:Int):=⟨_,rfl⟩
        rw [←hx] at ha2
        have HX:=ak hx
        clear hrt ha hmm hx
        by_cases hm:x=m
        ·have q1:(x != m)=false:=by simp [hm]
         have HHD2:Aside0 (HdN lt (j+1)):=⟨by
          have h8:=HX.out
          rw [hm] at h8
          rcases HMM.out with⟨rfl,rfl⟩ | ⟨rfl,rfl⟩ | ⟨rfl,rfl⟩
          ·exact⟨fun _=>h8.symm,fun h=>absurd h (by omega),fun h=>absurd h (by omega)⟩
          ·exact⟨fun _=>HHD.out.1 (by omega),fun _=>h8.symm,fun h=>absurd h (by omega)⟩
          ·exact⟨fun _=>HHD.out.1 (by omega),fun _=>HHD.out.2.1 (by omega),fun _=>h8.symm⟩⟩
         clear hm
         go_wp2
         go_quiet (fail)
         have HB3:=ak (pw_below_drewN HB.out nq)
         have HM3:Aside0 ((wr.drewN nq).heap[bm]? = some (.cells #[.int .u8 72,.int .u8 67,.int .u8 1] 81 (0,0))):=HM
         clear HB HM
         go_wp2
         go_roundg (gk-1)
         case measure=>omega
         case rel=>exact⟨j+1,rfl,by omega,by omega,HHD2,HB3,HM3⟩
        ·have q1:(x != m)=true:=by simp [hm]
         have HDN:Aside0 (D=([],(j:Int),61)):=⟨by
          have h8:=HX.out
          have h7:headB lt=some (j:Int):=by
           rcases HMM.out with⟨rfl,rfl⟩ | ⟨rfl,rfl⟩ | ⟨rfl,rfl⟩
           ·have h9:rd lt 0≠72:=fun h=>hm (h8.trans h)
            unfold headB
            rw [if_pos h9]
            rfl
           ·have h9:rd lt 1≠67:=fun h=>hm (h8.trans h)
            have h5:rd lt 0=72:=HHD.out.1 (by omega)
            unfold headB
            rw [if_neg (fun h=>h h5),if_pos h9]
            rfl
           ·have h9:rd lt 2≠1:=fun h=>hm (h8.trans h)
            have h5:rd lt 0=72:=HHD.out.1 (by omega)
            have h6:rd lt 1=67:=HHD.out.2.1 (by omega)
            unfold headB
            rw [if_neg (fun h=>h h5),if_neg (fun h=>h h6),if_pos h9]
            rfl
          rw [HD2.out,bodyS,h7]
          rfl⟩
         clear hm
         go_wp2
         go_quiet (fail)
         have HB3:=ak (pw_below_drewN HB.out nq)
         go_wp2
         go_ret3
         exact DecP.no HDN.out HB3.out
       ·have d1:decide ((j:Int)<3)=false:=decide_eq_false (by omega)
        have d1':¬(j:Int)<3:=by omega
        have HHN:Aside0 (headB lt=none):=⟨headB_of ⟨HHD.out.1 (by omega),HHD.out.2.1 (by omega),HHD.out.2.2 (by omega)⟩⟩
        go_upto_region 20 with fail
        obtain⟨p,hp⟩:∃p,p=wr.heap.size:=⟨_,rfl⟩
        have HR0:Aside0 (DSt w (wr.alloc (.cells #[.slice A0 lt.length c0,.int .i64 3,.int .i64 0,.int .i64 0] 84)) p lt 3 0 0):=⟨⟨by rw [hp];exact HB.out.size,⟨A0,c0,by rw [hp];exact blk_new wr (.cells #[.slice A0 lt.length c0,.int .i64 3,.int .i64 0,.int .i64 0] 84),HCL.out,HCW.out⟩,by have:=HLL.out;omega,by have:=HLL.out;omega,fun x hx=>HO.out x (by rw [HLT.out] at hx;exact List.mem_of_mem_take hx)⟩⟩
        have HB0:=ak (below_alloc HB.out (.cells #[.slice A0 lt.length c0,.int .i64 3,.int .i64 0,.int .i64 0] 84))
        rw [←hp]
        have hcE:=R_number_any HB0.out HR0.out
        have HBN:Aside0 (bodyS nb (rgt fr fa false) (rgt fr fa true) rt lt=bodyN nb (rgt fr fa false) (rgt fr fa true) rt lt (numS lt 3)):=⟨bodyS_num _ _ _ _ _ HHN.out⟩
        obtain⟨R,hR⟩:∃R,R=bodyS nb (rgt fr fa false) (rgt fr fa true) rt lt:=⟨_,rfl⟩
        rw [←hR] at HD2 HBN
        clear hR HHD HHN HM d1 d1' hp hcut
        go_wp2_with (go_at_call 33;refine hcE.mono ?_;rintro e w4 ⟨n,s1,e1,a1,hk4,hr4,hn4,rfl⟩;have HB4:=ak hk4.1;have HR4:=ak hr4;have HN4:=ak hn4;clear hk4 hr4 hn4 hcE)
        have HS4:Aside0 (So R (endS lt (entsS nb (rgt fr fa false) (rgt fr fa true) rt lt n [] s1)) 0 e1 a1):=⟨So.got (F:=bodyN nb (rgt fr fa false) (rgt fr fa true) rt lt) (fun _=>rfl) HBN.out HN4.out⟩
        have HCL4:Aside0 (e1=0→n≤2147483647):=⟨fun h=>HN4.out.elim (fun h2=>numS_le h2.2.2) (fun h2=>absurd h h2.1)⟩
        obtain⟨B2,hB2⟩:∃B2,B2=w4.heap.size:=⟨_,rfl⟩
        have HPB:Aside0 (p<B2):=⟨by rw [hB2];exact HR4.out.lt⟩
        have HWB:Aside0 (w.heap.size≤B2):=⟨by rw [hB2];exact HB4.out.size⟩
        have HS:Aside0 (B2≤w4.heap.size):=⟨by omega⟩
        clear hB2 HN4 HR0 HB0 HB HBN
        go_loopg [12,13,14,15,16] (n+1) (fun kq v12 v13 v14 v15 v16 wy=>∃(i:Nat) (acc:List E26) (s:Nat) (e a:Int),v13=.int .i64 (i:Int)∧i≤n∧kq+i=n+1∧Aside0 (acc.length=i)∧Aside0 (e=0→n≤2147483647)∧Aside0 (So R (endS lt (entsS nb (rgt fr fa false) (rgt fr fa true) rt lt (n-i) (acc.map ofE) s)) 0 e a)∧Aside0 (B2≤wy.heap.size)∧Aside0 (DSt w wy p lt s e a)∧Aside0 (Below w.heap.size w wy)∧Aside0 (Kd.R k51 51 wy B2 (fun _=>True) v12 acc))
        case atStart=>exact⟨0,[],s1,e1,a1,rfl,Nat.zero_le _,rfl,⟨rfl⟩,HCL4,HS4,HS,HR4,HB4,⟨Kd.R_nil _ _ _ _ _⟩⟩
        case round =>
         clear HCL4 HS4 HS HR4 HB4
         obtain⟨i,acc,s,e,a,rfl,hi,hk9,HAL,HNL,HS,HBS,HR,HB,HG⟩:=hrel
         obtain⟨A55,c55,rfl⟩:=Kd.R_slice HG.out
         obtain⟨A9,c9,hv9,hc9,hC9⟩:=HR.out.row
         obtain⟨c0_,c1,c2,c3,f0,f1,f2,f3⟩:=cells4 hv9
         clear hv9 hc9 hC9
         go_upto_region 23 with fail
         go_cut [78] from 69 to 114 (fun v wx=>∃bb:Bool,v=.bool bb∧Aside0 (Tells bb (i<n∧e=0))∧Aside0 (B2≤wx.heap.size)∧Aside0 (DSt w wx p lt s e a)∧Aside0 (Below w.heap.size w wx)∧Aside0 (Kd.R k51 51 wx B2 (fun _=>True) (.slice A55 acc.length c55) acc))
         case first =>
          by_cases hlt:i<n
          ·by_cases h0:e=0
           ·have q3:(e==0)=true:=beq_iff_eq.2 h0
            have q1:decide ((i:Int)<(n:Int))=true:=decide_eq_true (Int.ofNat_lt.2 hlt)
            have q2:(i:Int)<(n:Int):=Int.ofNat_lt.2 hlt
            have HQ:Aside0 (Tells true (i<n∧e=0)):=⟨fun _=>⟨hlt,h0⟩,fun _=>rfl⟩
            clear hlt h0
            go_wp2
            go_meet
            exact⟨true,rfl,HQ,HBS,HR,HB,HG⟩
           ·have q3:(e==0)=false:=beq_eq_false_iff_ne.2 h0
            have q1:decide ((i:Int)<(n:Int))=true:=decide_eq_true (Int.ofNat_lt.2 hlt)
            have q2:(i:Int)<(n:Int):=Int.ofNat_lt.2 hlt
            have HQ:Aside0 (Tells false (i<n∧e=0)):=⟨fun h=>Bool.noConfusion h,fun h=>absurd h.2 h0⟩
            clear hlt h0
            go_wp2
            go_meet
            exact⟨false,rfl,HQ,HBS,HR,HB,HG⟩
          ·have q1:decide ((i:Int)<(n:Int))=false:=decide_eq_false (fun h=>hlt (Int.ofNat_lt.1 h))
           have q2:¬(i:Int)<(n:Int):=fun h=>hlt (Int.ofNat_lt.1 h)
           have HQ:Aside0 (Tells false (i<n∧e=0)):=⟨fun h=>Bool.noConfusion h,fun h=>absurd h.1 hlt⟩
           clear hlt
           go_wp2
           go_meet
           exact⟨false,rfl,HQ,HBS,HR,HB,HG⟩
         case rest =>
          clear c0_ c1 c2 c3 f0 f1 f2 f3
          clear HBS HR HB HG
          obtain⟨bb,rfl,HQ,HBS,HR,HB,HG⟩:=hcut
          cases bb with
          | true =>
           obtain⟨hlt,h0⟩:=HQ.out.1 rfl
           subst h0
           have hn31:=HNL.out rfl
           have hal:acc.length≤2147483647:=by have:=HAL.out;omega
           obtain⟨d,hd⟩:∃d,n-i=d+1:=⟨n-i-1,by omega⟩
           have HC:Aside0 (endS lt (entsS nb (rgt fr fa false) (rgt fr fa true) rt lt (n-i) (acc.map ofE) s)=eK1 nb (rgt fr fa false) (rgt fr fa true) rt lt (n-(i+1)) (acc.map ofE) s (textS nb lt s)):=⟨by rw [hd,ents_succ,show d=n-(i+1) by omega]⟩
           have hpn:∀s:ByteArray,s.size≤lt.length→PN s:=fun s hs=>HP.out.pn s (Nat.le_trans hs HR.out.len)
           have hcN:=(R_name HP.out.named w p lt s a wc HTT.out hpn HB.out HR.out).mono fun _ _ h=>DPost.any h
           obtain⟨A9,c9,hv9,hc9,hC9⟩:=HR.out.row
           obtain⟨c0_,c1,c2,c3,f0,f1,f2,f3⟩:=cells4 hv9
           clear hv9 hc9 hC9
           clear hpn hd HQ
           go_upto_region 27 with(go_at_call 34;refine hcN.mono ?_;rintro e w5 ⟨hk5,v,y,s5,e5,a5,rfl,rfl,hr5,hn5⟩;have HR5:=ak (hr5.below (below_alloc (Below.refl _ _) (.cells #[.string y,.int .i64 0,.int .i64 0,.string ⟨#[]⟩,.slice none 0 0,.slice none 0 0,.slice none 0 0,.int .i64 0,.int .i64 0,.string ⟨#[]⟩,.slice none 0 0,.slice none 0 0,.slice none 0 0] 51)));have HB5:=ak (below_alloc hk5.1 (.cells #[.string y,.int .i64 0,.int .i64 0,.string ⟨#[]⟩,.slice none 0 0,.slice none 0 0,.slice none 0 0,.int .i64 0,.int .i64 0,.string ⟨#[]⟩,.slice none 0 0,.slice none 0 0,.slice none 0 0] 51));have HX5:=ak (blk_new w5 (.cells #[.string y,.int .i64 0,.int .i64 0,.string ⟨#[]⟩,.slice none 0 0,.slice none 0 0,.slice none 0 0,.int .i64 0,.int .i64 0,.string ⟨#[]⟩,.slice none 0 0,.slice none 0 0,.slice none 0 0] 51));have HG5:=ak (Kd.R_alloc (R_done (R_stay HG.out hk5.2 (fun k hk=>by rw [hk];exact HPB.out)) (Nat.le_refl _) (Nat.le_refl w5.heap.size)) (.cells #[.string y,.int .i64 0,.int .i64 0,.string ⟨#[]⟩,.slice none 0 0,.slice none 0 0,.slice none 0 0,.int .i64 0,.int .i64 0,.string ⟨#[]⟩,.slice none 0 0,.slice none 0 0,.slice none 0 0] 51));have HBX:Aside0 (B2≤w5.heap.size):=⟨Nat.le_trans HBS.out hk5.2.1⟩;have HN5:=ak hn5;clear hk5 hr5 hn5 hcN)
           have HS5:Aside0 (So R (eK1 nb (rgt fr fa false) (rgt fr fa true) rt lt (n-(i+1)) (acc.map ofE) s (.ok (y,s5))) 0 e5 a5):=⟨So.next (F:=eK1 nb (rgt fr fa false) (rgt fr fa true) rt lt (n-(i+1)) (acc.map ofE) s) (fun _=>rfl) HC.out HS.out HN5.out⟩
           have HAL2:Aside0 (w5.heap.size<(w5.alloc (.cells #[.string y,.int .i64 0,.int .i64 0,.string ⟨#[]⟩,.slice none 0 0,.slice none 0 0,.slice none 0 0,.int .i64 0,.int .i64 0,.string ⟨#[]⟩,.slice none 0 0,.slice none 0 0,.slice none 0 0] 51)).heap.size):=⟨by rw [World.size_alloc];exact Nat.lt_succ_self _⟩
           clear c0_ c1 c2 c3 f0 f1 f2 f3
           clear HC HS HN5 HR HB HG HBS
           generalize hbx:w5.heap.size=bx at *
           generalize w5.alloc (.cells #[.string y,.int .i64 0,.int .i64 0,.string ⟨#[]⟩,.slice none 0 0,.slice none 0 0,.slice none 0 0,.int .i64 0,.int .i64 0,.string ⟨#[]⟩,.slice none 0 0,.slice none 0 0,.slice none 0 0] 51)=W5 at *
           clear hbx
           go_wp2
           obtain⟨gp,rfl⟩:∃gp,gp=gk:=⟨_,rfl⟩
           have HPX:Aside0 (p<bx):=⟨by have:=HPB.out;have:=HBX.out;omega⟩
           have HWX:Aside0 (w.heap.size≤bx):=⟨by have:=HWB.out;have:=HBX.out;omega⟩
           go_loopg [16] (acc.length+1) (fun kq v16 wz=>∃(j:Nat) (e' a':Int),v16=.int .i64 (j:Int)∧j≤acc.length∧kq+j=acc.length+1∧Aside0 (DupP acc y s e5 a5 j e' a')∧Aside0 (DSt w wz p lt s5 e' a')∧Aside0 (Below w.heap.size w wz)∧Aside0 (wz.heap[bx]? = some (.cells #[.string y,.int .i64 0,.int .i64 0,.string ⟨#[]⟩,.slice none 0 0,.slice none 0 0,.slice none 0 0,.int .i64 0,.int .i64 0,.string ⟨#[]⟩,.slice none 0 0,.slice none 0 0,.slice none 0 0] 51 (0,0)))∧Aside0 (Kd.R k51 51 wz B2 (fun k=>k<bx) (.slice A55 acc.length c55) acc)∧Aside0 (bx<wz.heap.size))
           case atStart=>exact⟨0,e5,a5,rfl,Nat.zero_le _,rfl,⟨DupP.start⟩,HR5,HB5,HX5,HG5,HAL2⟩
           case round =>
            clear HR5 HB5 HX5 HG5 HAL2
            obtain⟨j,e',a',rfl,hj,hkj,HDU,HR,HB,HX,HG,HZ⟩:=hrel
            by_cases hjl:j<acc.length
            ·have hrd:=Kd.R_reads' HG.out
             have d2:(j:Int)<(acc.length:Int):=by omega
             have d1:decide ((j:Int)<(acc.length:Int))=true:=decide_eq_true d2
             have d3:(0:Int)≤(j:Int):=by omega
             obtain⟨ad,A4,c4,A5,c5,A6,c6,A10,c10,A11,c11,A12,c12,hAe,hx0,_⟩:=at_T51 hrd.2.2 (j:Int) d3 d2
             subst hAe
             rw [rdE_at hjl,Int.toNat_natCast] at hx0
             obtain⟨q,hq⟩:∃q,q=acc[j].f0:=⟨_,rfl⟩
             rw [←hq] at hx0
             have hy0:wr.cell? ⟨bx,0,none⟩=some (.string y):=(blk_cell HX.out 0).trans rfl
             have HQQ:=ak hq
             clear hrd hq
             by_cases hm:(q.toList==y.toList)=true
             ·have HDU2:=ak (DupP.yes HDU.out hjl (by rw [←HQQ.out,←ByteArray.toList_eq,←ByteArray.toList_eq];exact hm))
              go_wp2
              go_quiet (fail)
              have HR3:=ak (HR.out.drewN nq)
              have HB3:=ak (pw_below_drewN HB.out nq)
              have HX3:Aside0 ((wr.drewN nq).heap[bx]? = some (.cells #[.string y,.int .i64 0,.int .i64 0,.string ⟨#[]⟩,.slice none 0 0,.slice none 0 0,.slice none 0 0,.int .i64 0,.int .i64 0,.string ⟨#[]⟩,.slice none 0 0,.slice none 0 0,.slice none 0 0] 51 (0,0))):=HX
              have HG3:=ak (Kd.R_drewN HG.out nq)
              have HZ3:Aside0 (bx<(wr.drewN nq).heap.size):=HZ
              clear HR HB HX HG HZ hx0 hy0
              go_wp2_with (go_at_call 35;refine(R_bad w p lt s5 _ _ _ _ _ HB3.out HR3.out).mono ?_;rintro e_ w6 ⟨rfl,hr6,hk6⟩;have HR6:=ak hr6;have HB6:=ak hk6.1;have HX6:=ak (blk_kept HX3.out hk6.2 (by have:=HPX.out;omega));have HG6:=ak (R_stayN HG3.out hk6.2 (fun k hk=>.inl (by rw [hk];exact HPB.out)));have HZ6:Aside0 (bx<w6.heap.size):=⟨Nat.lt_of_lt_of_le HZ3.out hk6.2.1⟩;clear hr6 hk6)
              go_roundg (gk-1)
              case measure=>omega
              case rel=>exact⟨j+1,_,_,rfl,hjl,by omega,HDU2,HR6,HB6,HX6,HG6,HZ6⟩
             ·have hm2:(q.toList==y.toList)=false:=by simpa using hm
              have HDU2:=ak (DupP.no HDU.out hjl (by rw [←HQQ.out,←ByteArray.toList_eq,←ByteArray.toList_eq];exact hm2))
              clear hm
              go_wp2
              go_quiet (fail)
              have HR3:=ak (HR.out.drewN nq)
              have HB3:=ak (pw_below_drewN HB.out nq)
              have HX3:Aside0 ((wr.drewN nq).heap[bx]? = some (.cells #[.string y,.int .i64 0,.int .i64 0,.string ⟨#[]⟩,.slice none 0 0,.slice none 0 0,.slice none 0 0,.int .i64 0,.int .i64 0,.string ⟨#[]⟩,.slice none 0 0,.slice none 0 0,.slice none 0 0] 51 (0,0))):=HX
              have HG3:=ak (Kd.R_drewN HG.out nq)
              have HZ3:Aside0 (bx<(wr.drewN nq).heap.size):=HZ
              clear HR HB HX HG HZ hx0 hy0
              go_wp2
              go_roundg (gk-1)
              case measure=>omega
              case rel=>exact⟨j+1,_,_,rfl,hjl,by omega,HDU2,HR3,HB3,HX3,HG3,HZ3⟩
            ·have d2:¬(j:Int)<(acc.length:Int):=by omega
             have d1:decide ((j:Int)<(acc.length:Int))=false:=decide_eq_false d2
             obtain rfl:j=acc.length:=by omega
             have HS6:Aside0 (So R (eK2 nb (rgt fr fa false) (rgt fr fa true) rt lt (n-(i+1)) (acc.map ofE) y (wholeS nb (rgt fr fa false) (rgt fr fa true) rt lt s5)) 0 e' a'):=⟨So.dup HS5.out HDU.out⟩
             have hcW:=R_whole_all HP.out HRR.out w p lt HTT.out HPT2.out s5 e' a' wr HB.out HR.out
             clear HS5 HDU hkj hj
             go_upto_region 33 with(go_at_call 36;refine hcW.mono ?_;rintro e_ w7 ⟨hk7,v,t1,s7,e7,a7,rfl,⟨cs,rfl,hM7⟩,hr7,hz7⟩;obtain⟨P3,px3,P4,px4,P5,px5,rfl⟩:=tm_cells hM7;have hx7:=blk_kept HX.out hk7.2 (by have:=HPX.out;omega);have hF:=put_first hx7 (.int .i64 t1.f0) (.int .i64 t1.f1) (.string t1.f2) (.slice P3 t1.f3.length px3) (.slice P4 t1.f4.length px4) (.slice P5 t1.f5.length px5);obtain⟨⟨d0,d1,d2,d3,d4,d5,d6,d7,d8,d9,d10,d11,d12⟩,g0,g1,g2,g3,g4,g5,g6,g7,g8,g9,g10,g11,g12⟩:=cells13 hx7;have HX7:=ak hF.1;have HB7:=ak (hF.2.2 w hk7.1 HWX.out);have HR7:=ak (hr7.kept hF.2.1 (by have:=HPX.out;omega));have HM7:=ak (M_stay hM7 hF.2.1 (fun k hk=>by have:=HZ.out;omega));have HG7:=ak (R_stayN (R_stayN HG.out hk7.2 (fun k hk=>.inl (by rw [hk];exact HPB.out))) hF.2.1 (fun k hk=>.inr (by omega)));have HZ7:Aside0 (wr.heap.size≤w7.heap.size):=⟨hk7.2.1⟩;have HZW:=ak hF.2.1.1;have HQ7:=ak hz7;clear hk7 hr7 hM7 hz7 hx7 hF hcW)
             have HS7:Aside0 (So R (eK3 nb (rgt fr fa false) (rgt fr fa true) rt lt (n-(i+1)) (acc.map ofE) y t1 (wholeS nb (rgt fr fa false) (rgt fr fa true) rt lt s7)) 0 e7 a7):=⟨So.whole (F:=eK2 nb (rgt fr fa false) (rgt fr fa true) rt lt (n-(i+1)) (acc.map ofE) y) (fun _=>rfl) rfl HS6.out HQ7.out⟩
             obtain⟨M1,hM1⟩:∃M1,M1=wr.heap.size:=⟨_,rfl⟩
             rw [←hM1] at HM7
             have HM1:Aside0 (bx<M1):=⟨by rw [hM1];exact HZ.out⟩
             have HM1b:Aside0 (M1≤w7.heap.size):=⟨by rw [hM1];exact HZ7.out⟩
             clear d0 g0 d1 g1 d2 g2 d3 g3 d4 g4 d5 g5 d6 g6 d7 g7 d8 g8 d9 g9 d10 g10 d11 g11 d12 g12
             clear HS6 HQ7 HR HB HX HG HZ HZ7 hM1
             revert HX7 HB7 HR7 HM7 HG7 HZW
             generalize (World.setCell _ ⟨bx,6,none⟩ _)=W7
             intro HX7 HB7 HR7 HG7 HZW HM7
             have HM2:Aside0 (M1≤W7.heap.size):=⟨Nat.le_trans HM1b.out HZW.out⟩
             have hcW:=R_whole_all HP.out HRR.out w p lt HTT.out HPT2.out s7 e7 a7 W7 HB7.out HR7.out
             clear HM1b HZW
             go_upto_region 34 with(go_at_call 36;refine hcW.mono ?_;rintro e_ w8 ⟨hk8,v,t2,s8,e8,a8,rfl,⟨cs,rfl,hM8⟩,hr8,hz8⟩;obtain⟨Q3,qx3,Q4,qx4,Q5,qx5,rfl⟩:=tm_cells hM8;have hx8:=blk_kept HX7.out hk8.2 (by have:=HPX.out;omega);have hF:=put_second hx8 (.int .i64 t2.f0) (.int .i64 t2.f1) (.string t2.f2) (.slice Q3 t2.f3.length qx3) (.slice Q4 t2.f4.length qx4) (.slice Q5 t2.f5.length qx5);obtain⟨⟨d0,d1,d2,d3,d4,d5,d6,d7,d8,d9,d10,d11,d12⟩,g0,g1,g2,g3,g4,g5,g6,g7,g8,g9,g10,g11,g12⟩:=cells13 hx8;have HX8:=ak hF.1;have HB8:=ak (hF.2.2 w hk8.1 HWX.out);have HR8:=ak (hr8.kept hF.2.1 (by have:=HPX.out;omega));have HM8:=ak (M_stay hM8 hF.2.1 (fun k hk=>by have:=HM1.out;have:=HM2.out;omega));have HN8:=ak (M_stay (M_stay HM7.out hk8.2 (fun k hk=>by have:=HPX.out;have:=HM1.out;omega)) hF.2.1 (fun k hk=>by have:=HM1.out;omega));have HG8:=ak (R_stayN (R_stayN HG7.out hk8.2 (fun k hk=>.inl (by rw [hk];exact HPB.out))) hF.2.1 (fun k hk=>.inr (by omega)));have HZ8:Aside0 (W7.heap.size≤w8.heap.size):=⟨hk8.2.1⟩;have HZW:=ak hF.2.1.1;have HQ8:=ak hz8;clear hk8 hr8 hM8 hz8 hx8 hF hcW)
             have HS8:Aside0 (So R (endS lt (entsS nb (rgt fr fa false) (rgt fr fa true) rt lt (n-(i+1)) (acc.map ofE++[⟨y,t1,t2⟩]) s8)) 0 e8 a8):=⟨So.whole (F:=eK3 nb (rgt fr fa false) (rgt fr fa true) rt lt (n-(i+1)) (acc.map ofE) y t1) (fun _=>rfl) rfl HS7.out HQ8.out⟩
             clear d0 g0 d1 g1 d2 g2 d3 g3 d4 g4 d5 g5 d6 g6 d7 g7 d8 g8 d9 g9 d10 g10 d11 g11 d12 g12
             revert HX8 HB8 HR8 HM8 HN8 HG8 HZW
             generalize (World.setCell _ ⟨bx,12,none⟩ _)=W8
             intro HX8 HB8 HR8 HM8 HN8 HG8 HZW
             have HM3:Aside0 (M1≤W8.heap.size):=⟨by have:=HM2.out;have:=HZ8.out;have:=HZW.out;omega⟩
             obtain⟨⟨d0,d1,d2,d3,d4,d5,d6,d7,d8,d9,d10,d11,d12⟩,g0,g1,g2,g3,g4,g5,g6,g7,g8,g9,g10,g11,g12⟩:=cells13 HX8.out
             have HE0:Aside0 (k51.M W8 B2 (fun k=>bx<k) (⟨y,t1,t2⟩:E26) [.string y,.int .i64 t1.f0,.int .i64 t1.f1,.string t1.f2,.slice P3 t1.f3.length px3,.slice P4 t1.f4.length px4,.slice P5 t1.f5.length px5,.int .i64 t2.f0,.int .i64 t2.f1,.string t2.f2,.slice Q3 t2.f3.length qx3,.slice Q4 t2.f4.length qx4,.slice Q5 t2.f5.length qx5]):=⟨⟨[.string y],_,rfl,rfl,[.int .i64 t1.f0,.int .i64 t1.f1,.string t1.f2,.slice P3 t1.f3.length px3,.slice P4 t1.f4.length px4,.slice P5 t1.f5.length px5],[.int .i64 t2.f0,.int .i64 t2.f1,.string t2.f2,.slice Q3 t2.f3.length qx3,.slice Q4 t2.f4.length qx4,.slice Q5 t2.f5.length qx5],rfl,k49.M_lower (by have:=HBX.out;have:=HM1.out;omega) (k49.M_mono (fun k hk=>by have:=hk.2.1;have:=HM1.out;omega) (k49.M_bound HN8.out)),k49.M_lower (by have:=HBX.out;have:=HM1.out;have:=HM2.out;omega) (k49.M_mono (fun k hk=>by have:=hk.2.1;have:=HM1.out;have:=HM2.out;omega) (k49.M_bound HM8.out))⟩⟩
             have HOK:Aside0 (∀k,bx<k→True∧some k≠Value.ownBlock (.slice A55 acc.length c55)):=⟨fun k hk=>⟨trivial,fun h9=>by have:=HG8.out.1 k h9.symm;omega⟩⟩
             have HGT:=ak (Kd.R_mono HG8.out (ok':=fun _=>True) (fun _ _=>trivial))
             have HBW:Aside0 (B2≤W8.heap.size):=⟨by have:=HBX.out;have:=HM1.out;have:=HM3.out;omega⟩
             clear HX7 HB7 HR7 HM7 HG7 HS7 HQ8
             go_wp2_with (at_builtin;refine Kd.R_append k51 (w0:=W8) B2 rfl (.tmp 111) (.tmp 113) 22 51 (.agg #[.string ⟨#[]⟩,.int .i64 0,.int .i64 0,.string ⟨#[]⟩,.slice none 0 0,.slice none 0 0,.slice none 0 0,.int .i64 0,.int .i64 0,.string ⟨#[]⟩,.slice none 0 0,.slice none 0 0,.slice none 0 0]) 224 rfl Tryz.underlying22 e26_info rfl (by decide) (by omega) (.slice A55 acc.length c55) acc ⟨y,t1,t2⟩ [.string y,.int .i64 t1.f0,.int .i64 t1.f1,.string t1.f2,.slice P3 t1.f3.length px3,.slice P4 t1.f4.length px4,.slice P5 t1.f5.length px5,.int .i64 t2.f0,.int .i64 t2.f1,.string t2.f2,.slice Q3 t2.f3.length qx3,.slice Q4 t2.f4.length qx4,.slice Q5 t2.f5.length qx5] (fun _=>True) (fun k=>bx<k) rfl rfl HE0.out HOK.out (fun _ _=>trivial) HGT.out (Below.refl _ _) HBW.out (by omega) ?_;intro v1 wA ho hb1 hg hat;have hak:=app_keep hg (Kd.R_base HGT.out);have HRA:=ak (HR8.out.kept hak (by have:=HPB.out;omega));have HBA:=ak (below_up HB8.out hb1 HWB.out);have HOA:=ak ho;have HZA:Aside0 (B2≤wA.heap.size):=⟨Nat.le_trans HBW.out hak.1⟩;clear d0 g0 d1 g1 d2 g2 d3 g3 d4 g4 d5 g5 d6 g6 d7 g7 d8 g8 d9 g9 d10 g10 d11 g11 d12 g12;clear ho hb1 hg hat hak)
             go_roundg (gp-1)
             case measure=>omega
             case rel=>exact⟨i+1,acc++[⟨y,t1,t2⟩],s8,e8,a8,rfl,hlt,by omega,⟨by rw [List.length_append,HAL.out];rfl⟩,⟨fun _=>hn31⟩,⟨by rw [List.map_append];exact HS8.out⟩,HZA,HRA,HBA,HOA⟩
          | false =>
           have HQ2:¬(i<n∧e=0):=fun h=>Bool.noConfusion (HQ.out.2 h)
           have HS6:Aside0 (So R (if s<lt.length then .error ((s:Int),61) else .ok (acc.map ofE)) 0 e a):=⟨So.as HS.out (fun h0=>by rw [show n-i=0 by omega,entsS];rfl)⟩
           obtain⟨A9,c9,hv9,hc9,hC9⟩:=HR.out.row
           obtain⟨c0_,c1,c2,c3,f0,f1,f2,f3⟩:=cells4 hv9
           clear hv9 hc9 hC9
           clear HQ HQ2 HS
           by_cases h0:e=0
           ·have q3:(e==0)=true:=beq_iff_eq.2 h0
            by_cases hs:s<lt.length
            ·have q4:decide ((s:Int)<(l.length:Int)-4)=true:=decide_eq_true (by have:=HLL.out;have:=HEN.out;omega)
             have q5:(s:Int)<(l.length:Int)-4:=by have:=HLL.out;have:=HEN.out;omega
             have HDN:Aside0 (D=([],(s:Int),61)):=⟨by
              rcases HS6.out with⟨_,_,h2⟩ | ⟨h1,_⟩
              ·rw [HD2.out,h2,if_pos hs]
               rfl
              ·exact absurd h0 h1⟩
             subst h0
             clear hs HS6
             go_wp2_with (go_at_call 35;refine(R_bad0 w p lt s _ _ _ _ HB.out HR.out).mono ?_;rintro e w5 ⟨rfl,hr5,hk5⟩;have HR5:=ak hr5;have HB5:=ak hk5.1;clear c0_ c1 c2 c3 f0 f1 f2 f3;obtain⟨A9,c9,hv9,hc9,hC9⟩:=HR5.out.row;obtain⟨c0_,c1,c2,c3,f0,f1,f2,f3⟩:=cells4 hv9;clear hv9 hc9 hC9;clear hr5 hk5)
             go_quiet (fail)
             have HB6:=ak (pw_below_drewN HB5.out nq)
             go_wp2
             go_ret3
             exact DecP.no HDN.out HB6.out
            ·have q4:decide ((s:Int)<(l.length:Int)-4)=false:=decide_eq_false (by have:=HLL.out;have:=HEN.out;omega)
             have q5:¬(s:Int)<(l.length:Int)-4:=by have:=HLL.out;have:=HEN.out;omega
             have HDN:Aside0 (D=(acc,0,0)):=⟨by
              rcases HS6.out with⟨_,_,h2⟩ | ⟨h1,_⟩
              ·rw [HD2.out,h2,if_neg hs,outR,map_toE]
              ·exact absurd h0 h1⟩
             have q6:(e != 0)=false:=by simp [h0]
             clear hs HS6 h0
             go_wp2
             go_ret3
             refine⟨.slice A55 acc.length c55,by rw [HDN.out];rfl,by rw [HDN.out];exact Kd.R_lower HG.out HWB.out,HB.out⟩
           ·have q3:(e==0)=false:=beq_eq_false_iff_ne.2 h0
            have q6:(e != 0)=true:=bne_iff_ne.2 h0
            have HDN:Aside0 (D=([],a,e)):=⟨by
             rcases HS6.out with⟨h1,_⟩ | ⟨_,h2⟩
             ·exact absurd h1 h0
             ·rw [HD2.out,h2]
              rfl⟩
            clear h0 HS6
            go_wp2
            go_quiet (fail)
            have HB6:=ak (pw_below_drewN HB.out nq)
            go_wp2
            go_ret3
            exact DecP.no HDN.out HB6.out
     ·have q1:(s != sm lt)=true:=by simp [hsm]
      have HD2:Aside0 (D=([],(l.length:Int)-4,271)):=⟨by rw [HD.out,if_pos (by rw [←HJ.out];exact hsm),show(en:Int)=(l.length:Int)-4 by have:=HEN.out;omega]⟩
      clear hsm HD
      go_wp2_with (go_at_call 12;refine hcS.mono ?_;rintro e w2 ⟨rfl,hb2⟩;have HB2:=ak (below_step HB.out hb2);clear hb2 hcS)
      go_ret3
      exact DecP.no HD2.out HB2.out
def dnS(n k:Nat):Array Bool:=(List.replicate k true++List.replicate (n-k) false).toArray
def At6(w:World)(ad:Addr)(m:Nat)(t:Tm)(A3:Option Addr)(c3:Nat)(A4:Option Addr)(c4:Nat)(A5:Option Addr)(c5:Nat):Prop :=
 w.cell? (ad.add m)=some (.int .i64 t.f0)∧w.cell? ⟨(ad.add m).block,(ad.add m).off+1,none⟩=some (.int .i64 t.f1)∧w.cell? ⟨(ad.add m).block,(ad.add m).off+2,none⟩=some (.string t.f2)∧w.cell? ⟨(ad.add m).block,(ad.add m).off+3,none⟩=some (.slice A3 t.f3.length c3)∧w.cell? ⟨(ad.add m).block,(ad.add m).off+4,none⟩=some (.slice A4 t.f4.length c4)∧w.cell? ⟨(ad.add m).block,(ad.add m).off+5,none⟩=some (.slice A5 t.f5.length c5)
theorem At6.below{w w1:World}{ad:Addr}{m:Nat}{t:Tm}{A3 A4 A5:Option Addr}{c3 c4 c5:Nat}(h:At6 w ad m t A3 c3 A4 c4 A5 c5)(hb:Below w.heap.size w w1):At6 w1 ad m t A3 c3 A4 c4 A5 c5 :=
 ⟨pw_cell_below hb h.1,pw_cell_below hb h.2.1,pw_cell_below hb h.2.2.1,pw_cell_below hb h.2.2.2.1,pw_cell_below hb h.2.2.2.2.1,pw_cell_below hb h.2.2.2.2.2⟩
def cs6(t:Tm)(A3:Option Addr)(c3:Nat)(A4:Option Addr)(c4:Nat)(A5:Option Addr)(c5:Nat):List Value:=[.int .i64 t.f0,.int .i64 t.f1,.string t.f2,.slice A3 t.f3.length c3,.slice A4 t.f4.length c4,.slice A5 t.f5.length c5]
def SameOk(PF:List Cl→Prop)(t:Tm):Prop:=∀(cs1 cs2:List Value) (w:World),k49.K w t cs1→k49.K w t cs2→Calls Tryz.prog 37 #[.agg cs1.toArray,.agg cs2.toArray] w fun e w'=>e=.returned (.bool true)∧Below w.heap.size w w'
set_option maxHeartbeats 4000000 in
theorem ref10_lists{PF:List Cl→Prop}(ks:List Tm)(ih:∀t∈ks,SameOk PF t)(A1:Option Addr)(c1:Nat)(A2:Option Addr)(c2:Nat)(w:World)(h1:Kd.C k49 w A1 ks.length ks)(h2:Kd.C k49 w A2 ks.length ks) :
  Calls Tryz.prog 52 #[.slice A1 ks.length c1,.slice A2 ks.length c2] w fun e w'=>e=.returned (.bool true)∧Below w.heap.size w w':=by
 have H1:=ak h1
 have H2:=ak h2
 have HI:=ak ih
 have hmx:ks.length≤9223372036854775807:=Kd.C_max h1
 clear h1 h2 ih
 go_enter Tryz.func52,Tryz.ntmps52
 go_wp2
 go_loopg [5] (ks.length+1) (fun kq v5 wx=>∃j:Nat,v5=.int .i64 (j:Int)∧j≤ks.length∧kq+j=ks.length+1∧Aside0 (Below w.heap.size w wx))
 case atStart=>exact⟨0,rfl,Nat.zero_le _,rfl,⟨Below.refl _ _⟩⟩
 case round =>
  obtain⟨j,rfl,hj,hk,HB⟩:=hrel
  by_cases hlt:j<ks.length
  ·have d2:(j:Int)<(ks.length:Int):=by omega
   have d1:decide ((j:Int)<(ks.length:Int))=true:=decide_eq_true d2
   have d3:(0:Int)≤(j:Int):=by omega
   obtain⟨ad,A3,c3,A4,c4,A5,c5,e,g0,g1,g2,g3,g4,g5,hK1⟩:=at_tm H1.out j hlt
   subst e
   obtain⟨ae,B3,x3,B4,x4,B5,x5,e,m0,m1,m2,m3,m4,m5,hK2⟩:=at_tm H2.out j hlt
   subst e
   have hmem:ks[j]∈ks:=List.getElem_mem _
   obtain⟨t,ht⟩:∃t,ks[j]=t:=⟨_,rfl⟩
   rw [ht] at g0 g1 g2 g3 g4 g5 hK1 m0 m1 m2 m3 m4 m5 hK2 hmem
   have HA1:=ak (show At6 w ad (j * 6) t A3 c3 A4 c4 A5 c5 from⟨g0,g1,g2,g3,g4,g5⟩)
   have HA2:=ak (show At6 w ae (j * 6) t B3 x3 B4 x4 B5 x5 from⟨m0,m1,m2,m3,m4,m5⟩)
   have HK1:=ak hK1
   have HK2:=ak hK2
   have HTM:=ak (HI.out t hmem)
   clear g0 g1 g2 g3 g4 g5 hK1 m0 m1 m2 m3 m4 m5 hK2 hmem ht
   go_wp2
   refine start_ (n:=10) (S:=fun w'=>Below w.heap.size w w') (ds:=[]) (dnS 10 0) (by kernel_rfl) rfl (by kernel_rfl) (below_drew HB.out) (fun hHeld=>?_)
   clear HB
   generalize wr.drew=wd at *
   refine pu_ 0 17 ?_
   refine pu_ 1 18 ?_
   refine pu_ 2 19 ?_
   refine ta_ (hy:=Or.inl ⟨by rfl,by intro w' hs_;obtain⟨z0,z1,z2,z3,z4,z5⟩:=HA1.out.below hs_;go_simp;with_reducible rfl⟩) 3 20 ?_
   refine pu_ 4 21 ?_
   refine pu_ 5 22 ?_
   refine pu_ 6 23 ?_
   refine ta_ (hy:=Or.inl ⟨by rfl,by intro w' hs_;obtain⟨z0,z1,z2,z3,z4,z5⟩:=HA2.out.below hs_;go_simp;with_reducible rfl⟩) 7 24 ?_
   refine on_ 8 (some 25) fun K hK=>?_
   refine goes_ Tryz.func37 (by kernel_rfl) rfl #[.agg (cs6 t A3 c3 A4 c4 A5 c5).toArray,.agg (cs6 t B3 x3 B4 x4 B5 x5).toArray] (by rfl) rfl rfl (by (try simp only [List.map_toArray,List.map_cons,List.map_nil]);first | done | rfl) ?_
   refine(HTM.out _ _ wd (k49.K_below hHeld HK1.out) (k49.K_below hHeld HK2.out)).mono ?_
   rintro e w2 ⟨rfl,hb2⟩
   refine⟨_,rfl, ?_⟩
   have hHeld_:=below_step hHeld hb2
   refine hK.out _ _ hHeld_ (fun hHeld=>?_)
   clear hK K hHeld_ hb2
   refine no_ 25 ?_
   refine pu_ 9 26 ?_
   refine done_ (by kernel_rfl) ?_
   have HB3:=ak hHeld
   go_wp2
   go_roundg (gk-1)
   case measure=>omega
   case rel=>exact⟨j+1,rfl,hlt,by omega,HB3⟩
  ·have d2:¬(j:Int)<(ks.length:Int):=by omega
   have d1:decide ((j:Int)<(ks.length:Int))=false:=decide_eq_false d2
   go_wp2
   go_ret
   exact⟨rfl,HB.out⟩
theorem cells6s{w:World}{b ty:Nat}{x0 x1 x2 x3 x4 x5:Value}(h:w.heap[b]? = some (.cells #[x0,x1,x2,x3,x4,x5] ty (0,0))):w.cell? ⟨b,0,none⟩=some x0∧w.cell? ⟨b,1,none⟩=some x1∧w.cell? ⟨b,2,none⟩=some x2∧w.cell? ⟨b,3,none⟩=some x3∧w.cell? ⟨b,4,none⟩=some x4∧w.cell? ⟨b,5,none⟩=some x5∧True:=by
 simp [World.cell?,h]
set_option maxHeartbeats 4000000 in
theorem ref10_Same{PF:List Cl→Prop}{PN:ByteArray→Prop}(S2:∀(A1:Option Addr) (c1:Nat) (A2:Option Addr) (c2:Nat) (l:List Cl) (w:World),Kd.C k113 w A1 l.length l→l.length≤c1→Kd.C k113 w A2 l.length l→l.length≤c2→PF l→Calls Tryz.prog 51 #[.slice A1 l.length c1,.slice A2 l.length c2] w fun e w'=>e=.returned (.bool true)∧Below w.heap.size w w'):∀(N:Nat) (t:Tm),sizeT t≤N→okS PF PN t→SameOk PF t:=by
 intro N
 induction N with
 | zero =>
  intro t h
  have:=sizeT_pos t
  omega
 | succ N ih =>
 intro t hN ho cs1 cs2 w hK1 hK2
 obtain⟨A3,c3,A4,c4,A5,c5,rfl,l3,g3,l4,g4,l5,g5⟩:=k49_open hK1
 obtain⟨B3,x3,B4,x4,B5,x5,rfl,m3,n3,m4,n4,m5,n5⟩:=k49_open hK2
 have hoo:=okS_eq ho
 obtain⟨W0,hW0⟩:∃W0,W0=(w.alloc (.cells #[.int .i64 t.f0,.int .i64 t.f1,.string t.f2,.slice A3 t.f3.length c3,.slice A4 t.f4.length c4,.slice A5 t.f5.length c5] 49)).alloc (.cells #[.int .i64 t.f0,.int .i64 t.f1,.string t.f2,.slice B3 t.f3.length x3,.slice B4 t.f4.length x4,.slice B5 t.f5.length x5] 49):=⟨_,rfl⟩
 have HBW:Aside0 (Below w.heap.size w W0):=⟨by rw [hW0];exact below_alloc (below_alloc (Below.refl _ _) _) _⟩
 have HT2:Aside0 (W0.heap[w.heap.size]? = some (.cells #[.int .i64 t.f0,.int .i64 t.f1,.string t.f2,.slice A3 t.f3.length c3,.slice A4 t.f4.length c4,.slice A5 t.f5.length c5] 49 (0,0))):=⟨by rw [hW0];exact blk_alloc (blk_new w _) _⟩
 have HT3:Aside0 (W0.heap[w.heap.size+1]? = some (.cells #[.int .i64 t.f0,.int .i64 t.f1,.string t.f2,.slice B3 t.f3.length x3,.slice B4 t.f4.length x4,.slice B5 t.f5.length x5] 49 (0,0))):=⟨by rw [hW0];have:=blk_new (w.alloc (.cells #[.int .i64 t.f0,.int .i64 t.f1,.string t.f2,.slice A3 t.f3.length c3,.slice A4 t.f4.length c4,.slice A5 t.f5.length c5] 49)) (.cells #[.int .i64 t.f0,.int .i64 t.f1,.string t.f2,.slice B3 t.f3.length x3,.slice B4 t.f4.length x4,.slice B5 t.f5.length x5] 49);simpa using this⟩
 have hm5:t.f5.length≤9223372036854775807:=Kd.C_max g5
 have hc2:=S2 A3 c3 B3 x3 t.f3 W0 (Kd.C_below g3 HBW.out) l3 (Kd.C_below n3 HBW.out) m3 hoo.1
 have HCL:=ak (fun(w1:World) (hb:Below W0.heap.size W0 w1)=>ref10_lists t.f4 (fun k hk=>ih k (by have:=sizeT_kid hk;omega) (okSL_mem hoo.2.2.1 hk)) A4 c4 B4 x4 w1 (Kd.C_below g4 (below_step HBW.out hb)) (Kd.C_below n4 (below_step HBW.out hb)))
 have HG5:=ak g5
 have HN5:=ak n5
 have HSB:=ak (fun(b:Br) (hb:b∈t.f5) (w1:World) (hw:Below W0.heap.size W0 w1) (A1:Option Addr) (c1:Nat) (A2:Option Addr) (c2:Nat) (h1:Kd.C k49 w A1 b.f1.length b.f1) (h2:Kd.C k49 w A2 b.f1.length b.f1)=>ref10_lists b.f1 (fun k hk=>ih k (by have e1:=sizeT_eq t;have e2:=sizeB_mem hb;have e3:=sizeR_eq b;have e4:=sizeL_mem hk;omega) (okSL_mem (okSR_eq (okSB_mem hoo.2.2.2 hb)).2 hk)) A1 c1 A2 c2 w1 (Kd.C_below h1 (below_step HBW.out hw)) (Kd.C_below h2 (below_step HBW.out hw)))
 have HSC:=ak (fun(b:Br) (hb:b∈t.f5) (w1:World) (hw:Below W0.heap.size W0 w1) (A1:Option Addr) (c1:Nat) (A2:Option Addr) (c2:Nat) (h1:Kd.C k113 w A1 b.f0.length b.f0) (h2:Kd.C k113 w A2 b.f0.length b.f0) (q1:b.f0.length≤c1) (q2:b.f0.length≤c2)=>S2 A1 c1 A2 c2 b.f0 w1 (Kd.C_below h1 (below_step HBW.out hw)) q1 (Kd.C_below h2 (below_step HBW.out hw)) q2 (okSR_eq (okSB_mem hoo.2.2.2 hb)).1)
 clear S2 ih ho hoo hK1 hK2 l3 g3 l4 g4 l5 g5 m3 n3 m4 n4 m5 n5 hN
 go_enter Tryz.func37,Tryz.ntmps37
 go_upto_region 1 with fail
 rw [←hW0]
 clear hW0
 obtain⟨d0,d1,d2,d3,d4,d5,_⟩:=cells6s HT2.out
 obtain⟨m0,m1,m2,m3,m4,m5,_⟩:=cells6s HT3.out
 go_wp2_with (first | (go_at_call 51;refine hc2.mono ?_;rintro e w1 ⟨rfl,hb1⟩;have HB1:=ak hb1;have hcl:=HCL.out w1 hb1;clear d0 d1 d2 d3 d4 d5 m0 m1 m2 m3 m4 m5;obtain⟨d0,d1,d2,d3,d4,d5,_⟩:=cells6s (blk_below HT2.out hb1);obtain⟨m0,m1,m2,m3,m4,m5,_⟩:=cells6s (blk_below HT3.out hb1);clear hb1 hc2) | (go_at_call 52;refine hcl.mono ?_;rintro e w2 ⟨rfl,hb2⟩;have HB2:=ak (below_step HB1.out hb2);clear d0 d1 d2 d3 d4 d5 m0 m1 m2 m3 m4 m5;obtain⟨d0,d1,d2,d3,d4,d5,_⟩:=cells6s (blk_below HT2.out HB2.out);obtain⟨m0,m1,m2,m3,m4,m5,_⟩:=cells6s (blk_below HT3.out HB2.out);clear hb2 hcl))
 clear d0 d1 d2 d3 d4 d5 m0 m1 m2 m3 m4 m5
 go_loopg [5] (t.f5.length+1) (fun kq v5 wx=>∃j:Nat,v5=.int .i64 (j:Int)∧j≤t.f5.length∧kq+j=t.f5.length+1∧Aside0 (Below W0.heap.size W0 wx))
 case atStart=>exact⟨0,rfl,Nat.zero_le _,rfl,HB2⟩
 case round =>
  clear HB1 HB2
  obtain⟨j,rfl,hj,hk,HB⟩:=hrel
  obtain⟨d0,d1,d2,d3,d4,d5,_⟩:=cells6s (blk_below HT2.out HB.out)
  by_cases hlt:j<t.f5.length
  ·have e2:(j:Int)<(t.f5.length:Int):=by omega
   have e1:decide ((j:Int)<(t.f5.length:Int))=true:=decide_eq_true e2
   have e3:(0:Int)≤(j:Int):=by omega
   obtain⟨ad,A0b,c0b,A1b,c1b,e,g0,g1,l0,q0,l1,q1⟩:=at_br HG5.out j hlt
   subst e
   obtain⟨ae,B0b,x0b,B1b,x1b,e,n0,n1,r0,p0,r1,p1⟩:=at_br HN5.out j hlt
   subst e
   have hmem:t.f5[j]∈t.f5:=List.getElem_mem _
   obtain⟨b,hb⟩:∃b,t.f5[j]=b:=⟨_,rfl⟩
   rw [hb] at g0 g1 l0 q0 l1 q1 n0 n1 r0 p0 r1 p1 hmem
   have HX0:=ak (pw_cell_below HBW.out g0)
   have HX1:=ak (pw_cell_below HBW.out g1)
   have HY0:=ak (pw_cell_below HBW.out n0)
   have HY1:=ak (pw_cell_below HBW.out n1)
   have HS1:=ak (fun(w1:World) (hw:Below W0.heap.size W0 w1)=>HSC.out b hmem w1 hw A0b c0b B0b x0b q0 p0 l0 r0)
   have HS2:=ak (fun(w1:World) (hw:Below W0.heap.size W0 w1)=>HSB.out b hmem w1 hw A1b c1b B1b x1b q1 p1)
   clear g0 g1 l0 q0 l1 q1 n0 n1 r0 p0 r1 p1 hmem hb
   go_wp2
   clear d0 d1 d2 d3 d4 d5
   refine start_ (n:=30) (S:=fun w'=>Below W0.heap.size W0 w') (ds:=[]) (dnS 30 0) (by kernel_rfl) rfl (by kernel_rfl) (below_drew HB.out) (fun hHeld=>?_)
   clear HB
   generalize wr.drew=wd at *
   refine pu_ 0 57 ?_
   refine ta_ (hy:=Or.inl ⟨by rfl,by intro w' hs_;have z5:=(blk_cell (blk_below HT2.out hs_) 5).trans (rfl:_=some (Value.slice (some ad) t.f5.length c5));go_simp;with_reducible rfl⟩) 1 58 ?_
   refine pu_ 2 59 ?_
   refine pu_ 3 60 ?_
   refine pu_ 4 61 ?_
   refine ta_ (hy:=Or.inl ⟨by rfl,by intro w' hs_;have z0:=pw_cell_below hs_ HX0.out;go_simp;with_reducible rfl⟩) 5 62 ?_
   refine pu_ 6 63 ?_
   refine ta_ (hy:=Or.inl ⟨by rfl,by intro w' hs_;have z5:=(blk_cell (blk_below HT3.out hs_) 5).trans (rfl:_=some (Value.slice (some ae) t.f5.length x5));go_simp;with_reducible rfl⟩) 7 64 ?_
   refine pu_ 8 65 ?_
   refine pu_ 9 66 ?_
   refine pu_ 10 67 ?_
   refine ta_ (hy:=Or.inl ⟨by rfl,by intro w' hs_;have z0:=pw_cell_below hs_ HY0.out;go_simp;with_reducible rfl⟩) 11 68 ?_
   refine on_ 12 (some 69) fun K hK=>?_
   refine goes_ Tryz.func51 (by kernel_rfl) rfl #[.slice A0b b.f0.length c0b,.slice B0b b.f0.length x0b] (by rfl) rfl rfl (by (try simp only [List.map_toArray,List.map_cons,List.map_nil]);first | done | rfl) ?_
   refine(HS1.out wd hHeld).mono ?_
   rintro e w1 ⟨rfl,hb2⟩
   refine⟨_,rfl, ?_⟩
   have hHeld_:=below_step hHeld hb2
   refine hK.out _ _ hHeld_ (fun hHeld=>?_)
   clear hK K hHeld_ hb2
   refine no_ 69 ?_
   refine pu_ 13 70 ?_
   refine pu_ 14 71 ?_
   refine pu_ 15 72 ?_
   refine ta_ (hy:=Or.inl ⟨by rfl,by intro w' hs_;have z5:=(blk_cell (blk_below HT2.out hs_) 5).trans (rfl:_=some (Value.slice (some ad) t.f5.length c5));go_simp;with_reducible rfl⟩) 16 73 ?_
   refine pu_ 17 74 ?_
   refine pu_ 18 75 ?_
   refine pu_ 19 76 ?_
   refine ta_ (hy:=Or.inl ⟨by rfl,by intro w' hs_;have z0:=pw_cell_below hs_ HX1.out;go_simp;with_reducible rfl⟩) 20 77 ?_
   refine pu_ 21 78 ?_
   refine ta_ (hy:=Or.inl ⟨by rfl,by intro w' hs_;have z5:=(blk_cell (blk_below HT3.out hs_) 5).trans (rfl:_=some (Value.slice (some ae) t.f5.length x5));go_simp;with_reducible rfl⟩) 22 79 ?_
   refine pu_ 23 80 ?_
   refine pu_ 24 81 ?_
   refine pu_ 25 82 ?_
   refine ta_ (hy:=Or.inl ⟨by rfl,by intro w' hs_;have z0:=pw_cell_below hs_ HY1.out;go_simp;with_reducible rfl⟩) 26 83 ?_
   refine on_ 27 (some 84) fun K hK=>?_
   refine goes_ Tryz.func52 (by kernel_rfl) rfl #[.slice A1b b.f1.length c1b,.slice B1b b.f1.length x1b] (by rfl) rfl rfl (by (try simp only [List.map_toArray,List.map_cons,List.map_nil]);first | done | rfl) ?_
   refine(HS2.out w1 hHeld).mono ?_
   rintro e w2 ⟨rfl,hb2⟩
   refine⟨_,rfl, ?_⟩
   have hHeld_:=below_step hHeld hb2
   refine hK.out _ _ hHeld_ (fun hHeld=>?_)
   clear hK K hHeld_ hb2
   refine no_ 84 ?_
   refine pu_ 28 85 ?_
   refine pu_ 29 86 ?_
   refine done_ (by kernel_rfl) ?_
   have HB3:=ak hHeld
   go_wp2
   go_roundg (gk-1)
   case measure=>omega
   case rel=>exact⟨j+1,rfl,hlt,by omega,HB3⟩
  ·have e2:¬(j:Int)<(t.f5.length:Int):=by omega
   have e1:decide ((j:Int)<(t.f5.length:Int))=false:=decide_eq_false e2
   go_wp2
   go_ret
   exact⟨rfl,below_step HBW.out HB.out⟩
def At13(w:World)(ad:Addr)(m:Nat)(x:S51)(A4:Option Addr)(c4:Nat)(A5:Option Addr)(c5:Nat)(A6:Option Addr)(c6:Nat)(A10:Option Addr)(c10:Nat)(A11:Option Addr)(c11:Nat)(A12:Option Addr)(c12:Nat):Prop:=w.cell? (ad.add m)=some (.string x.f0)∧w.cell? ⟨(ad.add m).block,(ad.add m).off+1,none⟩=some (.int .i64 x.f1.f0)∧w.cell? ⟨(ad.add m).block,(ad.add m).off+2,none⟩=some (.int .i64 x.f1.f1)∧w.cell? ⟨(ad.add m).block,(ad.add m).off+3,none⟩=some (.string x.f1.f2)∧w.cell? ⟨(ad.add m).block,(ad.add m).off+4,none⟩=some (.slice A4 x.f1.f3.length c4)∧w.cell? ⟨(ad.add m).block,(ad.add m).off+5,none⟩=some (.slice A5 x.f1.f4.length c5)∧w.cell? ⟨(ad.add m).block,(ad.add m).off+6,none⟩=some (.slice A6 x.f1.f5.length c6)∧w.cell? ⟨(ad.add m).block,(ad.add m).off+7,none⟩=some (.int .i64 x.f2.f0)∧w.cell? ⟨(ad.add m).block,(ad.add m).off+8,none⟩=some (.int .i64 x.f2.f1)∧w.cell? ⟨(ad.add m).block,(ad.add m).off+9,none⟩=some (.string x.f2.f2)∧w.cell? ⟨(ad.add m).block,(ad.add m).off+10,none⟩=some (.slice A10 x.f2.f3.length c10)∧w.cell? ⟨(ad.add m).block,(ad.add m).off+11,none⟩=some (.slice A11 x.f2.f4.length c11)∧w.cell? ⟨(ad.add m).block,(ad.add m).off+12,none⟩=some (.slice A12 x.f2.f5.length c12)
theorem At13.below{w w1:World}{ad:Addr}{m:Nat}{x:S51}{A4 A5 A6 A10 A11 A12:Option Addr}{c4 c5 c6 c10 c11 c12:Nat}(h:At13 w ad m x A4 c4 A5 c5 A6 c6 A10 c10 A11 c11 A12 c12)(hb:Below w.heap.size w w1):At13 w1 ad m x A4 c4 A5 c5 A6 c6 A10 c10 A11 c11 A12 c12:=by
 obtain⟨h0,h1,h2,h3,h4,h5,h6,h7,h8,h9,h10,h11,h12⟩:=h
 exact⟨pw_cell_below hb h0,pw_cell_below hb h1,pw_cell_below hb h2,pw_cell_below hb h3,pw_cell_below hb h4,pw_cell_below hb h5,pw_cell_below hb h6,pw_cell_below hb h7,pw_cell_below hb h8,pw_cell_below hb h9,pw_cell_below hb h10,pw_cell_below hb h11,pw_cell_below hb h12⟩
theorem rdE_get{l:List S51}{j:Nat}(h:j<l.length):rd_T51 l (j:Int)=l[j]:=by
 unfold rd_T51
 rw [Int.toNat_natCast,List.getD_eq_getElem?_getD,List.getElem?_eq_getElem h]
 rfl
set_option maxHeartbeats 4000000 in
theorem ref36_Same{PF:List Cl→Prop}(S2:∀(A1:Option Addr) (c1:Nat) (A2:Option Addr) (c2:Nat) (l:List Cl) (w:World),Kd.C k113 w A1 l.length l→l.length≤c1→Kd.C k113 w A2 l.length l→l.length≤c2→PF l→Calls Tryz.prog 51 #[.slice A1 l.length c1,.slice A2 l.length c2] w fun e w'=>e=.returned (.bool true)∧Below w.heap.size w w')(A0:Option Addr)(c0:Nat)(A1:Option Addr)(c1:Nat)(l:List S51)(w:World)(h0:Kd.C k51 w A0 l.length l)(hc0:l.length≤c0)(h1:Kd.C k51 w A1 l.length l)(hc1:l.length≤c1)(hok:∀x∈l,okS PF (fun _=>True) x.f1∧okS PF (fun _=>True) x.f2) :
  Calls Tryz.prog 15 #[.slice A0 l.length c0,.slice A1 l.length c1] w fun e w'=>e=.returned (.bool true)∧Below w.heap.size w w':=by
 have H0:=ak h0
 have H1:=ak h1
 have HOK:=ak hok
 have hmx:l.length≤9223372036854775807:=Kd.C_max h0
 have HSM:=ak (fun(t:Tm) (h:okS PF (fun _=>True) t)=>ref10_Same S2 (sizeT t) t (Nat.le_refl _) h)
 clear h0 h1 hok S2
 go_enter Tryz.func15,Tryz.ntmps15
 go_wp2
 go_loopg [5] (l.length+1) (fun kq v5 wx=>∃j:Nat,v5=.int .i64 (j:Int)∧j≤l.length∧kq+j=l.length+1∧Aside0 (Below w.heap.size w wx))
 case atStart=>exact⟨0,rfl,Nat.zero_le _,rfl,⟨Below.refl _ _⟩⟩
 case round =>
  obtain⟨j,rfl,hj,hk,HB⟩:=hrel
  by_cases hlt:j<l.length
  ·have e2:(j:Int)<(l.length:Int):=by omega
   have e1:decide ((j:Int)<(l.length:Int))=true:=decide_eq_true e2
   have e3:(0:Int)≤(j:Int):=by omega
   obtain⟨ad,A4,c4,A5,c5,A6,c6,A10,c10,A11,c11,A12,c12,e,g0,g1,g2,g3,g4,g5,g6,g7,g8,g9,g10,g11,g12,l4,y4,l5,y5,l6,y6,l10,y10,l11,y11,l12,y12⟩:=at_T51 H0.out (j:Int) e3 e2
   subst e
   rw [rdE_get hlt,Int.toNat_natCast] at g0 g1 g2 g3 g4 g5 g6 g7 g8 g9 g10 g11 g12
   have HA1:=ak (show At13 w ad (j * 13) l[j] A4 c4 A5 c5 A6 c6 A10 c10 A11 c11 A12 c12 from⟨g0,g1,g2,g3,g4,g5,g6,g7,g8,g9,g10,g11,g12⟩)
   have HK1:=ak (show k49.K w l[j].f1 [.int .i64 l[j].f1.f0,.int .i64 l[j].f1.f1,.string l[j].f1.f2,.slice A4 l[j].f1.f3.length c4,.slice A5 l[j].f1.f4.length c5,.slice A6 l[j].f1.f5.length c6]∧k49.K w l[j].f2 [.int .i64 l[j].f2.f0,.int .i64 l[j].f2.f1,.string l[j].f2.f2,.slice A10 l[j].f2.f3.length c10,.slice A11 l[j].f2.f4.length c11,.slice A12 l[j].f2.f5.length c12] from by rw [rdE_get hlt] at l4 y4 l5 y5 l6 y6 l10 y10 l11 y11 l12 y12;exact⟨k49_mk w l[j].f1 l4 y4 l5 y5 l6 y6,k49_mk w l[j].f2 l10 y10 l11 y11 l12 y12⟩)
   clear l4 y4 l5 y5 l6 y6 l10 y10 l11 y11 l12 y12 g0 g1 g2 g3 g4 g5 g6 g7 g8 g9 g10 g11 g12
   obtain⟨ae,B4,x4,B5,x5,B6,x6,B10,x10,B11,x11,B12,x12,e,g0,g1,g2,g3,g4,g5,g6,g7,g8,g9,g10,g11,g12,l4,y4,l5,y5,l6,y6,l10,y10,l11,y11,l12,y12⟩:=at_T51 H1.out (j:Int) e3 e2
   subst e
   rw [rdE_get hlt,Int.toNat_natCast] at g0 g1 g2 g3 g4 g5 g6 g7 g8 g9 g10 g11 g12
   have HA2:=ak (show At13 w ae (j * 13) l[j] B4 x4 B5 x5 B6 x6 B10 x10 B11 x11 B12 x12 from⟨g0,g1,g2,g3,g4,g5,g6,g7,g8,g9,g10,g11,g12⟩)
   have HK2:=ak (show k49.K w l[j].f1 [.int .i64 l[j].f1.f0,.int .i64 l[j].f1.f1,.string l[j].f1.f2,.slice B4 l[j].f1.f3.length x4,.slice B5 l[j].f1.f4.length x5,.slice B6 l[j].f1.f5.length x6]∧k49.K w l[j].f2 [.int .i64 l[j].f2.f0,.int .i64 l[j].f2.f1,.string l[j].f2.f2,.slice B10 l[j].f2.f3.length x10,.slice B11 l[j].f2.f4.length x11,.slice B12 l[j].f2.f5.length x12] from by rw [rdE_get hlt] at l4 y4 l5 y5 l6 y6 l10 y10 l11 y11 l12 y12;exact⟨k49_mk w l[j].f1 l4 y4 l5 y5 l6 y6,k49_mk w l[j].f2 l10 y10 l11 y11 l12 y12⟩)
   clear l4 y4 l5 y5 l6 y6 l10 y10 l11 y11 l12 y12 g0 g1 g2 g3 g4 g5 g6 g7 g8 g9 g10 g11 g12
   have HOJ:=ak (HOK.out l[j] (List.getElem_mem _))
   obtain⟨x,hx⟩:∃x,l[j]=x:=⟨_,rfl⟩
   rw [hx] at HA1 HA2 HK1 HK2 HOJ
   clear hx
   go_wp2
   refine start_ (n:=39) (S:=fun w'=>Below w.heap.size w w') (ds:=[]) (dnS 39 0) (by kernel_rfl) rfl (by kernel_rfl) (below_drew HB.out) (fun hHeld=>?_)
   clear HB
   generalize wr.drew=wd at *
   refine pu_ 0 17 ?_
   refine pu_ 1 18 ?_
   refine pu_ 2 19 ?_
   refine pu_ 3 20 ?_
   refine ta_ (hy:=Or.inl ⟨by rfl,by intro w' hs_;obtain⟨z0,z1,z2,z3,z4,z5,z6,z7,z8,z9,z10,z11,z12⟩:=HA1.out.below hs_;go_simp;with_reducible rfl⟩) 4 21 ?_
   refine pu_ 5 22 ?_
   refine pu_ 6 23 ?_
   refine pu_ 7 24 ?_
   refine pu_ 8 25 ?_
   refine ta_ (hy:=Or.inl ⟨by rfl,by intro w' hs_;obtain⟨z0,z1,z2,z3,z4,z5,z6,z7,z8,z9,z10,z11,z12⟩:=HA2.out.below hs_;go_simp;with_reducible rfl⟩) 9 26 ?_
   refine pu_ 10 27 ?_
   refine pu_ 11 28 ?_
   refine pu_ 12 29 ?_
   refine pu_ 13 30 ?_
   refine pu_ 14 31 ?_
   refine pu_ 15 32 ?_
   refine ta_ (hy:=Or.inl ⟨by rfl,by intro w' hs_;obtain⟨z0,z1,z2,z3,z4,z5,z6,z7,z8,z9,z10,z11,z12⟩:=HA1.out.below hs_;go_simp;with_reducible rfl⟩) 16 33 ?_
   refine pu_ 17 34 ?_
   refine pu_ 18 35 ?_
   refine pu_ 19 36 ?_
   refine pu_ 20 37 ?_
   refine ta_ (hy:=Or.inl ⟨by rfl,by intro w' hs_;obtain⟨z0,z1,z2,z3,z4,z5,z6,z7,z8,z9,z10,z11,z12⟩:=HA2.out.below hs_;go_simp;with_reducible rfl⟩) 21 38 ?_
   refine on_ 22 (some 39) fun K hK=>?_
   refine goes_ Tryz.func37 (by kernel_rfl) rfl #[.agg #[.int .i64 x.f1.f0,.int .i64 x.f1.f1,.string x.f1.f2,.slice A4 x.f1.f3.length c4,.slice A5 x.f1.f4.length c5,.slice A6 x.f1.f5.length c6],.agg #[.int .i64 x.f1.f0,.int .i64 x.f1.f1,.string x.f1.f2,.slice B4 x.f1.f3.length x4,.slice B5 x.f1.f4.length x5,.slice B6 x.f1.f5.length x6]] (by rfl) rfl rfl (by (try simp only [List.map_toArray,List.map_cons,List.map_nil]);first | done | rfl) ?_
   refine(HSM.out x.f1 HOJ.out.1 _ _ wd (k49.K_below hHeld HK1.out.1) (k49.K_below hHeld HK2.out.1)).mono ?_
   rintro e w1 ⟨rfl,hb2⟩
   refine⟨_,rfl, ?_⟩
   have hHeld_:=below_step hHeld hb2
   refine hK.out _ _ hHeld_ (fun hHeld=>?_)
   clear hK K hHeld_ hb2
   refine no_ 39 ?_
   refine pu_ 23 40 ?_
   refine pu_ 24 41 ?_
   refine pu_ 25 42 ?_
   refine pu_ 26 43 ?_
   refine pu_ 27 44 ?_
   refine pu_ 28 45 ?_
   refine pu_ 29 46 ?_
   refine ta_ (hy:=Or.inl ⟨by rfl,by intro w' hs_;obtain⟨z0,z1,z2,z3,z4,z5,z6,z7,z8,z9,z10,z11,z12⟩:=HA1.out.below hs_;go_simp;with_reducible rfl⟩) 30 47 ?_
   refine pu_ 31 48 ?_
   refine pu_ 32 49 ?_
   refine pu_ 33 50 ?_
   refine pu_ 34 51 ?_
   refine ta_ (hy:=Or.inl ⟨by rfl,by intro w' hs_;obtain⟨z0,z1,z2,z3,z4,z5,z6,z7,z8,z9,z10,z11,z12⟩:=HA2.out.below hs_;go_simp;with_reducible rfl⟩) 35 52 ?_
   refine on_ 36 (some 53) fun K hK=>?_
   refine goes_ Tryz.func37 (by kernel_rfl) rfl #[.agg #[.int .i64 x.f2.f0,.int .i64 x.f2.f1,.string x.f2.f2,.slice A10 x.f2.f3.length c10,.slice A11 x.f2.f4.length c11,.slice A12 x.f2.f5.length c12],.agg #[.int .i64 x.f2.f0,.int .i64 x.f2.f1,.string x.f2.f2,.slice B10 x.f2.f3.length x10,.slice B11 x.f2.f4.length x11,.slice B12 x.f2.f5.length x12]] (by rfl) rfl rfl (by (try simp only [List.map_toArray,List.map_cons,List.map_nil]);first | done | rfl) ?_
   refine(HSM.out x.f2 HOJ.out.2 _ _ w1 (k49.K_below hHeld HK1.out.2) (k49.K_below hHeld HK2.out.2)).mono ?_
   rintro e w2 ⟨rfl,hb2⟩
   refine⟨_,rfl, ?_⟩
   have hHeld_:=below_step hHeld hb2
   refine hK.out _ _ hHeld_ (fun hHeld=>?_)
   clear hK K hHeld_ hb2
   refine no_ 53 ?_
   refine pu_ 37 54 ?_
   refine pu_ 38 55 ?_
   refine done_ (by kernel_rfl) ?_
   have HB3:=ak hHeld
   go_wp2
   go_roundg (gk-1)
   case measure=>omega
   case rel=>exact⟨j+1,rfl,hlt,by omega,HB3⟩
  ·have e2:¬(j:Int)<(l.length:Int):=by omega
   have e1:decide ((j:Int)<(l.length:Int))=false:=decide_eq_false e2
   go_wp2
   go_ret
   exact⟨rfl,HB.out⟩
end Go.Proofs.YtahdjajdaggmjaaGreatDoor.XPd
end
section
namespace Go.Proofs.YtahdjajdaggmjaaGreatDoor
open H
theorem right_all{f:List C}(h:H.right f=true):f.all ok=true:=(right_iff.1 h).1
section
variable {f:List C}{c d:C}(hf:faceR f=true)(hcd:H.clash (meet c d)=false)
include hf
end
end Go.Proofs.YtahdjajdaggmjaaGreatDoor
namespace Go.Proofs.YtahdjajdaggmjaaGreatDoor
open H
def dimsF(f:List C):UInt32:=(f.foldl (fun s c=>s ||| (c.1 ||| c.2)) 0) &&& M24
theorem tb_dimsF(f:List C)(j:Nat):tb (dimsF f) j=(decide (j<24)&&f.any fun c=>tb c.1 j||tb c.2 j):=by
 unfold dimsF
 rw [tb_and,tb_M24,Bool.and_comm]
 congr 1
 have key:∀(l:List C) (s:UInt32),tb (l.foldl (fun s c=>s ||| (c.1 ||| c.2)) s) j=(tb s j||l.any fun c=>tb c.1 j||tb c.2 j):=by
  intro l
  induction l with
  | nil=>intro s;simp
  | cons c l ih =>
   intro s
   rw [List.foldl_cons,ih,tb_or,tb_or,List.any_cons,Bool.or_assoc]
 rw [key,tb_zero,Bool.false_or]
end Go.Proofs.YtahdjajdaggmjaaGreatDoor
end
