/-
Walk: clause.Least,with its inner functions and its sort.
-/
import Derived.Maps.Own
import Derived.Maps.OwnOps
import Derived.Maps.OwnSet
import Derived.Maps.Views
import Derived.DeepKeys4
import Derived.Sort.OwnSorted
import Derived.Test.YtahdjajdaggmjaaGreatDoorSortLay
import Derived.RangeFuncBox
import Derived.Shelf.Abstract
import Derived.Deep.CutRange
set_option maxRecDepth 100000
section
namespace Go.Proofs.YtahdjajdaggmjaaGreatDoor
open Go.RowKit H
def vC(c:C):Value:=.agg #[.int .u32 (un c.1),.int .u32 (un c.2)]
structure Small:Prop where
 right:∀(c:C) (w:World),Calls Tryz.prog 113 #[vC c] w fun e w'=>e=.returned (.bool (ok c))∧Below w.heap.size w w'
 below:∀(a b:C) (w:World),Calls Tryz.prog 116 #[vC a,vC b] w fun e w'=>e=.returned (.bool (H.below a b))∧Below w.heap.size w w'
theorem eqCn(a b:C)(w:World):(binOp .neq 113 (.agg #[.int .u32 (un a.1),.int .u32 (un a.2)]) (.agg #[.int .u32 (un b.1),.int .u32 (un b.2)])).run Tryz.prog w=.ok (.bool (!decide (a=b))) w:=by
 have u3:=Tryz.underlying33
 have a3:=Tryz.isAgg33
 have z3:=Tryz.sizeOf33
 have hS:Tryz.prog.underlying 113=some (.struct (Tryz.prog.fieldsOf 113)):=by kernel_rfl
 have hp:Tryz.prog.stoodInHeld 113=false:=by kernel_rfl
 rw [run_neq_struct,show(10000:Nat)=9999+1 from rfl,run_equalIn_agg w 9999 113 _ _ hS hp]
 simp only [Program.fieldsOf,Tryz.underlying113]
 go_simp
 obtain⟨a1,a2⟩:=a
 obtain⟨b1,b2⟩:=b
 by_cases h1:a1=b1<;>by_cases h2:a2=b2<;>simp [h1,h2,un_inj]
def At2(w:World)(b:Nat)(c:C):Prop:=w.cell? ⟨b,0,none⟩=some (.int .u32 (un c.1))∧w.cell? ⟨b,1,none⟩=some (.int .u32 (un c.2))
theorem At2.lt{w:World}{b:Nat}{c:C}(h:At2 w b c):b<w.heap.size:=World.block_lt_of_cell? w _ h.1
theorem At2.below{w w1:World}{b:Nat}{c:C}(h:At2 w b c)(hb:Below w.heap.size w w1):At2 w1 b c:=⟨(hb.cell h.lt).trans h.1,(hb.cell h.lt).trans h.2⟩
theorem least_pred(S:Small)(c d:C)(b:Nat)(w:World)(h:At2 w b c):Calls Tryz.prog 115 #[vC d,.pointer (some ⟨b,0,none⟩)] w fun e w'=>e=.returned (.bool (!decide (c=d)&&H.below c d))∧Below w.heap.size w w':=by
 have hlt:=h.lt
 have hb0:Below w.heap.size w (w.alloc (.cells #[.int .u32 (un d.1),.int .u32 (un d.2)] 113)):=(Below.refl _ _).alloc (Nat.le_refl _) _
 have h2:=h.below hb0
 have h0:=h2.1
 have h1:=h2.2
 have he:=fun w=>eqCn c d w
 unfold vC
 by_cases hcd:c=d
 ·rw [decide_eq_true hcd] at he ⊢
  go_enter Tryz.func115,Tryz.ntmps115
  go_wp2_with (rw [he])
  go_ret
  exact⟨rfl,hb0⟩
 ·have hB:=S.below c d (w.alloc (.cells #[.int .u32 (un d.1),.int .u32 (un d.2)] 113))
  unfold vC at hB
  rw [decide_eq_false hcd] at he ⊢
  go_enter Tryz.func115,Tryz.ntmps115
  go_wp2_with (first | (go_at_call 116;refine hB.mono ?_;rintro e w' ⟨rfl,hb⟩) | (rw [he]))
  go_ret
  exact⟨rfl,below_then hb0 (by simp) hb⟩
def predC(c d:C):Bool := !decide (c=d)&&H.below c d
set_option maxHeartbeats 1000000 in
theorem least_index(S:Small)(c:C)(b cap:Nat)(A:Option Addr)(l:List C)(w:World)(h:At2 w b c)(hR:Rd w A l) :
  Calls Tryz.prog 119 #[.slice A l.length cap,.func (.func 115) #[] #[.pointer (some ⟨b,0,none⟩)]] w fun e w' =>
   (∃i:Int,e=.returned (.int .i64 i)∧decide (i≥0)=l.any (predC c))∧Below w.heap.size w w':=by
 go_enter Tryz.func119,Tryz.ntmps119
 go_wp2
 go_loopg [8] (l.length+1) (fun kq v8 w'=>∃j:Nat,v8=.int .i64 (j:Int)∧j≤l.length∧kq+j=l.length+1∧Hid (∀d∈l.take j,predC c d=false)∧Below w.heap.size w w')
 case atStart=>exact⟨0,rfl,Nat.zero_le _,rfl,Lib.hid (by simp),Below.refl _ _⟩
 case round =>
  obtain⟨j,rfl,hj,hk,hno,hb⟩:=hrel
  have hlen:=hR.1
  by_cases hlt:j<l.length
  ·obtain⟨b0,off,rfl,h1,h2⟩:=(hR.below hb).at_ hlt
   have hp:=least_pred S c l[j] b wr (h.below hb)
   have hsz:=hb.size
   change Calls _ _ _ _ (fun e w'=>e=.returned (.bool (predC c l[j]))∧Below wr.heap.size wr w') at hp
   unfold vC at hp
   have HB:=Lib.hid hb
   cases hpr:predC c l[j]
   ·rw [hpr] at hp
    have HP:=Lib.hid hpr
    have HN:=hno
    clear hno hb hpr
    go_wp2_with (go_at_call 115;refine hp.mono ?_;rintro e w2 ⟨rfl,hb2⟩)
    go_roundg (gk-1)
    case measure=>omega
    case rel =>
     refine⟨j+1, ?_,by omega,by omega, ?_,below_then HB hsz hb2⟩
     ·simp
     ·refine Lib.hid fun d hd=>?_
      rw [List.take_succ_eq_append_getElem hlt] at hd
      rcases List.mem_append.1 hd with h3 | h3
      ·exact HN d h3
      ·rw [List.mem_singleton.1 h3]
       exact HP
   ·rw [hpr] at hp
    clear hno hb
    go_wp2_with (go_at_call 115;refine hp.mono ?_;rintro e w2 ⟨rfl,hb2⟩)
    go_ret
    refine⟨⟨j,rfl, ?_⟩,below_then HB hsz hb2⟩
    rw [decide_eq_true (by omega),List.any_eq_true.2 ⟨l[j],List.getElem_mem _,hpr⟩]
  ·have HB:=Lib.hid hb
   have hany:Hid (l.any (predC c)=false):=by
    refine Lib.hid ?_
    rw [List.any_eq_false]
    intro d hd
    have e:l.take j=l:=List.take_of_length_le (by omega)
    have h3:predC c d=false:=hno d (by rw [e];exact hd)
    rw [h3]
    exact Bool.false_ne_true
   clear hb hno
   go_wp2
   go_ret
   exact⟨⟨-1,rfl,by rw [hany];rfl⟩,HB⟩
end Go.Proofs.YtahdjajdaggmjaaGreatDoor
namespace Go.Proofs.YtahdjajdaggmjaaGreatDoor
open Go.RowKit H
theorem least_contains(S:Small)(c:C)(b cap:Nat)(A:Option Addr)(l:List C)(w:World)(h:At2 w b c)(hR:Rd w A l) :
  Calls Tryz.prog 105 #[.slice A l.length cap,.func (.func 115) #[] #[.pointer (some ⟨b,0,none⟩)]] w fun e w' =>
   e=.returned (.bool (l.any (predC c)))∧Below w.heap.size w w':=by
 have hi:=least_index S c b cap A l w h hR
 go_enter Tryz.func105,Tryz.ntmps105
 go_wp2_with (go_at_call 119;refine hi.mono ?_;rintro e w2 ⟨⟨i,rfl,hd⟩,hb2⟩)
 go_ret
 exact⟨by first | rfl | (rw [←hd];rfl),hb2⟩
theorem least_needless(S:Small)(c:C)(bo cap:Nat)(A:Option Addr)(l:List C)(w:World)(h:w.cell? ⟨bo,0,none⟩=some (.slice A l.length cap))(hR:Rd w A l) :
  Calls Tryz.prog 114 #[vC c,.pointer (some ⟨bo,0,none⟩)] w fun e w'=>e=.returned (.bool (l.any (predC c)))∧Below w.heap.size w w':=by
 have hb0:Below w.heap.size w (w.alloc (.cells #[.int .u32 (un c.1),.int .u32 (un c.2)] 113)):=(Below.refl _ _).alloc (Nat.le_refl _) _
 have hlt:=World.block_lt_of_cell? w _ h
 have hc:=(hb0.cell hlt).trans h
 have hi:=least_contains S c w.heap.size cap A l (w.alloc (.cells #[.int .u32 (un c.1),.int .u32 (un c.2)] 113)) ⟨World.cell?_alloc_new ..,World.cell?_alloc_new ..⟩ (hR.below hb0)
 unfold vC
 go_enter Tryz.func114,Tryz.ntmps114
 go_wp2_with (go_at_call 105;refine hi.mono ?_;rintro e w2 ⟨rfl,hb2⟩)
 go_ret
 exact⟨rfl,below_then hb0 (by simp) hb2⟩
end Go.Proofs.YtahdjajdaggmjaaGreatDoor
namespace Go.Proofs.YtahdjajdaggmjaaGreatDoor
open Go.RowKit H
open Go.Maps (Keyed)
theorem laidOutC:laidOutB Tryz.prog=true:=by kernel_rfl
theorem rowC:113<Tryz.prog.types.size:=of_decide_eq_true (by kernel_rfl)
theorem wideC:(match Tryz.prog.underlying 113 with | some (.array _ _) | some (.struct _)=>true | _=>false)=true:=by kernel_rfl
theorem deepC:Tryz.prog.keyTypeAt 2 113=true:=by kernel_rfl
theorem keyLawC:WideMaps.KeyLaw Tryz.prog 113:=deep_law_laid laidOutC (m:=2) (by omega) rowC deepC wideC
theorem keyedC:Keyed Tryz.prog 113:=Keyed.of_law keyLawC
def klC(c:C):Lit:=.string (keyBytes [.int .u32 (un c.1),.int .u32 (un c.2)])
theorem wf_un(x:UInt32):(Lit.int .u32 (un x)).wf=true:=by
 have:=un_range x
 simp [Lit.wf,IntKind.min,IntKind.max,IntKind.bits,IntKind.signed]
 omega
theorem keyOfC(c:C):keyOf Tryz.prog 113 (vC c)=some (klC c):=by
 have hT:Tryz.prog.keyType 113=true:=by kernel_rfl
 have hc:Tryz.prog.cellsOf 113=2:=by kernel_rfl
 have hc3:Tryz.prog.cellsOf 33=1:=by kernel_rfl
 obtain⟨m,hs⟩:∃m,Tryz.prog.types.size+1=m+1+1:=⟨Tryz.prog.types.size-1,by have:=rowC;omega⟩
 have hf:(vC c).formed Tryz.prog 113=true:=by simp [vC,Value.formed,Tryz.underlying113,hc]
 have k1:Tryz.prog.keyLits (m+1+1) 113 (vC c).cells.toList=some [.int .u32 (un c.1),.int .u32 (un c.2)]:=by
  unfold vC
  simp [Program.keyLits,Tryz.underlying113,Value.cells,hc,hc3,wf_un]
 unfold keyOf
 rw [Tryz.underlying113]
 simp only [hT,hf,hs,k1,Bool.and_self,if_true,Option.map_some]
 rfl
theorem klC_inj{a b:C}(h:klC a=klC b):a=b:=by
 have h1:=keyOfC a
 have h2:=keyOfC b
 rw [h] at h1
 have h3:=keyLawC.inj h1 h2
 unfold vC at h3
 simp [un_inj] at h3
 exact Prod.ext h3.1 h3.2
def Seen(w:World)(b n:Nat)(l:List C):Prop:=∃D:DataW Unit,w.ownsMap Tryz.prog 113 (plainElem Tryz.prog 4) b n D∧(∀c,D.atKey (klC c) (.lit (.bool false))=.lit (.bool (decide (c∈l))))∧Maps.IsMap D
theorem Seen.made(w:World):Seen (w.alloc (.map #[] 0)) w.heap.size 0 []:=⟨.map [],World.ownsMap_made _ _ _ _,fun c=>by simp [DataW.atKey],⟨_,rfl⟩⟩
theorem Seen.below{w w1:World}{b n:Nat}{l:List C}(h:Seen w b n l)(hb:Below w.heap.size w w1):Seen w1 b n l:=by
 obtain⟨D,h1,h2,h3⟩:=h
 exact⟨D,h1.kept ⟨hb.os,hb.tape,hb.output,hb.size,fun k hk _=>hb.block k hk⟩ (row:=none) (by simp),h2,h3⟩
theorem Seen.lt{w:World}{b n:Nat}{l:List C}(h:Seen w b n l):b<w.heap.size:=by
 obtain⟨D,h1,_⟩:=h
 exact h1.lt
theorem zeroB(w:World):(zeroValue 4).run Tryz.prog w=.ok (.bool false) w:=by kernel_rfl
theorem plainB_inv{v:Value}{x:Bool}{ps:List MemPlace}(hv:plainElem (H:=Unit) Tryz.prog 4 v=some (.lit (.bool x),ps)):v=.bool x:=by
 have u4:=Tryz.underlying4
 unfold plainElem at hv
 generalize Tryz.prog.underlying 4=d at hv u4
 subst u4
 cases v with
 | bool y =>
  simp only [Option.some.injEq,Prod.mk.injEq,DataW.lit.injEq,Lit.bool.injEq] at hv
  rw [hv.1]
 | _=>simp at hv
theorem Seen.look{w:World}{b n:Nat}{l:List C}(h:Seen w b n l)(c:C):(Instr.lookup 153 (.map (some b)) (vC c) false).run Tryz.prog w=.ok (.bool (decide (c∈l))) w:=by
 obtain⟨D,h1,h2,_⟩:=h
 obtain⟨v,ps,hrun,hv⟩:=h1.lookup keyedC Tryz.underlying153 (zeroB w) (plainElem_bool Tryz.underlying4 false) (keyOfC c)
 rw [h2 c] at hv
 rw [hrun,plainB_inv hv]
theorem Seen.put{w:World}{b n:Nat}{l:List C}(h:Seen w b n l)(hn:n<maxLen)(c:C):∃w',(Instr.mapUpdate 153 (.map (some b)) (vC c) (.bool true)).run Tryz.prog w=.ok () w'∧Seen w' b (n+1) (l++[c])∧w.grownBy w' (some b):=by
 obtain⟨D,h1,h2,h3⟩:=h
 obtain⟨w',hrun,ho,hg⟩:=h1.update keyedC Tryz.underlying153 hn (keyOfC c) (plainElem_bool Tryz.underlying4 true)
 refine⟨w',hrun,⟨_,ho,fun d=>?_, ?_⟩,hg⟩
 ·by_cases e:d=c
  ·subst e
   rw [Maps.atKey_put_same h3 (keyedC.key (keyOfC d))]
   simp
  ·rw [Maps.atKey_put_other (fun h=>e (klC_inj h)),h2 d]
   simp [e]
 ·exact ho.isMap
end Go.Proofs.YtahdjajdaggmjaaGreatDoor
namespace Go.Proofs.YtahdjajdaggmjaaGreatDoor
open Go.RowKit Go.Sort H
def cmpN(x y:Int):Int:=if x<y then -1 else if y<x then 1 else 0
theorem cmp_compare(x y:Int)(w:World):Calls Tryz.prog 125 #[.int .u32 x,.int .u32 y] w fun e w'=>e=.returned (.int .i64 (cmpN x y))∧w'=w:=by
 have hn:∀x W,Calls Tryz.prog 137 #[.int .u32 x] W fun e w'=>e=.returned (.bool false)∧w'=W:=fun x W=>by
  go_enter Tryz.func137,Tryz.ntmps137
  go_wp2
  go_ret
  exact⟨by simp,rfl⟩
 unfold cmpN
 by_cases h1:x<y
 ·rw [if_pos h1]
  go_enter Tryz.func125,Tryz.ntmps125
  go_wp2_with (go_at_call 137;refine(hn _ _).mono ?_;rintro e w' ⟨rfl,rfl⟩)
  go_ret
  exact⟨rfl,rfl⟩
 ·rw [if_neg h1]
  by_cases h2:y<x
  ·rw [if_pos h2]
   go_enter Tryz.func125,Tryz.ntmps125
   go_wp2_with (go_at_call 137;refine(hn _ _).mono ?_;rintro e w' ⟨rfl,rfl⟩)
   go_ret
   exact⟨rfl,rfl⟩
  ·rw [if_neg h2]
   go_enter Tryz.func125,Tryz.ntmps125
   go_wp2_with (go_at_call 137;refine(hn _ _).mono ?_;rintro e w' ⟨rfl,rfl⟩)
   go_ret
   exact⟨rfl,rfl⟩
def cmpC(a b:C):Int:=if ltC a b=true then -1 else if ltC b a=true then 1 else 0
theorem cmpC_eq(a b:C):cmpC a b=if a.1=b.1 then cmpN (un a.2) (un b.2) else cmpN (un a.1) (un b.1):=by
 have e:∀x y:UInt32,un x<un y↔x.toNat<y.toNat:=fun x y=>by unfold un;omega
 unfold cmpC cmpN ltC
 simp only [e,decide_eq_true_eq]
 by_cases h:a.1=b.1
 ·simp [h]
 ·have h':¬b.1=a.1:=fun h2=>h h2.symm
  simp [h,h']
theorem clause_cmp(a b:C)(w:World):Calls Tryz.prog 118 #[vC a,vC b] w fun e w'=>e=.returned (.int .i64 (cmpC a b))∧∃q os',w'=grow (w.drewN q) os':=by
 have hc:=cmp_compare
 rw [cmpC_eq]
 unfold vC
 by_cases h:a.1=b.1
 ·have hn:(un a.1 != un b.1)=false:=by rw [h];simp
  rw [if_pos h]
  have hcon:=hc (un a.2) (un b.2)
  generalize cmpN (un a.2) (un b.2)=r at hcon ⊢
  clear hc
  go_enter Tryz.func118,Tryz.ntmps118
  go_wp2_with (go_at_call 125;refine(hcon _).mono ?_;rintro e w' ⟨rfl,rfl⟩)
  go_ret
  exact⟨rfl,0,_,by rw [alloc_eq_grow,alloc_eq_grow,grow_grow];rfl⟩
 ·have hn:(un a.1 != un b.1)=true:=by
   rw [bne_iff_ne]
   exact fun e=>h (un_inj.1 e)
  rw [if_neg h]
  have hcon:=hc (un a.1) (un b.1)
  generalize cmpN (un a.1) (un b.1)=r at hcon ⊢
  clear hc
  go_enter Tryz.func118,Tryz.ntmps118
  go_wp2_with (go_at_call 125;refine(hcon _).mono ?_;rintro e w' ⟨rfl,rfl⟩)
  go_ret
  exact⟨rfl,0,_,by rw [alloc_eq_grow,alloc_eq_grow,grow_grow];rfl⟩
end Go.Proofs.YtahdjajdaggmjaaGreatDoor
namespace Go.Proofs.YtahdjajdaggmjaaGreatDoor
open Go.RowKit H
open Go.Sort hiding Below
theorem ltOf_cmpC:Go.Proofs.ltOf cmpC=ltC:=by
 funext a b
 unfold Go.Proofs.ltOf cmpC
 cases h:ltC a b
 ·by_cases h2:ltC b a=true<;>simp [h2]
 ·simp
theorem flatK_cc(l:List C):flatK cc 2 l.toArray=(flat l).toArray:=by
 apply Array.ext
 ·rw [size_flatK]
  simp [flat_length]
 ·intro i h1 h2
  rw [size_flatK] at h1
  simp only [List.size_toArray] at h1 h2
  have hj:i / 2<l.length:=by omega
  obtain⟨g0,g1⟩:=flat_get l (i / 2) hj
  have e1:(flatK cc 2 l.toArray)[i]'(by rw [size_flatK];simpa using h1)=(cc (l.toArray[i / 2]!))[i % 2]! := by
   unfold flatK
   simp
  rw [e1]
  have e2:l.toArray[i / 2]! = l[i / 2]:=by simp [hj]
  rw [e2]
  simp only [List.getElem_toArray]
  rcases Nat.mod_two_eq_zero_or_one i with h | h
  ·have e:i / 2 * 2=i:=by omega
   rw [e] at g0
   have:=(List.getElem?_eq_some_iff.1 g0).2
   rw [this,h]
   rfl
  ·have e:i / 2 * 2+1=i:=by omega
   rw [e] at g1
   have:=(List.getElem?_eq_some_iff.1 g1).2
   rw [this,h]
   rfl
theorem holdsF{w:World}{g:Nat}{cur:Array Value}{e:TypeId}{F:List Value}(hb:w.heap[g]? = some (.cells cur e (0,0)))(ht:cur.toList.take F.length=F):Holds id w g 0 F.toArray:=by
 intro j hj
 have hj':j<F.length:=by simpa using hj
 refine⟨?_,by simp [World.frozen?,hb]⟩
 have h1:(cur.toList.take F.length)[j]? = F[j]? := by rw [ht]
 rw [List.getElem?_take_of_lt hj'] at h1
 simp only [World.cell?,hb,Nat.zero_add]
 simp only [Option.isSome_none,Bool.false_eq_true,if_false]
 rw [←Array.getElem?_toList,h1]
 simp [hj']
theorem heapF{w:World}{g n:Nat}{os:Array Obj}{cur:Array Value}{e:TypeId}{fr:Nat×Nat}(d:Array Value)(hb:w.heap[g]? = some (.cells cur e fr)) :
  (grow (putRow id (Sort.ahead w n) g 0 d) os).heap[g]? = some (.cells (putCells id 0 d cur) e fr):=by
 have hg:g<w.heap.size:=(Array.getElem?_eq_some_iff.1 hb).1
 rw [heap_grow_old _ _ (by simpa using hg)]
 simp [putRow,mapBlock,Sort.ahead,Array.getElem?_modify,hb,onCells]
theorem grownF{w:World}{g n:Nat}{os:Array Obj}(d:Array Value):w.grownBy (grow (putRow id (Sort.ahead w n) g 0 d) os) (some g):=by
 refine⟨rfl,rfl,rfl,by simp,fun k hk hne=>?_⟩
 rw [heap_grow_old _ _ (by simpa using hk)]
 have:g≠k:=fun e=>hne (by rw [e])
 simp [putRow,mapBlock,Sort.ahead,Array.getElem?_modify,this]
theorem takeF(cur:Array Value)(F:List Value)(h:F.length≤cur.size):(putCells id 0 F.toArray cur).toList.take F.length=F:=by
 apply List.ext_getElem?
 intro j
 by_cases hj:j<F.length
 ·rw [List.getElem?_take_of_lt hj,Array.getElem?_toList]
  simp [putCells,hj,show j<cur.size by omega]
 ·rw [List.getElem?_take_eq_none (by omega),List.getElem?_eq_none (by omega)]
theorem swo_ltC:SWO ltC where
 irrefl:=ltC_irrefl
 trans _ _ _:=ltC_trans
 ntrans x y z h1 h2:=by
  cases h3:ltC x z
  ·rfl
  ·by_cases e:x=y
   ·subst e;rw [h3] at h2;cases h2
   ·rcases ltC_total e with h4 | h4
    ·rw [h4] at h1;cases h1
    ·rw [ltC_trans h4 h3] at h2;cases h2
theorem total_ltC(x y:C)(h1:ltC x y=false)(h2:ltC y x=false):x=y:=by
 by_cases e:x=y
 ·exact e
 ·rcases ltC_total e with h | h
  ·rw [h] at h1;cases h1
  ·rw [h] at h2;cases h2
theorem sort_own(l:List C)(v:Value)(base:Nat)(w:World)(h:Own w base v l) :
  Calls Tryz.prog 117 #[v,.func (.func 118) #[] #[]] w fun e w'=>e=.returned (.tuple #[])∧Own w' base v (sortC l)∧Below base w w':=by
 rcases h.1.2 with⟨rfl,h0⟩ | ⟨g,cap,cur,rfl,hbase,hb,h1,h2,h3,h4⟩
 ·have hl:l=[]:=List.eq_nil_of_length_eq_zero h0
  subst hl
  refine(Go.Proofs.AnyF.slices_SortFunc_none (P:=Tryz.prog) (ρ:=Tryz.sortC_ren) { Tryz.sortC with } none 0 _ w).mono ?_
  rintro e w' ⟨rfl,rfl⟩
  have e:sortC []=[]:=by simp [sortC]
  rw [e]
  exact⟨rfl,h,Below.refl _ _⟩
 ·have hglt:g<w.heap.size:=(Array.getElem?_eq_some_iff.1 hb).1
  have hH:HoldsK cc 2 w g 0 l.toArray:=by
   unfold HoldsK
   rw [flatK_cc]
   exact holdsF hb (by rw [flat_length];exact h4)
  have eg:∀args w,(callFunc 118 args).run Tryz.prog w=.ok (.enter 118 args) w:=enters_of Tryz.func118 (by kernel_rfl) rfl
  have hO:SWO (Go.Proofs.ltOf cmpC):=by
   rw [ltOf_cmpC]
   exact swo_ltC
  have hT:∀x y,(Go.Proofs.ltOf cmpC) x y=false→(Go.Proofs.ltOf cmpC) y x=false→x=y:=by
   rw [ltOf_cmpC]
   exact total_ltC
  have hs:=h.2
  refine(Go.Proofs.AnyQ.slices_SortFunc_total (P:=Tryz.prog) (ρ:=Tryz.sortC_ren) Tryz.sortC 2 Tryz.isAgg113 Tryz.sizeOf113 cc (fun _=>rfl) (fun x u hu=>by simp [cc] at hu;rcases hu with rfl | rfl<;>rfl) cmpC hO
   118 #[] g 0 cap l.toArray w eg (fun _ _ _ _ x y=>clause_cmp x y _) hH hglt (by simp;omega) hT).mono ?_
  rintro e w' ⟨rfl,n,os,rfl⟩
  rw [ltOf_cmpC]
  have hsl:=length_sortC l
  change _∧Own (grow (putRow id (Sort.ahead w n) g 0 (flatK cc 2 (sortC l).toArray)) os) _ _ _∧Below base w (grow (putRow id (Sort.ahead w n) g 0 (flatK cc 2 (sortC l).toArray)) os)
  rw [flatK_cc]
  have hg:=grownF (w:=w) (g:=g) (n:=n) (os:=os) (flat (sortC l)).toArray
  refine⟨rfl,⟨⟨by rw [flat_length],.inr ⟨g,cap,_,by rw [hsl],hbase,heapF _ hb,by omega,h2,by simp [putCells,h3], ?_⟩⟩,by omega⟩, ?_⟩
  ·have:=takeF cur (flat (sortC l)) (by rw [flat_length,h3,hsl];exact Nat.mul_le_mul_right _ h1)
   rw [flat_length] at this
   exact this
  ·exact⟨hg.os,hg.tape,hg.output,hg.size,fun k hk=>hg.block k (by have:=hg.size;omega) (by simp;omega)⟩
end Go.Proofs.YtahdjajdaggmjaaGreatDoor
namespace Go.Proofs.YtahdjajdaggmjaaGreatDoor
open Go.RowKit H
theorem Own.kept{w w1:World}{base:Nat}{v:Value}{l:List C}{row:Option Nat}(h:Own w base v l)(hg:w.grownBy w1 row)(hne:v.ownBlock=none∨v.ownBlock≠row):Own w1 base v l:=⟨h.1.kept hg hne,h.2⟩
theorem At2.kept{w w1:World}{b:Nat}{c:C}{row:Option Nat}(h:At2 w b c)(hg:w.grownBy w1 row)(hne:some b≠row):At2 w1 b c:=by
 have e:=hg.block b h.lt hne
 exact⟨(World.cell?_of_block (w:=w) e).trans h.1,(World.cell?_of_block (w:=w) e).trans h.2⟩
theorem Own.ne_block{w:World}{base:Nat}{v:Value}{l:List C}(h:Own w base v l){b:Nat}(hb:b<base):some b≠v.ownBlock:=by
 rcases h.1.2 with⟨rfl,_⟩ | ⟨g,cap,cur,rfl,hg,_⟩
 ·simp [Value.ownBlock]
 ·simp [Value.ownBlock];omega
structure Inv1(w0 w:World)(l:List C)(j:Nat):Prop where
 seen:∃n,n≤j∧Seen w w0.heap.size n (dd (l.take j))
 out:∃vo,Boxed w (w0.heap.size+1) 45 vo∧Own w (w0.heap.size+2) vo (dd (l.take j))
 bel:Below w0.heap.size w0 w
 size:w0.heap.size+2≤w.heap.size
theorem Inv1.below{w0 w w1:World}{l:List C}{j:Nat}(h:Inv1 w0 w l j)(hb:Below w.heap.size w w1):Inv1 w0 w1 l j:=by
 obtain⟨⟨n,hn,hs⟩,⟨vo,hbx,ho⟩,hbel,hsz⟩:=h
 have hbl:=hb.size
 exact⟨⟨n,hn,hs.below hb⟩,⟨vo,(hb.block _ hbx.lt).trans hbx,ho.below hb⟩,below_then hbel (by omega) hb,by omega⟩
theorem Inv1.start(w:World)(l:List C):Inv1 w ((w.alloc (.map #[] 0)).alloc (.cells #[.slice none 0 0] 45)) l 0:=by
 have hb1:Below w.heap.size w (w.alloc (.map #[] 0)):=(Below.refl _ _).alloc (Nat.le_refl _) _
 have hb2:Below (w.alloc (.map #[] 0)).heap.size (w.alloc (.map #[] 0)) ((w.alloc (.map #[] 0)).alloc (.cells #[.slice none 0 0] 45)):=(Below.refl _ _).alloc (Nat.le_refl _) _
 have bx:=Boxed.new (w.alloc (.map #[] 0)) 45 (.slice none 0 0)
 rw [World.size_alloc] at bx
 exact⟨⟨0,Nat.le_refl _,(Seen.made w).below hb2⟩,⟨_,bx,Own.nil _ _⟩,below_then hb1 (by simp) hb2,by simp⟩
theorem Inv1.boxed{w0 w w2:World}{l:List C}{j:Nat}(h:Inv1 w0 w l j){c:C}
  (hb:Below (w.alloc (.cells #[.int .u32 (un c.1),.int .u32 (un c.2)] 113)).heap.size (w.alloc (.cells #[.int .u32 (un c.1),.int .u32 (un c.2)] 113)) w2):At2 w2 w.heap.size c∧Inv1 w0 w2 l j∧w.heap.size<w2.heap.size:=by
 have h1:Below w.heap.size w (w.alloc (.cells #[.int .u32 (un c.1),.int .u32 (un c.2)] 113)):=(Below.refl _ _).alloc (Nat.le_refl _) _
 have h2:At2 (w.alloc (.cells #[.int .u32 (un c.1),.int .u32 (un c.2)] 113)) w.heap.size c:=⟨World.cell?_alloc_new ..,World.cell?_alloc_new ..⟩
 have:=hb.size
 exact⟨h2.below hb,h.below (below_then h1 (by simp) hb),by simp at this;omega⟩
theorem Inv1.look{w0 w:World}{l:List C}{j:Nat}(h:Inv1 w0 w l j)(c:C):(Instr.lookup 153 (.map (some w0.heap.size)) (.agg #[.int .u32 (un c.1),.int .u32 (un c.2)]) false).run Tryz.prog w=.ok (.bool (decide (c∈dd (l.take j)))) w:=by
 obtain⟨⟨n,_,hs⟩,_⟩:=h
 exact hs.look c
theorem Inv1.skip{w0 w:World}{l:List C}{j:Nat}(h:Inv1 w0 w l j)(hj:j<l.length)(hm:l[j]∈dd (l.take j)):Inv1 w0 w l (j+1):=by
 obtain⟨⟨n,hn,hs⟩,⟨vo,hbx,ho⟩,hbel,hsz⟩:=h
 have e:dd (l.take (j+1))=dd (l.take j):=by rw [dd_take_succ l j hj,if_pos hm]
 exact⟨⟨n,by omega,by rw [e];exact hs⟩,⟨vo,hbx,by rw [e];exact ho⟩,hbel,hsz⟩
theorem Inv1.put{w0 w:World}{l:List C}{j b:Nat}(h:Inv1 w0 w l j)(hj:j<1000000){c:C}(hA:At2 w b c)(hb:w0.heap.size+2≤b) :
  ∃w3 n vo,(Instr.mapUpdate 153 (.map (some w0.heap.size)) (.agg #[.int .u32 (un c.1),.int .u32 (un c.2)]) (.bool true)).run Tryz.prog w=.ok () w3∧n≤j+1∧Seen w3 w0.heap.size n (dd (l.take j)++[c]) ∧
   Boxed w3 (w0.heap.size+1) 45 vo∧Own w3 (w0.heap.size+2) vo (dd (l.take j))∧At2 w3 b c∧Below w0.heap.size w0 w3∧w0.heap.size+2≤w3.heap.size:=by
 obtain⟨⟨n,hn,hs⟩,⟨vo,hbx,ho⟩,hbel,hsz⟩:=h
 obtain⟨w3,hrun,hs3,hg⟩:=hs.put (by unfold maxLen;omega) c
 have hsz3:=hg.size
 refine⟨w3,n+1,vo,hrun,by omega,hs3,hbx.kept hg (by simp),ho.kept hg (.inr (ho.ne_block (by omega)).symm),hA.kept hg (by simp;omega),hbel.trans ?_,by omega⟩
 exact⟨hg.os,hg.tape,hg.output,hg.size,fun k hk=>hg.block k (by omega) (by simp;omega)⟩
theorem infoC:∃i,Tryz.prog.info? 113=some i∧i.zero=some (.agg #[.int .u32 0,.int .u32 0])∧i.size=2∧i.bytes=8:=by
 have h:(Tryz.prog.info? 113).map (fun i=>(i.zero,i.size,i.bytes))=some (some (.agg #[.int .u32 0,.int .u32 0]),2,8):=by kernel_rfl
 obtain⟨i,hi,he⟩:=Option.map_eq_some_iff.1 h
 simp only [Prod.mk.injEq] at he
 exact⟨i,hi,he.1,he.2.1,he.2.2⟩
theorem Inv1.next{w0 w3 w4:World}{l:List C}{j n:Nat}{vo v':Value}{tmp:Obj}(hj:j<l.length)(hm:l[j]∉dd (l.take j))(hlen:l.length≤1000000)(hn:n≤j+1)(hs:Seen w3 w0.heap.size n (dd (l.take j)++[l[j]]))
  (hbx:Boxed w3 (w0.heap.size+1) 45 vo) (ho:Own w3 (w0.heap.size+2) vo (dd (l.take j))) (hbel:Below w0.heap.size w0 w3) (hsz:w0.heap.size+2≤w3.heap.size)
  (hown:w4.ownsRow (w0.heap.size+2) 113 2 v' ((dd (l.take j)).length+1) (flat (dd (l.take j))++[.int .u32 (un l[j].1),.int .u32 (un l[j].2)])) (hg:(w3.alloc tmp).grownBy w4 vo.ownBlock) :
  Boxed w4 (w0.heap.size+1) 45 vo∧Inv1 w0 (w4.setCell ⟨w0.heap.size+1,0,none⟩ v') l (j+1):=by
 have e:dd (l.take (j+1))=dd (l.take j)++[l[j]]:=by rw [dd_take_succ l j hj,if_neg hm]
 have hle:(dd (l.take j)).length≤j:=Nat.le_trans (length_dd _) (by rw [List.length_take];omega)
 have hne:some (w0.heap.size+1)≠vo.ownBlock:=ho.ne_block (by omega)
 have hne0:some w0.heap.size≠vo.ownBlock:=ho.ne_block (by omega)
 have hbx4:Boxed w4 (w0.heap.size+1) 45 vo:=(hbx.alloc tmp).kept hg hne
 have hs3:Seen w4 w0.heap.size n (dd (l.take j)++[l[j]]):=by
  obtain⟨D,h1,h2,h3⟩:=hs
  exact⟨D,(h1.alloc tmp).kept hg hne0,h2,h3⟩
 have hgs:=grownBy_setCell' w4 (w0.heap.size+1) v'
 have hs5:Seen (w4.setCell ⟨w0.heap.size+1,0,none⟩ v') w0.heap.size n (dd (l.take j)++[l[j]]):=by
  obtain⟨D,h1,h2,h3⟩:=hs3
  exact⟨D,h1.kept hgs (by simp),h2,h3⟩
 have hown4:Own w4 (w0.heap.size+2) v' (dd (l.take j)++[l[j]]):=⟨by rw [List.length_append,List.length_singleton,flat_snoc];exact hown,by rw [List.length_append,List.length_singleton];omega⟩
 have hb4:=hg.size
 rw [World.size_alloc] at hb4
 have hb5:=hgs.size
 refine⟨hbx4,⟨n,hn,by rw [e];exact hs5⟩,⟨v',hbx4.set v',by rw [e];exact hown4.kept hgs (.inr (hown4.ne_block (by omega)).symm)⟩, ?_,by omega⟩
 have b1:Below w0.heap.size w3 (w3.alloc tmp):=(Below.refl _ _).alloc (by omega) _
 have b2:Below w0.heap.size (w3.alloc tmp) w4:=⟨hg.os,hg.tape,hg.output,hg.size,fun k hk=>hg.block k (by simp;omega) (ho.ne_block (by omega))⟩
 have b3:Below w0.heap.size w4 (w4.setCell ⟨w0.heap.size+1,0,none⟩ v'):=⟨hgs.os,hgs.tape,hgs.output,hgs.size,fun k hk=>hgs.block k (by omega) (by simp;omega)⟩
 exact((hbel.trans b1).trans b2).trans b3
theorem cells2_new(w:World)(x y:Value)(t:TypeId):∀(j:Nat) (u:Value),([x,y]:List Value)[j]? = some u→(w.alloc (.cells #[x,y] t)).cell? ((⟨w.heap.size,0,none⟩:Addr).add j)=some u:=by
 intro j u h
 match j,h with
 | 0,h=>cases h;exact World.cell?_alloc_new ..
 | 1,h=>cases h;exact World.cell?_alloc_new ..
 | j+2,h=>simp at h
theorem any_predC(l:List C)(c:C):l.any (predC c)=needless l c:=by
 unfold needless predC
 congr 1
 funext d
 by_cases h:c=d<;>simp [h]
def kept2(D:List C)(j:Nat):List C:=(D.take j).filter fun c => !needless D c
theorem kept2_length(D:List C)(j:Nat):(kept2 D j).length≤D.length:=Nat.le_trans (List.length_filter_le _ _) (by rw [List.length_take];omega)
theorem kept2_all(D:List C){j:Nat}(h:D.length≤j):kept2 D j=D.filter fun c => !needless D c:=by
 unfold kept2
 rw [List.take_of_length_le h]
theorem kept2_skip{D:List C}{j:Nat}(hj:j<D.length)(h:needless D D[j]=true):kept2 D (j+1)=kept2 D j:=by
 unfold kept2
 rw [List.take_succ_eq_append_getElem hj,List.filter_append]
 simp [h]
theorem kept2_put{D:List C}{j:Nat}(hj:j<D.length)(h:needless D D[j]=false):kept2 D (j+1)=kept2 D j++[D[j]]:=by
 unfold kept2
 rw [List.take_succ_eq_append_getElem hj,List.filter_append]
 simp [h]
structure Inv2(w1 w:World)(v:Value)(D:List C)(j:Nat):Prop where
 own:Own w w1.heap.size v (kept2 D j)
 bel:Below w1.heap.size w1 w
theorem Inv2.start(w1:World)(D:List C):Inv2 w1 w1 (.slice none 0 0) D 0:=⟨Own.nil _ _,Below.refl _ _⟩
theorem Inv2.boxed{w1 w w2:World}{v:Value}{D:List C}{j:Nat}(h:Inv2 w1 w v D j){c:C}
  (hb:Below (w.alloc (.cells #[.int .u32 (un c.1),.int .u32 (un c.2)] 113)).heap.size (w.alloc (.cells #[.int .u32 (un c.1),.int .u32 (un c.2)] 113)) w2):At2 w2 w.heap.size c∧Inv2 w1 w2 v D j:=by
 have h1:Below w.heap.size w (w.alloc (.cells #[.int .u32 (un c.1),.int .u32 (un c.2)] 113)):=(Below.refl _ _).alloc (Nat.le_refl _) _
 have h2:At2 (w.alloc (.cells #[.int .u32 (un c.1),.int .u32 (un c.2)] 113)) w.heap.size c:=⟨World.cell?_alloc_new ..,World.cell?_alloc_new ..⟩
 have h3:Below w.heap.size w w2:=below_then h1 (by simp) hb
 exact⟨h2.below hb,h.own.below h3,below_then h.bel h.bel.size h3⟩
theorem Inv2.skip{w1 w:World}{v:Value}{D:List C}{j:Nat}(h:Inv2 w1 w v D j)(hj:j<D.length)(hn:needless D D[j]=true):Inv2 w1 w v D (j+1):=⟨by rw [kept2_skip hj hn];exact h.own,h.bel⟩
theorem Inv2.next{w1 w3 w4:World}{D:List C}{j:Nat}{vo v':Value}{tmp:Obj}(h:Inv2 w1 w3 vo D j)(hlen:D.length≤1000000)(hj:j<D.length)(hn:needless D D[j]=false)
  (hown:w4.ownsRow w1.heap.size 113 2 v' ((kept2 D j).length+1) (flat (kept2 D j)++[.int .u32 (un D[j].1),.int .u32 (un D[j].2)])) (hg:(w3.alloc tmp).grownBy w4 vo.ownBlock):Inv2 w1 w4 v' D (j+1):=by
 have hl:=kept2_length D j
 have hsz:=h.bel.size
 have b1:Below w1.heap.size w3 (w3.alloc tmp):=(Below.refl _ _).alloc hsz _
 have b2:Below w1.heap.size (w3.alloc tmp) w4:=⟨hg.os,hg.tape,hg.output,hg.size,fun k hk=>hg.block k (by simp;omega) (h.own.ne_block hk)⟩
 refine⟨?_,(h.bel.trans b1).trans b2⟩
 rw [kept2_put hj hn]
 exact⟨by rw [List.length_append,List.length_singleton,flat_snoc];exact hown,by rw [List.length_append,List.length_singleton];omega⟩
theorem Inv2.need(S:Small){w1 w:World}{v:Value}{D:List C}{j bo c0:Nat}{A:Option Addr}(h:Inv2 w1 w v D j)(hbx:Boxed w1 bo 45 (.slice A D.length c0))(hRd:Rd w1 A D)(c:C) :
  Calls Tryz.prog 114 #[.agg #[.int .u32 (un c.1),.int .u32 (un c.2)],.pointer (some ⟨bo,0,none⟩)] (w.alloc (.cells #[.int .u32 (un c.1),.int .u32 (un c.2)] 113)) fun e w' =>
   e=.returned (.bool (needless D c))∧Below (w.alloc (.cells #[.int .u32 (un c.1),.int .u32 (un c.2)] 113)).heap.size (w.alloc (.cells #[.int .u32 (un c.1),.int .u32 (un c.2)] 113)) w':=by
 have h1:Below w.heap.size w (w.alloc (.cells #[.int .u32 (un c.1),.int .u32 (un c.2)] 113)):=(Below.refl _ _).alloc (Nat.le_refl _) _
 have h2:=below_then h.bel h.bel.size h1
 have hbx2:Boxed (w.alloc (.cells #[.int .u32 (un c.1),.int .u32 (un c.2)] 113)) bo 45 (.slice A D.length c0):=(h2.block _ hbx.lt).trans hbx
 have:=least_needless S c bo c0 A D _ hbx2.cell (hRd.below h2)
 rw [any_predC] at this
 exact this
end Go.Proofs.YtahdjajdaggmjaaGreatDoor
namespace Go.Proofs.YtahdjajdaggmjaaGreatDoor
open Go.RowKit H
set_option maxHeartbeats 4000000 in
theorem cl_Least(S:Small)(A:Option Addr)(cap:Nat)(l:List C)(w:World)(hR:Rd w A l)(hlen:l.length≤1000000) :
  Calls Tryz.prog 103 #[.slice A l.length cap] w fun e w'=>∃v,e=.returned (.tuple #[v,.int .i64 (least l).2])∧Own w' w.heap.size v (least l).1∧Below w.heap.size w w':=by
 have hmm:=@run_makeMap Tryz.prog
 go_enter Tryz.func103,Tryz.ntmps103
 go_wp2
 clear hmm
 go_loopg [15] (l.length+1) (fun kq v15 w'=>∃j:Nat,v15=.int .i64 (j:Int)∧j≤l.length∧kq+j=l.length+1∧Hid (∀d∈l.take j,ok d=true)∧Inv1 w w' l j)
 case atStart =>
  exact⟨0,rfl,Nat.zero_le _,rfl,Lib.hid (by simp),Inv1.start w l⟩
 case round =>
  obtain⟨j,rfl,hj,hk,hok,hI⟩:=hrel
  by_cases hlt:j<l.length
  ·obtain⟨b0,off,rfl,h1,h2⟩:=(hR.below hI.bel).at_ hlt
   have hr:=S.right l[j]
   unfold vC at hr
   have HI:=Lib.hid hI
   have HOK:=hok
   have hsz:=hI.size
   clear hok hI
   cases hokj:ok l[j]
   ·rw [hokj] at hr
    have hle:Hid (least l=([],2)):=by
     refine Lib.hid ?_
     have:l.all ok=false:=by
      rw [List.all_eq_false]
      exact⟨l[j],List.getElem_mem _,by rw [hokj];exact Bool.false_ne_true⟩
     unfold least
     rw [this]
     rfl
    clear hokj
    go_wp2_with (go_at_call 113;refine(hr _).mono ?_;rintro e w2 ⟨rfl,hb2⟩)
    go_ret2
    rw [hle]
    exact⟨_,rfl,Own.nil _ _,(HI.boxed hb2).2.1.bel⟩
   ·rw [hokj] at hr
    have HO:=Lib.hid hokj
    clear hokj
    by_cases hmem:l[j]∈dd (l.take j)
    ·have HM:=Lib.hid hmem
     clear hmem
     go_wp2_with (go_at_call 113;refine(hr _).mono ?_;rintro e w2 ⟨rfl,hb2⟩;obtain⟨hA2,hI2,hlt2⟩:=HI.boxed hb2;have hc0:=hA2.1;have hc1:=hA2.2;have hlook:=hI2.look l[j];rw [decide_eq_true (show l[j]∈dd (l.take j) from HM)] at hlook)
     go_roundg (gk-1)
     case measure=>omega
     case rel =>
      refine⟨j+1,by simp,by omega,by omega,Lib.hid fun d hd=>?_,hI2.skip hlt HM⟩
      rw [List.take_succ_eq_append_getElem hlt] at hd
      rcases List.mem_append.1 hd with h3 | h3
      ·exact HOK d h3
      ·rw [List.mem_singleton.1 h3]
       exact HO
    ·have HM:=Lib.hid hmem
     clear hmem
     obtain⟨iC,hiC,hzC,hsC,hbC⟩:=infoC
     go_wp2_with (first
      | (go_at_call 113;refine(hr _).mono ?_;rintro e w2 ⟨rfl,hb2⟩;obtain⟨hA2,hI2,hlt2⟩:=HI.boxed hb2;have hc0:=hA2.1;have hc1:=hA2.2;have hlook:=hI2.look l[j];rw [decide_eq_false (show l[j]∉dd (l.take j) from HM)] at hlook;obtain⟨w3,n,vo,hput,hn,hs3,hbx3,ho3,hA3,hbel3,hsz3⟩:=hI2.put (by omega) hA2 hsz;have hd0:=hA3.1;have hd1:=hA3.2;have hx0:=hbx3.cell)
      | (at_builtin;refine wpList_append_own _ rfl _ _ 45 rfl (w.heap.size+2) 113 iC (.agg #[.int .u32 0,.int .u32 0]) 2 8 Tryz.underlying45 hiC hzC hsC hbC rfl (by decide) _ _ _ rfl (ho3.1.alloc _) ⟨w3.heap.size,0,none⟩ 1 1 [.int .u32 (un l[j].1),.int .u32 (un l[j].2)] rfl rfl (cells2_new _ _ _ _) (by simp [Value.oneCell']) (by have:=Nat.le_trans (length_dd (l.take j)) (List.length_take_le j l);unfold maxLen;omega) (by have:=Nat.le_trans (length_dd (l.take j)) (List.length_take_le j l);omega) (by simp;omega) ?_;intro v' w4 hown hgrow _;obtain⟨g',cap',rfl⟩:=ownsRow_succ hown;obtain⟨hbx4,hI4⟩:=Inv1.next hlt HM hlen hn hs3 hbx3 ho3 hbel3 hsz3 hown hgrow;have hc4:=hbx4.cell;have hf4:=hbx4.frozen))
     go_roundg (gk-1)
     case measure=>omega
     case rel =>
      refine⟨j+1,by simp,by omega,by omega,Lib.hid fun d hd=>?_,hI4⟩
      rw [List.take_succ_eq_append_getElem hlt] at hd
      rcases List.mem_append.1 hd with h3 | h3
      ·exact HOK d h3
      ·rw [List.mem_singleton.1 h3]
       exact HO
  ·obtain⟨_,⟨vo,hbx,ho⟩,hbel,hsz⟩:=hI
   have ejl:l.take j=l:=List.take_of_length_le (by omega)
   have hall:l.all ok=true:=by
    rw [List.all_eq_true]
    intro d hd
    exact hok d (by rw [ejl];exact hd)
   rw [ejl] at ho
   have hDlen:=Nat.le_trans (length_dd l) hlen
   have hleast:Hid (least l=if (keep l).length≤64 then(sortC (keep l),0) else([],3)):=by
    refine Lib.hid ?_
    unfold least
    rw [hall,if_pos rfl]
   have hkeep:Hid (keep l=(dd l).filter fun c => !needless (dd l) c):=Lib.hid rfl
   obtain⟨A0,c0,rfl,hRd⟩:=ho.slice
   have hx:=hbx.cell
   clear hok ejl hall ho
   generalize dd l=D at *
   generalize keep l=K at *
   go_wp2
   rename World=>w1
   go_loopg [9,36] (D.length+1) (fun kq v9 v36 w'=>∃j2:Nat,v36=.int .i64 (j2:Int)∧j2≤D.length∧kq+j2=D.length+1∧Inv2 w1 w' v9 D j2)
   case atStart=>exact⟨0,rfl,Nat.zero_le _,by omega,Inv2.start _ _⟩
   case round =>
    clear hx
    obtain⟨j2,rfl,hj2,hk2,hI2⟩:=hrel
    by_cases hlt2:j2<D.length
    ·obtain⟨b0,off,rfl,h1,h2⟩:=(hRd.below hI2.bel).at_ hlt2
     have hn:=hI2.need S hbx hRd D[j2]
     have HI:=Lib.hid hI2
     clear hI2
     cases hneed:needless D D[j2]
     ·rw [hneed] at hn
      have HN:=Lib.hid hneed
      clear hneed
      obtain⟨iC,hiC,hzC,hsC,hbC⟩:=infoC
      have hkl:=kept2_length D j2
      go_wp2_with (first
       | (go_at_call 114;refine hn.mono ?_;rintro e w2 ⟨rfl,hb2⟩;obtain⟨hA2,hI3⟩:=HI.boxed hb2;have hc0:=hA2.1;have hc1:=hA2.2;have hbs:=hI3.bel.size)
       | (at_builtin;refine wpList_append_own _ rfl _ _ 45 rfl w1.heap.size 113 iC (.agg #[.int .u32 0,.int .u32 0]) 2 8 Tryz.underlying45 hiC hzC hsC hbC rfl (by decide) _ _ _ rfl (hI3.own.1.alloc _) ⟨w2.heap.size,0,none⟩ 1 1 [.int .u32 (un D[j2].1),.int .u32 (un D[j2].2)] rfl rfl (cells2_new _ _ _ _) (by simp [Value.oneCell']) (by unfold maxLen;omega) (by omega) (by simp;omega) ?_;intro v' w4 hown hgrow _;have hI4:=Inv2.next hI3 hDlen hlt2 HN hown hgrow))
      go_roundg (gk-1)
      case measure=>omega
      case rel=>exact⟨j2+1,by simp,by omega,by omega,hI4⟩
     ·rw [hneed] at hn
      have HN:=Lib.hid hneed
      clear hneed
      go_wp2_with (go_at_call 114;refine hn.mono ?_;rintro e w2 ⟨rfl,hb2⟩;obtain⟨hA2,hI3⟩:=HI.boxed hb2)
      go_roundg (gk-1)
      case measure=>omega
      case rel=>exact⟨j2+1,by simp,by omega,by omega,hI3.skip hlt2 HN⟩
    ·have hfin:=kept2_all D (j:=j2) (by omega)
     obtain⟨hown,hbel2⟩:=hI2
     rw [hfin,←(show K=_ from hkeep)] at hown
     obtain⟨A9,c9,rfl,hR9⟩:=hown.slice
     have hbs:=hbel.size
     have hb12:=below_then hbel hbs hbel2
     have hown':=hown.mono (base':=w.heap.size) (by omega)
     clear hfin
     by_cases hbig:K.length≤64
     ·have HB:=Lib.hid hbig
      go_wp2_with (go_at_call 117;refine(sort_own _ _ _ _ hown').mono ?_;rintro e w2 ⟨rfl,hown2,hb3⟩)
      go_ret2
      rw [show least l=_ from hleast,if_pos (show K.length≤64 from HB)]
      exact⟨_,rfl,hown2,hb12.trans hb3⟩
     ·have HB:=Lib.hid hbig
      go_wp2
      go_ret2
      rw [show least l=_ from hleast,if_neg (show ¬K.length≤64 from HB)]
      exact⟨_,rfl,Own.nil _ _,hb12⟩
set_option maxHeartbeats 1000000 in
theorem any_plain(F:FuncId)(p:C→Bool)(cap:Nat)(A:Option Addr)(l:List C)(w:World)(hR:Rd w A l)
  (eg:∀args w,(callFunc F args).run Tryz.prog w=.ok (.enter F args) w)
  (hp:∀(d:C) (w1:World),Below w.heap.size w w1→Calls Tryz.prog F #[.agg #[.int .u32 (un d.1),.int .u32 (un d.2)]] w1 fun e w'=>e=.returned (.bool (p d))∧Below w1.heap.size w1 w') :
  Calls Tryz.prog 119 #[.slice A l.length cap,.func (.func F) #[] #[]] w fun e w' =>
   (∃i:Int,e=.returned (.int .i64 i)∧decide (i≥0)=l.any p)∧Below w.heap.size w w':=by
 go_enter Tryz.func119,Tryz.ntmps119
 go_wp2
 go_loopg [8] (l.length+1) (fun kq v8 w'=>∃j:Nat,v8=.int .i64 (j:Int)∧j≤l.length∧kq+j=l.length+1∧Hid (∀d∈l.take j,p d=false)∧Below w.heap.size w w')
 case atStart=>exact⟨0,rfl,Nat.zero_le _,rfl,Lib.hid (by simp),Below.refl _ _⟩
 case round =>
  obtain⟨j,rfl,hj,hk,hno,hb⟩:=hrel
  have hlen:=hR.1
  by_cases hlt:j<l.length
  ·obtain⟨b0,off,rfl,h1,h2⟩:=(hR.below hb).at_ hlt
   have hpj:=hp l[j] wr hb
   have hsz:=hb.size
   have HB:=Lib.hid hb
   cases hpr:p l[j]
   ·rw [hpr] at hpj
    have HP:=Lib.hid hpr
    have HN:=hno
    clear hno hb hpr hp
    go_wp2_with (go_at_fn F;refine hpj.mono ?_;rintro e w2 ⟨rfl,hb2⟩)
    go_roundg (gk-1)
    case measure=>omega
    case rel =>
     refine⟨j+1, ?_,by omega,by omega, ?_,below_then HB hsz hb2⟩
     ·simp
     ·refine Lib.hid fun d hd=>?_
      rw [List.take_succ_eq_append_getElem hlt] at hd
      rcases List.mem_append.1 hd with h3 | h3
      ·exact HN d h3
      ·rw [List.mem_singleton.1 h3]
       exact HP
   ·rw [hpr] at hpj
    clear hno hb hp
    go_wp2_with (go_at_fn F;refine hpj.mono ?_;rintro e w2 ⟨rfl,hb2⟩)
    go_ret
    refine⟨⟨j,rfl, ?_⟩,below_then HB hsz hb2⟩
    rw [decide_eq_true (by omega),List.any_eq_true.2 ⟨l[j],List.getElem_mem _,hpr⟩]
  ·have HB:=Lib.hid hb
   have hany:Hid (l.any p=false):=by
    refine Lib.hid ?_
    rw [List.any_eq_false]
    intro d hd
    have e:l.take j=l:=List.take_of_length_le (by omega)
    have h3:p d=false:=hno d (by rw [e];exact hd)
    rw [h3]
    exact Bool.false_ne_true
   clear hb hno hp
   go_wp2
   go_ret
   exact⟨⟨-1,rfl,by rw [hany];rfl⟩,HB⟩
theorem any_plain_c(F:FuncId)(p:C→Bool)(cap:Nat)(A:Option Addr)(l:List C)(w:World)(hR:Rd w A l)
  (eg:∀args w,(callFunc F args).run Tryz.prog w=.ok (.enter F args) w)
  (hp:∀(d:C) (w1:World),Below w.heap.size w w1→Calls Tryz.prog F #[.agg #[.int .u32 (un d.1),.int .u32 (un d.2)]] w1 fun e w'=>e=.returned (.bool (p d))∧Below w1.heap.size w1 w') :
  Calls Tryz.prog 105 #[.slice A l.length cap,.func (.func F) #[] #[]] w fun e w'=>e=.returned (.bool (l.any p))∧Below w.heap.size w w':=by
 have hi:=any_plain F p cap A l w hR eg hp
 clear hp
 go_enter Tryz.func105,Tryz.ntmps105
 go_wp2_with (go_at_call 119;refine hi.mono ?_;rintro e w2 ⟨⟨i,rfl,hd⟩,hb2⟩)
 go_ret
 exact⟨by first | rfl | (rw [←hd];rfl),hb2⟩
end Go.Proofs.YtahdjajdaggmjaaGreatDoor
namespace Go.Proofs.YtahdjajdaggmjaaGreatDoor
open Go.RowKit H
structure SmallF:Prop extends Small where
 clash:∀(c:C) (w:World),Calls Tryz.prog 106 #[.agg #[.int .u32 (un c.1),.int .u32 (un c.2)]] w fun e w'=>e=.returned (.bool (H.clash c))∧Below w.heap.size w w'
 meet:∀(a b:C) (w:World),Calls Tryz.prog 122 #[.agg #[.int .u32 (un a.1),.int .u32 (un a.2)],.agg #[.int .u32 (un b.1),.int .u32 (un b.2)]] w fun e w'=>e=.returned (.agg #[.int .u32 (un (H.meet a b).1),.int .u32 (un (H.meet a b).2)])∧Below w.heap.size w w'
 fright:∀(A:Option Addr) (cap:Nat) (l:List C) (w:World),Rd w A l→l.length≤cap→l.length≤1000000→Calls Tryz.prog 87 #[.slice A l.length cap] w fun e w'=>e=.returned (.bool (H.right l))∧Below w.heap.size w w'
def faceR(l:List C):Bool:=H.right l && !l.any H.clash
theorem fa_Right(S:SmallF)(A:Option Addr)(cap:Nat)(l:List C)(w:World)(hR:Rd w A l)(hcp:l.length≤cap)(hl:l.length≤1000000) :
  Calls Tryz.prog 88 #[.slice A l.length cap] w fun e w'=>e=.returned (.bool (faceR l))∧Below w.heap.size w w':=by
 have h1:=S.fright A cap l w hR hcp hl
 have eg:∀args w,(callFunc 106 args).run Tryz.prog w=.ok (.enter 106 args) w:=enters_of Tryz.func106 (by kernel_rfl) rfl
 have h2:∀w1,Below w.heap.size w w1→Calls Tryz.prog 105 #[.slice A l.length cap,.func (.func 106) #[] #[]] w1 fun e w'=>e=.returned (.bool (l.any H.clash))∧Below w1.heap.size w1 w' :=
  fun w1 hb=>any_plain_c 106 H.clash cap A l w1 (hR.below hb) eg fun d w2 _=>S.clash d w2
 clear eg
 unfold faceR
 cases h:H.right l
 ·rw [h] at h1
  clear h2
  go_enter Tryz.func88,Tryz.ntmps88
  go_wp2_with (go_at_call 87;refine h1.mono ?_;rintro e w2 ⟨rfl,hb2⟩)
  go_ret
  exact⟨rfl,hb2⟩
 ·rw [h] at h1
  go_enter Tryz.func88,Tryz.ntmps88
  go_wp2_with (first | (go_at_call 87;refine h1.mono ?_;rintro e w2 ⟨rfl,hb2⟩) | (go_at_call 105;refine(h2 _ hb2).mono ?_;rintro e w3 ⟨rfl,hb3⟩))
  go_ret
  exact⟨rfl,below_then hb2 hb2.size hb3⟩
end Go.Proofs.YtahdjajdaggmjaaGreatDoor
namespace Go.Proofs.YtahdjajdaggmjaaGreatDoor
open Go.RowKit H
end Go.Proofs.YtahdjajdaggmjaaGreatDoor
end
section
namespace Go.Proofs.YtahdjajdaggmjaaGreatDoorW.PrintWords
open Go.RowKit
namespace Kd
section
variable {α:Type}{d:Kd α}{e base g o n cap:Nat}{ok okp:Nat→Prop}{w W:World}{v:Value}{xs:List α}
end
section
variable {α:Type}{enc:α→Value}{h1:∀x,(enc x).oneCell'=true}{e base g o n cap:Nat}{ok:Nat→Prop}{W:World}{xs:List α}
end
def raw(sz:Nat):Kd (List Value) where
 sz:=sz
 E:=[]
 K:=fun _ x cs=>cs=x∧cs.length=sz∧∀u∈cs,u.oneCell'=true
 M:=fun _ _ _ x cs=>cs=x∧cs.length=sz∧∀u∈cs,u.oneCell'=true
 K_len:=fun h=>h.2.1
 K_one:=fun h=>h.2.2
 K_below:=fun _ h=>h
 K_of_M:=fun h=>h
 M_mono:=fun _ h=>h
 M_bound:=fun h=>h
 M_move:=fun _ h=>h
 M_lower:=fun _ h=>h
section
variable {α β:Type}{d:Kd α}{d':Kd β}{e e':Nat}{w w1 W:World}{base b:Nat}{ok ok' okv oku:Nat→Prop}{u v:Value}{xs:List α}{ys:List β}
theorem R_tight(hE:d.E=[])(h:d.R e w base ok v xs):d.R e w base (fun k=>some k=v.ownBlock) v xs:=by
 obtain⟨h0,inner,ho,hr⟩:=h
 refine⟨fun k hk=>hk.symm,inner,ho,hr.imp_ (fun p c hp=>d.M_mono (fun k hk=>?_) (d.M_bound hp))⟩
 obtain⟨_,_,_,q,hq,_⟩:=hk
 rw [hE] at hq
 cases hq
end
section
variable {α β:Type}{d:Kd α}{d':Kd β}{e e' g:Nat}{w w1 W:World}{base b:Nat}{ok ok' okv oku:Nat→Prop}{u v:Value}{xs:List α}{ys:List β}
end
section
variable {P:Program}{ops:Array Oper}{rest:List Oper}{o:Oper}{a:Act}{Q:Exit→Act→World→Prop}{Kc:Act→World→Prop}{α:Type}
end
section
variable {α β:Type}{d:Kd α}{e e' g n cap:Nat}{w w1 W:World}{base:Nat}{ok ok' oki okp:Nat→Prop}{u v:Value}{xs:List α}{i:Int}{c:List Value}
end
section
variable {P:Program}{ops:Array Oper}{rest:List Oper}{o:Oper}{a:Act}{Q:Exit→Act→World→Prop}{α:Type}
end
section
variable {α:Type}{n:Nat}{d:Kd α}{hs:0<d.sz}{w:World}{base:Nat}{ok:Nat→Prop}{xs:List α}{cs:List Value}
end
section
variable {α:Type}{n:Nat}{enc:α→Value}{h1:∀x,(enc x).oneCell'=true}{hs:0<(scalar enc h1).sz}{w:World}{base:Nat}{ok:Nat→Prop}{xs:List α}{cs:List Value}
end
end Kd
end Go.Proofs.YtahdjajdaggmjaaGreatDoorW.PrintWords
end
section
namespace Go.Proofs.YtahdjajdaggmjaaGreatDoorW.PrintWords
open Go.RowKit
section
variable {P:Program}
end
namespace Kd
section
variable {P:Program}{ops:Array Oper}{rest:List Oper}{o:Oper}{a:Act}{Q:Exit→Act→World→Prop}{Kc:Act→World→Prop}{α:Type}
end
section
variable {α:Type}{d:Kd α}{e:Nat}{w:World}{base:Nat}{ok:Nat→Prop}{v:Value}{xs:List α}
end
section
variable {P:Program}{ops:Array Oper}{rest:List Oper}{o:Oper}{a:Act}{Q:Exit→Act→World→Prop}{Kc:Act→World→Prop}{α:Type}
end
end Kd
end Go.Proofs.YtahdjajdaggmjaaGreatDoorW.PrintWords
end
section
namespace Go.Proofs.YtahdjajdaggmjaaGreatDoorW.PrintWords
open Go.RowKit
namespace Kd
structure Heap{α:Type}(d:Kd α):Prop where
 K:∀ {w w1:World} {x:α} {cs:List Value},(∀k,k<w.heap.size→w1.heap[k]? = w.heap[k]?)→d.K w x cs→d.K w1 x cs
theorem cell_heap{w w1:World}(hb:∀k,k<w.heap.size→w1.heap[k]? = w.heap[k]?){a:Addr}{v:Value}(h:w.cell? a=some v):w1.cell? a=some v:=by
 have:=hb a.block (World.block_lt_of_cell? w a h)
 simpa [World.cell?,this] using h
theorem Heap.C{α:Type}{d:Kd α}(hd:Heap d){w w1:World}{A:Option Addr}{n:Nat}{xs:List α}(hb:∀k,k<w.heap.size→w1.heap[k]? = w.heap[k]?)(h:d.C w A n xs):d.C w1 A n xs :=
 ⟨h.1,h.2.1,fun hn=>by
  obtain⟨ad,e,hc⟩:=h.2.2 hn
  refine⟨ad,e,fun j p hj=>?_⟩
  obtain⟨c,hs,hr,hcell⟩:=hc j p hj
  exact⟨c,hs,hd.K hb hr,fun i u hu=>cell_heap hb (hcell i u hu)⟩⟩
section
variable {α:Type}{d:Kd α}{e base g n c:Nat}{ok:Nat→Prop}{w w0 W:World}{A:Option Addr}{xs:List α}
end
end Kd
end Go.Proofs.YtahdjajdaggmjaaGreatDoorW.PrintWords
end
section
namespace Go.Proofs.YtahdjajdaggmjaaGreatDoorW.PrintWords
open Go.RowKit
def Kept(w W:World)(S:Nat→Prop):Prop:=w.heap.size≤W.heap.size∧∀i,i<w.heap.size→¬S i→W.heap[i]? = w.heap[i]?
section
variable {w W W2:World}{S S2 S':Nat→Prop}
theorem Kept.refl(w:World)(S:Nat→Prop):Kept w w S:=⟨Nat.le_refl _,fun _ _ _=>rfl⟩
theorem Kept.of_below(h:Below w.heap.size w W)(S:Nat→Prop):Kept w W S:=⟨h.size,fun i hi _=>h.block i hi⟩
theorem Kept.mono(h:Kept w W S)(hs:∀k,S k→S' k):Kept w W S':=⟨h.1,fun i hi hn=>h.2 i hi (fun hk=>hn (hs i hk))⟩
theorem Kept.then_(h:Kept w W S)(k:Kept W W2 S2)(hs:∀k,S2 k→S k∨w.heap.size≤k):Kept w W2 S :=
 ⟨Nat.le_trans h.1 k.1,fun i hi hn=>(k.2 i (Nat.lt_of_lt_of_le hi h.1) (fun h2=>(hs i h2).elim hn (fun h3=>by omega))).trans (h.2 i hi hn)⟩
theorem Kept.of_grown{row:Option Nat}(hg:W.grownBy W2 row)(h:Kept w W S)(hr:∀k,row=some k→S k∨w.heap.size≤k):Kept w W2 S :=
 h.then_ (S2:=fun k=>row=some k) ⟨hg.size,fun i hi hn=>hg.block i hi (fun he=>hn he.symm)⟩ hr
theorem Kept.below(h:Kept w W S)(hb:Below W.heap.size W W2):Kept w W2 S:=h.then_ (Kept.of_below hb (fun _=>False)) (fun _ hk=>hk.elim)
theorem Kept.alloc(h:Kept w W S)(o:Obj):Kept w (W.alloc o) S:=h.below (below_alloc (Below.refl _ _) o)
theorem Kept.drew(h:Kept w W S):Kept w W.drew S:=h
theorem Kept.drewN(h:Kept w W S)(m:Nat):Kept w (W.drewN m) S:=h
theorem Kept.setCell(h:Kept w W S){p:Addr}(hp:S p.block∨w.heap.size≤p.block)(u:Value):Kept w (W.setCell p u) S :=
 h.then_ (S2:=fun k=>k=p.block) ⟨by simp [World.setCell],fun i _ hn=>Below.heap_setCell W p u i hn⟩ (fun k hk=>by rw [hk];exact hp)
theorem Kept.keep{g:Nat}(h:KeepBut w W g none)(k:Kept W W2 S2)(hs:∀k,S2 k→w.heap.size≤k):KeepBut w W2 g none :=
 ⟨Nat.le_trans h.1 k.1,fun i hi hg hr=>(k.2 i (Nat.lt_of_lt_of_le hi h.1) (fun h2=>by have:=hs i h2;omega)).trans (h.2 i hi hg hr)⟩
theorem blk_kept{g:Nat}{o:Obj}(hb:W.heap[g]? = some o)(hk:Kept W W2 S)(hne:¬S g):W2.heap[g]? = some o:=(hk.2 g (blk_lt hb) hne).trans hb
end
namespace Kd
section
variable {α:Type}{d:Kd α}{e base n c:Nat}{ok oki S S2:Nat→Prop}{w w0 W W1 W2:World}{v:Value}{A:Option Addr}{xs:List α}{i:Int}{cs:List Value}
theorem R_kept(h:d.R e W base ok v xs)(hk:Kept W W2 S)(hne:∀k,ok k→¬S k):d.R e W2 base ok v xs:=R_step h (fun k ho hlt=>hk.2 k hlt (hne k ho))
theorem M_kept{x:α}(h:d.M W base ok x cs)(hk:Kept W W2 S)(hne:∀k,ok k→¬S k):d.M W2 base ok x cs:=M_step h (fun k ho hlt=>hk.2 k hlt (hne k ho))
end
end Kd
def Foot(P:World→Prop)(W:World)(ok:Nat→Prop):Prop:=∀W':World,(∀k,ok k→k<W.heap.size→W'.heap[k]? = W.heap[k]?)→P W'
theorem heap_lt{W W1:World}{k:Nat}(h:W1.heap[k]? = W.heap[k]?)(hlt:k<W.heap.size):k<W1.heap.size:=by
 rw [Array.getElem?_eq_getElem hlt] at h
 exact(Array.getElem?_eq_some_iff.1 h).1
namespace Foot
variable {P Q:World→Prop}{W W1:World}{ok ok':Nat→Prop}
theorem now(h:Foot P W ok):P W:=h W (fun _ _ _=>rfl)
theorem mono(h:Foot P W ok)(hok:∀k,ok k→ok' k):Foot P W ok':=fun W' hW=>h W' (fun k hk hlt=>hW k (hok k hk) hlt)
theorem bound(h:Foot P W ok):Foot P W (fun k=>ok k∧k<W.heap.size):=fun W' hW=>h W' (fun k hk hlt=>hW k ⟨hk,hlt⟩ hlt)
theorem step(h:Foot P W ok)(hm:∀k,ok k→k<W.heap.size→W1.heap[k]? = W.heap[k]?):Foot P W1 ok:=fun W' hW=>h W' (fun k hk hlt=>(hW k hk (heap_lt (hm k hk hlt) hlt)).trans (hm k hk hlt))
end Foot
namespace Kd
def F{α:Type}(d:Kd α)(W:World)(ok:Nat→Prop)(A:Option Addr)(n:Nat)(xs:List α):Prop:=Foot (fun W=>d.C W A n xs) W ok
def FK{α:Type}(d:Kd α)(W:World)(ok:Nat→Prop)(x:α)(c:List Value):Prop:=Foot (fun W=>d.K W x c) W ok
section
variable {α β:Type}{d:Kd α}{e base n n' cc g N:Nat}{ok ok' okp S:Nat→Prop}{w w0 w1 W W1:World}{A A':Option Addr}{u v v1:Value}{xs:List α}{xs':List β}{d':Kd β}{x:α}{c:List Value}
theorem F_now(h:F d W ok A n xs):d.C W A n xs:=Foot.now h
theorem F_mono(h:F d W ok A n xs)(hok:∀k,ok k→ok' k):F d W ok' A n xs:=Foot.mono h hok
theorem F_bound(h:F d W ok A n xs):F d W (fun k=>ok k∧k<W.heap.size) A n xs:=Foot.bound h
theorem F_step(h:F d W ok A n xs)(hm:∀k,ok k→k<W.heap.size→W1.heap[k]? = W.heap[k]?):F d W1 ok A n xs:=Foot.step h hm
theorem F_below(h:F d W ok A n xs)(hb:Below W.heap.size W W1):F d W1 ok A n xs:=F_step h (fun k _ hlt=>hb.block k hlt)
theorem F_far(h:F d W ok A n xs){p:Addr}(hok:∀k,ok k→k≠p.block)(u:Value):F d (W.setCell p u) ok A n xs:=F_step h (fun k hk _=>Below.heap_setCell W p u k (hok k hk))
theorem F_elderB(h:F d W ok A n xs)(a:Nat)(ha:W.heap.size≤a):F d W (fun k=>ok k∧k≠a) A n xs:=F_mono (F_bound h) (fun k hk=>⟨hk.1,by have:=hk.2;omega⟩)
theorem F_after(h:F d W (fun k=>ok k∧some k≠v.ownBlock) A n xs)(hg:W.grownBy W1 v.ownBlock)(hat:v1.ownBlock=v.ownBlock∨∃b,v1.ownBlock=some b∧W.heap.size≤b):F d W1 (fun k=>ok k∧some k≠v1.ownBlock) A n xs:=by
 refine F_mono (Foot.step (F_bound h) (fun k hk hlt=>hg.block k hlt hk.1.2)) (fun k hk=>⟨hk.1.1, ?_⟩)
 rcases hat with hat | ⟨b,hb,hle⟩
 ·rw [hat];exact hk.1.2
 ·rw [hb]
  intro he
  injection he with he
  have:=hk.2
  omega
theorem FK_now(h:FK d W ok x c):d.K W x c:=Foot.now h
theorem FK_mono(h:FK d W ok x c)(hok:∀k,ok k→ok' k):FK d W ok' x c:=Foot.mono h hok
theorem FK_bound(h:FK d W ok x c):FK d W (fun k=>ok k∧k<W.heap.size) x c:=Foot.bound h
theorem FK_step(h:FK d W ok x c)(hm:∀k,ok k→k<W.heap.size→W1.heap[k]? = W.heap[k]?):FK d W1 ok x c:=Foot.step h hm
theorem FK_of_M(h:d.M W base ok x c):FK d W ok x c:=fun _ hW=>d.K_of_M (M_step h hW)
theorem emptied(W:World)(g:Nat):∃W':World,(∀k,k≠g→W'.heap[k]? = W.heap[k]?)∧∀a:Addr,a.block=g→W'.cell? a=none:=by
 refine⟨{ W with heap:=W.heap.setIfInBounds g (.cells #[] 0) },fun k hk=>by simp [Ne.symm hk],fun a ha=>?_⟩
 subst ha
 by_cases hlt:a.block<W.heap.size
 ·simp [World.cell?,hlt]
 ·simp [World.cell?,hlt]
end
end Kd
end Go.Proofs.YtahdjajdaggmjaaGreatDoorW.PrintWords
end
section
namespace Go.Proofs.YtahdjajdaggmjaaGreatDoorW.PrintWords
open Go.RowKit
namespace Kd
def chunks(sz:Nat)(n:Nat)(inner:List Value):List (List Value):=(List.range n).map fun j=>(inner.drop (j * sz)).take sz
theorem chunks_length(sz n:Nat)(inner:List Value):(chunks sz n inner).length=n:=by simp [chunks]
theorem chunks_at{sz n:Nat}{inner:List Value}{j:Nat}(hj:j<n):(chunks sz n inner)[j]? = some ((inner.drop (j * sz)).take sz):=by simp [chunks,hj]
theorem chunks_get{sz n:Nat}{inner:List Value}{j:Nat}{c:List Value}(h:(chunks sz n inner)[j]? = some c):c=(inner.drop (j * sz)).take sz:=by
 have hj:j<n:=by have:=(List.getElem?_eq_some_iff.1 h).1;rwa [chunks_length] at this
 rw [chunks_at hj] at h
 injection h with h
 exact h.symm
theorem reps_raw{α:Type}{Rr:α→List Value→Prop}{sz:Nat}{xs:List α}{inner:List Value}(h:Reps Rr sz xs inner)(hR:∀x c,Rr x c→c.length=sz∧∀u∈c,u.oneCell'=true):Reps (fun x cs=>cs=x∧cs.length=sz∧∀u∈cs,u.oneCell'=true) sz (chunks sz xs.length inner) inner:=by
 refine⟨by rw [chunks_length];exact h.1,fun j p hj=>?_⟩
 have hjl:j<xs.length:=by have:=(List.getElem?_eq_some_iff.1 hj).1;rwa [chunks_length] at this
 have hp:=chunks_get hj
 exact⟨hp.symm,hR _ _ (h.2 j _ (List.getElem?_eq_getElem hjl))⟩
section
variable {α:Type}{d:Kd α}{e base n cc g:Nat}{ok ok' okp S:Nat→Prop}{w w1 W W1:World}{A:Option Addr}{u v v1:Value}{xs:List α}{x:α}{c:List Value}
theorem F_get(h:F d W ok A n xs)(z:α)(i:Int)(h0:0≤i)(h1:i<n) :
  ∃ad c,A=some ad∧c.length=d.sz∧FK d W ok (xs.getD i.toNat z) c∧(∀j u,c[j]? = some u→W.cell? (ad.add (i.toNat * d.sz+j))=some u)∧(0<d.sz→ok ad.block):=by
 obtain⟨ad,c,rfl,hcl,hK,hcc⟩:=C_get (F_now h) z i h0 h1
 have hin:0<d.sz→ok ad.block:=by
  intro hs
  by_cases hk:ok ad.block
  ·exact hk
  ·obtain⟨W',h2,h3⟩:=emptied W ad.block
   obtain⟨ad',c',he,hcl',_,hcc'⟩:=C_get (h W' (fun k hk' _=>h2 k (fun e=>hk (e▸hk')))) z i h0 h1
   injection he with he
   subst he
   have h4:=hcc' 0 _ (List.getElem?_eq_getElem (by omega))
   rw [h3 _ (add_block _ _)] at h4
   cases h4
 refine⟨ad,c,rfl,hcl,fun W' hW=>?_,hcc,hin⟩
 obtain⟨ad',c',he,hcl',hK',hcc'⟩:=C_get (h W' hW) z i h0 h1
 injection he with he
 subst he
 have hc:c=c':=by
  apply List.ext_getElem?
  intro j
  by_cases hj:j<d.sz
  ·have hb:W'.heap[ad.block]? = W.heap[ad.block]? := by
    have h5:=hcc j _ (List.getElem?_eq_getElem (by omega))
    have h6:=World.block_lt_of_cell? W _ h5
    rw [add_block] at h6
    exact hW _ (hin (by omega)) h6
   have h5:=hcc j _ (List.getElem?_eq_getElem (by omega))
   have h6:=hcc' j _ (List.getElem?_eq_getElem (by omega))
   have h7:W'.cell? (ad.add (i.toNat * d.sz+j))=W.cell? (ad.add (i.toNat * d.sz+j)):=by simp [World.cell?,add_block,hb]
   rw [h7,h5] at h6
   rw [List.getElem?_eq_getElem (by omega),List.getElem?_eq_getElem (by omega)]
   exact h6
  ·rw [List.getElem?_eq_none (by omega),List.getElem?_eq_none (by omega)]
 rw [hc]
 exact hK'
def N{α:Type}(d:Kd α)(e:Nat)(w:World)(base:Nat)(ok:Nat→Prop)(v:Value)(xs:List α):Prop :=
 (∀k,v.ownBlock=some k→ok k)∧∃rows:List (List Value),rows.length=xs.length∧(raw d.sz).R e w base (fun k=>some k=v.ownBlock) v rows∧∀(j:Nat) (x:α) (c:List Value),xs[j]? = some x→rows[j]? = some c→FK d w (fun k=>ok k∧some k≠v.ownBlock) x c
theorem raw_tight{sz:Nat}{rows:List (List Value)}(h:(raw sz).R e w base ok v rows):(raw sz).R e w base (fun k=>some k=v.ownBlock) v rows:=R_tight rfl h
theorem raw_any{sz:Nat}{rows:List (List Value)}(h:(raw sz).R e w base ok v rows):(raw sz).R e w base (fun _=>True) v rows:=R_mono h (fun _ _=>trivial)
theorem R_N(h:d.R e w base ok v xs):N d e w base ok v xs:=by
 obtain⟨h0,inner,ho,hr⟩:=h
 refine⟨h0,chunks d.sz xs.length inner,chunks_length _ _ _,⟨fun k hk=>hk.symm,inner,by rw [chunks_length];exact ho,reps_raw hr (fun x c hp=>⟨d.K_len (d.K_of_M hp),d.K_one (d.K_of_M hp)⟩)⟩,fun j x c hx hc=>?_⟩
 rw [chunks_get hc]
 exact FK_of_M (hr.2 j x hx)
theorem N_nil(d:Kd α)(e:Nat)(w:World)(base:Nat)(ok:Nat→Prop):N d e w base ok (.slice none 0 0) []:=R_N (R_nil _ _ _ _ _)
theorem N_mono(h:N d e w base ok v xs)(hok:∀k,ok k→ok' k):N d e w base ok' v xs:=by
 obtain⟨h0,rows,hl,hR,hf⟩:=h
 exact⟨fun k hk=>hok k (h0 k hk),rows,hl,hR,fun j x c hx hc=>FK_mono (hf j x c hx hc) (fun k hk=>⟨hok k hk.1,hk.2⟩)⟩
theorem N_lt(h:N d e w base ok v xs):∀k,v.ownBlock=some k→k<w.heap.size:=by
 obtain⟨_,rows,_,hR,_⟩:=h
 exact R_lt hR
theorem N_base(h:N d e w base ok v xs):∀k,v.ownBlock=some k→base≤k:=by
 obtain⟨_,rows,_,hR,_⟩:=h
 exact R_base hR
theorem N_ne(h:N d e w base ok v xs){t:Nat}{cells:Array Value}(hb:w.heap[g]? = some (.cells cells t (0,0)))(ht:e≠t):some g≠v.ownBlock:=by
 obtain⟨_,rows,_,hR,_⟩:=h
 exact R_ne hR hb ht
theorem N_bound(h:N d e w base ok v xs):N d e w base (fun k=>ok k∧k<w.heap.size) v xs:=by
 have hlt:=N_lt h
 obtain⟨h0,rows,hl,hR,hf⟩:=h
 exact⟨fun k hk=>⟨h0 k hk,hlt k hk⟩,rows,hl,hR,fun j x c hx hc=>FK_mono (FK_bound (hf j x c hx hc)) (fun k hk=>⟨⟨hk.1.1,hk.2⟩,hk.1.2⟩)⟩
theorem N_lower{base':Nat}(h:N d e w base ok v xs)(hb:base'≤base):N d e w base' ok v xs:=by
 obtain⟨h0,rows,hl,hR,hf⟩:=h
 exact⟨h0,rows,hl,R_lower hR hb,hf⟩
theorem N_step(h:N d e w base ok v xs)(hm:∀k,ok k→k<w.heap.size→w1.heap[k]? = w.heap[k]?):N d e w1 base ok v xs:=by
 obtain⟨h0,rows,hl,hR,hf⟩:=h
 exact⟨h0,rows,hl,R_step hR (fun k hk hlt=>hm k (h0 k hk.symm) hlt),fun j x c hx hc=>FK_step (hf j x c hx hc) (fun k hk hlt=>hm k hk.1 hlt)⟩
theorem N_below(h:N d e w base ok v xs)(hb:Below w.heap.size w w1):N d e w1 base ok v xs:=N_step h (fun k _ hk=>hb.block k hk)
theorem N_far(h:N d e w base ok v xs){p:Addr}(hok:∀k,ok k→k≠p.block)(u:Value):N d e (w.setCell p u) base ok v xs:=N_step h (fun k ho _=>Below.heap_setCell w p u k (hok k ho))
theorem N_elder'(h:N d e W base ok v xs)(hbase:∀k,u.ownBlock=some k→W.heap.size≤k)(hb:Below W.heap.size W w1):N d e w1 base (fun k=>ok k∧some k≠u.ownBlock) v xs :=
 N_mono (N_below (N_bound h) hb) (fun k hk=>⟨hk.1,fun he=>by have:=hbase k he.symm;have:=hk.2;omega⟩)
theorem N_elderB(h:N d e w base ok v xs)(a:Nat)(ha:w.heap.size≤a):N d e w base (fun k=>ok k∧k≠a) v xs:=N_mono (N_bound h) (fun k hk=>⟨hk.1,by have:=hk.2;omega⟩)
theorem N_slice(h:N d e w base ok v xs):∃A c,v=.slice A xs.length c:=by
 obtain⟨_,rows,hl,hR,_⟩:=h
 obtain⟨A,c,he⟩:=R_slice hR
 exact⟨A,c,by rw [he,hl]⟩
theorem N_reads'{n c:Nat}(h:N d e w base ok (.slice A n c) xs):n=xs.length∧n≤c∧d.C w A xs.length xs:=by
 obtain⟨_,rows,hl,hR,hf⟩:=h
 obtain⟨hn,hc,hC⟩:=R_reads' hR
 refine⟨by omega,hc, ?_⟩
 rw [hl] at hC
 refine⟨rfl,hC.2.1,fun hp=>?_⟩
 obtain⟨ad,he,hcell⟩:=hC.2.2 hp
 refine⟨ad,he,fun j p hj=>?_⟩
 have hjl:j<rows.length:=by have:=(List.getElem?_eq_some_iff.1 hj).1;omega
 obtain⟨c',hcl,hK,hcc⟩:=hcell j _ (List.getElem?_eq_getElem hjl)
 have hk:=FK_now (hf j p _ hj (List.getElem?_eq_getElem hjl))
 refine⟨c',hcl, ?_,hcc⟩
 rw [show c'=rows[j] from hK.1]
 exact hk
theorem N_F{n:Nat}(h:N d e w base ok (.slice A n cc) xs):F d w ok A n xs:=fun W' hW=>by
 have h2:=N_reads' (N_step h hW)
 rw [h2.1]
 exact h2.2.2
end
section
variable {α:Type}{d:Kd α}{e base n cap g:Nat}{ok ok' okp:Nat→Prop}{w w1 W:World}{v v1:Value}{xs ys:List α}
theorem N_appended{rows news:List (List Value)}(h0:∀k,v.ownBlock=some k→ok k)(hl:rows.length=xs.length)(hf:∀(j:Nat) (x:α) (c:List Value),xs[j]? = some x→rows[j]? = some c→FK d W (fun k=>ok k∧some k≠v.ownBlock) x c)
  (hl2:news.length=ys.length) (hf2:∀(j:Nat) (x:α) (c:List Value),ys[j]? = some x→news[j]? = some c→FK d W okp x c) (hokp:∀k,okp k→ok k∧some k≠v.ownBlock) (hfresh:∀k,W.heap.size≤k→ok k)
  (hR:(raw d.sz).R e w1 base (fun _=>True) v1 (rows++news)) (hg:W.grownBy w1 v.ownBlock) (hat:v1.ownBlock=v.ownBlock∨∃b,v1.ownBlock=some b∧W.heap.size≤b):N d e w1 base ok v1 (xs++ys):=by
 have hne:∀k,some k≠v.ownBlock→k<W.heap.size→some k≠v1.ownBlock:=by
  intro k hk hlt
  rcases hat with hat | ⟨b,hb,hle⟩
  ·rw [hat];exact hk
  ·rw [hb]
   intro he
   injection he with he
   omega
 have step:∀ {x:α} {c:List Value} {o:Nat→Prop},FK d W o x c→(∀k,o k→ok k∧some k≠v.ownBlock)→FK d w1 (fun k=>ok k∧some k≠v1.ownBlock) x c:=by
  intro x c o hq ho
  exact FK_mono (FK_step (FK_bound hq) (fun k hk hlt=>hg.block k hlt (ho k hk.1).2)) (fun k hk=>⟨(ho k hk.1).1,hne k (ho k hk.1).2 hk.2⟩)
 refine⟨fun k hk=>?_,rows++news,by rw [List.length_append,List.length_append,hl,hl2],raw_tight hR,fun j x c hx hc=>?_⟩
 ·rcases hat with hat | ⟨b,hb,hle⟩
  ·exact h0 k (hat▸hk)
  ·rw [hb] at hk
   injection hk with hk
   exact hfresh k (by omega)
 ·rcases Nat.lt_or_ge j xs.length with hlt | hge
  ·rw [List.getElem?_append_left hlt] at hx
   rw [List.getElem?_append_left (by omega)] at hc
   exact step (hf j x c hx hc) (fun _ hk=>hk)
  ·rw [List.getElem?_append_right hge] at hx
   rw [List.getElem?_append_right (by omega),hl] at hc
   exact step (hf2 _ x c hx hc) hokp
theorem FK_raw{x:α}{c:List Value}(h:FK d W ok x c):c=c∧c.length=d.sz∧∀u∈c,u.oneCell'=true:=⟨rfl,d.K_len (FK_now h),d.K_one (FK_now h)⟩
end
section
variable {P:Program}{ops:Array Oper}{rest:List Oper}{o:Oper}{a:Act}{Q:Exit→Act→World→Prop}{Kc:Act→World→Prop}{α:Type}
theorem N_append(d:Kd α){w0 W:World}(base:Nat)(hgd:o.guard=none)(s x:Operand)(t e:TypeId)(z:Value)(bytes:Nat)
  (ho:o.op=.call { callee:=.builtin .append,args:=#[s,x],argTypes:=#[t,t] })
  (ht:P.underlying t=some (.slice e)) (hinfo:(P.info? e).map (fun i=>(i.zero,i.size,i.bytes))=some (some z,d.sz,bytes)) (hz:z.cells.size=d.sz) (hs0:0<d.sz) (hb0:0<bytes)
  (v:Value) (xs:List α) (p:α) (cs:List Value) (ok okp:Nat→Prop) (hs:a.eval s=v) (hx:a.eval x=.slice (some ⟨W.heap.size,0,none⟩) 1 1) (hp:FK d W okp p cs) (hokp:∀k,okp k→ok k∧some k≠v.ownBlock) (hfresh:∀k,W.heap.size≤k→ok k)
  (HO:N d e W base ok v xs) (HB:Below base w0 W) (hbase:base≤W.heap.size) (hl:(xs.length+1) * bytes≤140737488355328)
  (h:∀v1 w1,N d e w1 base ok v1 (xs++[p])→Below base w0 w1→W.grownBy w1 v.ownBlock→(v1.ownBlock=v.ownBlock∨∃b,v1.ownBlock=some b∧W.heap.size≤b)→wpList P ops Q rest (a.put o.dst v1) w1) :
  wpList P ops Q (o :: rest) a (W.alloc (.cells cs.toArray e)):=by
 obtain⟨h0,rows,hlr,hR,hf⟩:=HO
 refine R_append (raw d.sz) base hgd s x t e z bytes ho ht hinfo hz hs0 hb0 v rows cs cs (fun _=>True) (fun _=>False) hs hx (FK_raw hp) (fun _ hk=>hk.elim) (fun _ _=>trivial) (raw_any hR) HB hbase (by rw [hlr];exact hl) ?_
 intro v1 w1 hr hb hg hat
 exact h v1 w1 (N_appended h0 hlr hf (ys:=[p]) (news:=[cs]) rfl (fun j y c hy hc=>by
  rcases j with _ | j
  ·simp only [List.getElem?_cons_zero,Option.some.injEq] at hy hc
   rw [←hy,←hc];exact hp
  ·simp at hy) hokp hfresh hr hg hat) hb hg hat
end
end Kd
end Go.Proofs.YtahdjajdaggmjaaGreatDoorW.PrintWords
end
section
namespace Go.Proofs.YtahdjajdaggmjaaGreatDoorW.PrintMore
open Go.RowKit Go.Proofs.YtahdjajdaggmjaaGreatDoorW.PrintWords
namespace Kd
open Go.Proofs.YtahdjajdaggmjaaGreatDoorW.PrintWords.Kd
end Kd
namespace Kd
open Go.Proofs.YtahdjajdaggmjaaGreatDoorW.PrintWords.Kd
section
variable {α:Type}{d:Kd α}{e base g N:Nat}{ok:Nat→Prop}{W w1:World}{u v:Value}{xs:List α}
end
end Kd
theorem max2_int(k k':IntKind)(x y:Int):Builtin.max2 (.int k x) (.int k' y)=pure (.int k (if x<y then y else x)):=by simp only [Builtin.max2,gt_iff_lt]
theorem min2_int(k k':IntKind)(x y:Int):Builtin.min2 (.int k x) (.int k' y)=pure (.int k (if y<x then y else x)):=by simp only [Builtin.min2]
theorem max_two(ats:Array TypeId)(ty:TypeId)(a b:Value):Builtin.max_ ats ty #[a,b]=(Builtin.max2 a b >>= fun s=>pure s):=by simp only [Builtin.max_,List.foldlM_cons,List.foldlM_nil]
theorem min_two(ats:Array TypeId)(ty:TypeId)(a b:Value):Builtin.min_ ats ty #[a,b]=(Builtin.min2 a b >>= fun s=>pure s):=by simp only [Builtin.min_,List.foldlM_cons,List.foldlM_nil]
theorem max_three(ats:Array TypeId)(ty:TypeId)(a b c:Value):Builtin.max_ ats ty #[a,b,c]=(Builtin.max2 a b >>= fun s=>Builtin.max2 s c >>= fun s=>pure s):=by simp only [Builtin.max_,List.foldlM_cons,List.foldlM_nil]
theorem min_three(ats:Array TypeId)(ty:TypeId)(a b c:Value):Builtin.min_ ats ty #[a,b,c]=(Builtin.min2 a b >>= fun s=>Builtin.min2 s c >>= fun s=>pure s):=by simp only [Builtin.min_,List.foldlM_cons,List.foldlM_nil]
theorem max_four(ats:Array TypeId)(ty:TypeId)(a b c d:Value):Builtin.max_ ats ty #[a,b,c,d]=(Builtin.max2 a b >>= fun s=>Builtin.max2 s c >>= fun s=>Builtin.max2 s d >>= fun s=>pure s):=by simp only [Builtin.max_,List.foldlM_cons,List.foldlM_nil]
theorem min_four(ats:Array TypeId)(ty:TypeId)(a b c d:Value):Builtin.min_ ats ty #[a,b,c,d]=(Builtin.min2 a b >>= fun s=>Builtin.min2 s c >>= fun s=>Builtin.min2 s d >>= fun s=>pure s):=by simp only [Builtin.min_,List.foldlM_cons,List.foldlM_nil]
end Go.Proofs.YtahdjajdaggmjaaGreatDoorW.PrintMore
namespace Go.Proofs.YtahdjajdaggmjaaGreatDoorW.PrintWords
open Go.RowKit
section
variable {P:Program}{ops:Array Oper}{rest:List Oper}{o:Oper}{a:Act}{Q:Exit→Act→World→Prop}{W:World}
theorem gate_builtin{b:Builtin}{xs:Array Operand}{ts:Array TypeId}(_ho:o.op=.call { callee:=.builtin b,args:=xs,argTypes:=ts })(h:wpList P ops Q (o :: rest) a W):wpList P ops Q (o :: rest) a W:=h
end
def shl(k:IntKind)(x y:Int):Int:=k.wrap (x * 2 ^ min y.toNat k.bits)
def shr(k:IntKind)(x y:Int):Int:=x / 2 ^ min y.toNat k.bits
theorem shl_small{k:IntKind}{x y j:Int}(h:shl k x y=j)(hy:y≤k.bits):k.wrap (x * 2 ^ y.toNat)=j:=by rw [←h];unfold shl;rw [Nat.min_eq_left (by omega)]
theorem shr_small{k:IntKind}{x y j:Int}(h:shr k x y=j)(hy:y≤k.bits):x / 2 ^ y.toNat=j:=by rw [←h];unfold shr;rw [Nat.min_eq_left (by omega)]
namespace Kd
section
variable {α:Type}{d:Kd α}{e base:Nat}{ok:Nat→Prop}{W w1:World}{v:Value}{xs:List α}
end
section
variable {α:Type}{d:Kd α}{e base g n cap:Nat}{ok oki okp:Nat→Prop}{W:World}{xs:List α}{i:Int}{c:List Value}
end
section
variable {α:Type}{d:Kd α}{e base b b' g N:Nat}{ok ok1:Nat→Prop}{W W2 w1:World}{u v:Value}{xs ys:List α}{S:Nat→Prop}
end
end Kd
end Go.Proofs.YtahdjajdaggmjaaGreatDoorW.PrintWords
namespace Go.Proofs.YtahdjajdaggmjaaGreatDoorW.PrintWords
open Go.RowKit
namespace Kd
def V{α:Type}(d:Kd α)(_e:Nat)(W:World)(_base:Nat)(ok:Nat→Prop)(v:Value)(xs:List α):Prop:=∃A c,v=.slice A xs.length c∧xs.length≤c∧F d W ok A xs.length xs
section
variable {α β:Type}{d:Kd α}{e base base' n m c g N' lo hi:Nat}{ok ok' S:Nat→Prop}{w W w1:World}{A:Option Addr}{ad:Addr}{u v v1:Value}{xs:List α}
theorem V_map(h:V d e W base ok v xs)(hF:∀A,F d W ok A xs.length xs→F d w1 ok' A xs.length xs):V d e w1 base' ok' v xs:=by
 obtain⟨A,c,hv,hl,hf⟩:=h
 exact⟨A,c,hv,hl,hF A hf⟩
theorem V_mk(hl:xs.length≤c)(hf:F d W ok A xs.length xs):V d e W base ok (.slice A xs.length c) xs:=⟨A,c,rfl,hl,hf⟩
theorem V_at(h:V d e W base ok (.slice A n c) xs):n=xs.length∧n≤c∧F d W ok A xs.length xs:=by
 obtain⟨A',c',hv,hl,hf⟩:=h
 injection hv with ha hn hc
 subst ha;subst hc
 exact⟨hn,by rw [hn];exact hl,hf⟩
theorem V_reads'(h:V d e W base ok (.slice A n c) xs):n=xs.length∧n≤c∧d.C W A xs.length xs:=⟨(V_at h).1,(V_at h).2.1,F_now (V_at h).2.2⟩
theorem V_F(h:V d e W base ok (.slice A n c) xs):F d W ok A n xs:=by
 obtain⟨hn,_,hf⟩:=V_at h
 rw [hn]
 exact hf
theorem N_V(h:N d e W base ok v xs):V d e W base' ok v xs:=by
 obtain⟨A,c,rfl⟩:=N_slice h
 exact⟨A,c,rfl,(N_reads' h).2.1,N_F h⟩
theorem V_mono(h:V d e W base ok v xs)(hok:∀k,ok k→ok' k):V d e W base ok' v xs:=V_map h (fun _ hf=>F_mono hf hok)
theorem V_below(h:V d e W base ok v xs)(hb:Below W.heap.size W w1):V d e w1 base ok v xs:=V_map h (fun _ hf=>F_below hf hb)
theorem V_far(h:V d e W base ok v xs){p:Addr}(hok:∀k,ok k→k≠p.block)(u:Value):V d e (W.setCell p u) base ok v xs:=V_map h (fun _ hf=>F_far hf hok u)
theorem V_after(h:V d e W base (fun k=>ok k∧some k≠u.ownBlock) v xs)(hg:W.grownBy w1 u.ownBlock)(hat:v1.ownBlock=u.ownBlock∨∃b,v1.ownBlock=some b∧W.heap.size≤b):V d e w1 base (fun k=>ok k∧some k≠v1.ownBlock) v xs:=V_map h (fun _ hf=>F_after hf hg hat)
theorem V_afterv(h:V d e W base (fun k=>ok k∧some k≠v.ownBlock) u xs)(hg:W.grownBy w1 v.ownBlock)(hat:v1.ownBlock=v.ownBlock∨∃b,v1.ownBlock=some b∧W.heap.size≤b):V d e w1 base (fun k=>ok k∧some k≠v1.ownBlock) u xs:=V_after h hg hat
theorem V_elderB(h:V d e W base ok v xs)(a:Nat)(ha:W.heap.size≤a):V d e W base (fun k=>ok k∧k≠a) v xs:=V_map h (fun _ hf=>F_elderB hf a ha)
theorem V_get(h:V d e W base ok (.slice (some ad) n c) xs)(z:α)(i:Int)(h0:0≤i)(h1:i<n) :
  ∃cs,cs.length=d.sz∧FK d W ok (xs.getD i.toNat z) cs∧∀j u,cs[j]? = some u→W.cell? (ad.add (i.toNat * d.sz+j))=some u:=by
 obtain⟨ad',cs,he,hcl,hK,hcc,_⟩:=F_get (V_F h) z i h0 h1
 injection he with he
 subst he
 exact⟨cs,hcl,hK,hcc⟩
theorem R_newM{M:Nat→Prop}(h:d.R e w1 W.heap.size ok v xs)(hle:w.heap.size≤W.heap.size)(hM:∀k,w.heap.size≤k→M k):d.R e w1 W.heap.size (fun k=>M k∧ok k) v xs:=R_mono (R_bound h) (fun k hk=>⟨hM k (Nat.le_trans hle hk.2.1),hk.1⟩)
end
end Kd
end Go.Proofs.YtahdjajdaggmjaaGreatDoorW.PrintWords
end
section
namespace Go.Proofs.YtahdjajdaggmjaaGreatDoor
open Go.RowKit H
open Go.Proofs.YtahdjajdaggmjaaGreatDoorW.PrintWords Go.Proofs.YtahdjajdaggmjaaGreatDoorW.PrintLast Go.Proofs.YtahdjajdaggmjaaGreatDoorW.PrintMore
end Go.Proofs.YtahdjajdaggmjaaGreatDoor
namespace Go.Proofs.YtahdjajdaggmjaaGreatDoor
open Go.RowKit H
open Go.Proofs.YtahdjajdaggmjaaGreatDoorW.PrintWords Go.Proofs.YtahdjajdaggmjaaGreatDoorW.PrintLast Go.Proofs.YtahdjajdaggmjaaGreatDoorW.PrintMore
end Go.Proofs.YtahdjajdaggmjaaGreatDoor
namespace Go.Proofs.YtahdjajdaggmjaaGreatDoor
open Go.RowKit H
end Go.Proofs.YtahdjajdaggmjaaGreatDoor
namespace Go.Proofs.YtahdjajdaggmjaaGreatDoor
open Go.RowKit H
end Go.Proofs.YtahdjajdaggmjaaGreatDoor
namespace Go.Proofs.YtahdjajdaggmjaaGreatDoor
open Go.RowKit H
end Go.Proofs.YtahdjajdaggmjaaGreatDoor
namespace Go.Proofs.YtahdjajdaggmjaaGreatDoor
open Go.RowKit H
end Go.Proofs.YtahdjajdaggmjaaGreatDoor


end
section
namespace Go.Proofs.YtahdjajdaggmjaaGreatDoor
open Go.RowKit H
open Go.Proofs.YtahdjajdaggmjaaGreatDoorW.PrintWords Go.Proofs.YtahdjajdaggmjaaGreatDoorW.PrintLast Go.Proofs.YtahdjajdaggmjaaGreatDoorW.PrintMore
theorem insAt_le:∀(O:List C) (c:C),insAt O c≤O.length
 | [],_=>Nat.le_refl _
 | x :: r,c=>by
  unfold insAt
  split
  ·exact Nat.succ_le_succ (insAt_le r c)
  ·exact Nat.zero_le _
theorem insAt_lt:∀(O:List C) (c:C) (a:Nat) (h:a<O.length),a≤insAt O c→ltC O[a] c=decide (a<insAt O c)
 | [],_,_,h,_=>absurd h (Nat.not_lt_zero _)
 | x :: r,c,0,h,_=>by
  rw [List.getElem_cons_zero]
  unfold insAt
  cases hx:ltC x c
  ·rw [if_neg (by simp),decide_eq_false (by omega)]
  ·rw [if_pos rfl,decide_eq_true (by omega)]
 | x :: r,c,a+1,h,ha=>by
  rw [List.getElem_cons_succ]
  unfold insAt at ha ⊢
  cases hx:ltC x c
  ·rw [hx,if_neg (by simp)] at ha
   omega
  ·rw [hx,if_pos rfl] at ha
   rw [if_pos rfl,insAt_lt r c a (by simpa using h) (by omega)]
   congr 1
   simp
theorem take_at{w:World}{A:Option Addr}{l:List C}(h:Rd w A l)(a:Nat):Rd w A (l.take a):=by
 refine⟨by have:=h.1;rw [List.length_take];omega,fun hp=>?_⟩
 rw [List.length_take] at hp
 obtain⟨b,off,e,hc⟩:=h.2 (by omega)
 refine⟨b,off,e,fun j hj=>?_⟩
 rw [List.length_take] at hj
 rw [List.getElem_take]
 exact hc j (by omega)
theorem cutC(A:Option Addr)(n c m:Nat)(hm:m≤n):∃A':Option Addr,(∀W:World,(Instr.slice 45 (.slice A n c) (some (.int .i64 (m:Int))) none none).run Tryz.prog W=.ok (.slice A' (n-m) (c-m)) W) ∧
  ∀(w:World) (l:List C),l.length=n→n≤c→Rd w A l→Rd w A' (l.drop m):=by
 obtain⟨i,hi,hz,hs,hb⟩:=infoC'
 refine⟨if c=m then A else A.map (·.add (m * 2)),fun W=>?_,fun w l hl hc h=>⟨by have:=h.1;rw [List.length_drop];omega,fun hp=>?_⟩⟩
 ·have hel:Tryz.prog.elem 45=113:=by simp [Program.elem,Tryz.underlying45]
  have hu:Tryz.prog.underlying 45=some (.slice (Tryz.prog.elem 45)):=by rw [hel];exact Tryz.underlying45
  rw [run_slice_l W 45 A n c hu .i64 (m:Int) (Int.natCast_nonneg _) (by omega),hel]
  simp [sizeOf,typeInfo,hi,hs,sliced,Result.andThen]
 ·rw [List.length_drop] at hp
  obtain⟨b,off,rfl,hcell⟩:=h.2 (by omega)
  rw [if_neg (by omega)]
  have ea:(⟨b,off,none⟩:Addr).add (m * 2)=⟨b,off+m * 2,none⟩:=by
   unfold Addr.add
   split<;>simp_all
  refine⟨b,off+m * 2,by rw [Option.map_some,ea],fun j hj=>?_⟩
  rw [List.length_drop] at hj
  obtain⟨h1,h2⟩:=hcell (m+j) (by omega)
  rw [List.getElem_drop]
  rw [show off+m * 2+j * 2=off+(m+j) * 2 by omega]
  exact⟨h1,h2⟩
structure SmallR:Prop where
 right:∀(c:C) (w:World),Calls Tryz.prog 98 #[.agg #[.int .u32 (un c.1),.int .u32 (un c.2)]] w fun e w'=>e=.returned (.bool (ok c))∧Below w.heap.size w w'
 needed:∀(A:Option Addr) (cap:Nat) (l:List C) (c:C) (w:World),Rd w A l→l.length≤cap→l.length≤1000000→Calls Tryz.prog 99 #[.slice A l.length cap,.agg #[.int .u32 (un c.1),.int .u32 (un c.2)]] w fun e w'=>e=.returned (.bool (H.needed l c))∧Below w.heap.size w w'
 less:∀(a b:C) (w:World),Calls Tryz.prog 100 #[.agg #[.int .u32 (un a.1),.int .u32 (un a.2)],.agg #[.int .u32 (un b.1),.int .u32 (un b.2)]] w fun e w'=>e=.returned (.bool (ltC a b))∧Below w.heap.size w w'
set_option maxHeartbeats 8000000 in
theorem ref_Least(S:SmallR)(A:Option Addr)(cap:Nat)(l:List C)(w:World)(hR:Rd w A l)(hcp:l.length≤cap)(hlen:l.length≤1000000) :
  Calls Tryz.prog 81 #[.slice A l.length cap] w fun e w'=>∃v,e=.returned (.tuple #[v,.int .i64 (leastR l).2])∧Own w' w.heap.size v (leastR l).1∧Below w.heap.size w w':=by
 go_enter Tryz.func81,Tryz.ntmps81
 go_wp2
 go_loopg [4] (l.length+1) (fun kq v4 w'=>∃j:Nat,v4=.int .i64 (j:Int)∧j≤l.length∧kq+j=l.length+1∧Hid (∀d∈l.take j,ok d=true)∧Below w.heap.size w w')
 case atStart=>exact⟨0,rfl,Nat.zero_le _,rfl,Lib.hid (by simp),Below.refl _ _⟩
 case round =>
  obtain⟨j,rfl,hj,hk,hok,hb⟩:=hrel
  by_cases hlt:j<l.length
  ·obtain⟨b0,off,rfl,h1,h2⟩:=(hR.below hb).at_ hlt
   have hr:=S.right l[j]
   have HB:=Lib.hid hb
   have HOK:=hok
   have hsz:=hb.size
   clear hok hb
   cases hokj:ok l[j]
   ·rw [hokj] at hr
    have hle:Hid (leastR l=([],2)):=by
     refine Lib.hid ?_
     have:l.all ok=false:=by
      rw [List.all_eq_false]
      exact⟨l[j],List.getElem_mem _,by rw [hokj];exact Bool.false_ne_true⟩
     unfold leastR
     rw [this]
     rfl
    clear hokj
    go_wp2_with (go_at_call 98;refine(hr _).mono ?_;rintro e w2 ⟨rfl,hb2⟩)
    go_ret2
    rw [hle]
    exact⟨_,rfl,Own.nil _ _,below_then HB hsz hb2⟩
   ·rw [hokj] at hr
    have HO:=Lib.hid hokj
    clear hokj
    go_wp2_with (go_at_call 98;refine(hr _).mono ?_;rintro e w2 ⟨rfl,hb2⟩)
    go_roundg (gk-1)
    case measure=>omega
    case rel =>
     refine⟨j+1,by simp,by omega,by omega,Lib.hid fun d hd=>?_,below_then HB hsz hb2⟩
     rw [List.take_succ_eq_append_getElem hlt] at hd
     rcases List.mem_append.1 hd with h3 | h3
     ·exact HOK d h3
     ·rw [List.mem_singleton.1 h3]
      exact HO
  ·have ejl:l.take j=l:=List.take_of_length_le (by omega)
   have hall:l.all ok=true:=by
    rw [List.all_eq_true]
    intro d hd
    exact hok d (by rw [ejl];exact hd)
   have hleast:Hid (leastR l=if (insAll l l).length≤64 then(insAll l l,0) else([],3)):=by
    refine Lib.hid ?_
    unfold leastR
    rw [hall,if_pos rfl]
   clear hok ejl hall
   go_wp2
   rename World=>w1
   have HB1:=Lib.hid hb
   clear hb
   go_loopg [5,6] (l.length+1) (fun kq v5 v6 w'=>∃j:Nat,v6=.int .i64 (j:Int)∧j≤l.length∧kq+j=l.length+1∧Own w' w.heap.size v5 (insAll l (l.take j))∧Below w.heap.size w w')
   case atStart=>exact⟨0,rfl,Nat.zero_le _,by omega,Own.nil _ _,HB1⟩
   case round =>
    obtain⟨j,rfl,hj,hk,ho,hb⟩:=hrel
    by_cases hlt:j<l.length
    ·obtain⟨b0,off,rfl,h1,h2⟩:=(hR.below hb).at_ hlt
     have hn:=S.needed (some ⟨b0,off,none⟩) cap l l[j] wr (hR.below hb) hcp hlen
     have hnext:=insAll_take_succ l j hlt
     have hOl:=length_insAll l (l.take j)
     have hOl2:=List.length_take_le j l
     have HB:=Lib.hid hb
     have HO:=Lib.hid ho
     have hsz:=hb.size
     clear ho hb
     cases hneed:needed l l[j]
     ·rw [hneed] at hn hnext
      rw [if_neg (by simp)] at hnext
      have HN:=Lib.hid hnext
      clear hneed hnext
      go_wp2_with (go_at_call 99;refine hn.mono ?_;rintro e w2 ⟨rfl,hb2⟩)
      go_roundg (gk-1)
      case measure=>omega
      case rel=>exact⟨j+1,by simp,by omega,by omega,by rw [HN];exact HO.below hb2,below_then HB hsz hb2⟩
     ·rw [hneed] at hn hnext
      rw [if_pos rfl] at hnext
      have HN:=Lib.hid hnext
      clear hneed hnext
      generalize hO:insAll l (l.take j)=O at *
      clear hO
      obtain⟨AO,cO,rfl,hRO⟩:=(show Own _ _ _ _ from HO).slice
      have hcO:O.length≤cO:=by
       rcases HO.1.2 with⟨hv,hn0⟩ | ⟨g,cp,cur,hv,_,_,hcp',_⟩
       ·omega
       ·cases hv;exact hcp'
      obtain⟨g0,hg0⟩:∃g0,g0=gk:=⟨_,rfl⟩
      have HK:=Lib.hid hk
      clear hk
      have hOle:=insAt_le O l[j]
      go_wp2_with (go_at_call 99;refine hn.mono ?_;rintro e w2 ⟨rfl,hb2⟩)
      have HB2:=Lib.hid (below_then HB hsz hb2)
      have HO2:=Lib.hid ((show Own _ _ _ _ from HO).below hb2)
      have HR2:=Lib.hid ((hR.below HB).below hb2)
      clear hb2 h1 h2 hn hRO
      go_loopg [7] (O.length+1) (fun kq v7 w'=>∃a:Nat,v7=.int .i64 (a:Int)∧a≤insAt O l[j]∧kq+a=O.length+1∧Below w2.heap.size w2 w')
      case atStart=>exact⟨0,rfl,Nat.zero_le _,rfl,Below.refl _ _⟩
      case round =>
       obtain⟨a,rfl,hale0,hka,hb3⟩:=hrel
       have HB3:=Lib.hid hb3
       clear hb3
       go_upto_region 12 with fail
       go_cut [47] from 33 to 49 (fun s47 wx=>s47=.bool (decide (a<insAt O l[j]))∧Below w2.heap.size w2 wx)
       case first =>
        obtain⟨b1,o1,hAj,g1,g2⟩:=((show Rd _ _ _ from HR2).below HB3).at_ hlt
        cases hAj
        by_cases hal:a<O.length
        ·obtain⟨A5,c5,e5,hR5⟩:=((show Own _ _ _ _ from HO2).below HB3).slice
         cases e5
         obtain⟨b2,o2,rfl,g3,g4⟩:=hR5.at_ hal
         have hL:=S.less O[a] l[j]
         rw [insAt_lt O l[j] a hal hale0] at hL
         have hgd:((a:Nat):Int)<(O.length:Int):=by omega
         refine start_ (n:=15) (S:=fun w'=>w'.cell? ⟨b2,o2+a * 2,none⟩=some (.int .u32 (un O[a].1))∧w'.cell? ⟨b2,o2+a * 2+1,none⟩=some (.int .u32 (un O[a].2))∧w'.cell? ⟨b0,off+j * 2,none⟩=some (.int .u32 (un l[j].1))∧w'.cell? ⟨b0,off+j * 2+1,none⟩=some (.int .u32 (un l[j].2))) (ds:=[]) #[false,false,false,false,false,false,false,false,false,false,false,false,false,false,false] (by kernel_rfl) rfl rfl ⟨g3,g4,g1,g2⟩ (fun hHeld=>?_)
         have HBd:Below w2.heap.size w2 wr.drew:=below_drew HB3
         clear HB3 g1 g2 g3 g4
         generalize wr.drew=Wd at *
         refine pu_ 0 33 ?_
         refine pu_ 1 34 ?_
         refine pu_ 2 35 ?_
         refine pu_ 3 36 ?_
         refine pu_ 4 37 ?_
         refine pu_ 5 38 ?_
         refine pu_ 6 39 ?_
         refine pu_ 7 40 ?_
         refine ta_ 8 41 ?_
         refine pu_ 9 42 ?_
         refine pu_ 10 43 ?_
         refine pu_ 11 44 ?_
         refine ta_ 12 45 ?_
         refine on_ 13 (some 46) fun K hK=>?_
         refine goes_ Tryz.func100 (by kernel_rfl) rfl #[.agg #[.int .u32 (un O[a].1),.int .u32 (un O[a].2)],.agg #[.int .u32 (un l[j].1),.int .u32 (un l[j].2)]] (by rfl) rfl rfl (by (try simp only [List.map_toArray,List.map_cons,List.map_nil]);first | done | rfl) ?_
         with_reducible refine(hL _).mono ?_
         rintro e W3 ⟨rfl,hb⟩
         refine⟨_,rfl, ?_⟩
         have HBe:=below_then HBd HBd.size hb
         have hH2:=hHeld
         refine hK.out _ _ ⟨pw_cell_below hb hHeld.1,pw_cell_below hb hHeld.2.1,pw_cell_below hb hHeld.2.2.1,pw_cell_below hb hHeld.2.2.2⟩ (fun hHeld=>?_)
         clear hK K hH2
         refine no_ 46 ?_
         refine pu_ 14 47 ?_
         refine done_ (by kernel_rfl) ?_
         go_wp2_with fail
         go_meet
         case rel=>exact⟨rfl,HBe⟩
        ·have hgd:decide (((a:Nat):Int)<(O.length:Int))=false:=decide_eq_false (by omega)
         have hgd2:¬((a:Nat):Int)<(O.length:Int):=by omega
         go_quiet (fail)
         go_wp2_with fail
         go_meet
         case rel=>exact⟨by rw [decide_eq_false (by omega)],pw_below_drewN HB3 _⟩
       case rest =>
        obtain⟨rfl,hb4⟩:=hcut
        clear HB3
        have HB4:=Lib.hid hb4
        clear hb4
        by_cases hai:a<insAt O l[j]
        ·have hbo:decide (a<insAt O l[j])=true:=decide_eq_true hai
         rw [hbo]
         go_wp2_with fail
         go_roundg (gk-1)
         case measure=>omega
         case rel=>exact⟨a+1,by simp,by omega,by omega,HB4⟩
        ·have hbo:decide (a<insAt O l[j])=false:=decide_eq_false hai
         rw [hbo]
         have ha:a=insAt O l[j]:=by omega
         have hale:a≤O.length:=by omega
         have HA:=Lib.hid ha
         clear hai ha hale0 hka hbo
         go_upto_region 14 with fail
         go_cut [64] from 20 to 79 (fun s64 wx=>s64=.bool (!decide (O[a]? = some l[j]))∧Below w2.heap.size w2 wx)
         case first =>
          obtain⟨b1,o1,hAj,g1,g2⟩:=((show Rd _ _ _ from HR2).below HB4).at_ hlt
          cases hAj
          by_cases hal:a<O.length
          ·obtain⟨A5,c5,e5,hR5⟩:=((show Own _ _ _ _ from HO2).below HB4).slice
           cases e5
           obtain⟨b2,o2,rfl,g3,g4⟩:=hR5.at_ hal
           have hq:=fun w=>eqCn O[a] l[j] w
           have hgd:decide (((a:Nat):Int)=(O.length:Int))=false:=decide_eq_false (by omega)
           have hgd2:¬((a:Nat):Int)=(O.length:Int):=by omega
           have hgd3:((a:Nat):Int)<(O.length:Int):=by omega
           have hgd5:(((a:Nat):Int)==(O.length:Int))=false:=by simpa using hgd2
           have hrel64:(!decide (O[a]? = some l[j])) = !decide (O[a]=l[j]):=by rw [List.getElem?_eq_getElem hal];simp
           have HR64:=Lib.hid hrel64
           clear hrel64
           go_quiet (fail)
           go_wp2_with fail
           go_meet
           case rel=>exact⟨by rw [show(!decide (O[a]? = some l[j]))=_ from HR64];first | done | rfl | (rw [hgd5,Bool.false_or]),pw_below_drewN HB4 _⟩
          ·have hgd:decide (((a:Nat):Int)=(O.length:Int))=true:=decide_eq_true (by omega)
           have hgd2:((a:Nat):Int)=(O.length:Int):=by omega
           have hn64:Hid ((!decide (O[a]? = some l[j]))=true):=Lib.hid (by rw [List.getElem?_eq_none (by omega)];simp)
           go_quiet (fail)
           go_wp2_with fail
           go_meet
           case rel=>exact⟨by rw [show(!decide (O[a]? = some l[j]))=true from hn64],pw_below_drewN HB4 _⟩
         case rest =>
          obtain⟨rfl,hb5⟩:=hcut
          clear HB4
          have HB5:=Lib.hid hb5
          clear hb5
          by_cases hne:O[a]? = some l[j]
          ·have hbo:(!decide (O[a]? = some l[j]))=false:=by rw [decide_eq_true hne];rfl
           rw [hbo]
           have hins:Hid (ins O l[j]=O):=Lib.hid (by unfold ins;rw [←(show a=_ from HA),if_pos hne])
           clear hbo hne
           go_wp2_with fail
           go_roundg (g0-1)
           case measure=>have:=(show _=_ from HK);omega
           case rel=>exact⟨j+1,by simp,by omega,by have:=(show _=_ from HK);omega,by rw [HN,hins];exact(show Own _ _ _ _ from HO2).below HB5,below_then HB2 (Below.size HB2) HB5⟩
          ·have hbo:(!decide (O[a]? = some l[j]))=true:=by rw [decide_eq_false hne];rfl
           rw [hbo]
           have HNE:=Lib.hid hne
           clear hbo hne
           go_upto_region 15 with fail
           have hlenO:O.length≤1000000:=by omega
           obtain⟨b1,o1,hAj,e1,e2⟩:=((show Rd _ _ _ from HR2).below HB5).at_ hlt
           cases hAj
           have ho5:=(show Own _ _ _ _ from HO2).below HB5
           have hb6:=below_then HB2 (Below.size HB2) HB5
           obtain⟨A5,c5,e5,hR5⟩:=ho5.slice
           cases e5
           have hRt:=take_at hR5 a
           obtain⟨A2,hcut2,hdrop⟩:=cutC AO O.length cO a hale
           have hR2:=hdrop _ O rfl hcO hR5
           have hgd3:((a:Nat):Int)≤(O.length:Int):=by omega
           have hgd4:((a:Nat):Int)≤(cO:Int):=by omega
           clear hdrop hR5
           refine start_ (n:=16) (S:=fun w'=>w'.cell? ⟨b0,off+j * 2,none⟩=some (.int .u32 (un l[j].1))∧w'.cell? ⟨b0,off+j * 2+1,none⟩=some (.int .u32 (un l[j].2))) (ds:=[]) #[false,false,false,false,false,false,false,false,false,false,false,false,false,false,false,false] (by kernel_rfl) rfl rfl ⟨e1,e2⟩ (fun hHeld=>?_)
           have hHeld0:=hHeld
           have hRtd:Rd wc.drew AO (O.take a):=hRt
           have hR2d:Rd wc.drew A2 (O.drop a):=hR2
           have hb6d:Below w.heap.size w wc.drew:=below_drew hb6
           clear hRt hR2 hb6 ho5
           generalize wc.drew=Wd at *
           refine pu_ 1 66 ?_
           refine pu_ 2 67 ?_
           refine pu_ 3 68 ?_
           refine pu_ 5 70 ?_
           refine pu_ 6 71 ?_
           refine pu_ 7 72 ?_
           refine ta_ 8 73 ?_
           refine pu_ 11 76 ?_
           refine pu_ 12 77 ?_
           refine pu_ 13 78 ?_
           refine join_ (σ:=Value×Value×Value) 3 #[true,true,true,true,true,true,true,true,true,true,false,true,true,true,false,false] (fun s=>[(65,s.1),(69,s.2.1),(74,s.2.2)]) (fun s w'=>Own w' Wd.heap.size s.2.1 (O.take a)∧Own w' Wd.heap.size s.2.2 [l[j]]∧Below Wd.heap.size Wd w') ?_ ?_
           ·rintro⟨v65,v69,v74⟩ w1 ⟨o69,o74,bw1⟩
            obtain⟨A74,c74,rfl,R74⟩:=o74.slice
            refine norm_ (a':=?_) ?_ ?_
            rotate_left
            ·simp only [putAll,Act.put,List.setIfInBounds_toArray,List.set_cons_zero,List.set_cons_succ]
             rfl
            refine on_ 10 (some 75) fun K hK=>?_
            rw [if_pos (by rfl)]
            refine wp_append_rd (.tmp 69) (.tmp 74) rfl rfl o69 rfl R74 (by simp;omega) bw1.size ?_
            intro v75 w2 o75 bw2 _
            have bw12:=bw1.trans bw2
            have hH2:=hHeld
            refine hK.out _ _ ⟨pw_cell_below bw12 hHeld0.1,pw_cell_below bw12 hHeld0.2⟩ (fun hHeld=>?_)
            clear hK K hH2
            refine norm_ (a':=?_) ?_ ?_
            rotate_left
            ·simp only [Act.put,List.setIfInBounds_toArray]
             rfl
            refine on_ 14 (some 79) fun K hK=>?_
            rw [if_pos (by rfl)]
            refine wp_append_rd (.tmp 75) (.tmp 78) rfl rfl o75 (l:=O.drop a) (A:=A2) (cap:=cO-a) (by rw [List.length_drop];rfl) (hR2d.below bw12) (by simp;omega) bw12.size ?_
            intro v79 w3 o79 bw3 _
            have bw13:=bw12.trans bw3
            have hH2:=hHeld
            refine hK.out _ _ ⟨pw_cell_below bw13 hHeld0.1,pw_cell_below bw13 hHeld0.2⟩ (fun hHeld=>?_)
            clear hK K hH2
            refine norm_ (a':=?_) ?_ ?_
            rotate_left
            ·simp only [Act.put]
             rfl
            refine pure_ (i:=15) (N:=some 5) (v:=?_) (a':=?_) #[true,true,true,true,true,true,true,true,true,true,true,true,true,true,true,true] rfl rfl (by kernel_rfl) (fun _ _ _ h=>h) (Or.inl ⟨by rfl, ?_⟩) ?_ ?_
            rotate_left
            ·intro w'
             go_simp
             with_reducible rfl
            rotate_left
            ·simp only [Act.put]
             rfl
            refine done_ (by kernel_rfl) ?_
            have hown3:Own w3 Wd.heap.size v79 (ins O l[j]):=by
             unfold ins
             rw [←(show a=_ from HA),if_neg (show ¬_ from HNE)]
             rw [List.append_assoc] at o79
             exact o79
            go_wp2_with fail
            go_roundg (g0-1)
            case measure=>have:=(show _=_ from HK);omega
            case rel=>exact⟨j+1,by simp,by omega,by have:=(show _=_ from HK);omega,by rw [HN];exact hown3.mono hb6d.size,below_then hb6d hb6d.size bw13⟩
           ·intro hJ
            refine two_ (i:=0) (j:=9) (Ni:=some 65) (Nj:=some 74) #[true,true,true,true,false,true,true,true,true,false,false,true,true,true,false,false] #[false,true,true,true,false,true,true,true,true,true,false,true,true,true,false,false] rfl rfl rfl rfl (by kernel_rfl) (by decide) (by decide) (fun K hK=>?_) (fun K hK=>?_)
            ·skip
             refine value_ (v:=.slice (some ⟨(Wd).heap.size,0,none⟩) 0 0) (w1:=(Wd).alloc (.cells #[] 113)) (by rfl) rfl (by go_simp;try rfl) ?_
             have ba:Below Wd.heap.size Wd (Wd.alloc (.cells #[] 113)):=(Below.refl _ _).alloc (Nat.le_refl _) _
             have oa:Own (Wd.alloc (.cells #[] 113)) Wd.heap.size (.slice (some ⟨Wd.heap.size,0,none⟩) 0 0) []:=Own.made (Nat.le_refl _)
             have hH2:=hHeld
             refine hK.out _ _ ⟨pw_cell_below ba hHeld0.1,pw_cell_below ba hHeld0.2⟩ (fun hHeld=>?_)
             clear hK K hH2
             refine norm_ (a':=?_) ?_ ?_
             rotate_left
             ·simp only [Act.put,List.setIfInBounds_toArray,List.set_cons_zero,List.set_cons_succ]
              rfl
             refine two_ (i:=4) (j:=9) (Ni:=some 69) (Nj:=some 74) #[true,true,true,true,true,true,true,true,true,false,false,true,true,true,false,false] #[true,true,true,true,false,true,true,true,true,true,false,true,true,true,false,false] rfl rfl rfl rfl (by kernel_rfl) (by decide) (by decide) (fun K hK=>?_) (fun K hK=>?_)
             ·rw [if_pos (by rfl)]
              refine wp_append_rd (.tmp 65) (.tmp 68) rfl (v:=.slice (some ⟨Wd.heap.size,0,none⟩) 0 0) rfl oa (l:=O.take a) (A:=AO) (cap:=cO) (by rw [List.length_take,Nat.min_eq_left hale];rfl) (hRtd.below ba) (by simp;omega) ba.size ?_
              intro v69 w1 o69 bw1 _
              have bb:=ba.trans bw1
              rw [List.nil_append] at o69
              have hH2:=hHeld
              refine hK.out _ _ ⟨pw_cell_below bb hHeld0.1,pw_cell_below bb hHeld0.2⟩ (fun hHeld=>?_)
              clear hK K hH2
              refine norm_ (a':=?_) ?_ ?_
              rotate_left
              ·simp only [Act.put,List.setIfInBounds_toArray]
               rfl
              refine on_ 9 (some 74) fun K hK=>?_
              refine value_ (v:=.slice (some ⟨(w1).heap.size,0,none⟩) 1 1) (w1:=(w1).alloc (.cells #[.int .u32 (un l[j].1),.int .u32 (un l[j].2)] 113)) (by rfl) rfl (by go_simp;try rfl) ?_
              have bd:=bb.alloc bb.size (.cells #[.int .u32 (un l[j].1),.int .u32 (un l[j].2)] 113)
              have hH2:=hHeld
              refine hK.out _ _ ⟨pw_cell_below bd hHeld0.1,pw_cell_below bd hHeld0.2⟩ (fun hHeld=>?_)
              clear hK K hH2
              refine norm_ (a':=?_) ?_ ?_
              rotate_left
              ·simp only [Act.put]
               rfl
              exact norm_ (by first | (simp only [putAll,Act.put,List.setIfInBounds_toArray,List.set_cons_zero,List.set_cons_succ];done) | (simp only [putAll,Act.put,List.setIfInBounds_toArray,List.set_cons_zero,List.set_cons_succ];rfl)) (hJ (_,_,_) _ ⟨⟨o69.1.alloc _,o69.2⟩,Own.lit bb.size l[j],bd⟩)
             ·skip
              refine value_ (v:=.slice (some ⟨(Wd.alloc (.cells #[] 113)).heap.size,0,none⟩) 1 1) (w1:=(Wd.alloc (.cells #[] 113)).alloc (.cells #[.int .u32 (un l[j].1),.int .u32 (un l[j].2)] 113)) (by rfl) rfl (by go_simp;try rfl) ?_
              have bb:=ba.alloc ba.size (.cells #[.int .u32 (un l[j].1),.int .u32 (un l[j].2)] 113)
              have ob:Own ((Wd.alloc (.cells #[] 113)).alloc (.cells #[.int .u32 (un l[j].1),.int .u32 (un l[j].2)] 113)) Wd.heap.size (.slice (some ⟨Wd.heap.size,0,none⟩) 0 0) []:=⟨oa.1.alloc _,oa.2⟩
              have oc:Own ((Wd.alloc (.cells #[] 113)).alloc (.cells #[.int .u32 (un l[j].1),.int .u32 (un l[j].2)] 113)) Wd.heap.size (.slice (some ⟨(Wd.alloc (.cells #[] 113)).heap.size,0,none⟩) 1 1) [l[j]]:=Own.lit ba.size l[j]
              have hH2:=hHeld
              refine hK.out _ _ ⟨pw_cell_below bb hHeld0.1,pw_cell_below bb hHeld0.2⟩ (fun hHeld=>?_)
              clear hK K hH2
              refine norm_ (a':=?_) ?_ ?_
              rotate_left
              ·simp only [Act.put,List.setIfInBounds_toArray,List.set_cons_zero,List.set_cons_succ]
               rfl
              refine on_ 4 (some 69) fun K hK=>?_
              rw [if_pos (by rfl)]
              refine wp_append_rd (.tmp 65) (.tmp 68) rfl (v:=.slice (some ⟨Wd.heap.size,0,none⟩) 0 0) rfl ob (l:=O.take a) (A:=AO) (cap:=cO) (by rw [List.length_take,Nat.min_eq_left hale];rfl) (hRtd.below bb) (by simp;omega) bb.size ?_
              intro v69 w1 o69 bw1 hg
              have bd:=bb.trans bw1
              rw [List.nil_append] at o69
              have oc2:=oc.kept hg (.inr (by simp [Value.ownBlock]))
              have hH2:=hHeld
              refine hK.out _ _ ⟨pw_cell_below bd hHeld0.1,pw_cell_below bd hHeld0.2⟩ (fun hHeld=>?_)
              clear hK K hH2
              refine norm_ (a':=?_) ?_ ?_
              rotate_left
              ·simp only [Act.put,List.setIfInBounds_toArray]
               rfl
              exact norm_ (by first | (simp only [putAll,Act.put,List.setIfInBounds_toArray,List.set_cons_zero,List.set_cons_succ];done) | (simp only [putAll,Act.put,List.setIfInBounds_toArray,List.set_cons_zero,List.set_cons_succ];rfl)) (hJ (_,_,_) _ ⟨o69,oc2,bd⟩)
            ·skip
             refine value_ (v:=.slice (some ⟨(Wd).heap.size,0,none⟩) 1 1) (w1:=(Wd).alloc (.cells #[.int .u32 (un l[j].1),.int .u32 (un l[j].2)] 113)) (by rfl) rfl (by go_simp;try rfl) ?_
             have ba:Below Wd.heap.size Wd (Wd.alloc (.cells #[.int .u32 (un l[j].1),.int .u32 (un l[j].2)] 113)):=(Below.refl _ _).alloc (Nat.le_refl _) _
             have oa:Own (Wd.alloc (.cells #[.int .u32 (un l[j].1),.int .u32 (un l[j].2)] 113)) Wd.heap.size (.slice (some ⟨Wd.heap.size,0,none⟩) 1 1) [l[j]]:=Own.lit (Nat.le_refl _) l[j]
             have hH2:=hHeld
             refine hK.out _ _ ⟨pw_cell_below ba hHeld0.1,pw_cell_below ba hHeld0.2⟩ (fun hHeld=>?_)
             clear hK K hH2
             refine norm_ (a':=?_) ?_ ?_
             rotate_left
             ·simp only [Act.put,List.setIfInBounds_toArray,List.set_cons_zero,List.set_cons_succ]
              rfl
             refine on_ 0 (some 65) fun K hK=>?_
             refine value_ (v:=.slice (some ⟨(Wd.alloc (.cells #[.int .u32 (un l[j].1),.int .u32 (un l[j].2)] 113)).heap.size,0,none⟩) 0 0) (w1:=(Wd.alloc (.cells #[.int .u32 (un l[j].1),.int .u32 (un l[j].2)] 113)).alloc (.cells #[] 113)) (by rfl) rfl (by go_simp;try rfl) ?_
             have bb:=ba.alloc ba.size (.cells #[] 113)
             have ob:Own ((Wd.alloc (.cells #[.int .u32 (un l[j].1),.int .u32 (un l[j].2)] 113)).alloc (.cells #[] 113)) Wd.heap.size (.slice (some ⟨(Wd.alloc (.cells #[.int .u32 (un l[j].1),.int .u32 (un l[j].2)] 113)).heap.size,0,none⟩) 0 0) []:=Own.made ba.size
             have oc:Own ((Wd.alloc (.cells #[.int .u32 (un l[j].1),.int .u32 (un l[j].2)] 113)).alloc (.cells #[] 113)) Wd.heap.size (.slice (some ⟨Wd.heap.size,0,none⟩) 1 1) [l[j]]:=⟨oa.1.alloc _,oa.2⟩
             have hH2:=hHeld
             refine hK.out _ _ ⟨pw_cell_below bb hHeld0.1,pw_cell_below bb hHeld0.2⟩ (fun hHeld=>?_)
             clear hK K hH2
             refine norm_ (a':=?_) ?_ ?_
             rotate_left
             ·simp only [Act.put,List.setIfInBounds_toArray,List.set_cons_zero,List.set_cons_succ]
              rfl
             refine on_ 4 (some 69) fun K hK=>?_
             rw [if_pos (by rfl)]
             refine wp_append_rd (.tmp 65) (.tmp 68) rfl (v:=.slice (some ⟨(Wd.alloc (.cells #[.int .u32 (un l[j].1),.int .u32 (un l[j].2)] 113)).heap.size,0,none⟩) 0 0) rfl ob (l:=O.take a) (A:=AO) (cap:=cO) (by rw [List.length_take,Nat.min_eq_left hale];rfl) (hRtd.below bb) (by simp;omega) bb.size ?_
             intro v69 w1 o69 bw1 hg
             have bd:=bb.trans bw1
             rw [List.nil_append] at o69
             have oc2:=oc.kept hg (.inr (by simp [Value.ownBlock]))
             have hH2:=hHeld
             refine hK.out _ _ ⟨pw_cell_below bd hHeld0.1,pw_cell_below bd hHeld0.2⟩ (fun hHeld=>?_)
             clear hK K hH2
             refine norm_ (a':=?_) ?_ ?_
             rotate_left
             ·simp only [Act.put,List.setIfInBounds_toArray]
              rfl
             exact norm_ (by first | (simp only [putAll,Act.put,List.setIfInBounds_toArray,List.set_cons_zero,List.set_cons_succ];done) | (simp only [putAll,Act.put,List.setIfInBounds_toArray,List.set_cons_zero,List.set_cons_succ];rfl)) (hJ (_,_,_) _ ⟨o69,oc2,bd⟩)
    ·have e:l.take j=l:=List.take_of_length_le (by omega)
     rw [e] at ho
     obtain⟨A9,c9,rfl,hR9⟩:=ho.slice
     have HO:=Lib.hid ho
     clear ho
     generalize insAll l l=K at *
     by_cases hbig:K.length≤64
     ·have HBG:=Lib.hid hbig
      go_wp2
      go_ret2
      rw [show leastR l=_ from hleast,if_pos (show K.length≤64 from HBG)]
      exact⟨_,rfl,HO,hb⟩
     ·have HBG:=Lib.hid hbig
      go_wp2
      go_ret2
      rw [show leastR l=_ from hleast,if_neg (show ¬K.length≤64 from HBG)]
      exact⟨_,rfl,Own.nil _ _,hb⟩
end Go.Proofs.YtahdjajdaggmjaaGreatDoor
end
section
namespace Go.Proofs.YtahdjajdaggmjaaGreatDoor
open Go.RowKit
def skip:Bool→List UInt8→Nat
 | _,[]=>0
 | true,c :: t=>if c=10 then 1+skip false t else 1+skip true t
 | false,c :: t=>if c=32∨c=9∨c=10∨c=13 then 1+skip false t else if c=45∧t.head? = some 45 then 1+skip true t else 0
theorem ne_lit{c:UInt8}(n:Nat)(h:¬c=UInt8.ofNat n):(((c.toNat:Nat):Int)==(n:Int))=false:=by
 rw [Bool.eq_false_iff]
 intro h2
 apply h
 have h3:c.toNat=n:=Int.ofNat_inj.1 (eq_of_beq h2)
 rw [←h3,UInt8.ofNat_toNat]
theorem skip_le:∀(b:Bool) (l:List UInt8),skip b l≤l.length
 | _,[]=>by simp [skip]
 | true,c :: t=>by
  have h1:=skip_le false t
  have h2:=skip_le true t
  unfold skip
  split<;>simp<;>omega
 | false,c :: t=>by
  have h1:=skip_le false t
  have h2:=skip_le true t
  unfold skip
  split
  ·simp;omega
  ·split<;>simp<;>omega
theorem drop_bt(s:ByteArray)(i:Nat)(h:i<s.size):s.data.toList.drop i=s[i] :: s.data.toList.drop (i+1):=by
 have h':i<s.data.toList.length:=by rw [←Lib.size_eq];exact h
 rw [List.drop_eq_getElem_cons h']
 rfl
theorem drop_end(s:ByteArray)(i:Nat)(h:s.size≤i):s.data.toList.drop i=[]:=by
 apply List.drop_eq_nil_of_le
 rw [←Lib.size_eq]
 exact h
theorem hpre_two(s:ByteArray)(i:Nat)(h:i<s.size)(hc:s[i]=45):hpre (s.extract i s.size) ⟨#[45,45]⟩=decide ((s.data.toList.drop (i+1)).head? = some 45):=by
 have e:(s.extract i s.size).data.toList=s.data.toList.drop i:=Lib.extract_to_end s i
 unfold hpre
 rw [e,drop_bt s i h,hc]
 cases s.data.toList.drop (i+1) with
 | nil=>simp [List.isPrefixOf]
 | cons x t =>
  show(45==(45:UInt8)&&(45==x&&true))=decide (some x=some 45)
  by_cases h:x=45
  ·subst h
   rfl
  ·rw [decide_eq_false (fun h2=>h (Option.some.inj h2))]
   show(true&&((45==x)&&true))=false
   rw [Bool.and_true,Bool.true_and]
   exact beq_eq_false_iff_ne.2 (fun h2=>h h2.symm)
set_option maxHeartbeats 4000000 in
theorem le_past1(HP:∀(a b:ByteArray) (w:World),Calls Tryz.prog 90 #[.string a,.string b] w fun e w'=>e=.returned (.bool (hpre a b))∧Below w.heap.size w w')
  (s:ByteArray) (n:Nat) (w:World) (hs:s.size≤1000000) (hn:n≤s.size) :
  Calls Tryz.prog 73 #[.string s,.int .i64 n] w fun e w'=>e=.returned (.int .i64 ((n+skip false (s.data.toList.drop n):Nat):Int))∧Below w.heap.size w w':=by
 have HP':=Lib.hid HP
 clear HP
 go_enter Tryz.func73,Tryz.ntmps73
 go_wp2
 go_step3
 go_wp2
 go_step3
 go_wp2
 go_loopg [1] (s.size+1) (fun kq v1 w'=>∃j:Nat,v1=.int .i64 (j:Int)∧j≤s.size∧s.size<kq+j∧Hid (n+skip false (s.data.toList.drop n)=j+skip false (s.data.toList.drop j))∧Below w.heap.size w w')
 case atStart=>exact⟨n,rfl,hn,by omega,Lib.hid rfl,Below.refl _ _⟩
 case round =>
  obtain⟨j,rfl,hj,hk,hR,hb⟩:=hrel
  have HB:=Lib.hid hb
  clear hb
  by_cases hlt:j<s.size
  ·have hd:=Lib.hid (drop_bt s j hlt)
   have hc:∃c:UInt8,s[j]=c:=⟨_,rfl⟩
   obtain⟨c,hc⟩:=hc
   have HC:=Lib.hid hc
   have hx:((s[j]'hlt).toNat:Int)=(c.toNat:Int):=by rw [hc]
   clear hc
   have hjw:IntKind.i64.wrap ((j:Int)+1)=((j+1:Nat):Int):=by rw [IntKind.wrap_i64];omega
   by_cases hbl:c=32∨c=9∨c=10∨c=13
   ·have hR':Hid (n+skip false (s.data.toList.drop n)=(j+1)+skip false (s.data.toList.drop (j+1))):=by
     refine Lib.hid ?_
     rw [hR.out,hd.out,HC.out]
     simp only [skip,if_pos hbl]
     omega
    clear hR
    rcases hbl with rfl | rfl | rfl | rfl
    all_goals
     go_wp2
     go_roundg (gk-1)
     case measure=>omega
     case rel=>exact⟨j+1,by simp,by omega,by omega,hR',HB.out⟩
   ·have e32:(((c.toNat:Nat):Int)==32)=false:=ne_lit 32 (fun h=>hbl (Or.inl h))
    have e9:(((c.toNat:Nat):Int)==9)=false:=ne_lit 9 (fun h=>hbl (Or.inr (Or.inl h)))
    have e10:(((c.toNat:Nat):Int)==10)=false:=ne_lit 10 (fun h=>hbl (Or.inr (Or.inr (Or.inl h))))
    have e13:(((c.toNat:Nat):Int)==13)=false:=ne_lit 13 (fun h=>hbl (Or.inr (Or.inr (Or.inr h))))
    by_cases h45:c=45
    ·subst h45
     have hP:=hpre_two s j hlt HC.out
     by_cases hn2:(s.data.toList.drop (j+1)).head? = some 45
     ·rw [decide_eq_true hn2] at hP
      have hR':Hid (n+skip false (s.data.toList.drop n)=j+skip true (s.data.toList.drop j)):=by
       refine Lib.hid ?_
       rw [hR.out,hd.out,HC.out]
       simp only [skip,hbl,if_false,hn2,and_self,if_true]
       rw [if_neg (by decide)]
      have HP2:=HP'.out (s.extract j s.size) ⟨#[45,45]⟩ wr
      rw [hP] at HP2
      have HPh:=Lib.hid hP
      have Hn2:=Lib.hid hn2
      clear hR hP hn2 e32 e9 e10 e13
      go_wp2_with (go_at_call 90;refine HP2.mono ?_;rintro e w2 ⟨rfl,hb2⟩;have HB2:=Lib.hid hb2;clear hb2)
      obtain⟨go,rfl⟩:∃go,go=gk:=⟨_,rfl⟩
      go_loopg [1] (s.size+1) (fun kq v1 w'=>∃i:Nat,v1=.int .i64 (i:Int)∧j≤i∧(i=j→s.data.toList.drop i=45 :: s.data.toList.drop (i+1))∧i≤s.size∧s.size<kq+i∧Hid (n+skip false (s.data.toList.drop n)=i+skip true (s.data.toList.drop i))∧Below w.heap.size w w')
      case atStart=>exact⟨j,rfl,Nat.le_refl _,fun _=>by rw [hd.out,HC.out],hj,by omega,hR',below_then HB.out HB.out.size HB2.out⟩
      case round =>
       obtain⟨i,rfl,hji,hfi,hi,hki,hRi,hbi⟩:=hrel
       have HBi:=Lib.hid hbi
       clear hbi
       by_cases hlti:i<s.size
       ·have hdi:=Lib.hid (drop_bt s i hlti)
        obtain⟨ci,hci⟩:∃c:UInt8,s[i]=c:=⟨_,rfl⟩
        have HCi:=Lib.hid hci
        have hxi:((s[i]'hlti).toNat:Int)=(ci.toNat:Int):=by rw [hci]
        have hiw:IntKind.i64.wrap ((i:Int)+1)=((i+1:Nat):Int):=by rw [IntKind.wrap_i64];omega
        by_cases h10:ci=10
        ·subst h10
         have hij:j<i:=by
          rcases Nat.lt_or_ge j i with h | h
          ·exact h
          ·have hf:=hfi (by omega)
           rw [hdi.out,hci] at hf
           exact absurd (List.cons.inj hf).1 (by decide)
         have hR2:Hid (n+skip false (s.data.toList.drop n)=i+skip false (s.data.toList.drop i)):=by
          refine Lib.hid ?_
          rw [hRi.out,hdi.out,hci]
          simp only [skip,if_true]
          rw [if_pos (by decide)]
         clear hRi hci hfi
         go_wp2
         go_roundg (go-1)
         case measure=>omega
         case rel=>exact⟨i,rfl,by omega,by omega,hR2,HBi.out⟩
        ·have e10:(((ci.toNat:Nat):Int)==10)=false:=ne_lit 10 h10
         have hR2:Hid (n+skip false (s.data.toList.drop n)=(i+1)+skip true (s.data.toList.drop (i+1))):=by
          refine Lib.hid ?_
          rw [hRi.out,hdi.out,hci]
          simp only [skip,h10,if_false]
          omega
         clear hRi hci hfi
         go_wp2
         go_roundg (gk-1)
         case measure=>omega
         case rel=>exact⟨i+1,by simp,by omega,by omega,by omega,by omega,hR2,HBi.out⟩
       ·have hR2:Hid (n+skip false (s.data.toList.drop n)=i+skip false (s.data.toList.drop i)):=by
         refine Lib.hid ?_
         rw [hRi.out,drop_end s i (by omega)]
         rfl
        have hij:j<i:=by omega
        clear hRi hfi
        go_wp2
        go_roundg (go-1)
        case measure=>omega
        case rel=>exact⟨i,rfl,by omega,by omega,hR2,HBi.out⟩
     ·rw [decide_eq_false hn2] at hP
      have hR':Hid (n+skip false (s.data.toList.drop n)=j):=by
       refine Lib.hid ?_
       rw [hR.out,hd.out,HC.out]
       simp only [skip,hbl,if_false,hn2,and_false]
       rfl
      have HP2:=HP'.out (s.extract j s.size) ⟨#[45,45]⟩ wr
      rw [hP] at HP2
      have HPh:=Lib.hid hP
      have Hn2:=Lib.hid hn2
      clear hR hP hn2 e32 e9 e10 e13
      go_wp2_with (go_at_call 90;refine HP2.mono ?_;rintro e w2 ⟨rfl,hb2⟩;have HB2:=Lib.hid hb2;clear hb2)
      rw [Exit.noGoto_ret]
      go_ret
      refine⟨?_,below_then HB.out HB.out.size HB2.out⟩
      rw [hR'.out]
      rfl
    ·have e45:(((c.toNat:Nat):Int)==45)=false:=ne_lit 45 h45
     have hR':Hid (n+skip false (s.data.toList.drop n)=j):=by
      refine Lib.hid ?_
      rw [hR.out,hd.out,HC.out]
      simp only [skip,hbl,if_false,h45,false_and]
      rfl
     clear hR
     go_wp2
     rw [Exit.noGoto_ret]
     go_ret
     refine⟨?_,HB.out⟩
     rw [hR'.out]
     rfl
  ·have hR':Hid (n+skip false (s.data.toList.drop n)=j):=by
    refine Lib.hid ?_
    rw [hR.out,drop_end s j (by omega)]
    simp only [skip]
    rfl
   clear hR
   go_wp2
   rw [Exit.noGoto_ret]
   go_ret
   refine⟨?_,HB.out⟩
   rw [hR'.out]
   rfl
end Go.Proofs.YtahdjajdaggmjaaGreatDoor
end
section
namespace Go.Proofs.YtahdjajdaggmjaaGreatDoor
open Go.RowKit Go.Proofs.YtahdjajdaggmjaaGreatDoorW.PrintWords
def letB(c:UInt8):Bool:=(97≤c.toNat&&c.toNat≤122)||(65≤c.toNat&&c.toNat≤90)||c.toNat==95
def digB(c:UInt8):Bool:=48≤c.toNat&&c.toNat≤57
def alnB(c:UInt8):Bool:=letB c||digB c
def nameLen:List UInt8→Nat
 | []=>0
 | c :: t=>if letB c then 1+(t.takeWhile alnB).length else 0
theorem takeWhile_le(p:UInt8→Bool)(l:List UInt8):(l.takeWhile p).length≤l.length:=by
 induction l with
 | nil=>simp
 | cons c t ih =>
  rw [List.takeWhile_cons]
  split
  ·simpa using ih
  ·simp
theorem nameLen_le(l:List UInt8):nameLen l≤l.length:=by
 cases l with
 | nil=>simp [nameLen]
 | cons c t =>
  have:=takeWhile_le alnB t
  rw [List.length_cons]
  show(if letB c=true then 1+(t.takeWhile alnB).length else 0)≤_
  split<;>omega
theorem bt_drop(s:ByteArray)(i:Nat)(h:i<s.size):∃c:UInt8,bt s (i:Int)=(c.toNat:Int)∧s.data.toList.drop i=c :: s.data.toList.drop (i+1):=by
 refine⟨s[i], ?_,drop_bt s i h⟩
 have:=bt_at s (i:Int) (by rw [Int.toNat_natCast];exact h)
 rw [←this]
 simp only [Int.toNat_natCast]
theorem hpre_eq(a b:ByteArray):((a.extract 0 b.size).toList==b.toList)=hpre a b:=by
 unfold hpre
 rw [Lib.toList_data,Lib.toList_data,Lib.extract_data,List.drop_zero,Nat.sub_zero,Lib.size_eq]
 rw [Bool.eq_iff_iff,List.isPrefixOf_iff_prefix,List.prefix_iff_eq_take,beq_iff_eq]
 exact eq_comm
theorem hpre_short(a b:ByteArray)(h:¬b.size≤a.size):hpre a b=false:=by
 unfold hpre
 rw [Bool.eq_false_iff]
 intro h2
 rw [List.isPrefixOf_iff_prefix] at h2
 have:=h2.length_le
 rw [←Lib.size_eq,←Lib.size_eq] at this
 exact h this
end Go.Proofs.YtahdjajdaggmjaaGreatDoor
end
section
namespace Go.Proofs.YtahdjajdaggmjaaGreatDoor
open Go.RowKit
def signFrom(s:ByteArray):Nat→Nat→Option Nat
 | 0,_=>none
 | k+1,j=>if hpre s (signV j) then some j else signFrom s k (j+1)
def oneT(n:Nat)(s:ByteArray):Int×ByteArray :=
 if 0<n then(1,s.extract 0 n) else match signFrom s 20 0 with
  | some j=>(2,signV j)
  | none=>(0,⟨#[]⟩)
theorem sign_index:∀(j:Nat),j<20→∀(w:World),(Instr.index 139 (.agg signArr) (.int .i64 (j:Int))).run Tryz.prog w=.ok (.string (signV j)) w
 | 0,_,_=>by kernel_rfl
 | 1,_,_=>by kernel_rfl
 | 2,_,_=>by kernel_rfl
 | 3,_,_=>by kernel_rfl
 | 4,_,_=>by kernel_rfl
 | 5,_,_=>by kernel_rfl
 | 6,_,_=>by kernel_rfl
 | 7,_,_=>by kernel_rfl
 | 8,_,_=>by kernel_rfl
 | 9,_,_=>by kernel_rfl
 | 10,_,_=>by kernel_rfl
 | 11,_,_=>by kernel_rfl
 | 12,_,_=>by kernel_rfl
 | 13,_,_=>by kernel_rfl
 | 14,_,_=>by kernel_rfl
 | 15,_,_=>by kernel_rfl
 | 16,_,_=>by kernel_rfl
 | 17,_,_=>by kernel_rfl
 | 18,_,_=>by kernel_rfl
 | 19,_,_=>by kernel_rfl
 | n+20,h,_=>absurd h (by omega)
set_option maxHeartbeats 4000000 in
theorem le_one(HP:∀(a b:ByteArray) (w:World),Calls Tryz.prog 90 #[.string a,.string b] w fun e w'=>e=.returned (.bool (hpre a b))∧Below w.heap.size w w')
  (s:ByteArray) (n:Nat) (w:World) (HT:Tab w) (hn:n≤s.size)
  (HN:∀(w:World),Calls Tryz.prog 91 #[.string s] w fun e w'=>e=.returned (.int .i64 (n:Int))∧Below w.heap.size w w') :
  Calls Tryz.prog 74 #[.string s] w fun e w'=>e=.returned (.agg #[.int .i64 (oneT n s).1,.string (oneT n s).2,.int .i64 0])∧Below w.heap.size w w':=by
 have HP':=Lib.hid HP
 have HN':=Lib.hid HN
 have HT':=Lib.hid HT
 clear HP HN HT
 by_cases h0:0<n
 ·have hO:oneT n s=(1,s.extract 0 n):=by unfold oneT;rw [if_pos h0]
  rw [hO]
  clear hO
  go_enter Tryz.func74,Tryz.ntmps74
  go_wp2_with (go_at_call 91;refine(HN'.out _).mono ?_;rintro e w2 ⟨rfl,hb2⟩;obtain⟨hc0,hf0⟩:=own_at (own_cell hb2) 0 _ rfl;obtain⟨hc1,hf1⟩:=own_at (own_cell hb2) 1 _ rfl;obtain⟨hc2,hf2⟩:=own_at (own_cell hb2) 2 _ rfl;have HB2:=Lib.hid hb2;clear hb2)
  exact bodyPost_ret (v:=.agg #[.int .i64 1,.string (s.extract 0 n),.int .i64 0]) (by simp [results,Tryz.results74,hc0,hc1,hc2,go_sem]) rfl ⟨rfl,((((below_then ((Below.refl _ _).alloc (Nat.le_refl _) _) (by simp) HB2.out).setCell (by simp) _).setCell (by simp) _).setCell (by simp) _)⟩
 ·go_enter Tryz.func74,Tryz.ntmps74
  go_wp2_with (first
   | (go_at_call 91;refine(HN'.out _).mono ?_;rintro e w2 ⟨rfl,hb2⟩;obtain⟨tS,frS,hS⟩:=(HT'.out.below (below_then ((Below.refl _ _).alloc (Nat.le_refl _) _) (by simp) hb2)).signs;have HO:=Lib.hid (own_cell hb2);have HB2:=Lib.hid hb2;clear hb2)
   | (refine wpList_load_row rfl _ _ rfl 0 rfl tS signArr frS _ hS Tryz.underlying139 rfl (by kernel_rfl) ?_))
  have HB3:=Lib.hid (below_then ((Below.refl _ _).alloc (Nat.le_refl _) _) (by simp) HB2.out:Below w.heap.size w w2)
  clear HB2
  go_loopg [15] 21 (fun kq v15 w'=>∃j:Nat,v15=.int .i64 (j:Int)∧j≤20∧kq+j=21∧Hid (oneT n s=match signFrom s (20-j) j with | some i=>(2,signV i) | none=>(0,⟨#[]⟩))∧Hid (w'.heap[w.heap.size]? = some (.cells #[.int .i64 0,.string ⟨#[]⟩,.int .i64 0] 110 (0,0)))∧Below w.heap.size w w')
  case atStart=>exact⟨0,rfl,by omega,rfl,Lib.hid (by unfold oneT;rw [if_neg h0]),HO,HB3.out⟩
  case round =>
   obtain⟨j,rfl,hj,hk,hR,hO,hb⟩:=hrel
   have HB:=Lib.hid hb
   have hBs:=hb.size
   clear hb
   by_cases hlt:j<20
   ·have hidx:=sign_index j hlt
    have hstep:20-j=(20-(j+1))+1:=by omega
    have hjw:IntKind.i64.wrap ((j:Int)+1)=((j+1:Nat):Int):=by rw [IntKind.wrap_i64];omega
    have HP2:=HP'.out s (signV j) wr
    have hOl:=(Array.getElem?_eq_some_iff.1 hO.out).1
    by_cases hp:hpre s (signV j)=true
    ·rw [hp] at HP2
     have hR':Hid (oneT n s=(2,signV j)):=by
      refine Lib.hid ?_
      rw [hR.out,hstep]
      simp only [signFrom,hp,if_true]
     have HPh:=Lib.hid hp
     clear hR hp
     go_wp2_with (go_at_call 90;refine HP2.mono ?_;rintro e w3 ⟨rfl,hb3⟩;have HO3:=(hb3.block _ (by omega)).trans hO.out;obtain⟨hc0,hf0⟩:=own_at HO3 0 _ rfl;obtain⟨hc1,hf1⟩:=own_at HO3 1 _ rfl;obtain⟨hc2,hf2⟩:=own_at HO3 2 _ rfl;have HB4:=Lib.hid (below_then HB.out hBs hb3);clear HO3 hb3)
     exact bodyPost_ret (v:=.agg #[.int .i64 2,.string (signV j),.int .i64 0]) (by simp [results,Tryz.results74,hc0,hc1,hc2,go_sem]) rfl ⟨by rw [hR'.out],(((HB4.out.setCell (by simp) _).setCell (by simp) _).setCell (by simp) _)⟩
    ·have hp':=Bool.eq_false_iff.2 hp
     rw [hp'] at HP2
     have hR':Hid (oneT n s=match signFrom s (20-(j+1)) (j+1) with | some i=>(2,signV i) | none=>(0,⟨#[]⟩)):=by
      refine Lib.hid ?_
      rw [hR.out,hstep]
      simp only [signFrom,hp',Bool.false_eq_true,if_false]
     clear hR hp hp'
     go_wp2_with (go_at_call 90;refine HP2.mono ?_;rintro e w3 ⟨rfl,hb3⟩;have HO3:=Lib.hid ((hb3.block _ (by omega)).trans hO.out);have HB4:=Lib.hid (below_then HB.out hBs hb3);clear hb3)
     go_roundg (gk-1)
     case measure=>omega
     case rel=>exact⟨j+1,by simp,by omega,by omega,hR',HO3,HB4.out⟩
   ·obtain rfl:j=20:=by omega
    have hR':Hid (oneT n s=(0,⟨#[]⟩)):=hR
    clear hR
    obtain⟨hc0,hf0⟩:=own_at hO.out 0 _ rfl
    obtain⟨hc1,hf1⟩:=own_at hO.out 1 _ rfl
    obtain⟨hc2,hf2⟩:=own_at hO.out 2 _ rfl
    go_wp2
    exact bodyPost_ret (v:=.agg #[.int .i64 0,.string ⟨#[]⟩,.int .i64 0]) (by simp [results,Tryz.results74,hc0,hc1,hc2,go_sem]) rfl ⟨by rw [hR'.out],(((HB.out.setCell (by simp) _).setCell (by simp) _).setCell (by simp) _)⟩
end Go.Proofs.YtahdjajdaggmjaaGreatDoor
end
section
namespace Go.Proofs.YtahdjajdaggmjaaGreatDoorW.PrintLast
section
variable {P:Program}{ops:Array Oper}{Q:Exit→Act→World→Prop}{md:Region.Mode}{S:World→Prop}{ds:List Nat}{T:Bool×List (List Nat×List Nat)}
end
end Go.Proofs.YtahdjajdaggmjaaGreatDoorW.PrintLast
end
section
namespace Go.Proofs.YtahdjajdaggmjaaGreatDoorW.PrintWords
open Go.RowKit
namespace Kd
section
variable {α:Type}{d:Kd α}{W:World}{g n:Nat}{S ok:Nat→Prop}{A:Option Addr}{ad:Addr}{xs:List α}
end
end Kd
end Go.Proofs.YtahdjajdaggmjaaGreatDoorW.PrintWords
end
section
namespace Go.Proofs.YtahdjajdaggmjaaGreatDoorW.PrintWords
open Go.RowKit
section
variable {w w' u:World}{m B g:Nat}{o:Obj}{row:Option Nat}{S:Nat→Prop}{a:Addr}{v:Value}
end
namespace Kd
section
variable {α:Type}{d:Kd α}{e base n m:Nat}{ok:Nat→Prop}{w w':World}{v:Value}{A:Option Addr}{xs:List α}
end
end Kd
section
variable {P:Program}{d:Nat}{xs ys:Array Value}{f:Field}{fs:List Field}{a b:Value}{r s:Bool}{w:World}
theorem eqf_last (hn:(f.name == "_")=false) (ha:(part f.type xs f.offset).run P w=.ok a w) (hb:(part f.type ys f.offset).run P w=.ok b w) (he:(Op.equalIn d f.type a b).run P w=.ok r w):(Op.eqFields d xs ys [f]).run P w=.ok r w:=by
 have hn':f.name≠"_" := by simpa using hn
 simp only [Op.eqFields,if_pos hn',Sem.run_bind,ha,hb,he,Result.andThen_ok]
 cases r<;>simp
theorem eqf_cons (hn:(f.name == "_")=false) (ha:(part f.type xs f.offset).run P w=.ok a w) (hb:(part f.type ys f.offset).run P w=.ok b w) (he:(Op.equalIn d f.type a b).run P w=.ok r w) (hr:(Op.eqFields d xs ys fs).run P w=.ok s w):(Op.eqFields d xs ys (f :: fs)).run P w=.ok (r&&s) w:=by
 have hn':f.name≠"_" := by simpa using hn
 rw [Op.eqFields]
 simp only [if_pos hn',Sem.run_bind,ha,hb,he,Result.andThen_ok]
 cases r
 ·simp
 ·simpa using hr
theorem eqA_of{t:TypeId}{fs:Array Field}(hu:P.underlying t=some (.struct fs))(hp:P.stoodInHeld t=false)(h:(Op.eqFields d xs ys fs.toList).run P w=.ok r w):(Op.equalIn (d+1) t (.agg xs) (.agg ys)).run P w=.ok r w:=by
 have hf:P.fieldsOf t=fs:=by simp [Program.fieldsOf,hu]
 rw [run_equalIn_struct (P:=P) w d t xs ys (by rw [hf];exact hu) hp,hf]
 exact h
end
end Go.Proofs.YtahdjajdaggmjaaGreatDoorW.PrintWords
end
section
namespace Go.Proofs.YtahdjajdaggmjaaGreatDoorW.PrintWords
theorem Reps.one{α:Type}{R:α→List Value→Prop}{ps:List α}{cs:List Value}{p:α}{v:Value}(hp:R p [v])(h:Reps R 1 ps cs):Reps R 1 (p :: ps) (v :: cs):=by
 refine⟨by simp [h.1],fun j q hq=>?_⟩
 cases j with
 | zero =>
  simp only [List.getElem?_cons_zero,Option.some.injEq] at hq
  subst hq
  simpa using hp
 | succ j =>
  simp only [List.getElem?_cons_succ] at hq
  have h1:=h.2 j q hq
  simpa [Nat.mul_one] using h1
theorem Reps.front{α:Type}{R:α→List Value→Prop}{size:Nat}{ps:List α}{cs c all:List Value}{p:α}(hp:R p c)(hc:c.length=size)(h:Reps R size ps cs)(ha:c++cs=all):Reps R size (p :: ps) all:=by
 subst ha
 refine⟨by rw [List.length_append,hc,h.1,List.length_cons,Nat.succ_mul,Nat.add_comm],fun j q hq=>?_⟩
 cases j with
 | zero =>
  simp only [List.getElem?_cons_zero,Option.some.injEq] at hq
  subst hq
  rw [Nat.zero_mul,List.drop_zero,List.take_append_of_le_length (by omega),List.take_of_length_le (by omega)]
  exact hp
 | succ j =>
  simp only [List.getElem?_cons_succ] at hq
  have h1:=h.2 j q hq
  rw [Nat.succ_mul,List.drop_append,List.drop_of_length_le (by rw [hc];exact Nat.le_add_left _ _),List.nil_append,hc,Nat.add_sub_cancel]
  exact h1
theorem Reps.c2{α:Type}{R:α→List Value→Prop}{ps:List α}{cs:List Value}{p:α}{va vb:Value}(hp:R p [va,vb])(h:Reps R 2 ps cs):Reps R 2 (p :: ps) (va :: vb :: cs):=Reps.front hp rfl h rfl
theorem Reps.c3{α:Type}{R:α→List Value→Prop}{ps:List α}{cs:List Value}{p:α}{va vb vc:Value}(hp:R p [va,vb,vc])(h:Reps R 3 ps cs):Reps R 3 (p :: ps) (va :: vb :: vc :: cs):=Reps.front hp rfl h rfl
theorem Reps.c4{α:Type}{R:α→List Value→Prop}{ps:List α}{cs:List Value}{p:α}{va vb vc vd:Value}(hp:R p [va,vb,vc,vd])(h:Reps R 4 ps cs):Reps R 4 (p :: ps) (va :: vb :: vc :: vd :: cs):=Reps.front hp rfl h rfl
theorem Reps.c5{α:Type}{R:α→List Value→Prop}{ps:List α}{cs:List Value}{p:α}{va vb vc vd ve:Value}(hp:R p [va,vb,vc,vd,ve])(h:Reps R 5 ps cs):Reps R 5 (p :: ps) (va :: vb :: vc :: vd :: ve :: cs):=Reps.front hp rfl h rfl
theorem Reps.c6{α:Type}{R:α→List Value→Prop}{ps:List α}{cs:List Value}{p:α}{va vb vc vd ve vf:Value}(hp:R p [va,vb,vc,vd,ve,vf])(h:Reps R 6 ps cs):Reps R 6 (p :: ps) (va :: vb :: vc :: vd :: ve :: vf :: cs):=Reps.front hp rfl h rfl
theorem Reps.c7{α:Type}{R:α→List Value→Prop}{ps:List α}{cs:List Value}{p:α}{va vb vc vd ve vf vg:Value}(hp:R p [va,vb,vc,vd,ve,vf,vg])(h:Reps R 7 ps cs):Reps R 7 (p :: ps) (va :: vb :: vc :: vd :: ve :: vf :: vg :: cs):=Reps.front hp rfl h rfl
theorem Reps.c8{α:Type}{R:α→List Value→Prop}{ps:List α}{cs:List Value}{p:α}{va vb vc vd ve vf vg vh:Value}(hp:R p [va,vb,vc,vd,ve,vf,vg,vh])(h:Reps R 8 ps cs):Reps R 8 (p :: ps) (va :: vb :: vc :: vd :: ve :: vf :: vg :: vh :: cs):=Reps.front hp rfl h rfl
theorem Reps.c9{α:Type}{R:α→List Value→Prop}{ps:List α}{cs:List Value}{p:α}{va vb vc vd ve vf vg vh vi:Value}(hp:R p [va,vb,vc,vd,ve,vf,vg,vh,vi])(h:Reps R 9 ps cs):Reps R 9 (p :: ps) (va :: vb :: vc :: vd :: ve :: vf :: vg :: vh :: vi :: cs):=Reps.front hp rfl h rfl
theorem Reps.c10{α:Type}{R:α→List Value→Prop}{ps:List α}{cs:List Value}{p:α}{va vb vc vd ve vf vg vh vi vj:Value}(hp:R p [va,vb,vc,vd,ve,vf,vg,vh,vi,vj])(h:Reps R 10 ps cs):Reps R 10 (p :: ps) (va :: vb :: vc :: vd :: ve :: vf :: vg :: vh :: vi :: vj :: cs):=Reps.front hp rfl h rfl
end Go.Proofs.YtahdjajdaggmjaaGreatDoorW.PrintWords
end
section
namespace Go.Proofs.YtahdjajdaggmjaaGreatDoorW.PrintLast
section
variable {P:Program}{ops:Array Oper}{Q:Exit→Act→World→Prop}{md:Region.Mode}{T:Bool×List (List Nat×List Nat)}{B:List Nat}{O:List Nat}{b:Nat→Bool}{i j n:Nat}
end
end Go.Proofs.YtahdjajdaggmjaaGreatDoorW.PrintLast
end
section
namespace Go.Proofs.YtahdjajdaggmjaaGreatDoorW.PrintWords
open Go.RowKit
end Go.Proofs.YtahdjajdaggmjaaGreatDoorW.PrintWords
namespace Go.Proofs.YtahdjajdaggmjaaGreatDoorW.PrintLast
section
variable {ops:Array Oper}{a:Act}{o og:Oper}{g:Nat}{t:Tmp}{u:Bool}
end
end Go.Proofs.YtahdjajdaggmjaaGreatDoorW.PrintLast
end
section
namespace Go.Proofs.YtahdjajdaggmjaaGreatDoorW.PrintWords
open Go.RowKit
section
variable {P:Program}{ops:Array Oper}{rest:List Oper}{o:Oper}{a:Act}{Q:Exit→Act→World→Prop}{W:World}
theorem gate_guard(hw:Region.wanted o (yielded ops a.tmps)=true)(h:wpList P ops Q ({ o with guard:=none } :: rest) a W):wpList P ops Q (o :: rest) a W:=by
 have h1:Region.wanted { o with guard:=none } (yielded ops a.tmps)=true:=rfl
 unfold wpList at h ⊢
 rw [if_pos h1] at h
 rw [if_pos hw]
 exact h
end
end Go.Proofs.YtahdjajdaggmjaaGreatDoorW.PrintWords
end
