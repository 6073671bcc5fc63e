/-
PLAIN LAW: clauses as pairs of 32-bit words;what Least tells,by its members and its order;formulas by what they say of a clause. No program in sight.
-/
import Derived.WalkKit
import Derived.BigQuiet
import Derived.Deep.QuietTactic
import Derived.Laws.StructEq
import Derived.Laws.BitsAllLaws
import Derived.Laws.OwnMore
import Derived.Maps.AppendAt
import Derived.Deep.AppendLies
import Derived.Outline
import Derived.Test.YtahdjajdaggmjaaGreatDoorProg
import Derived.Lib.TrailingZeros
import Derived.Lib.BitFns
import Derived.Lib.Tables
import Derived.Laws.AppendOwn
import Derived.Tactics
import Derived.Below
import Derived.OrdersHeld
import Derived.Deep.RegionHeld3
import Derived.Laws.BitsLemmas
import Derived.RowKit
section
namespace Go.Proofs.YtahdjajdaggmjaaGreatDoor.H
abbrev C:=UInt32×UInt32
def r1(s:UInt32):Bool:=decide (s.toNat<16777216)
def ok(c:C):Bool:=r1 c.1&&r1 c.2
def meet(a b:C):C:=(a.1 ||| b.1,a.2 ||| b.2)
def below(a b:C):Bool:=decide (meet a b=a)
def clash(c:C):Bool:=decide (c.1 &&& c.2≠0)
def ltC(a b:C):Bool:=decide (a.1.toNat<b.1.toNat∨a.1=b.1∧a.2.toNat<b.2.toNat)
theorem ltC_irrefl(a:C):ltC a a=false:=by simp [ltC]
theorem ltC_trans{a b c:C}(h1:ltC a b=true)(h2:ltC b c=true):ltC a c=true:=by
 simp only [ltC,decide_eq_true_eq] at *
 rcases h1 with h1 | ⟨h1,h1'⟩<;>rcases h2 with h2 | ⟨h2,h2'⟩
 ·left;omega
 ·left;rw [←h2];exact h1
 ·left;rw [h1];exact h2
 ·right;exact⟨h1.trans h2,by omega⟩
theorem ltC_total{a b:C}(h:a≠b):ltC a b=true∨ltC b a=true:=by
 simp only [ltC,decide_eq_true_eq]
 by_cases h1:a.1=b.1
 ·by_cases h2:a.2=b.2
  ·exact absurd (Prod.ext h1 h2) h
  ·have:a.2.toNat≠b.2.toNat:=fun e=>h2 (UInt32.toNat_inj.1 e)
   rcases Nat.lt_or_gt_of_ne this with h3 | h3
   ·left;right;exact⟨h1,h3⟩
   ·right;right;exact⟨h1.symm,h3⟩
 ·have:a.1.toNat≠b.1.toNat:=fun e=>h1 (UInt32.toNat_inj.1 e)
  rcases Nat.lt_or_gt_of_ne this with h3 | h3
  ·left;left;exact h3
  ·right;left;exact h3
theorem ltC_asymm{a b:C}(h:ltC a b=true):ltC b a=false:=by
 cases hb:ltC b a
 ·rfl
 ·have:=ltC_trans h hb
  rw [ltC_irrefl] at this
  cases this
def Sorted(l:List C):Prop:=l.Pairwise fun a b=>ltC a b=true
theorem sorted_unique:∀ {l m:List C},Sorted l→Sorted m→(∀c,c∈l↔c∈m)→l=m
 | [],[],_,_,_=>rfl
 | [],b :: m,_,_,h=>absurd ((h b).2 (by simp)) (by simp)
 | a :: l,[],_,_,h=>absurd ((h a).1 (by simp)) (by simp)
 | a :: l,b :: m,hl,hm,h=>by
  obtain⟨ha,hl'⟩:=List.pairwise_cons.1 hl
  obtain⟨hb,hm'⟩:=List.pairwise_cons.1 hm
  have hab:a=b:=by
   by_cases e:a=b
   ·exact e
   ·have h1:a∈m:=by
     have:=(h a).1 (by simp)
     rcases List.mem_cons.1 this with h' | h'
     ·exact absurd h' e
     ·exact h'
    have h2:b∈l:=by
     have:=(h b).2 (by simp)
     rcases List.mem_cons.1 this with h' | h'
     ·exact absurd h'.symm e
     ·exact h'
    have h3:=hb a h1
    have h4:=ha b h2
    rw [ltC_asymm h3] at h4
    cases h4
  subst hab
  have hla:a∉l:=fun hx=>by have:=ha a hx;rw [ltC_irrefl] at this;cases this
  have hma:a∉m:=fun hx=>by have:=hb a hx;rw [ltC_irrefl] at this;cases this
  congr 1
  refine sorted_unique hl' hm' fun c=>⟨fun hc=>?_,fun hc=>?_⟩
  ·rcases List.mem_cons.1 ((h c).1 (List.mem_cons_of_mem _ hc)) with e | e
   ·subst e;exact absurd hc hla
   ·exact e
  ·rcases List.mem_cons.1 ((h c).2 (List.mem_cons_of_mem _ hc)) with e | e
   ·subst e;exact absurd hc hma
   ·exact e
def dd(l:List C):List C:=l.foldl (fun out c=>if c∈out then out else out++[c]) []
theorem dd_snoc(l:List C)(c:C):dd (l++[c])=if c∈dd l then dd l else dd l++[c]:=by unfold dd;rw [List.foldl_append];rfl
theorem dd_nil:dd []=[]:=rfl
theorem dd_take_succ(l:List C)(k:Nat)(h:k<l.length):dd (l.take (k+1))=if l[k]∈dd (l.take k) then dd (l.take k) else dd (l.take k)++[l[k]]:=by
 rw [List.take_succ_eq_append_getElem h,dd_snoc]
theorem dd_facts(l:List C):(∀c,c∈dd l↔c∈l)∧(dd l).Nodup∧(dd l).length≤l.length:=by
 have key:∀n,∀l:List C,l.length=n→(∀c,c∈dd l↔c∈l)∧(dd l).Nodup∧(dd l).length≤l.length:=by
  intro n
  induction n with
  | zero=>intro l hl;obtain rfl:=List.eq_nil_of_length_eq_zero hl;simp [dd_nil]
  | succ n ih =>
   intro l hl
   have hne:l≠[]:=by intro e;subst e;simp at hl
   obtain⟨p,c,rfl⟩:∃p c,l=p++[c]:=⟨l.dropLast,l.getLast hne,(List.dropLast_concat_getLast hne).symm⟩
   obtain⟨h1,h2,h3⟩:=ih p (by simp at hl;exact hl)
   rw [dd_snoc]
   split
   ·rename_i hc
    refine⟨fun d=>?_,h2,by simp;omega⟩
    rw [h1]
    simp only [List.mem_append,List.mem_singleton]
    constructor
    ·exact Or.inl
    ·rintro(h | rfl)
     ·exact h
     ·exact(h1 _).1 hc
   ·rename_i hc
    refine⟨fun d=>by simp [h1], ?_,by simp;omega⟩
    rw [List.nodup_append]
    refine⟨h2,by simp, ?_⟩
    intro a ha b hb
    simp at hb
    subst hb
    exact fun e=>hc (e▸ha)
 exact key l.length l rfl
theorem mem_dd{l:List C}{c:C}:c∈dd l↔c∈l:=(dd_facts l).1 c
theorem nodup_dd(l:List C):(dd l).Nodup:=(dd_facts l).2.1
theorem length_dd(l:List C):(dd l).length≤l.length:=(dd_facts l).2.2
def needless(out:List C)(c:C):Bool:=out.any fun d=>decide (c≠d)&&below c d
def keep(l:List C):List C:=(dd l).filter fun c => !needless (dd l) c
def sortC(l:List C):List C:=l.mergeSort fun x y => !ltC y x
def least(l:List C):List C×Int :=
 if l.all ok then(if (keep l).length≤64 then(sortC (keep l),0) else([],3)) else([],2)
theorem mem_keep{l:List C}{c:C}:c∈keep l↔c∈l∧∀d∈l,below c d=true→d=c:=by
 unfold keep needless
 rw [List.mem_filter,mem_dd]
 constructor
 ·rintro⟨h,hn⟩
  refine⟨h,fun d hd hb=>?_⟩
  simp only [Bool.not_eq_true',List.any_eq_false,mem_dd] at hn
  have:=hn d hd
  simp only [hb,Bool.and_true,decide_eq_true_eq] at this
  exact Classical.byContradiction fun e=>this fun e'=>e e'.symm
 ·rintro⟨h,hn⟩
  refine⟨h, ?_⟩
  simp only [Bool.not_eq_true',List.any_eq_false,mem_dd,Bool.and_eq_true,decide_eq_true_eq]
  rintro d hd ⟨hne,hb⟩
  exact hne (hn d hd hb).symm
theorem nodup_keep(l:List C):(keep l).Nodup:=(nodup_dd l).filter _
theorem mem_sortC{l:List C}{c:C}:c∈sortC l↔c∈l:=(List.mergeSort_perm l _).mem_iff
theorem length_sortC(l:List C):(sortC l).length=l.length:=(List.mergeSort_perm l _).length_eq
theorem sorted_sortC{l:List C}(h:l.Nodup):Sorted (sortC l):=by
 have hs:(sortC l).Pairwise fun x y=>(!ltC y x)=true:=by
  refine List.pairwise_mergeSort ?_ ?_ l
  ·intro a b c h1 h2
   simp only [Bool.not_eq_true'] at *
   cases hc:ltC c a
   ·rfl
   ·exfalso
    by_cases e:b=a
    ·subst e;rw [h2] at hc;cases hc
    ·rcases ltC_total e with h3 | h3
     ·rw [h1] at h3;cases h3
     ·have:=ltC_trans hc h3;rw [h2] at this;cases this
  ·intro a b
   simp only [Bool.or_eq_true,Bool.not_eq_true']
   cases h1:ltC b a
   ·exact Or.inl rfl
   ·exact Or.inr (ltC_asymm h1)
 have hn:(sortC l).Nodup:=((List.mergeSort_perm l _).nodup_iff).2 h
 refine(hs.and hn).imp ?_
 rintro a b ⟨h1,h2⟩
 simp only [Bool.not_eq_true'] at h1
 rcases ltC_total h2 with h3 | h3
 ·exact h3
 ·rw [h1] at h3;cases h3
def IsLeast(l o:List C):Prop:=Sorted o∧∀c,c∈o↔c∈l∧∀d∈l,below c d=true→d=c
theorem IsLeast.unique{l o o':List C}(h:IsLeast l o)(h':IsLeast l o'):o=o':=sorted_unique h.1 h'.1 fun c=>(h.2 c).trans (h'.2 c).symm
theorem isLeast_keep(l:List C):IsLeast l (sortC (keep l)):=⟨sorted_sortC (nodup_keep l),fun c=>by rw [mem_sortC,mem_keep]⟩
theorem least_cases(l:List C):(l.all ok=false∧least l=([],2))∨(l.all ok=true∧64<(keep l).length∧least l=([],3))∨(l.all ok=true∧(keep l).length≤64∧least l=(sortC (keep l),0)):=by
 unfold least
 cases h:l.all ok
 ·left;simp
 ·right
  by_cases h2:(keep l).length≤64
  ·right;simp [h2]
  ·left;simp [h2];omega
def right(f:List C):Bool:=decide ((least f).2=0)&&decide ((least f).1=f)
theorem right_iff{f:List C}:right f=true↔f.all ok=true∧f.length≤64∧IsLeast f f:=by
 unfold right
 rcases least_cases f with⟨h,e⟩ | ⟨h,h2,e⟩ | ⟨h,h2,e⟩
 ·rw [e];simp [h]
 ·rw [e]
  simp only [Bool.and_eq_true,decide_eq_true_eq]
  constructor
  ·rintro⟨h3,_⟩;cases h3
  ·rintro⟨_,h3,h4⟩
   have:=(isLeast_keep f).unique h4
   have h5:(keep f).length=f.length:=by rw [←length_sortC,this]
   omega
 ·rw [e]
  simp only [Bool.and_eq_true,decide_eq_true_eq]
  constructor
  ·rintro⟨_,h3⟩
   refine⟨h, ?_, ?_⟩
   ·rw [←h3,length_sortC];exact h2
   ·have:=isLeast_keep f;rw [h3] at this;exact this
  ·rintro⟨_,_,h4⟩
   exact⟨trivial,(isLeast_keep f).unique h4⟩
theorem below_iff{a b:C}:below a b=true↔a.1 ||| b.1=a.1∧a.2 ||| b.2=a.2:=by
 simp [below,meet,Prod.ext_iff]
def tb(s:UInt32)(i:Nat):Bool:=s.toNat.testBit i
theorem tb_or(a b:UInt32)(i:Nat):tb (a ||| b) i=(tb a i||tb b i):=by simp [tb,UInt32.toNat_or,Nat.testBit_or]
theorem tb_and(a b:UInt32)(i:Nat):tb (a &&& b) i=(tb a i&&tb b i):=by simp [tb,UInt32.toNat_and,Nat.testBit_and]
theorem tb_ext{a b:UInt32}(h:∀i,tb a i=tb b i):a=b:=UInt32.toNat_inj.1 (Nat.eq_of_testBit_eq h)
theorem tb_zero(i:Nat):tb 0 i=false:=by simp [tb]
def E(f:List C)(c:C):Bool:=f.any (below c)
def insAt:List C→C→Nat
 | [],_=>0
 | x :: r,c=>if ltC x c=true then insAt r c+1 else 0
def ins(out:List C)(c:C):List C:=if out[insAt out c]? = some c then out else out.take (insAt out c)++c :: out.drop (insAt out c)
def needed(l:List C)(c:C):Bool := !(l.any fun d=>decide (d≠c)&&below c d)
def insAll(l:List C)(p:List C):List C:=p.foldl (fun out c=>if needed l c=true then ins out c else out) []
def leastR(l:List C):List C×Int:=if l.all ok then(if (insAll l l).length≤64 then(insAll l l,0) else([],3)) else([],2)
theorem ins_cons(x:C)(r:List C)(c:C):ins (x :: r) c=if ltC x c=true then x :: ins r c else if x=c then x :: r else c :: x :: r:=by
 have e:insAt (x :: r) c=if ltC x c=true then insAt r c+1 else 0:=rfl
 unfold ins
 rw [e]
 split
 ·rw [List.getElem?_cons_succ,List.take_succ_cons,List.drop_succ_cons]
  by_cases h:r[insAt r c]? = some c
  ·rw [if_pos h,if_pos h]
  ·rw [if_neg h,if_neg h];rfl
 ·simp only [List.getElem?_cons_zero,Option.some.injEq,List.take_zero,List.drop_zero,List.nil_append]
theorem ins_nil(c:C):ins [] c=[c]:=by simp [ins,insAt]
theorem mem_ins:∀ {out:List C} {c d:C},d∈ins out c↔d=c∨d∈out
 | [],c,d=>by simp [ins_nil]
 | x :: r,c,d=>by
  rw [ins_cons]
  split
  ·rw [List.mem_cons,mem_ins,List.mem_cons]
   constructor
   ·rintro(h | h | h)<;>simp [h]
   ·rintro(h | h | h)<;>simp [h]
  ·split
   ·rename_i e
    subst e
    simp [List.mem_cons]
   ·simp [List.mem_cons]
theorem sorted_ins:∀ {out:List C} {c:C},Sorted out→Sorted (ins out c)
 | [],c,_=>by rw [ins_nil];exact List.pairwise_singleton _ _
 | x :: r,c,h=>by
  obtain⟨hx,hr⟩:=List.pairwise_cons.1 h
  rw [ins_cons]
  split
  ·rename_i hlt
   refine List.pairwise_cons.2 ⟨fun d hd=>?_,sorted_ins hr⟩
   rcases mem_ins.1 hd with rfl | hd
   ·exact hlt
   ·exact hx d hd
  ·rename_i hlt
   split
   ·exact h
   ·rename_i hne
    have hcx:ltC c x=true:=by
     rcases ltC_total hne with h1 | h1
     ·exact absurd h1 hlt
     ·exact h1
    refine List.pairwise_cons.2 ⟨fun d hd=>?_,h⟩
    rcases List.mem_cons.1 hd with rfl | hd
    ·exact hcx
    ·exact ltC_trans hcx (hx d hd)
theorem insAll_snoc(l p:List C)(c:C):insAll l (p++[c])=if needed l c=true then ins (insAll l p) c else insAll l p:=by unfold insAll;rw [List.foldl_append];rfl
theorem insAll_nil(l:List C):insAll l []=[]:=rfl
theorem insAll_take_succ(l:List C)(k:Nat)(h:k<l.length):insAll l (l.take (k+1))=if needed l l[k]=true then ins (insAll l (l.take k)) l[k] else insAll l (l.take k):=by
 rw [List.take_succ_eq_append_getElem h,insAll_snoc]
theorem insAll_facts(l p:List C):Sorted (insAll l p)∧(∀c,c∈insAll l p↔c∈p∧needed l c=true):=by
 have key:∀n,∀p:List C,p.length=n→Sorted (insAll l p)∧(∀c,c∈insAll l p↔c∈p∧needed l c=true):=by
  intro n
  induction n with
  | zero=>intro p hl;obtain rfl:=List.eq_nil_of_length_eq_zero hl;exact⟨List.Pairwise.nil,by simp [insAll_nil]⟩
  | succ n ih =>
   intro p hl
   have hne:p≠[]:=by intro e;subst e;simp at hl
   obtain⟨q,c,rfl⟩:∃q c,p=q++[c]:=⟨p.dropLast,p.getLast hne,(List.dropLast_concat_getLast hne).symm⟩
   obtain⟨h1,h2⟩:=ih q (by simp at hl;exact hl)
   rw [insAll_snoc]
   split
   ·rename_i hc
    refine⟨sorted_ins h1,fun d=>?_⟩
    rw [mem_ins,h2]
    simp only [List.mem_append,List.mem_singleton]
    constructor
    ·rintro(rfl | ⟨h3,h4⟩)
     ·exact⟨.inr rfl,hc⟩
     ·exact⟨.inl h3,h4⟩
    ·rintro⟨h3 | rfl,h4⟩
     ·exact .inr ⟨h3,h4⟩
     ·exact .inl rfl
   ·rename_i hc
    refine⟨h1,fun d=>?_⟩
    rw [h2]
    simp only [List.mem_append,List.mem_singleton]
    constructor
    ·rintro⟨h3,h4⟩;exact⟨.inl h3,h4⟩
    ·rintro⟨h3 | rfl,h4⟩
     ·exact⟨h3,h4⟩
     ·exact absurd h4 hc
 exact key p.length p rfl
theorem length_ins(out:List C)(c:C):(ins out c).length≤out.length+1:=by
 unfold ins
 split
 ·omega
 ·simp;omega
theorem length_insAll(l p:List C):(insAll l p).length≤p.length:=by
 have key:∀n,∀p:List C,p.length=n→(insAll l p).length≤n:=by
  intro n
  induction n with
  | zero=>intro p hl;obtain rfl:=List.eq_nil_of_length_eq_zero hl;simp [insAll_nil]
  | succ n ih =>
   intro p hl
   have hne:p≠[]:=by intro e;subst e;simp at hl
   obtain⟨q,c,rfl⟩:∃q c,p=q++[c]:=⟨p.dropLast,p.getLast hne,(List.dropLast_concat_getLast hne).symm⟩
   have:=ih q (by simp at hl;exact hl)
   rw [insAll_snoc]
   split
   ·have:=length_ins (insAll l q) c;omega
   ·omega
 exact key p.length p rfl
theorem needed_iff{l:List C}{c:C}:needed l c=true↔∀d∈l,below c d=true→d=c:=by
 unfold needed
 simp only [Bool.not_eq_true',List.any_eq_false,Bool.and_eq_true,decide_eq_true_eq]
 constructor
 ·intro h d hd hb
  exact Classical.byContradiction fun e=>h d hd ⟨e,hb⟩
 ·rintro h d hd ⟨hne,hb⟩
  exact hne (h d hd hb)
theorem isLeast_insAll(l:List C):IsLeast l (insAll l l):=⟨(insAll_facts l l).1,fun c=>by rw [(insAll_facts l l).2,needed_iff]⟩
theorem leastR_eq(l:List C):leastR l=least l:=by
 have h:=(isLeast_insAll l).unique (isLeast_keep l)
 unfold leastR least
 rw [h,length_sortC]
theorem tb_lt{s:UInt32}{i:Nat}(h:tb s i=true):i<32:=by
 unfold tb at h
 rcases Nat.lt_or_ge i 32 with h1 | h1
 ·exact h1
 ·rw [Nat.testBit_lt_two_pow] at h
  ·cases h
  ·have:=s.toNat_lt
   exact Nat.lt_of_lt_of_le this (Nat.pow_le_pow_right (by omega) h1)
theorem r1_iff{s:UInt32}:r1 s=true↔∀i,tb s i=true→i<24:=by
 unfold r1 tb
 rw [decide_eq_true_eq]
 constructor
 ·intro h i hi
  rcases Nat.lt_or_ge i 24 with h1 | h1
  ·exact h1
  ·rw [Nat.testBit_lt_two_pow] at hi
   ·cases hi
   ·exact Nat.lt_of_lt_of_le (show s.toNat<2 ^ 24 from h) (Nat.pow_le_pow_right (by omega) h1)
 ·intro h
  show s.toNat<2 ^ 24
  refine Nat.lt_pow_two_of_testBit _ fun i hi=>?_
  cases hb:s.toNat.testBit i
  ·rfl
  ·have:=h i hb;omega
def M24:UInt32:=16777215
theorem tb_M24(i:Nat):tb M24 i=decide (i<24):=by
 show(2 ^ 24-1).testBit i=_
 rw [Nat.testBit_two_pow_sub_one]
theorem tb_not(a:UInt32)(i:Nat):tb (~~~a) i=(decide (i<32) && !tb a i):=by
 unfold tb
 rw [UInt32.toNat_not,show UInt32.size-1-a.toNat=2 ^ 32-(a.toNat+1) by simp [UInt32.size],Nat.testBit_two_pow_sub_succ a.toNat_lt]
end Go.Proofs.YtahdjajdaggmjaaGreatDoor.H
end
section
namespace Go.Proofs.YtahdjajdaggmjaaGreatDoor
open Go.RowKit H
def un(x:UInt32):Int:=(x.toNat:Int)
theorem un_range(x:UInt32):0≤un x∧un x<4294967296:=by
 have:=x.toNat_lt
 unfold un
 omega
theorem un_inj{a b:UInt32}:un a=un b↔a=b:=by
 unfold un
 rw [Int.ofNat_inj,UInt32.toNat_inj]
theorem un_beq(a b:UInt32):(un a==un b)=decide (a=b):=by
 rw [Bool.eq_iff_iff]
 simp [un_inj]
theorem un_and(a b:UInt32):bits .and .u32 (un a) (un b)=un (a &&& b):=by
 unfold un
 rw [u32_and_nat _ _ a.toNat_lt b.toNat_lt,UInt32.toNat_and]
theorem un_or(a b:UInt32):bits .or .u32 (un a) (un b)=un (a ||| b):=by
 unfold un
 rw [u32_or_nat _ _ a.toNat_lt b.toNat_lt,UInt32.toNat_or]
theorem un_andNot(a b:UInt32):bits .andNot .u32 (un a) (un b)=un (a &&& ~~~b):=by
 unfold un
 rw [u32_andNot_nat _ _ a.toNat_lt b.toNat_lt,UInt32.toNat_and,UInt32.toNat_not]
 rfl
theorem un_all:(16777215:Int)=un 16777215:=by decide
theorem un_zero:(0:Int)=un 0:=by decide
theorem below_then{B:Nat}{w w1 w2:World}(h:Below B w w1)(hB:B≤w1.heap.size)(k:Below w1.heap.size w1 w2):Below B w w2:=h.trans (k.mono hB)
end Go.Proofs.YtahdjajdaggmjaaGreatDoor
namespace Go.Proofs.YtahdjajdaggmjaaGreatDoor
open Go.RowKit H
def cc(c:C):List Value:=[.int .u32 (un c.1),.int .u32 (un c.2)]
def flat(l:List C):List Value:=l.flatMap cc
theorem flat_append(l m:List C):flat (l++m)=flat l++flat m:=by simp [flat]
theorem flat_snoc(l:List C)(c:C):flat (l++[c])=flat l++[.int .u32 (un c.1),.int .u32 (un c.2)]:=by simp [flat,cc]
theorem flat_length(l:List C):(flat l).length=l.length * 2:=by
 induction l with
 | nil=>rfl
 | cons c l ih=>simp only [flat,List.flatMap_cons,List.length_append] at ih ⊢;rw [ih];simp [cc];omega
theorem flat_cons(c:C)(l:List C):flat (c :: l)=.int .u32 (un c.1) :: .int .u32 (un c.2) :: flat l:=rfl
theorem flat_get(l:List C)(j:Nat)(h:j<l.length):(flat l)[j * 2]? = some (.int .u32 (un l[j].1))∧(flat l)[j * 2+1]? = some (.int .u32 (un l[j].2)):=by
 induction l generalizing j with
 | nil=>exact absurd h (Nat.not_lt_zero _)
 | cons c l ih =>
  rw [flat_cons]
  cases j with
  | zero=>exact⟨rfl,rfl⟩
  | succ j =>
   have:=ih j (by simpa using h)
   rw [show(j+1) * 2=j * 2+1+1 by omega]
   exact this
theorem flat_one(l:List C):∀u∈flat l,u.oneCell'=true:=by
 intro u hu
 obtain⟨c,_,hc⟩:=List.mem_flatMap.1 hu
 simp only [cc,List.mem_cons,List.not_mem_nil,or_false] at hc
 rcases hc with rfl | rfl<;>rfl
def Rd(w:World)(A:Option Addr)(l:List C):Prop :=
 l.length≤70368744177664∧(0<l.length→∃b off,A=some ⟨b,off,none⟩∧∀j (h:j<l.length),w.cell? ⟨b,off+j * 2,none⟩=some (.int .u32 (un l[j].1))∧w.cell? ⟨b,off+j * 2+1,none⟩=some (.int .u32 (un l[j].2)))
theorem Rd.at_{w:World}{A:Option Addr}{l:List C}(h:Rd w A l){j:Nat}(hj:j<l.length) :
  ∃b off,A=some ⟨b,off,none⟩∧w.cell? ⟨b,off+j * 2,none⟩=some (.int .u32 (un l[j].1))∧w.cell? ⟨b,off+j * 2+1,none⟩=some (.int .u32 (un l[j].2)):=by
 obtain⟨b,off,hA,hc⟩:=h.2 (by omega)
 exact⟨b,off,hA,hc j hj⟩
theorem Rd.below{w w1:World}{A:Option Addr}{l:List C}(h:Rd w A l)(hb:Below w.heap.size w w1):Rd w1 A l :=
 ⟨h.1,fun hp=>by
  obtain⟨b,off,hA,hc⟩:=h.2 hp
  exact⟨b,off,hA,fun j hj=>⟨(hb.cell (World.block_lt_of_cell? w _ (hc j hj).1)).trans (hc j hj).1,(hb.cell (World.block_lt_of_cell? w _ (hc j hj).2)).trans (hc j hj).2⟩⟩⟩
theorem Rd.nil(w:World)(A:Option Addr):Rd w A []:=⟨by simp,fun h=>absurd h (by simp)⟩
def Own(w:World)(base:Nat)(v:Value)(l:List C):Prop:=w.ownsRow base 113 2 v l.length (flat l)∧l.length≤70368744177664
theorem Own.slice{w:World}{base:Nat}{v:Value}{l:List C}(h:Own w base v l):∃A c,v=.slice A l.length c∧Rd w A l:=by
 rcases Nat.eq_zero_or_pos l.length with h0 | h0
 ·have hl:l=[]:=List.eq_nil_of_length_eq_zero h0
  subst hl
  rcases h.1.2 with⟨rfl,_⟩ | ⟨g,cap,cur,rfl,_⟩
  ·exact⟨none,0,rfl,Rd.nil _ _⟩
  ·exact⟨_,cap,rfl,Rd.nil _ _⟩
 ·obtain⟨g,cap,rfl,_,_⟩:=h.1.form h0
  refine⟨_,cap,rfl,h.2,fun _=>⟨g,0,rfl,fun j hj=>?_⟩⟩
  have hc:=h.1.cells (g:=g) rfl
  obtain⟨h1,h2⟩:=flat_get l j hj
  have e:∀k,(⟨g,0,none⟩:Addr).add k=⟨g,0+k,none⟩:=by intro k;unfold Addr.add;split<;>simp_all
  refine⟨?_, ?_⟩
  ·rw [←e];exact hc _ _ h1
  ·rw [show 0+j * 2+1=0+(j * 2+1) by omega,←e];exact hc _ _ h2
theorem Own.below{w w1:World}{base:Nat}{v:Value}{l:List C}(h:Own w base v l)(hb:Below w.heap.size w w1):Own w1 base v l :=
 ⟨h.1.kept ⟨hb.os,hb.tape,hb.output,hb.size,fun k hk _=>hb.block k hk⟩ (by cases v.ownBlock<;>simp) (row:=none),h.2⟩
theorem Own.mono{w:World}{base base':Nat}{v:Value}{l:List C}(h:Own w base v l)(hb:base'≤base):Own w base' v l:=by
 refine⟨⟨h.1.1, ?_⟩,h.2⟩
 rcases h.1.2 with h1 | ⟨g,cap,cur,h1,h2,h3⟩
 ·exact .inl h1
 ·exact .inr ⟨g,cap,cur,h1,by omega,h3⟩
theorem Own.nil(w:World)(base:Nat):Own w base (.slice none 0 0) []:=⟨World.ownsRow_nil _ _ _ _,by simp⟩
end Go.Proofs.YtahdjajdaggmjaaGreatDoor
namespace Go.Proofs.YtahdjajdaggmjaaGreatDoor
open Go.RowKit H
theorem r1_andNot(x:UInt32):decide (x &&& ~~~16777215=0)=r1 x:=by
 rw [Bool.eq_iff_iff,decide_eq_true_eq,r1_iff]
 constructor
 ·intro h i hi
  have:=congrArg (fun s=>tb s i) h
  simp only [tb_and,tb_not,tb_zero,hi,Bool.true_and] at this
  have hl:=tb_lt hi
  rw [show tb (16777215:UInt32) i=decide (i<24) from tb_M24 i] at this
  simp [hl] at this
  exact this
 ·intro h
  refine tb_ext fun i=>?_
  rw [tb_and,tb_not,tb_zero,show tb (16777215:UInt32) i=decide (i<24) from tb_M24 i]
  cases hb:tb x i
  ·rfl
  ·simp [h i hb]
end Go.Proofs.YtahdjajdaggmjaaGreatDoor
namespace Go.Proofs.YtahdjajdaggmjaaGreatDoor.H
end Go.Proofs.YtahdjajdaggmjaaGreatDoor.H
namespace Go.Proofs.YtahdjajdaggmjaaGreatDoor
open Go.RowKit H
theorem infoC':∃i,Tryz.prog.info? 113=some i∧i.zero=some (.agg #[.int .u32 0,.int .u32 0])∧i.size=2∧i.bytes=8:=by
 have h:(Tryz.prog.info? 113).map (fun i=>(i.zero,i.size,i.bytes))=some (some (.agg #[.int .u32 0,.int .u32 0]),2,8):=by kernel_rfl
 obtain⟨i,hi,he⟩:=Option.map_eq_some_iff.1 h
 simp only [Prod.mk.injEq] at he
 exact⟨i,hi,he.1,he.2.1,he.2.2⟩
theorem Rd.cells{w:World}{A:Option Addr}{l:List C}(h:Rd w A l)(hl:0<l.length):∃ad,A=some ad∧∀j u,(flat l)[j]? = some u→w.cell? (ad.add j)=some u:=by
 obtain⟨b,off,rfl,hc⟩:=h.2 hl
 refine⟨_,rfl,fun j u hj=>?_⟩
 have ea:∀n,(⟨b,off,none⟩:Addr).add n=⟨b,off+n,none⟩:=fun n=>by
  unfold Addr.add
  split<;>simp_all
 rw [ea]
 have hlt:j<(flat l).length:=(List.getElem?_eq_some_iff.1 hj).1
 rw [flat_length] at hlt
 have hq:j / 2<l.length:=by omega
 obtain⟨h0,h1⟩:=flat_get l (j / 2) hq
 obtain⟨c0,c1⟩:=hc (j / 2) hq
 rcases Nat.mod_two_eq_zero_or_one j with hm | hm
 ·have e:j=j / 2 * 2:=by omega
  rw [e] at hj
  rw [h0] at hj
  cases hj
  rw [show off+j=off+j / 2 * 2 by omega]
  exact c0
 ·have e:j=j / 2 * 2+1:=by omega
  rw [e] at hj
  rw [h1] at hj
  cases hj
  rw [show off+j=off+j / 2 * 2+1 by omega]
  exact c1
theorem Own.ne'{w:World}{base:Nat}{v:Value}{l:List C}(h:Own w base v l){b:Nat}(hb:b<base):some b≠v.ownBlock:=by
 rcases h.1.2 with⟨rfl,_⟩ | ⟨g,cap,cur,rfl,hg,_⟩
 ·simp [Value.ownBlock]
 ·simp [Value.ownBlock];omega
theorem Own.grown{w w1:World}{base:Nat}{v:Value}{l:List C}(h:Own w base v l)(hb:base≤w.heap.size)(hg:w.grownBy w1 v.ownBlock):Below base w w1 :=
 ⟨hg.os,hg.tape,hg.output,hg.size,fun k hk=>hg.block k (by omega) (h.ne' hk)⟩
theorem Own.made{w:World}{base:Nat}(hb:base≤w.heap.size):Own (w.alloc (.cells #[] 113)) base (.slice (some ⟨w.heap.size,0,none⟩) 0 0) [] :=
 ⟨World.ownsRow_made w #[] 0 hb (Nat.zero_le _) rfl,by simp⟩
theorem Own.lit{w:World}{base:Nat}(hb:base≤w.heap.size)(c:C):Own (w.alloc (.cells #[.int .u32 (un c.1),.int .u32 (un c.2)] 113)) base (.slice (some ⟨w.heap.size,0,none⟩) 1 1) [c] :=
 ⟨World.ownsRow_lit w #[.int .u32 (un c.1),.int .u32 (un c.2)] 1 hb (by unfold maxLen;omega) rfl,by simp⟩
theorem run_append_rd{w:World}{base:Nat}{v:Value}{L l:List C}(ty:TypeId)(ho:Own w base v L){A:Option Addr}{cap:Nat}(hR:Rd w A l)(hlen:L.length+l.length≤1000000)(hbase:base≤w.heap.size) :
  ∃v' w',(Builtin.append_ #[45,45] ty #[v,.slice A l.length cap]).run Tryz.prog w=.ok v' w'∧Own w' base v' (L++l)∧w.grownBy w' v.ownBlock:=by
 obtain⟨i,hi,hz,hs,hb⟩:=infoC'
 rcases Nat.eq_zero_or_pos l.length with h0 | h0
 ·obtain rfl:=List.eq_nil_of_length_eq_zero h0
  rw [List.append_nil]
  cases A with
  | none =>
   refine⟨v,w, ?_,ho,⟨rfl,rfl,rfl,Nat.le_refl _,fun _ _ _=>rfl⟩⟩
   rcases ho.1.2 with⟨rfl,h1⟩ | ⟨g,cap',cur,rfl,_,_,hnc,_⟩
   ·simp [Builtin.append_,run_underlying Tryz.underlying45,sizeOf,typeInfo,hi,Builtin.lenOf,Builtin.firstCells]
   ·simp [Builtin.append_,run_underlying Tryz.underlying45,sizeOf,typeInfo,hi,Builtin.lenOf,Builtin.firstCells,hnc,storeCells]
  | some ad =>
   obtain⟨v',w',hrun,hown,hg,_⟩:=run_append_own w base 45 ty 113 i _ 2 8 Tryz.underlying45 hi hz hs hb rfl (by decide) v L.length (flat L) ho.1 ad 0 cap [] rfl (by simp) (by simp) (by unfold maxLen;omega) (by omega) hbase
   rw [List.append_nil] at hown
   exact⟨v',w',hrun,⟨hown,ho.2⟩,hg⟩
 ·obtain⟨ad,rfl,hc⟩:=hR.cells h0
  obtain⟨v',w',hrun,hown,hg,_⟩:=run_append_own w base 45 ty 113 i _ 2 8 Tryz.underlying45 hi hz hs hb rfl (by decide) v L.length (flat L) ho.1 ad l.length cap (flat l) (flat_length l) hc (flat_one l) (by unfold maxLen;omega) (by omega) hbase
  exact⟨v',w',hrun,⟨by rw [List.length_append,flat_append];exact hown,by rw [List.length_append];omega⟩,hg⟩
section
variable {ops:Array Oper}{rest:List Oper}{o:Oper}{a:Act}{Q:Exit→Act→World→Prop}{w:World}
theorem wp_append_rd{K:Act→World→Prop}(s x:Operand)(ho:o.op=.call { callee:=.builtin .append,args:=#[s,x],argTypes:=#[45,45] })
  {base:Nat} {v:Value} {L l:List C} (hs:a.eval s=v) (hown:Own w base v L) {A:Option Addr} {cap:Nat} (hx:a.eval x=.slice A l.length cap) (hR:Rd w A l) (hlen:L.length+l.length≤1000000) (hbase:base≤w.heap.size)
  (h:∀v' w',Own w' base v' (L++l)→Below base w w'→w.grownBy w' v.ownBlock→K (a.put o.dst v') w'):o.wp Tryz.prog a w K Q:=by
 obtain⟨v',w',hr,h2,h3⟩:=run_append_rd o.type hown hR hlen hbase (cap:=cap)
 unfold Oper.wp execOp
 simp only [ho,resolve,invoke,builtin,Sem.run_bind,Sem.run_pure,Result.andThen_ok,List.map_toArray,List.map_cons,List.map_nil,hs,hx,hr]
 exact h v' w' h2 (hown.grown hbase h3) h3
end
end Go.Proofs.YtahdjajdaggmjaaGreatDoor
end
section
namespace Go.Proofs.YtahdjajdaggmjaaGreatDoorW.PrintLast
section
variable {P:Program}{ops:Array Oper}{Q:Exit→Act→World→Prop}{md:Region.Mode}{S:World→Prop}{ds:List Nat}
def Region.reachB(md:Region.Mode)(ops:Array Oper)(i:Nat):Nat→Nat→Bool
 | 0,_=>false
 | fuel+1,d=>match ops[d]? with
  | some o=>o.after.any fun e=>Region.binds md e&&(e.on==i||Region.reachB md ops i fuel e.on)
  | none=>false
def Region.closedB(md:Region.Mode)(ops:Array Oper)(listed:Array Bool):Bool :=
 (List.range ops.size).all fun j => !listed.getD j false||match ops[j]? with
  | some o=>o.after.all fun e => !Region.binds md e||listed.getD e.on false
  | none=>true
def Region.lastB(md:Region.Mode)(ops:Array Oper)(listed:Array Bool)(ds:List Nat)(i:Nat):Bool :=
 ds.all fun d=>listed.getD d true||Region.reachB md ops i ops.size d
def ListedClosed(md:Region.Mode)(ops:Array Oper)(listed:Array Bool):Prop :=
 ∀j oj,ops[j]? = some oj→listed.getD j false=true→∀e∈oj.after,Region.binds md e=true→listed.getD e.on false=true
theorem Region.closedB_spec{listed:Array Bool}(h:Region.closedB md ops listed=true):ListedClosed md ops listed:=by
 intro j oj hj hl e he hb
 have hlt:j<ops.size:=(Array.getElem?_eq_some_iff.1 hj).1
 have h1:=List.all_eq_true.1 h j (List.mem_range.2 hlt)
 simp only [hl,hj,Bool.not_true,Bool.false_or] at h1
 have h2:=Array.all_eq_true_iff_forall_mem.1 h1 e he
 simpa [hb] using h2
theorem ListedClosed.set{listed:Array Bool}{i:Nat}(h:ListedClosed md ops listed)(hi:i∈Region.ready md ops listed):ListedClosed md ops (listed.setIfInBounds i true):=by
 obtain⟨_,oi,hoi,hall⟩:=mem_ready.1 hi
 intro j oj hj hl e he hb
 by_cases hij:i=j
 ·subst hij
  have:oj=oi:=Option.some.inj (hj.symm.trans hoi)
  subst this
  exact getD_set_true (hall e he hb)
 ·rw [getD_set_ne false hij] at hl
  exact getD_set_true (h j oj hj hl e he hb)
theorem Region.reach_listed{listed:Array Bool}{i:Nat}(hc:ListedClosed md ops listed):∀(fuel d:Nat),Region.reachB md ops i fuel d=true→listed.getD d false=true→listed.getD i false=true
 | 0,_,h,_=>by simp [Region.reachB] at h
 | fuel+1,d,h,hl=>by
  unfold Region.reachB at h
  cases ho:ops[d]? with
  | none=>rw [ho] at h;simp at h
  | some o =>
   rw [ho] at h
   obtain⟨e,he,h1⟩:=Array.any_eq_true'.1 h
   simp only [Bool.and_eq_true,Bool.or_eq_true,beq_iff_eq] at h1
   have hle:=hc d o ho hl e he h1.1
   rcases h1.2 with h2 | h2
   ·rw [←h2];exact hle
   ·exact Region.reach_listed hc fuel e.on h2 hle
theorem Region.reach_not_ready{listed:Array Bool}{i d fuel:Nat}(hc:ListedClosed md ops listed)(hr:Region.reachB md ops i fuel d=true)(hun:listed.getD i true=false):d∉Region.ready md ops listed:=by
 intro hd
 obtain⟨_,o,ho,hall⟩:=mem_ready.1 hd
 have hi:listed.getD i false=true:=by
  cases fuel with
  | zero=>simp [Region.reachB] at hr
  | succ n =>
   unfold Region.reachB at hr
   rw [ho] at hr
   obtain⟨e,he,h1⟩:=Array.any_eq_true'.1 hr
   simp only [Bool.and_eq_true,Bool.or_eq_true,beq_iff_eq] at h1
   have hle:=hall e he h1.1
   rcases h1.2 with h2 | h2
   ·rw [←h2];exact hle
   ·exact Region.reach_listed hc n e.on h2 hle
 rcases Nat.lt_or_ge i listed.size with h' | h'
 ·simp [h'] at hun hi
  rw [hun] at hi
  cases hi
 ·simp [Array.getElem?_eq_none h'] at hun
def wpAnyLast(P:Program)(md:Region.Mode)(ops:Array Oper)(Q:Exit→Act→World→Prop)(S:World→Prop)(ds:List Nat):Nat→Array Bool→Act→World→Prop
 | 0,listed,a,w=>Region.ready md ops listed=[]∧Q .normal a w
 | fuel+1,listed,a,w =>
  (Region.ready md ops listed=[]→Q .normal a w) ∧
  ∀i∈Region.ready md ops listed,wpOp P ops Q i (fun a' w'=>(i∉ds→S w→S w')∧wpAnyLast P md ops Q S ds fuel (listed.setIfInBounds i true) a' w') a w
theorem wpAny_of_last:∀(fuel:Nat) (listed:Array Bool) (a:Act) (w:World),wpAnyLast P md ops Q S ds fuel listed a w→wpAny P md ops Q fuel listed a w
 | 0,_,_,_,h=>h
 | fuel+1,_,_,_,h=>⟨h.1,fun i hi=>wpOp_mono (fun a' w' h'=>wpAny_of_last fuel _ a' w' h'.2) (h.2 i hi)⟩
theorem wpAnyLast_first{i:Nat}{oi:Oper}{v:Value}(hi:ops[i]? = some oi)(hsel:∀(j:Nat) (o:Oper) cs b,ops[j]? = some o→o.op≠.select cs b)
  (hQ:∀c a w,Q (.panic c) (a.put oi.dst v) w→Q (.panic c) a w) (n:Nat) :
  ∀(fuel:Nat) (listed:Array Bool) (a:Act) (w:World),
   (∀j oj,ops[j]? = some oj→j≠i→listed.getD j true=false→(∀e∈oj.after,Region.binds md e=true→e.on≠i)→oi.apart ops oj=true) →
   ListedClosed md ops listed→(∀d∈ds,listed.getD d true=false→Region.reachB md ops i n d=true) →
   i∈Region.ready md ops listed→YieldsIf P ops S oi v a→S w →
   wpAnyLast P md ops Q S ds fuel (listed.setIfInBounds i true) (a.put oi.dst v) w→wpAnyLast P md ops Q S ds (fuel+1) listed a w:=by
 intro fuel
 induction fuel with
 | zero =>
  intro listed a w _ _ _ hr hy hS H
  refine⟨fun h=>(by rw [h] at hr;cases hr),fun j hj=>?_⟩
  by_cases hji:j=i
  ·subst hji;exact hy.wpOp hi hS ⟨fun _ h=>h,H⟩
  ·have:=ready_mono hj hji
   rw [H.1] at this
   cases this
 | succ fuel ih =>
  intro listed a w hfree hc hd hr hy hS H
  refine⟨fun h=>(by rw [h] at hr;cases hr),fun j hj=>?_⟩
  by_cases hji:j=i
  ·subst hji;exact hy.wpOp hi hS ⟨fun _ h=>h,H⟩
  ·have h1:=H.2 j (ready_mono hj hji)
   obtain⟨hjun,oj,hoj,hall⟩:=mem_ready.1 hj
   have hiun:=(mem_ready.1 hr).1
   have hnot:∀e∈oj.after,Region.binds md e=true→e.on≠i:=fun e he hb heq=>by
    have h1:=hall e he hb
    rw [heq] at h1
    rcases Nat.lt_or_ge i listed.size with h' | h'
    ·simp [h'] at hiun h1;rw [hiun] at h1;cases h1
    ·simp [Array.getElem?_eq_none h'] at h1
   have hjd:j∉ds:=fun hm=>Region.reach_not_ready hc (hd j hm hjun) hiun hj
   have h2:=wpOp_putIf hoj (hfree j oj hoj hji hjun hnot) (fun cs b=>hsel i oi cs b hi) (fun cs b=>hsel j oj cs b hoj) hQ hy h1
   have hfree':∀k ok,ops[k]? = some ok→k≠i→(listed.setIfInBounds j true).getD k true=false →
     (∀e∈ok.after,Region.binds md e=true→e.on≠i)→oi.apart ops ok=true:=fun k ok hk hki hun hno=>by
    refine hfree k ok hk hki ?_ hno
    by_cases hjk:j=k
    ·subst hjk;exact hjun
    ·rw [getD_set_ne true hjk] at hun;exact hun
   have hd':∀d∈ds,(listed.setIfInBounds j true).getD d true=false→Region.reachB md ops i n d=true:=fun d hm hun=>by
    refine hd d hm ?_
    by_cases hjk:j=d
    ·subst hjk;exact hjun
    ·rw [getD_set_ne true hjk] at hun;exact hun
   refine wpOp_mono (fun a' w' h3=>⟨h3.2.1,ih (listed.setIfInBounds j true) a' w' hfree' (hc.set hj) hd' (ready_mono hr (Ne.symm hji)) h3.1 (h3.2.1 hjd hS) ?_⟩) h2
   rw [Array.setIfInBounds_comm _ _ hji]
   exact h3.2.2
theorem wpAnyLast_any{i:Nat}{oi:Oper}{v:Value}(hi:ops[i]? = some oi)(hsel:∀(j:Nat) (o:Oper) cs b,ops[j]? = some o→o.op≠.select cs b)
  (hQ:∀c a w,Q (.panic c) (a.put oi.dst v) w→Q (.panic c) a w) :
  ∀(fuel:Nat) (listed:Array Bool) (a:Act) (w:World),
   (∀j oj,ops[j]? = some oj→j≠i→listed.getD j true=false→(∀e∈oj.after,Region.binds md e=true→e.on≠i)→oi.apart ops oj=true) →
   i∈Region.ready md ops listed→Yields P ops oi v a →
   wpAnyLast P md ops Q S ds fuel (listed.setIfInBounds i true) (a.put oi.dst v) w→wpAnyLast P md ops Q S ds (fuel+1) listed a w:=by
 intro fuel
 induction fuel with
 | zero =>
  intro listed a w _ hr hy H
  refine⟨fun h=>(by rw [h] at hr;cases hr),fun j hj=>?_⟩
  by_cases hji:j=i
  ·subst hji;exact(hy.yieldsIf (S:=fun _=>True)).wpOp hi trivial ⟨fun _ h=>h,H⟩
  ·have:=ready_mono hj hji
   rw [H.1] at this
   cases this
 | succ fuel ih =>
  intro listed a w hfree hr hy H
  refine⟨fun h=>(by rw [h] at hr;cases hr),fun j hj=>?_⟩
  by_cases hji:j=i
  ·subst hji;exact(hy.yieldsIf (S:=fun _=>True)).wpOp hi trivial ⟨fun _ h=>h,H⟩
  ·have h1:=H.2 j (ready_mono hj hji)
   obtain⟨hjun,oj,hoj,hall⟩:=mem_ready.1 hj
   have hiun:=(mem_ready.1 hr).1
   have hnot:∀e∈oj.after,Region.binds md e=true→e.on≠i:=fun e he hb heq=>by
    have h1:=hall e he hb
    rw [heq] at h1
    rcases Nat.lt_or_ge i listed.size with h' | h'
    ·simp [h'] at hiun h1;rw [hiun] at h1;cases h1
    ·simp [Array.getElem?_eq_none h'] at h1
   have h2:=wpOp_put hoj (hfree j oj hoj hji hjun hnot) (fun cs b=>hsel i oi cs b hi) (fun cs b=>hsel j oj cs b hoj) hQ hy h1
   have hfree':∀k ok,ops[k]? = some ok→k≠i→(listed.setIfInBounds j true).getD k true=false →
     (∀e∈ok.after,Region.binds md e=true→e.on≠i)→oi.apart ops ok=true:=fun k ok hk hki hun hno=>by
    refine hfree k ok hk hki ?_ hno
    by_cases hjk:j=k
    ·subst hjk;exact hjun
    ·rw [getD_set_ne true hjk] at hun;exact hun
   refine wpOp_mono (fun a' w' h3=>⟨h3.2.1,ih (listed.setIfInBounds j true) a' w' hfree' (ready_mono hr (Ne.symm hji)) h3.1 ?_⟩) h2
   rw [Array.setIfInBounds_comm _ _ hji]
   exact h3.2.2
theorem wpAnyLast_take{i:Nat}{oi:Oper}{v:Value}{fuel:Nat}{listed:Array Bool}{a:Act}{w:World}(hi:ops[i]? = some oi)
  (hs:Region.noSelect ops=true) (hf:Region.free md ops listed i=true) (hr:(Region.ready md ops listed).contains i=true)
  (hc:Region.closedB md ops listed=true) (hl:Region.lastB md ops listed ds i=true)
  (hQ:∀c a w,Q (.panic c) (a.put oi.dst v) w→Q (.panic c) a w) (hy:YieldsIf P ops S oi v a) (hS:S w)
  (h:wpAnyLast P md ops Q S ds fuel (listed.setIfInBounds i true) (a.put oi.dst v) w):wpAnyLast P md ops Q S ds (fuel+1) listed a w :=
 wpAnyLast_first hi (Region.noSelect_spec hs) hQ ops.size fuel listed a w (Region.free_spec hi hf) (Region.closedB_spec hc)
  (fun d hm hun=>by have:=List.all_eq_true.1 hl d hm;rw [hun] at this;simpa using this) (by simpa using hr) hy hS h
theorem wpAnyLast_all{rs:List Nat}{fuel:Nat}{listed:Array Bool}{a:Act}{w:World}(hr:Region.ready md ops listed=rs)(hne:rs≠[])
  (h:∀i∈rs,wpOp P ops Q i (fun a' w'=>(i∉ds→S w→S w')∧wpAnyLast P md ops Q S ds fuel (listed.setIfInBounds i true) a' w') a w):wpAnyLast P md ops Q S ds (fuel+1) listed a w :=
 ⟨fun h0=>absurd (hr▸h0) hne,hr▸h⟩
theorem wpAnyLast_done{listed:Array Bool}{a:Act}{w:World}(hr:Region.ready md ops listed=[])(h:Q .normal a w) :
  ∀fuel,wpAnyLast P md ops Q S ds fuel listed a w
 | 0=>⟨hr,h⟩
 | _+1=>⟨fun _=>h,by rw [hr];simp⟩
theorem wp_region_last{id:Nat}{a:Act}{w:World}(hm:P.follows .mixedOrders=true)
  (h:wpAnyLast P .any ops Q S ds ops.size (Array.replicate ops.size false) a { w with drawn:=w.drawn+1 }):(Code.region id ops true).wp P Q a w :=
 wp_region_any hm (wpAny_of_last _ _ _ _ h)
end
section
variable {P:Program}{ops:Array Oper}{Q:Exit→Act→World→Prop}{md:Region.Mode}{S:World→Prop}{ds:List Nat}
def AllReadyL(P:Program)(md:Region.Mode)(ops:Array Oper)(Q:Exit→Act→World→Prop)(S:World→Prop)(ds:List Nat)(fuel:Nat)(listed:Array Bool)(a:Act)(w:World)(rs:List Nat):Prop :=
 ∀i∈rs,wpOp P ops Q i (fun a' w'=>(i∉ds→S w→S w')∧wpAnyLast P md ops Q S ds fuel (listed.setIfInBounds i true) a' w') a w
theorem AllReadyL.nil{fuel:Nat}{listed:Array Bool}{a:Act}{w:World}:AllReadyL P md ops Q S ds fuel listed a w []:=fun _ h=>by cases h
theorem AllReadyL.cons{fuel:Nat}{listed:Array Bool}{a:Act}{w:World}{i:Nat}{o:Oper}{rs:List Nat}(ho:ops[i]? = some o)(hd:i∉ds)
  (h:∀K':Act→World→Prop,Shut (∀a w,S w→(S w→wpAnyLast P md ops Q S ds fuel (listed.setIfInBounds i true) a w)→K' a w)→if Region.wanted o (yielded ops a.tmps)=true then Oper.wp P o a w K' Q else K' (a.put o.dst undef) w)
  (hs:AllReadyL P md ops Q S ds fuel listed a w rs):AllReadyL P md ops Q S ds fuel listed a w (i :: rs):=fun j hj=>by
 rcases List.mem_cons.1 hj with rfl | hj
 ·exact wpOp_step ho (fun K' hK=>h K' (fun a w hS hW=>hK a w ⟨fun _ _=>hS,hW hS⟩))
 ·exact hs j hj
theorem AllReadyL.cons_last{fuel:Nat}{listed:Array Bool}{a:Act}{w:World}{i:Nat}{o:Oper}{rs:List Nat}(ho:ops[i]? = some o)(hd:i∈ds)
  (h:∀K':Act→World→Prop,Shut (∀a w,wpAnyLast P md ops Q S ds fuel (listed.setIfInBounds i true) a w→K' a w)→if Region.wanted o (yielded ops a.tmps)=true then Oper.wp P o a w K' Q else K' (a.put o.dst undef) w)
  (hs:AllReadyL P md ops Q S ds fuel listed a w rs):AllReadyL P md ops Q S ds fuel listed a w (i :: rs):=fun j hj=>by
 rcases List.mem_cons.1 hj with rfl | hj
 ·exact wpOp_step ho (fun K' hK=>h K' (fun a w hW=>hK a w ⟨fun hn=>absurd hd hn,hW⟩))
 ·exact hs j hj
theorem wpAnyLast_ready{rs:List Nat}{fuel:Nat}{listed:Array Bool}{a:Act}{w:World}(hr:Region.ready md ops listed=rs)(hne:rs≠[])
  (h:AllReadyL P md ops Q S ds fuel listed a w rs):wpAnyLast P md ops Q S ds (fuel+1) listed a w:=wpAnyLast_all hr hne h
theorem start_{id n:Nat}{a:Act}{w:World}(l:Array Bool)(hm:P.follows .mixedOrders=true)(hn:ops.size=n)(hl:Array.replicate n false=l)(hS:S w.drew)
  (h:S w.drew→wpAnyLast P .any ops Q S ds n l a w.drew):(Code.region id ops true).wp P Q a w:=by
 subst hn
 subst hl
 exact wp_region_last hm (h hS)
def takeB(md:Region.Mode)(ops:Array Oper)(ds:List Nat)(l l':Array Bool)(i:Nat):Bool :=
 Region.noSelect ops&&Region.free md ops l i&&(Region.ready md ops l).contains i&&Region.closedB md ops l&&Region.lastB md ops l ds i&&(l.setIfInBounds i true==l')
theorem take_{i:Nat}{N:Option Tmp}{oi:Oper}{v:Value}{fuel:Nat}{l:Array Bool}{a:Act}{w:World}(l':Array Bool)(hi:ops[i]? = some oi)(hN:oi.dst=N)(hc:takeB md ops ds l l' i=true)
  (hQ:∀c a w,Q (.panic c) (a.put oi.dst v) w→Q (.panic c) a w) (hy:YieldsIf P ops S oi v a) (hS:S w) {a':Act} (ha:a.put N v=a')
  (h:wpAnyLast P md ops Q S ds fuel l' a' w):wpAnyLast P md ops Q S ds (fuel+1) l a w:=by
 subst ha
 subst hN
 simp only [takeB,Bool.and_eq_true,beq_iff_eq] at hc
 obtain⟨⟨⟨⟨⟨h1,h2⟩,h3⟩,h4⟩,h5⟩,h6⟩:=hc
 subst h6
 exact wpAnyLast_take hi h1 h2 h3 h4 h5 hQ hy hS h
def anyB(md:Region.Mode)(ops:Array Oper)(l l':Array Bool)(i:Nat):Bool :=
 Region.noSelect ops&&Region.free md ops l i&&(Region.ready md ops l).contains i&&(l.setIfInBounds i true==l')
theorem pure_{i:Nat}{N:Option Tmp}{oi:Oper}{v:Value}{fuel:Nat}{l:Array Bool}{a:Act}{w:World}(l':Array Bool)(hi:ops[i]? = some oi)(hN:oi.dst=N)(hc:anyB md ops l l' i=true)
  (hQ:∀c a w,Q (.panic c) (a.put oi.dst v) w→Q (.panic c) a w) (hy:Yields P ops oi v a) {a':Act} (ha:a.put N v=a')
  (h:wpAnyLast P md ops Q S ds fuel l' a' w):wpAnyLast P md ops Q S ds (fuel+1) l a w:=by
 subst ha
 subst hN
 simp only [anyB,Bool.and_eq_true,beq_iff_eq] at hc
 obtain⟨⟨⟨h1,h2⟩,h3⟩,h6⟩:=hc
 subst h6
 exact wpAnyLast_any hi (Region.noSelect_spec h1) hQ fuel l a w (Region.free_spec hi h2) (by simpa using h3) hy h
def readyB(md:Region.Mode)(ops:Array Oper)(l l':Array Bool)(i:Nat):Bool:=(Region.ready md ops l==[i])&&(l.setIfInBounds i true==l')
theorem one_{i:Nat}{N:Option Tmp}{oi:Oper}{fuel:Nat}{l:Array Bool}{a:Act}{w:World}(l':Array Bool)(hi:ops[i]? = some oi)(hN:oi.dst=N)(hc:readyB md ops l l' i=true)(hd:i∉ds)
  (h:∀K:Act→World→Prop,Shut (∀a' w',S w'→(S w'→wpAnyLast P md ops Q S ds fuel l' a' w')→K a' w')→if Region.wanted oi (yielded ops a.tmps)=true then Oper.wp P oi a w K Q else K (a.put N undef) w) :
  wpAnyLast P md ops Q S ds (fuel+1) l a w:=by
 subst hN
 simp only [readyB,Bool.and_eq_true,beq_iff_eq] at hc
 obtain⟨h1,h2⟩:=hc
 subst h2
 exact wpAnyLast_ready h1 (by simp) (AllReadyL.cons hi hd (fun K hK=>h K hK) AllReadyL.nil)
theorem last_{i:Nat}{N:Option Tmp}{oi:Oper}{fuel:Nat}{l:Array Bool}{a:Act}{w:World}(l':Array Bool)(hi:ops[i]? = some oi)(hN:oi.dst=N)(hc:readyB md ops l l' i=true)(hd:i∈ds)
  (h:∀K:Act→World→Prop,Shut (∀a' w',wpAnyLast P md ops Q S ds fuel l' a' w'→K a' w')→if Region.wanted oi (yielded ops a.tmps)=true then Oper.wp P oi a w K Q else K (a.put N undef) w) :
  wpAnyLast P md ops Q S ds (fuel+1) l a w:=by
 subst hN
 simp only [readyB,Bool.and_eq_true,beq_iff_eq] at hc
 obtain⟨h1,h2⟩:=hc
 subst h2
 exact wpAnyLast_ready h1 (by simp) (AllReadyL.cons_last hi hd (fun K hK=>h K hK) AllReadyL.nil)
theorem done_{l:Array Bool}{a:Act}{w:World}{n:Nat}(hr:(Region.ready md ops l==[])=true)(h:Q .normal a w):wpAnyLast P md ops Q S ds n l a w:=wpAnyLast_done (by simpa using hr) h n
theorem two_{i j:Nat}{Ni Nj:Option Tmp}{oi oj:Oper}{fuel:Nat}{l:Array Bool}{a:Act}{w:World}(li lj:Array Bool)(hi:ops[i]? = some oi)(hj:ops[j]? = some oj)(hNi:oi.dst=Ni)(hNj:oj.dst=Nj)
  (hc:(Region.ready md ops l==[i,j]&&l.setIfInBounds i true==li&&l.setIfInBounds j true==lj)=true) (hdi:i∉ds) (hdj:j∉ds)
  (h1:∀K:Act→World→Prop,Shut (∀a' w',S w'→(S w'→wpAnyLast P md ops Q S ds fuel li a' w')→K a' w')→if Region.wanted oi (yielded ops a.tmps)=true then Oper.wp P oi a w K Q else K (a.put Ni undef) w)
  (h2:∀K:Act→World→Prop,Shut (∀a' w',S w'→(S w'→wpAnyLast P md ops Q S ds fuel lj a' w')→K a' w')→if Region.wanted oj (yielded ops a.tmps)=true then Oper.wp P oj a w K Q else K (a.put Nj undef) w) :
  wpAnyLast P md ops Q S ds (fuel+1) l a w:=by
 subst hNi
 subst hNj
 simp only [Bool.and_eq_true,beq_iff_eq] at hc
 obtain⟨⟨h3,h4⟩,h5⟩:=hc
 subst h4
 subst h5
 exact wpAnyLast_ready h3 (by simp) (AllReadyL.cons hi hdi (fun K hK=>h1 K hK) (AllReadyL.cons hj hdj (fun K hK=>h2 K hK) AllReadyL.nil))
def putAll:Act→List (Tmp×Value)→Act
 | a,[]=>a
 | a,(n,v) :: r=>putAll (a.put (some n) v) r
theorem join_{σ:Type}{fuel:Nat}{l:Array Bool}{a:Act}{w:World}(fuel':Nat)(l':Array Bool)(ns:σ→List (Tmp×Value))(F:σ→World→Prop)
  (hcont:∀s w',F s w'→wpAnyLast P md ops Q S ds fuel' l' (putAll a (ns s)) w')
  (h:(∀s w',F s w'→wpAnyLast P md ops Q S ds fuel' l' (putAll a (ns s)) w')→wpAnyLast P md ops Q S ds fuel l a w):wpAnyLast P md ops Q S ds fuel l a w:=h hcont
theorem norm_{fuel:Nat}{l:Array Bool}{a a':Act}{w:World}(ha:a=a')(h:wpAnyLast P md ops Q S ds fuel l a' w):wpAnyLast P md ops Q S ds fuel l a w:=by
 subst ha
 exact h
theorem call_{oi:Oper}{N:Option Tmp}{a:Act}{w:World}{K:Act→World→Prop}(f:FuncId)(args:Array Value)(hw:Region.wanted oi (yielded ops a.tmps)=true)(hN:oi.dst=N)(hrun:(execOp a.eval oi).run P w=.ok (.enter f args) w)
  (h:Calls P f args w fun e w'=>∃v,e=.returned v∧K (a.put N v) w'):if Region.wanted oi (yielded ops a.tmps)=true then Oper.wp P oi a w K Q else K (a.put N undef) w:=by
 rw [if_pos hw]
 subst hN
 unfold Oper.wp
 rw [hrun,Oper.upon_enter]
 refine h.mono fun e w'' hh=>?_
 obtain⟨v,rfl,hk⟩:=hh
 exact hk
theorem enters_ {f:FuncId} {fn:Func} (hf:P.funcs[f]? = some fn) (hname:(fn.name == "runtime.NumGoroutine")=false) (hb:fn.body.isSome=true) (args:Array Value) (w:World):(callFunc f args).run P w=.ok (.enter f args) w:=by
 have h1:fn.name≠"runtime.NumGoroutine" := by simpa using hname
 obtain⟨c,hc⟩:=Option.isSome_iff_exists.1 hb
 simp [callFunc,hf,h1,hc]
theorem goes_ {oi:Oper} {N:Option Tmp} {a:Act} {w:World} {K:Act→World→Prop} {f:FuncId} {fn:Func} {az:Array Operand} {ts:Array TypeId} (hf:P.funcs[f]? = some fn) (hname:(fn.name == "runtime.NumGoroutine")=false) (hb:fn.body.isSome=true) (args:Array Value)
  (hw:Region.wanted oi (yielded ops a.tmps)=true) (hN:oi.dst=N) (hop:oi.op=.call { callee:=.value (.func f),args:=az,argTypes:=ts }) (hargs:az.map a.eval=args)
  (h:Calls P f args w fun e w'=>∃v,e=.returned v∧K (a.put N v) w'):if Region.wanted oi (yielded ops a.tmps)=true then Oper.wp P oi a w K Q else K (a.put N undef) w:=by
 refine call_ f args hw hN ?_ h
 have he:=enters_ hf hname hb args w
 unfold execOp
 simp [hop,resolve,Deferred.ofValue,invoke,Act.eval,hargs,he]
theorem goesL_ {rest:List Oper} {oi:Oper} {a:Act} {w:World} (N:Option Tmp) (hd:oi.dst=N) (hg:oi.guard=none) {f:FuncId} {fn:Func} {az:Array Operand} {ts:Array TypeId} (hf:P.funcs[f]? = some fn) (hname:(fn.name == "runtime.NumGoroutine")=false) (hb:fn.body.isSome=true) (args:Array Value)
  (hop:oi.op=.call { callee:=.value (.func f),args:=az,argTypes:=ts }) (hargs:az.map a.eval=args)
  (h:Calls P f args w fun e w'=>∃v,e=.returned v∧wpList P ops Q rest (a.put N v) w'):wpList P ops Q (oi :: rest) a w:=by
 refine wpList_plain hg fun K hK=>?_
 have he:=enters_ hf hname hb args w
 have hrun:(execOp a.eval oi).run P w=.ok (.enter f args) w:=by
  unfold execOp
  simp [hop,resolve,Deferred.ofValue,invoke,Act.eval,hargs,he]
 unfold Oper.wp
 rw [hrun,Oper.upon_enter]
 refine h.mono fun e w'' hh=>?_
 obtain⟨v,rfl,hk⟩:=hh
 subst hd
 exact hK _ _ hk
theorem value_{oi:Oper}{N:Option Tmp}{a:Act}{w w1:World}{v:Value}{K:Act→World→Prop}(hw:Region.wanted oi (yielded ops a.tmps)=true)(hN:oi.dst=N)(hrun:(execOp a.eval oi).run P w=.ok (.value v) w1)
  (h:K (a.put N v) w1):if Region.wanted oi (yielded ops a.tmps)=true then Oper.wp P oi a w K Q else K (a.put N undef) w:=by
 rw [if_pos hw]
 subst hN
 unfold Oper.wp
 rw [hrun]
 exact h
theorem skip_{oi:Oper}{a:Act}{w w1:World}{K:Act→World→Prop}(hw:Region.wanted oi (yielded ops a.tmps)=true)(hN:oi.dst=none)(hrun:(execOp a.eval oi).run P w=.ok .skip w1)
  (h:K a w1):if Region.wanted oi (yielded ops a.tmps)=true then Oper.wp P oi a w K Q else K (a.put none undef) w:=by
 rw [if_pos hw]
 unfold Oper.wp
 rw [hrun]
 show K (a.put oi.dst undef) w1
 rw [hN]
 exact h
theorem i64_w(n:Int):IntKind.i64.wrap n=Go.RowKit.wrap64 n:=by unfold Go.RowKit.wrap64;exact IntKind.wrap_i64 n
theorem i32_w(n:Int):IntKind.i32.wrap n=Go.RowKit.wrap32 n:=by unfold Go.RowKit.wrap32;exact IntKind.wrap_i32 n
end
end Go.Proofs.YtahdjajdaggmjaaGreatDoorW.PrintLast
end
