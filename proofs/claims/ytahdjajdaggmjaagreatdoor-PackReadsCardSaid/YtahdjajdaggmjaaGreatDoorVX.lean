/-
Plain law of layer 36: what names,rows,terms and sums come to,on both sides.
-/
import Derived.Deep.Strs
import Derived.Test.YtahdjajdaggmjaaGreatDoorRows
import Derived.Test.YtahdjajdaggmjaaGreatDoorOpenB
section
set_option linter.unusedVariables false
set_option linter.unusedSimpArgs false
namespace Go.Proofs.YtahdjajdaggmjaaGreatDoor.XPd
open Go.RowKit Go.Proofs.YtahdjajdaggmjaaGreatDoorW.PrintWords Go.Proofs.YtahdjajdaggmjaaGreatDoorW.PrintLast Go.Proofs.YtahdjajdaggmjaaGreatDoorW.PrintMore
def Ev{α:Type}(F:Nat→Option α)(r:α):Prop:=∃k0,∀k,k0≤k→F k=some r
theorem Ev.up{α:Type}{F G:Nat→Option α}{r:α}(h:Ev G r)(hs:∀k,F (k+1)=G k):Ev F r:=by
 obtain⟨k0,h0⟩:=h
 refine⟨k0+1,fun k hk=>?_⟩
 obtain⟨j,rfl⟩:∃j,k=j+1:=⟨k-1,by omega⟩
 rw [hs]
 exact h0 j (by omega)
theorem Ev.same{α:Type}{F G:Nat→Option α}{r:α}(h:Ev G r)(hs:∀k,F k=G k):Ev F r:=by
 obtain⟨k0,h0⟩:=h
 exact⟨k0,fun k hk=>(hs k).trans (h0 k hk)⟩
theorem evU{α:Type}{F G:Nat→Option α}{r:α}(hs:∀k,F (k+1)=G k)(h:Ev G r):Ev F r:=Ev.up h hs
theorem evS{α:Type}{F G:Nat→Option α}{r:α}(hs:∀k,F k=G k)(h:Ev G r):Ev F r:=Ev.same h hs
theorem Ev.now{α:Type}(r:α):Ev (fun _=>some r) r:=⟨0,fun _ _=>rfl⟩
theorem Ev.const{α:Type}{o:Option α}{r:α}(h:o=some r):Ev (fun _=>o) r:=⟨0,fun _ _=>h⟩
theorem Ev.bind{α β:Type}{F:Nat→Option α}{G:α→Nat→Option β}{a:α}{r:β}(h:Ev F a)(g:Ev (G a) r):Ev (fun k=>(F k).bind fun x=>G x k) r:=by
 obtain⟨k0,h0⟩:=h
 obtain⟨k1,h1⟩:=g
 refine⟨max k0 k1,fun k hk=>?_⟩
 show(F k).bind _=_
 rw [h0 k (by omega),Option.bind_some]
 exact h1 k (by omega)
theorem Ev.bindc{α β:Type}{o:Option α}{G:α→Nat→Option β}{a:α}{r:β}(h:o=some a)(g:Ev (G a) r):Ev (fun k=>o.bind fun x=>G x k) r:=by
 subst h
 exact g
theorem Ev.of{α:Type}{F:Nat→Option α}(hm:∀k,LeO (F k) (F (k+1))){k:Nat}{r:α}(h:F k=some r):Ev F r:=⟨k,fun _ hj=>at_rounds hm hj h⟩
theorem w64{a:Int}(h0 : -9223372036854775808≤a)(h1:a<9223372036854775808):wrap64 a=a:=by unfold wrap64;omega
theorem wadd(a b:Nat)(h:a+b<1000000):wrap64 ((a:Int)+(b:Int))=((a+b:Nat):Int):=by unfold wrap64;omega
theorem wsucc(a:Nat)(h:a<1000000):wrap64 ((a:Int)+1)=((a+1:Nat):Int):=by unfold wrap64;omega
theorem drop_at{α:Type}{l:List α}{j:Nat}(h:j<l.length):l.drop j=l[j] :: l.drop (j+1):=List.drop_eq_getElem_cons h
end Go.Proofs.YtahdjajdaggmjaaGreatDoor.XPd
set_option linter.unusedVariables false
set_option linter.unusedSimpArgs false
namespace Go.Proofs.YtahdjajdaggmjaaGreatDoor.XPd
open Go.RowKit Go.Proofs.YtahdjajdaggmjaaGreatDoorW.PrintWords Go.Proofs.YtahdjajdaggmjaaGreatDoorW.PrintLast Go.Proofs.YtahdjajdaggmjaaGreatDoorW.PrintMore
theorem Ev.pos{α:Type}{p:Prop}[Decidable p]{F G:Nat→Option α}{r:α}(h:p)(g:Ev F r):Ev (fun k=>if p then F k else G k) r:=by
 simp only [if_pos h]
 exact g
theorem Ev.neg{α:Type}{p:Prop}[Decidable p]{F G:Nat→Option α}{r:α}(h:¬p)(g:Ev G r):Ev (fun k=>if p then F k else G k) r:=by
 simp only [if_neg h]
 exact g
def nmL:List UInt8→Bool
 | []=>false
 | c :: t=>letB c&&t.all alnB
def nmB(s:ByteArray):Bool:=nmL s.data.toList
theorem nmL_cons(c:UInt8)(t:List UInt8):nmL (c :: t)=(letB c&&t.all alnB):=rfl
theorem nameLen_cons(c:UInt8)(t:List UInt8):nameLen (c :: t)=if letB c then 1+(t.takeWhile alnB).length else 0:=rfl
theorem nmL_take{l:List UInt8}(h:0<nameLen l):nmL (l.take (nameLen l))=true:=by
 cases l with
 | nil=>simp [nameLen] at h
 | cons c t =>
  rw [nameLen_cons] at h ⊢
  split at h
  ·rename_i hc
   rw [if_pos hc,show 1+(t.takeWhile alnB).length=(t.takeWhile alnB).length+1 by omega,List.take_succ_cons,nmL_cons]
   have hp:=(List.prefix_iff_eq_take.1 (List.takeWhile_prefix alnB (l:=t))).symm
   rw [hc,Bool.true_and,hp,List.all_takeWhile]
  ·omega
theorem nmB_congr{a b:ByteArray}(h:(a.toList==b.toList)=true)(ha:nmB a=true):nmB b=true:=by
 have h2:=eq_of_beq h
 rw [Lib.toList_data,Lib.toList_data] at h2
 unfold nmB at ha ⊢
 rwa [←h2]
theorem nmL_len{l:List UInt8}(h:nmL l=true):nameLen l=l.length∧0<l.length:=by
 cases l with
 | nil=>simp [nmL] at h
 | cons c t =>
  rw [nmL_cons] at h
  obtain⟨h1,h2⟩:=Bool.and_eq_true_iff.1 h
  rw [nameLen_cons,if_pos h1,List.length_cons]
  have:t.takeWhile alnB=t:=by
   clear h h1
   induction t with
   | nil=>rfl
   | cons d t ih =>
    rw [List.all_cons] at h2
    obtain⟨h3,h4⟩:=Bool.and_eq_true_iff.1 h2
    rw [List.takeWhile_cons,if_pos h3,ih h4]
  rw [this]
  omega
theorem nmL_all{l:List UInt8}(h:nmL l=true):∀x∈l,alnB x=true:=by
 cases l with
 | nil=>simp
 | cons c t =>
  rw [nmL_cons] at h
  obtain⟨h1,h2⟩:=Bool.and_eq_true_iff.1 h
  intro x hx
  rcases List.mem_cons.1 hx with rfl | hx
  ·unfold alnB
   rw [h1]
   rfl
  ·exact List.all_eq_true.1 h2 x hx
theorem aln_lt{c:UInt8}(h:alnB c=true):c.toNat<128∧c.toNat≠45∧c.toNat≠32∧13<c.toNat:=by
 unfold alnB letB digB at h
 simp only [Bool.or_eq_true,Bool.and_eq_true,decide_eq_true_eq,beq_iff_eq] at h
 omega
theorem decodeW(t:ByteArray)(h:0<t.size):1≤(Lib.decodeGo t).2∧(Lib.decodeGo t).2≤4:=by
 unfold Lib.decodeGo
 rw [if_neg (by omega)]
 unfold Utf8.decode
 dsimp only
 repeat' split
 all_goals simp
theorem decodeA(t:ByteArray)(c:UInt8)(r:List UInt8)(h:t.data.toList=c :: r)(hc:c.toNat<128):Lib.decodeGo t=(c.toNat,1):=by
 have hs:t.size=r.length+1:=by rw [Lib.size_eq,h,List.length_cons]
 have hg:t.get! (0+0)=c:=by
  obtain⟨⟨l⟩⟩:=t
  subst h
  rfl
 unfold Lib.decodeGo
 rw [if_neg (by omega)]
 unfold Utf8.decode
 dsimp only
 exact(if_pos (by rw [hg];exact hc)).trans (by rw [hg])
theorem signFrom_le(s:ByteArray):∀(k j i:Nat),signFrom s k j=some i→(signV i).size≤s.size
 | 0,j,i,h=>by simp [signFrom] at h
 | k+1,j,i,h=>by
  unfold signFrom at h
  split at h
  ·rename_i hp
   obtain rfl:=Option.some.inj h
   apply Decidable.byContradiction
   intro hn
   rw [hpre_short _ _ hn] at hp
   cases hp
  ·exact signFrom_le s k (j+1) i h
theorem one_le(s:ByteArray):(oneT (nameLen s.data.toList) s).2.size≤s.size∧((oneT (nameLen s.data.toList) s).1=1→nmB (oneT (nameLen s.data.toList) s).2=true):=by
 unfold oneT
 have hle:=nameLen_le s.data.toList
 rw [←Lib.size_eq] at hle
 split
 ·rename_i h
  have hd:(s.extract 0 (nameLen s.data.toList)).data.toList=s.data.toList.take (nameLen s.data.toList):=by
   rw [Lib.extract_data,List.drop_zero,Nat.sub_zero]
  refine⟨?_,fun _=>?_⟩
  ·show(s.extract 0 (nameLen s.data.toList)).size≤_
   rw [Lib.size_eq,hd,List.length_take]
   omega
  ·show nmL (s.extract 0 (nameLen s.data.toList)).data.toList=true
   rw [hd]
   exact nmL_take h
 ·split
  ·rename_i j hj
   exact⟨signFrom_le s 20 0 j hj,fun h=>absurd (show(2:Int)=1 from h) (by decide)⟩
  ·exact⟨Nat.zero_le _,fun h=>absurd (show(0:Int)=1 from h) (by decide)⟩
def GoodA(l:List S110):Prop:=∀t∈l,t.f0=1→nmB t.f1=true
theorem lex_l1(s:ByteArray)(hs:s.size≤65536):∀(n d i:Nat) (toks:List S110),d≤n→i+d=s.size→toks.length≤i→GoodA toks →
  ∃r,Ev (fun k=>le_Scan.l1 k s toks (i:Int)) r∧(r.2.2=0→GoodA r.1):=by
 intro n
 induction n with
 | zero =>
  intro d i toks hd hi hl hg
  refine⟨(toks++[(⟨0,(⟨#[]⟩:ByteArray),(s.size:Int)⟩:S110)],0,0), ?_, ?_⟩
  ·refine evU (fun k=>by rw [le_Scan.l1]) ?_
   refine Ev.neg (by omega) (Ev.pos (by omega) (Ev.now _))
  ·intro _ t ht
   rcases List.mem_append.1 ht with h | h
   ·exact hg t h
   ·obtain rfl:=List.mem_singleton.1 h
    exact fun h=>absurd (show(0:Int)=1 from h) (by decide)
 | succ n ih =>
  intro d i toks hd hi hl hg
  by_cases h:i<s.size
  ·have hes:(s.extract i s.size).size=s.size-i:=by rw [ByteArray.size_extract];omega
   obtain⟨ha,hk⟩:=one_le (s.extract i s.size)
   generalize hT:oneT (nameLen (s.extract i s.size).data.toList) (s.extract i s.size)=T at ha hk
   have hone:lex_one.f (s.extract i s.size)=some (T.1,T.2,0):=by
    unfold lex_one.f
    rw [if_pos (by omega),hT]
   by_cases hb:T.2.toList=[]
   ·refine⟨([],(i:Int),61), ?_,fun h=>absurd (show(61:Int)=0 from h) (by decide)⟩
    refine evU (fun k=>by rw [le_Scan.l1]) ?_
    refine Ev.pos (by omega) (Ev.pos (by omega) (Ev.pos (by omega) ?_))
    rw [Int.toNat_natCast,hone]
    exact Ev.bindc rfl (Ev.pos hb (Ev.now _))
   ·have hb0:0<T.2.size:=by
     rw [Lib.toList_data] at hb
     rw [Lib.size_eq]
     exact List.length_pos_iff.2 hb
    have hw:wrap64 ((i:Int)+(T.2.size:Int))=((i+T.2.size:Nat):Int):=wadd _ _ (by omega)
    have hsk:=skip_le false (s.data.toList.drop (i+T.2.size))
    rw [List.length_drop,←Lib.size_eq] at hsk
    have hp:le_past.f s ((i+T.2.size:Nat):Int)=some ((i+T.2.size+skip false (s.data.toList.drop (i+T.2.size)):Nat):Int):=by
     unfold le_past.f
     rw [if_pos (by omega),Int.toNat_natCast]
    obtain⟨r,hr,hgr⟩:=ih (s.size-(i+T.2.size+skip false (s.data.toList.drop (i+T.2.size)))) (i+T.2.size+skip false (s.data.toList.drop (i+T.2.size))) (toks++[(⟨T.1,T.2,(i:Int)⟩:S110)]) (by omega) (by omega) (by rw [List.length_append,List.length_singleton];omega) (by
     intro t ht
     rcases List.mem_append.1 ht with h | h
     ·exact hg t h
     ·obtain rfl:=List.mem_singleton.1 h
      exact hk)
    refine⟨r, ?_,hgr⟩
    refine evU (fun k=>by rw [le_Scan.l1]) ?_
    refine Ev.pos (by omega) (Ev.pos (by omega) (Ev.pos (by omega) ?_))
    rw [Int.toNat_natCast,hone]
    refine Ev.bindc rfl (Ev.neg hb (Ev.pos (by omega) ?_))
    dsimp only
    rw [hw,hp]
    exact Ev.bindc rfl hr
  ·exact ih 0 i toks (Nat.zero_le _) (by omega) hl hg
theorem lex_l0(s:ByteArray)(hs:s.size≤65536):∀(n i:Nat),s.size≤i+n→i≤70000 →
  ∃r,Ev (fun k=>le_Scan.l0 k s (i:Int)) r∧(r.2.2=0→GoodA r.1):=by
 have hend:∀i:Nat,s.size≤i→∃r,Ev (fun k=>le_Scan.l0 k s (i:Int)) r∧(r.2.2=0→GoodA r.1):=by
  intro i hi
  have hsk:=skip_le false (s.data.toList.drop 0)
  rw [List.length_drop,←Lib.size_eq] at hsk
  have hp:le_past.f s 0=some ((0+skip false (s.data.toList.drop 0):Nat):Int):=by
   unfold le_past.f
   rw [if_pos (by omega)]
   rfl
  obtain⟨r,hr,hg⟩:=lex_l1 s hs _ (s.size-(0+skip false (s.data.toList.drop 0))) (0+skip false (s.data.toList.drop 0)) [] (Nat.le_refl _) (by omega) (Nat.zero_le _) (fun t ht=>by cases ht)
  refine⟨r, ?_,hg⟩
  refine evU (fun k=>by rw [le_Scan.l0]) ?_
  refine Ev.neg (by omega) ?_
  rw [hp]
  exact Ev.bindc rfl hr
 intro n
 induction n with
 | zero=>exact fun i hi _=>hend i (by omega)
 | succ n ih =>
  intro i hi hi2
  by_cases h:i<s.size
  ·have hes:(s.extract i s.size).size=s.size-i:=by rw [ByteArray.size_extract];omega
   obtain⟨w1,w4⟩:=decodeW (s.extract i s.size) (by omega)
   have hw:wrap64 ((i:Int)+((Lib.decodeGo (s.extract i s.size)).2:Int))=((i+(Lib.decodeGo (s.extract i s.size)).2:Nat):Int):=wadd _ _ (by omega)
   obtain⟨r,hr,hg⟩:=ih (i+(Lib.decodeGo (s.extract i s.size)).2) (by omega) (by omega)
   by_cases h1:((Lib.decodeGo (s.extract i s.size)).1:Int)=65533∧((Lib.decodeGo (s.extract i s.size)).2:Int)<2
   ·refine⟨([],(i:Int),60), ?_,fun h=>absurd (show(60:Int)=0 from h) (by decide)⟩
    refine evU (fun k=>by rw [le_Scan.l0]) ?_
    refine Ev.pos (by omega) (Ev.pos (by omega) (Ev.pos (by omega) (Ev.bindc (a:=(((Lib.decodeGo (s.extract i s.size)).1:Int),((Lib.decodeGo (s.extract i s.size)).2:Int))) (by rw [Int.toNat_natCast];rfl) ?_)))
    exact Ev.pos h1.1 (Ev.pos h1.2 (Ev.now _))
   ·refine⟨r, ?_,hg⟩
    refine evU (fun k=>by rw [le_Scan.l0]) ?_
    refine Ev.pos (by omega) (Ev.pos (by omega) (Ev.pos (by omega) (Ev.bindc (a:=(((Lib.decodeGo (s.extract i s.size)).1:Int),((Lib.decodeGo (s.extract i s.size)).2:Int))) (by rw [Int.toNat_natCast];rfl) ?_)))
    dsimp only
    rw [hw]
    by_cases h2:((Lib.decodeGo (s.extract i s.size)).1:Int)=65533
    ·exact Ev.pos h2 (Ev.neg (fun h3=>h1 ⟨h2,h3⟩) hr)
    ·exact Ev.neg h2 hr
  ·exact hend i (by omega)
theorem named_ev(s:ByteArray):∃b,Ev (fun k=>pa_named.f k s) b∧(b=true→s.size≤65536∧nmB s=true):=by
 obtain⟨r,hr,hg⟩:∃r,Ev (fun k=>le_Scan.f k s) r∧(r.2.2=0→s.size≤65536∧GoodA r.1):=by
  by_cases h:s.size≤65536
  ·obtain⟨r,hr,hg⟩:=lex_l0 s h s.size 0 (by omega) (by omega)
   refine⟨r, ?_,fun h2=>⟨h,hg h2⟩⟩
   refine evS (fun k=>by rw [le_Scan.f]) ?_
   exact Ev.neg (by omega) hr
  ·refine⟨([],0,3), ?_,fun h=>absurd h (by decide)⟩
   refine evS (fun k=>by rw [le_Scan.f]) ?_
   exact Ev.pos (by omega) (Ev.now _)
 by_cases h0:r.2.2=0
 ·by_cases h1:(r.1.length:Int)=2
  ·by_cases h2:(rd_T110 r.1 0).f0=1
   ·refine⟨(rd_T110 r.1 0).f1.toList==s.toList, ?_,fun hb=>?_⟩
    ·refine evS (fun k=>by rw [pa_named.f]) ?_
     exact Ev.bind hr (Ev.pos h0 (Ev.pos h1 (Ev.pos (by omega) (Ev.pos h2 (Ev.now _)))))
    ·obtain⟨h3,h4⟩:=hg h0
     refine⟨h3,nmB_congr hb (h4 _ ?_ h2)⟩
     unfold rd_T110
     rw [List.getD_eq_getElem?_getD,List.getElem?_eq_getElem (by omega)]
     exact List.getElem_mem _
   ·refine⟨false, ?_,fun h=>by cases h⟩
    refine evS (fun k=>by rw [pa_named.f]) ?_
    exact Ev.bind hr (Ev.pos h0 (Ev.pos h1 (Ev.pos (by omega) (Ev.neg h2 (Ev.now _)))))
  ·refine⟨false, ?_,fun h=>by cases h⟩
   refine evS (fun k=>by rw [pa_named.f]) ?_
   exact Ev.bind hr (Ev.pos h0 (Ev.neg h1 (Ev.now _)))
 ·refine⟨false, ?_,fun h=>by cases h⟩
  refine evS (fun k=>by rw [pa_named.f]) ?_
  exact Ev.bind hr (Ev.neg h0 (Ev.now _))
theorem le_ascii(s:ByteArray)(hs:s.size≤65536)(hn:nmB s=true):∀(n i:Nat),i+n=s.size →
  Ev (fun k=>le_Scan.l0 k s (i:Int)) ([(⟨1,s.extract 0 s.size,0⟩:S110),(⟨0,⟨#[]⟩,(s.size:Int)⟩:S110)],0,0):=by
 obtain⟨hl1,hl2⟩:=nmL_len hn
 have hall:=nmL_all hn
 rw [←Lib.size_eq] at hl1 hl2
 intro n
 induction n with
 | zero =>
  intro i hi
  have hsk0:skip false (s.data.toList.drop 0)=0:=by
   obtain⟨c,t,hct⟩:∃c t,s.data.toList=c :: t:=List.exists_cons_of_ne_nil (by intro h;rw [Lib.size_eq,h] at hl2;exact absurd hl2 (by decide))
   have hc:=aln_lt (hall c (by rw [hct];exact List.mem_cons_self))
   rw [List.drop_zero,hct]
   unfold skip
   have hne:∀m:Nat,m≤13∨m=32∨m=45→¬c=UInt8.ofNat m:=by
    intro m hm h
    subst h
    rw [UInt8.toNat_ofNat'] at hc
    omega
   rw [if_neg (by rintro(h | h | h | h);exact hne 32 (by omega) h;exact hne 9 (by omega) h;exact hne 10 (by omega) h;exact hne 13 (by omega) h),if_neg (fun h=>hne 45 (by omega) h.1)]
  have hp:le_past.f s 0=some 0:=by
   unfold le_past.f
   rw [if_pos (by omega)]
   show some ((0+skip false (s.data.toList.drop 0):Nat):Int)=_
   rw [hsk0]
   rfl
  have hex:s.extract 0 s.size=s:=by
   apply ByteArray.ext
   apply Array.toList_inj.1
   rw [Lib.extract_data,List.drop_zero,Nat.sub_zero,Lib.size_eq,List.take_length]
  have hone:lex_one.f (s.extract (0:Int).toNat s.size)=some (1,s.extract 0 s.size,0):=by
   unfold lex_one.f
   rw [show s.extract (0:Int).toNat s.size=s from hex,if_pos (by omega),hl1]
   unfold oneT
   rw [if_pos (by omega)]
  have hpe:le_past.f s (s.size:Int)=some (s.size:Int):=by
   unfold le_past.f
   rw [if_pos (by omega),Int.toNat_natCast,drop_end s _ (Nat.le_refl _)]
   rfl
  refine evU (fun k=>by rw [le_Scan.l0]) ?_
  refine Ev.neg (by omega) ?_
  rw [hp]
  refine Ev.bindc rfl ?_
  refine evU (fun k=>by rw [le_Scan.l1]) ?_
  refine Ev.pos (by omega) (Ev.pos (by omega) (Ev.pos (by omega) (Ev.bindc hone (Ev.neg ?_ (Ev.pos (by decide) ?_)))))
  ·show ¬(s.extract 0 s.size).toList=[]
   rw [hex,Lib.toList_data]
   intro h
   rw [Lib.size_eq,h] at hl2
   exact absurd hl2 (by decide)
  ·dsimp only
   rw [hex,show wrap64 (0+(s.size:Int))=(s.size:Int) by rw [Int.zero_add];exact w64 (by omega) (by omega),hpe]
   refine Ev.bindc rfl ?_
   refine evU (fun k=>by rw [le_Scan.l1]) ?_
   exact Ev.neg (by omega) (Ev.pos (by show 1<4398046511104;decide) (Ev.now _))
 | succ n ih =>
  intro i hi
  have hlt:i<s.size:=by omega
  have hd:=drop_bt s i hlt
  have hal:=hall s[i] (List.mem_of_mem_drop (i:=i) (by rw [hd];exact List.mem_cons_self))
  have hdec:=decodeA (s.extract i s.size) s[i] (s.data.toList.drop (i+1)) (by rw [Lib.extract_data,←hd,List.take_of_length_le (by rw [List.length_drop,←Lib.size_eq];omega)]) (aln_lt hal).1
  refine evU (fun k=>by rw [le_Scan.l0]) ?_
  refine Ev.pos (by omega) (Ev.pos (by omega) (Ev.pos (by omega) (Ev.bindc (a:=((s[i].toNat:Int),1)) (by rw [Int.toNat_natCast];unfold ut_Decode1.f;rw [hdec];rfl) ?_)))
  have:=(aln_lt hal).1
  refine Ev.neg (by show ¬(s[i].toNat:Int)=65533;omega) ?_
  dsimp only
  rw [wsucc i (by omega)]
  exact ih (i+1) (by omega)
theorem named_true(s:ByteArray)(hs:s.size≤65536)(hn:nmB s=true):Ev (fun k=>pa_named.f k s) true:=by
 have hex:s.extract 0 s.size=s:=by
  apply ByteArray.ext
  apply Array.toList_inj.1
  rw [Lib.extract_data,List.drop_zero,Nat.sub_zero,Lib.size_eq,List.take_length]
 have h:=le_ascii s hs hn s.size 0 (by omega)
 have h2:Ev (fun k=>le_Scan.f k s) ([(⟨1,s.extract 0 s.size,0⟩:S110),(⟨0,⟨#[]⟩,(s.size:Int)⟩:S110)],0,0):=by
  refine evS (fun k=>by rw [le_Scan.f]) ?_
  exact Ev.neg (by omega) h
 refine evS (fun k=>by rw [pa_named.f]) ?_
 refine Ev.bind h2 (Ev.pos rfl (Ev.pos rfl (Ev.pos (by show(0:Int)<2;decide) (Ev.pos rfl (Ev.const ?_)))))
 show some ((s.extract 0 s.size).toList==s.toList)=some true
 rw [hex,beq_self_eq_true]
theorem namedA(s:ByteArray):Ev (fun k=>pa_named.f k s) (decide (s.size≤65536)&&nmB s):=by
 obtain⟨b,hb,ht⟩:=named_ev s
 by_cases h:s.size≤65536∧nmB s=true
 ·rw [decide_eq_true h.1,h.2]
  exact named_true s h.1 h.2
 ·have hbf:b=false:=by
   cases b with
   | false=>rfl
   | true=>exact absurd (ht rfl) h
  subst hbf
  have:(decide (s.size≤65536)&&nmB s)=false:=by
   rw [Bool.eq_false_iff]
   intro h2
   obtain⟨h3,h4⟩:=Bool.and_eq_true_iff.1 h2
   exact h ⟨of_decide_eq_true h3,h4⟩
  rw [this]
  exact hb
end Go.Proofs.YtahdjajdaggmjaaGreatDoor.XPd
set_option linter.unusedVariables false
set_option linter.unusedSimpArgs false
namespace Go.Proofs.YtahdjajdaggmjaaGreatDoor.XPd
open Go.RowKit Go.Proofs.YtahdjajdaggmjaaGreatDoorW.PrintWords Go.Proofs.YtahdjajdaggmjaaGreatDoorW.PrintLast Go.Proofs.YtahdjajdaggmjaaGreatDoorW.PrintMore
theorem bt_nat(s:ByteArray)(i:Nat)(h:i<s.size):bt s (i:Int)=(s[i].toNat:Int):=by
 have:=bt_at s (i:Int) (by rw [Int.toNat_natCast];exact h)
 rw [←this]
 simp only [Int.toNat_natCast]
theorem r_letter(c:UInt8):r06letter.f (c.toNat:Int)=some (letB c):=by
 unfold r06letter.f letB
 have:=c.toNat_lt
 repeat' split
 all_goals (congr 1;rw [Bool.eq_iff_iff];simp only [Bool.or_eq_true,Bool.and_eq_true,decide_eq_true_eq,beq_iff_eq,true_iff,false_iff,Bool.false_eq_true];omega)
theorem r_digit(c:UInt8):r06digit.f (c.toNat:Int)=some (digB c):=by
 unfold r06digit.f digB
 repeat' split
 all_goals (congr 1;rw [Bool.eq_iff_iff];simp only [Bool.or_eq_true,Bool.and_eq_true,decide_eq_true_eq,beq_iff_eq,true_iff,false_iff,Bool.false_eq_true];omega)
theorem r_blank(c:UInt8):∃b,r06blank.f (c.toNat:Int)=some b∧(b=true→c.toNat≤32):=by
 unfold r06blank.f
 repeat' split
 ·exact⟨true,rfl,fun _=>by omega⟩
 ·exact⟨true,rfl,fun _=>by omega⟩
 ·exact⟨true,rfl,fun _=>by omega⟩
 ·exact⟨_,rfl,fun h=>by have:=of_decide_eq_true h;omega⟩
theorem r_sign0(s x6:ByteArray)(i:Nat)(hi:i<s.size)(h6:x6.size≤100):∀(n j:Nat),j+n=x6.size→∃b:Nat,Ev (fun k=>r06sign.l0 k s (i:Int) x6 (j:Int)) (b:Int)∧b≤1:=by
 intro n
 induction n with
 | zero =>
  intro j hj
  refine⟨0, ?_,by omega⟩
  refine evU (fun k=>by rw [r06sign.l0]) ?_
  exact Ev.neg (by omega) (Ev.now _)
 | succ n ih =>
  intro j hj
  by_cases h:bt s (i:Int)=bt x6 (j:Int)
  ·refine⟨1, ?_,by omega⟩
   refine evU (fun k=>by rw [r06sign.l0]) ?_
   exact Ev.pos (by omega) (Ev.pos (by omega) (Ev.pos (by omega) (Ev.pos (by omega) (Ev.pos h (Ev.now _)))))
  ·obtain⟨b,hb,hb1⟩:=ih (j+1) (by omega)
   refine⟨b, ?_,hb1⟩
   refine evU (fun k=>by rw [r06sign.l0]) ?_
   refine Ev.pos (by omega) (Ev.pos (by omega) (Ev.pos (by omega) (Ev.pos (by omega) (Ev.neg h ?_))))
   rw [wsucc j (by omega)]
   exact hb
theorem r_sign(s:ByteArray)(hs:s.size≤65536)(i:Nat)(hi:i<s.size):∃b:Nat,Ev (fun k=>r06sign.f k s (i:Int)) (b:Int)∧b≤2∧i+b≤s.size:=by
 obtain⟨b,hb,hb1⟩:∃b:Nat,Ev (fun k=>r06sign.j0 k s (i:Int)) (b:Int)∧b≤1:=by
  obtain⟨b,hb,h1⟩:=r_sign0 s (⟨#[40,41,91,93,44,46,58,59,61,92,60,62,64,126,42,48,49]⟩:ByteArray) i hi (by decide) 17 0 (by decide)
  refine⟨b, ?_,h1⟩
  refine evU (fun k=>by rw [r06sign.j0]) ?_
  exact hb
 have w1:=wsucc i (by omega)
 have w2:wrap64 ((i:Int)+2)=((i+2:Nat):Int):=wadd i 2 (by omega)
 by_cases h:i+1<s.size
 ·by_cases h1:(s.extract (i:Int).toNat (((i+2:Nat):Int)).toNat).toList=([45,62]:List UInt8)
  ·refine⟨2, ?_,by omega,by omega⟩
   refine evS (fun k=>by rw [r06sign.f]) ?_
   rw [w1,w2]
   exact Ev.pos (by omega) (Ev.pos (by omega) (Ev.pos (by omega) (Ev.pos (by omega) (Ev.pos h1 (Ev.now _)))))
  ·by_cases h2:(s.extract (i:Int).toNat (((i+2:Nat):Int)).toNat).toList=([47,92]:List UInt8)
   ·refine⟨2, ?_,by omega,by omega⟩
    refine evS (fun k=>by rw [r06sign.f]) ?_
    rw [w1,w2]
    exact Ev.pos (by omega) (Ev.pos (by omega) (Ev.pos (by omega) (Ev.pos (by omega) (Ev.neg h1 (Ev.pos h2 (Ev.now _))))))
   ·by_cases h3:(s.extract (i:Int).toNat (((i+2:Nat):Int)).toNat).toList=([92,47]:List UInt8)
    ·refine⟨2, ?_,by omega,by omega⟩
     refine evS (fun k=>by rw [r06sign.f]) ?_
     rw [w1,w2]
     exact Ev.pos (by omega) (Ev.pos (by omega) (Ev.pos (by omega) (Ev.pos (by omega) (Ev.neg h1 (Ev.neg h2 (Ev.pos h3 (Ev.now _)))))))
    ·refine⟨b, ?_,by omega,by omega⟩
     refine evS (fun k=>by rw [r06sign.f]) ?_
     rw [w1,w2]
     exact Ev.pos (by omega) (Ev.pos (by omega) (Ev.pos (by omega) (Ev.pos (by omega) (Ev.neg h1 (Ev.neg h2 (Ev.neg h3 hb))))))
 ·refine⟨b, ?_,by omega,by omega⟩
  refine evS (fun k=>by rw [r06sign.f]) ?_
  rw [w1]
  exact Ev.neg (by omega) hb
def GoodR(l:List S98):Prop:=∀t∈l,t.f0=1→nmB t.f1=true
def cutB(s:ByteArray)(i j:Nat):List UInt8:=(s.data.toList.drop i).take (j-i)
theorem cut_data(s:ByteArray)(i j:Nat):(s.extract i j).data.toList=cutB s i j:=Lib.extract_data s i j
theorem cut_step(s:ByteArray)(i j:Nat)(hij:i≤j)(hj:j<s.size):cutB s i (j+1)=cutB s i j++[s[j]]:=by
 unfold cutB
 have h1:j-i<(s.data.toList.drop i).length:=by rw [List.length_drop,←Lib.size_eq];omega
 have h2:(s.data.toList.drop i)[j-i]=s[j]:=by
  rw [List.getElem_drop]
  have:i+(j-i)=j:=by omega
  simp only [this]
  rfl
 rw [show j+1-i=(j-i)+1 by omega,List.take_succ_eq_append_getElem h1,h2]
theorem nmL_snoc{l:List UInt8}{c:UInt8}(h:nmL l=true)(hc:alnB c=true):nmL (l++[c])=true:=by
 cases l with
 | nil=>cases h
 | cons a t =>
  rw [nmL_cons] at h
  obtain⟨h1,h2⟩:=Bool.and_eq_true_iff.1 h
  rw [List.cons_append,nmL_cons,h1,List.all_append,h2,List.all_cons,hc]
  rfl
def ScanOk(F:Nat→Option (List S98×Int×Int)):Prop:=∃r,Ev F r∧(r.2.2=0→GoodR r.1)
theorem ScanOk.up{F G:Nat→Option (List S98×Int×Int)}(h:ScanOk G)(hs:∀k,F (k+1)=G k):ScanOk F:=by
 obtain⟨r,hr,hg⟩:=h
 exact⟨r,Ev.up hr hs,hg⟩
theorem ScanOk.pos{p:Prop}[Decidable p]{F G:Nat→Option (List S98×Int×Int)}(h:p)(g:ScanOk F):ScanOk (fun k=>if p then F k else G k):=by
 simp only [if_pos h]
 exact g
theorem ScanOk.neg{p:Prop}[Decidable p]{F G:Nat→Option (List S98×Int×Int)}(h:¬p)(g:ScanOk G):ScanOk (fun k=>if p then F k else G k):=by
 simp only [if_neg h]
 exact g
theorem ScanOk.bind{β:Type}{F:Nat→Option β}{G:β→Nat→Option (List S98×Int×Int)}{a:β}(h:Ev F a)(g:ScanOk (G a)):ScanOk (fun k=>(F k).bind fun x=>G x k):=by
 obtain⟨r,hr,hg⟩:=g
 exact⟨r,Ev.bind h hr,hg⟩
theorem ScanOk.bindc{β:Type}{o:Option β}{G:β→Nat→Option (List S98×Int×Int)}{a:β}(h:o=some a)(g:ScanOk (G a)):ScanOk (fun k=>o.bind fun x=>G x k):=by
 subst h
 exact g
theorem ScanOk.err(i c:Int)(h:c≠0):ScanOk (fun _=>some (([]:List S98),i,c)):=⟨_,Ev.now _,fun h2=>absurd h2 h⟩
theorem GoodR.snoc{l:List S98}{t:S98}(h:GoodR l)(ht:t.f0=1→nmB t.f1=true):GoodR (l++[t]):=by
 intro x hx
 rcases List.mem_append.1 hx with hx | hx
 ·exact h x hx
 ·obtain rfl:=List.mem_singleton.1 hx
  exact ht
theorem scan_end(s:ByteArray)(hs:s.size≤65536)(i:Nat)(hi:s.size≤i)(toks:List S98)(hl:toks.length≤100000)(hg:GoodR toks):ScanOk (fun k=>r06Scan.l0 k s toks (i:Int)):=by
 refine⟨(toks++[(⟨0,(⟨#[]⟩:ByteArray),(s.size:Int)⟩:S98)],0,0), ?_,fun _=>hg.snoc (fun h=>absurd (show(0:Int)=1 from h) (by decide))⟩
 refine evU (fun k=>by rw [r06Scan.l0]) ?_
 exact Ev.neg (by omega) (Ev.pos (by omega) (Ev.now _))
theorem scan_ok(s:ByteArray)(hs:s.size≤65536):∀(n i:Nat) (toks:List S98),s.size≤i+n→i≤s.size→toks.length≤i→GoodR toks→ScanOk (fun k=>r06Scan.l0 k s toks (i:Int)):=by
 intro n
 induction n with
 | zero=>exact fun i toks hi _ hl hg=>scan_end s hs i (by omega) toks (by omega) hg
 | succ n ih =>
  intro i toks hi his hl hg
  by_cases h:i<s.size
  ·have hbt:=bt_nat s i h
   have hl1:∀(m j:Nat),j+m=s.size→i<j→ScanOk (fun k=>r06Scan.l1 k s toks (j:Int)):=by
    intro m
    induction m with
    | zero =>
     intro j hj hij
     (refine ScanOk.up (G:=?_) ?_ ?_;rotate_right 1;(focus (intro k;rw [r06Scan.l1])))
     exact ScanOk.neg (by omega) (ih j toks (by omega) (by omega) (by omega) hg)
    | succ m ihm =>
     intro j hj hij
     (refine ScanOk.up (G:=?_) ?_ ?_;rotate_right 1;(focus (intro k;rw [r06Scan.l1])))
     refine ScanOk.pos (by omega) (ScanOk.pos (by omega) ?_)
     by_cases h10:bt s (j:Int)=10
     ·exact ScanOk.pos h10 (ih j toks (by omega) (by omega) (by omega) hg)
     ·refine ScanOk.neg h10 ?_
      rw [wsucc j (by omega)]
      exact ihm (j+1) (by omega) (by omega)
   have hl2e:∀(j:Nat),i<j→j≤s.size→nmL (cutB s i j)=true→ScanOk (fun k=>if (j:Int)=(i:Int) then(some (([]:List S98),(i:Int),61)) else(if 0≤(i:Int) then(if (i:Int)≤(j:Int) then(if (j:Int)≤(s.size:Int) then(if toks.length<4398046511104 then(r06Scan.l0 k s (toks++[(⟨1,s.extract (i:Int).toNat (j:Int).toNat,(i:Int)⟩:S98)]) (j:Int)) else(none)) else(none)) else(none)) else(none))):=by
    intro j hij hjs hc
    refine ScanOk.neg (by omega) (ScanOk.pos (by omega) (ScanOk.pos (by omega) (ScanOk.pos (by omega) (ScanOk.pos (by omega) ?_))))
    refine ih j _ (by omega) hjs (by rw [List.length_append,List.length_singleton];omega) (hg.snoc fun _=>?_)
    show nmL (s.extract i j).data.toList=true
    rw [cut_data]
    exact hc
   have hl2:∀(m j:Nat),j+m=s.size→i<j→nmL (cutB s i j)=true→ScanOk (fun k=>r06Scan.l2 k s toks (i:Int) (j:Int) 1):=by
    intro m
    induction m with
    | zero =>
     intro j hj hij hc
     (refine ScanOk.up (G:=?_) ?_ ?_;rotate_right 1;(focus (intro k;rw [r06Scan.l2])))
     exact ScanOk.neg (by omega) (hl2e j hij (by omega) hc)
    | succ m ihm =>
     intro j hj hij hc
     have hjs:j<s.size:=by omega
     (refine ScanOk.up (G:=?_) ?_ ?_;rotate_right 1;(focus (intro k;rw [r06Scan.l2])))
     refine ScanOk.pos (by omega) (ScanOk.pos (by omega) ?_)
     rw [bt_nat s j hjs,r_letter]
     refine ScanOk.bindc rfl ?_
     rw [r_digit,wsucc j (by omega)]
     cases hL:letB s[j] with
     | true =>
      refine ScanOk.pos rfl (ihm (j+1) (by omega) (by omega) ?_)
      rw [cut_step s i j (by omega) hjs]
      exact nmL_snoc hc (by unfold alnB;rw [hL];rfl)
     | false =>
      refine ScanOk.neg Bool.false_ne_true (ScanOk.bindc rfl ?_)
      cases hD:digB s[j] with
      | true =>
       refine ScanOk.pos rfl (ihm (j+1) (by omega) (by omega) ?_)
       rw [cut_step s i j (by omega) hjs]
       exact nmL_snoc hc (by unfold alnB;rw [hL,hD];rfl)
      | false=>exact ScanOk.neg Bool.false_ne_true (hl2e j hij (by omega) hc)
   have hj1f:ScanOk (fun k=>r06Scan.j1 k s toks (i:Int) false):=by
    obtain⟨b,hb,hb2,hbs⟩:=r_sign s hs i h
    (refine ScanOk.up (G:=?_) ?_ ?_;rotate_right 1;(focus (intro k;rw [r06Scan.j1])))
    refine ScanOk.neg Bool.false_ne_true (ScanOk.pos (by omega) (ScanOk.pos (by omega) ?_))
    rw [hbt,r_letter]
    refine ScanOk.bindc rfl ?_
    cases hL:letB s[i] with
    | true =>
     refine ScanOk.pos rfl ?_
     (refine ScanOk.up (G:=?_) ?_ ?_;rotate_right 1;(focus (intro k;rw [r06Scan.l2])))
     refine ScanOk.pos (by omega) (ScanOk.pos (by omega) ?_)
     rw [hbt,r_letter,hL]
     refine ScanOk.bindc rfl (ScanOk.pos rfl ?_)
     rw [wsucc i (by omega)]
     refine hl2 (s.size-(i+1)) (i+1) (by omega) (by omega) ?_
     rw [cut_step s i i (Nat.le_refl _) h]
     show nmL ((s.data.toList.drop i).take (i-i)++[s[i]])=true
     rw [Nat.sub_self,List.take_zero,List.nil_append,nmL_cons,hL]
     rfl
    | false =>
     refine ScanOk.neg Bool.false_ne_true (ScanOk.bind hb ?_)
     rw [wadd i b (by omega)]
     by_cases hb0:b=0
     ·exact ScanOk.pos (by omega) (ScanOk.err _ _ (by decide))
     ·refine ScanOk.neg (by omega) (ScanOk.pos (by omega) (ScanOk.pos (by omega) (ScanOk.pos (by omega) ?_)))
      exact ih (i+b) _ (by omega) (by omega) (by rw [List.length_append,List.length_singleton];omega) (hg.snoc fun h=>absurd (show(2:Int)=1 from h) (by decide))
   have hj1t:bt s (i:Int)=45→ScanOk (fun k=>r06Scan.j1 k s toks (i:Int) true):=by
    intro h45
    (refine ScanOk.up (G:=?_) ?_ ?_;rotate_right 1;(focus (intro k;rw [r06Scan.j1])))
    refine ScanOk.pos rfl ?_
    (refine ScanOk.up (G:=?_) ?_ ?_;rotate_right 1;(focus (intro k;rw [r06Scan.l1])))
    refine ScanOk.pos (by omega) (ScanOk.pos (by omega) (ScanOk.neg (by omega) ?_))
    rw [wsucc i (by omega)]
    exact hl1 (s.size-(i+1)) (i+1) (by omega) (by omega)
   obtain⟨bl,hbl,_⟩:=r_blank s[i]
   (refine ScanOk.up (G:=?_) ?_ ?_;rotate_right 1;(focus (intro k;rw [r06Scan.l0])))
   refine ScanOk.pos (by omega) (ScanOk.pos (by omega) ?_)
   rw [wsucc i (by omega),hbt,hbl]
   refine ScanOk.bindc rfl ?_
   cases bl with
   | true=>exact ScanOk.pos rfl (ih (i+1) toks (by omega) (by omega) (by omega) hg)
   | false =>
    refine ScanOk.neg Bool.false_ne_true ?_
    by_cases h45:(s[i].toNat:Int)=45
    ·refine ScanOk.pos h45 ?_
     by_cases h2:i+1<s.size
     ·refine ScanOk.pos (by omega) (ScanOk.pos (by omega) ?_)
      cases hb2:(bt s ((i+1:Nat):Int))==45 with
      | true=>exact hj1t (hbt.trans h45)
      | false=>exact hj1f
     ·exact ScanOk.neg (by omega) hj1f
    ·exact ScanOk.neg h45 hj1f
  ·exact scan_end s hs i (by omega) toks (by omega) hg
theorem Named_ev(s:ByteArray):∃b,Ev (fun k=>r08Named.f k s) b∧(b=true→s.size≤65536∧nmB s=true):=by
 obtain⟨r,hr,hg⟩:∃r,Ev (fun k=>r06Scan.f k s) r∧(r.2.2=0→s.size≤65536∧GoodR r.1):=by
  by_cases h:s.size≤65536
  ·have hu:r06Utf.f s=some (utfN s.size s.data.toList 0):=by
    unfold r06Utf.f
    rw [if_pos (by omega)]
   by_cases h1:utfN s.size s.data.toList 0≥0
   ·refine⟨([],utfN s.size s.data.toList 0,60), ?_,fun h=>absurd (show(60:Int)=0 from h) (by decide)⟩
    refine evS (fun k=>by rw [r06Scan.f]) ?_
    exact Ev.neg (by omega) (Ev.bindc hu (Ev.pos h1 (Ev.now _)))
   ·obtain⟨r,hr,hg⟩:=scan_ok s h s.size 0 [] (by omega) (by omega) (by simp) (fun t ht=>by cases ht)
    refine⟨r, ?_,fun h2=>⟨h,hg h2⟩⟩
    refine evS (fun k=>by rw [r06Scan.f]) ?_
    exact Ev.neg (by omega) (Ev.bindc hu (Ev.neg h1 hr))
  ·refine⟨([],0,3), ?_,fun h=>absurd (show(3:Int)=0 from h) (by decide)⟩
   refine evS (fun k=>by rw [r06Scan.f]) ?_
   exact Ev.pos (by omega) (Ev.now _)
 by_cases h0:r.2.2=0
 ·by_cases h1:(r.1.length:Int)=2
  ·by_cases h2:(rd_T98 r.1 0).f0=1
   ·refine⟨(rd_T98 r.1 0).f1.toList==s.toList, ?_,fun hb=>?_⟩
    ·refine evS (fun k=>by rw [r08Named.f]) ?_
     exact Ev.bind hr (Ev.pos h0 (Ev.pos h1 (Ev.pos (by omega) (Ev.pos h2 (Ev.now _)))))
    ·obtain⟨h3,h4⟩:=hg h0
     refine⟨h3,nmB_congr hb (h4 _ ?_ h2)⟩
     unfold rd_T98
     rw [List.getD_eq_getElem?_getD,List.getElem?_eq_getElem (by omega)]
     exact List.getElem_mem _
   ·refine⟨false, ?_,fun h=>by cases h⟩
    refine evS (fun k=>by rw [r08Named.f]) ?_
    exact Ev.bind hr (Ev.pos h0 (Ev.pos h1 (Ev.pos (by omega) (Ev.neg h2 (Ev.now _)))))
  ·refine⟨false, ?_,fun h=>by cases h⟩
   refine evS (fun k=>by rw [r08Named.f]) ?_
   exact Ev.bind hr (Ev.pos h0 (Ev.neg h1 (Ev.now _)))
 ·refine⟨false, ?_,fun h=>by cases h⟩
  refine evS (fun k=>by rw [r08Named.f]) ?_
  exact Ev.bind hr (Ev.neg h0 (Ev.now _))
theorem utf_ascii:∀(m:Nat) (l:List UInt8) (i:Nat),(∀x∈l,x.toNat<128)→utfN m l i = -1
 | _,[],_,_=>by simp only [utfN]
 | 0,_ :: _,_,_=>by simp only [utfN]
 | m+1,c :: t,i,h=>by
  have hc:=h c List.mem_cons_self
  have hm:moreN c.toNat=some (0,0):=by unfold moreN;rw [if_pos hc]
  have ht:∀r,tails 0 t r=some r:=fun r=>by unfold tails;rfl
  simp only [utfN,hm,ht]
  have h128:(headTab.getD 0 0).toNat=128:=rfl
  rw [if_neg (Nat.not_lt_zero _),if_neg (by rw [h128];omega)]
  exact utf_ascii m _ _ fun x hx=>h x (List.mem_cons_of_mem _ (by rwa [List.drop_zero] at hx))
theorem Named_true(s:ByteArray)(hs:s.size≤65536)(hn:nmB s=true):Ev (fun k=>r08Named.f k s) true:=by
 obtain⟨hl1,hl2⟩:=nmL_len hn
 have hall:=nmL_all hn
 rw [←Lib.size_eq] at hl1 hl2
 have hex:s.extract 0 s.size=s:=by
  apply ByteArray.ext
  apply Array.toList_inj.1
  rw [Lib.extract_data,List.drop_zero,Nat.sub_zero,Lib.size_eq,List.take_length]
 have hal:∀(i:Nat) (h:i<s.size),alnB s[i]=true:=fun i h=>hall _ (List.mem_of_mem_drop (i:=i) (by rw [drop_bt s i h];exact List.mem_cons_self))
 have hb0:=bt_nat s 0 hl2
 have hlet:letB s[0]=true:=by
  have h0:=drop_bt s 0 hl2
  rw [List.drop_zero] at h0
  unfold nmB at hn
  rw [h0,nmL_cons] at hn
  exact(Bool.and_eq_true_iff.1 hn).1
 have hend:Ev (fun k=>r06Scan.l0 k s ([(⟨1,s.extract (0:Int).toNat (s.size:Int).toNat,0⟩:S98)]) (s.size:Int)) ([(⟨1,s,0⟩:S98),(⟨0,⟨#[]⟩,(s.size:Int)⟩:S98)],0,0):=by
  rw [show s.extract (0:Int).toNat (s.size:Int).toNat=s from hex]
  refine evU (fun k=>by rw [r06Scan.l0]) ?_
  exact Ev.neg (by omega) (Ev.pos (by show 1<4398046511104;decide) (Ev.now _))
 have hl2':∀(m j:Nat),j+m=s.size→0<j→Ev (fun k=>r06Scan.l2 k s [] 0 (j:Int) 1) ([(⟨1,s,0⟩:S98),(⟨0,⟨#[]⟩,(s.size:Int)⟩:S98)],0,0):=by
  intro m
  induction m with
  | zero =>
   intro j hj h0
   obtain rfl:j=s.size:=by omega
   refine evU (fun k=>by rw [r06Scan.l2]) ?_
   exact Ev.neg (by omega) (Ev.neg (by omega) (Ev.pos (by omega) (Ev.pos (by omega) (Ev.pos (by omega) (Ev.pos (by show 0<4398046511104;decide) hend)))))
  | succ m ihm =>
   intro j hj h0
   have hjs:j<s.size:=by omega
   have ha:=hal j hjs
   unfold alnB at ha
   refine evU (fun k=>by rw [r06Scan.l2]) ?_
   refine Ev.pos (by omega) (Ev.pos (by omega) ?_)
   rw [bt_nat s j hjs,r_letter]
   refine Ev.bindc rfl ?_
   rw [r_digit,wsucc j (by omega)]
   cases hL:letB s[j] with
   | true=>exact Ev.pos rfl (ihm (j+1) (by omega) (by omega))
   | false =>
    rw [hL,Bool.false_or] at ha
    rw [ha]
    exact Ev.neg Bool.false_ne_true (Ev.bindc rfl (Ev.pos rfl (ihm (j+1) (by omega) (by omega))))
 obtain⟨bl,hbl,hbl2⟩:=r_blank s[0]
 have h0:=aln_lt (hal 0 hl2)
 have hblf:bl=false:=by
  cases bl with
  | false=>rfl
  | true =>
   exfalso
   have:=hal 0 hl2
   have h3:=hbl2 rfl
   unfold alnB letB digB at this
   simp only [Bool.or_eq_true,Bool.and_eq_true,decide_eq_true_eq,beq_iff_eq] at this
   omega
 subst hblf
 have hb0':bt s (0:Int)=(s[0].toNat:Int):=hb0
 have h2:Ev (fun k=>r06Scan.f k s) ([(⟨1,s,0⟩:S98),(⟨0,⟨#[]⟩,(s.size:Int)⟩:S98)],0,0):=by
  have hu:r06Utf.f s=some (-1):=by
   unfold r06Utf.f
   rw [if_pos (by omega),utf_ascii _ _ _ fun x hx=>(aln_lt (hall x hx)).1]
  refine evS (fun k=>by rw [r06Scan.f]) ?_
  refine Ev.neg (by omega) (Ev.bindc hu (Ev.neg (by decide) ?_))
  refine evU (fun k=>by rw [r06Scan.l0]) ?_
  refine Ev.pos (by omega) (Ev.pos (by omega) ?_)
  rw [hb0',hbl]
  refine Ev.bindc rfl (Ev.neg Bool.false_ne_true (Ev.neg (by omega) ?_))
  refine evU (fun k=>by rw [r06Scan.j1]) ?_
  refine Ev.neg Bool.false_ne_true (Ev.pos (by omega) (Ev.pos (by omega) ?_))
  rw [hb0',r_letter,hlet]
  refine Ev.bindc rfl (Ev.pos rfl ?_)
  refine evU (fun k=>by rw [r06Scan.l2]) ?_
  refine Ev.pos (by omega) (Ev.pos (by omega) ?_)
  rw [hb0',r_letter,hlet]
  rw [show wrap64 ((0:Int)+1)=((1:Nat):Int) from wsucc 0 (by omega)]
  exact Ev.bindc rfl (Ev.pos rfl (hl2' (s.size-1) 1 (by omega) (by omega)))
 refine evS (fun k=>by rw [r08Named.f]) ?_
 refine Ev.bind h2 (Ev.pos rfl (Ev.pos rfl (Ev.pos (by show(0:Int)<2;decide) (Ev.pos rfl (Ev.const ?_)))))
 show some (s.toList==s.toList)=some true
 rw [beq_self_eq_true]
theorem NamedA(s:ByteArray):Ev (fun k=>r08Named.f k s) (decide (s.size≤65536)&&nmB s):=by
 obtain⟨b,hb,ht⟩:=Named_ev s
 by_cases h:s.size≤65536∧nmB s=true
 ·rw [decide_eq_true h.1,h.2]
  exact Named_true s h.1 h.2
 ·have hbf:b=false:=by
   cases b with
   | false=>rfl
   | true=>exact absurd (ht rfl) h
  subst hbf
  have:(decide (s.size≤65536)&&nmB s)=false:=by
   rw [Bool.eq_false_iff]
   intro h2
   obtain⟨h3,h4⟩:=Bool.and_eq_true_iff.1 h2
   exact h ⟨of_decide_eq_true h3,h4⟩
  rw [this]
  exact hb
end Go.Proofs.YtahdjajdaggmjaaGreatDoor.XPd
set_option linter.unusedVariables false
set_option linter.unusedSimpArgs false
namespace Go.Proofs.YtahdjajdaggmjaaGreatDoor.XPd
open Go.RowKit Go.Proofs.YtahdjajdaggmjaaGreatDoorW.PrintWords Go.Proofs.YtahdjajdaggmjaaGreatDoorW.PrintLast Go.Proofs.YtahdjajdaggmjaaGreatDoorW.PrintMore
end Go.Proofs.YtahdjajdaggmjaaGreatDoor.XPd
set_option linter.unusedVariables false
set_option linter.unusedSimpArgs false
namespace Go.Proofs.YtahdjajdaggmjaaGreatDoor
open Go.RowKit Go.ChangeShapes Go.WideShapes Go.ChangeAt
open Go.Proofs.YtahdjajdaggmjaaGreatDoor.XPd Go.Proofs.YtahdjajdaggmjaaGreatDoorW.PrintWords
mutual
def bkT:Tm→Nat
 | ⟨_,_,s,r,ks,bs⟩=>7+s.size+3 * r.length+bkL ks+bkB bs
def bkL:List Tm→Nat
 | []=>0
 | t :: r=>bkT t+bkL r
def bkB:List Br→Nat
 | []=>0
 | b :: r=>bkR b+bkB r
def bkR:Br→Nat
 | ⟨f,ks⟩=>3+3 * f.length+bkL ks
end
def cl32(x:Cl):Bool:=decide (0≤x.f0∧x.f0<4294967296∧0≤x.f1∧x.f1<4294967296)
end Go.Proofs.YtahdjajdaggmjaaGreatDoor
namespace Go.Proofs.YtahdjajdaggmjaaGreatDoor.Pure
open Go.RowKit Go.Proofs.YtahdjajdaggmjaaGreatDoor.XPd Go.Proofs.YtahdjajdaggmjaaGreatDoorW.PrintWords Go.Proofs.YtahdjajdaggmjaaGreatDoorW.PrintLast Go.Proofs.YtahdjajdaggmjaaGreatDoorW.PrintMore H
theorem wrap64_small{n:Int}(h1 : -9223372036854775808≤n)(h2:n<9223372036854775808):wrap64 n=n:=by
 unfold wrap64
 omega
theorem u64w(n:Nat)(h:n<18446744073709551616):IntKind.u64.wrap (n:Int)=(n:Int):=by
 rw [IntKind.wrap_u64]
 omega
def LC(l:List C):List S113:=l.map ofC24
theorem LC_len(l:List C):(LC l).length=l.length:=List.length_map ..
theorem rdC(l:List C)(i:Nat)(h:i<l.length):rd_T113 (LC l) (i:Int)=ofC24 l[i]:=by
 unfold rd_T113 LC
 rw [Int.toNat_natCast,List.getD_eq_getElem?_getD,List.getElem?_map,List.getElem?_eq_getElem h]
 rfl
theorem backLC(l:List C):(LC l).map toC24=l:=by
 unfold LC
 rw [List.map_map]
 refine(List.map_congr_left (g:=id) fun c _=>?_).trans (List.map_id _)
 rw [Function.comp_apply,toC_ofC24]
 rfl
theorem okLC{l:List C}(h:l.length≤1000000):okL24 (LC l):=⟨by unfold LC;rw [List.all_map,List.all_eq_true];intro c _;rw [Function.comp_apply,inR_ofC24],by rw [LC_len];exact h⟩
def L(l:List Nat):List Int:=l.map fun i:Nat=>(i:Int)
theorem L_len(l:List Nat):(L l).length=l.length:=List.length_map ..
theorem rd_mid(pre post:List Nat)(a:Nat):rd (L (pre++a :: post)) (pre.length:Int)=(a:Int):=by
 unfold rd L
 simp
theorem same_l0(a b:List C)(hab:a.length=b.length)(hl:a.length<4611686018427387904):∀(d k i:Nat),i+d=a.length→d<k→a.take i=b.take i→r02Same.l0 k (LC a) (LC b) (i:Int)=some (decide (a=b))
 | d,0,_,_,hk,_=>absurd hk (by omega)
 | 0,k+1,i,hi,_,ht=>by
  have e:a=b:=by rw [←List.take_of_length_le (l:=a) (i:=i) (by omega),ht,List.take_of_length_le (by omega)]
  rw [r02Same.l0,if_neg (by rw [LC_len];omega),decide_eq_true e]
 | d+1,k+1,i,hi,hk,ht=>by
  have hia:i<a.length:=by omega
  have hib:i<b.length:=by omega
  have e2:wrap64 ((i:Int)+1)=((i+1:Nat):Int):=by
   unfold wrap64
   omega
  rw [r02Same.l0,if_pos (by rw [LC_len];omega),if_pos (by omega),if_pos (by rw [LC_len];omega),rdC a i hia,rdC b i hib]
  have hq:(!((ofC24 a[i]).f0==(ofC24 b[i]).f0) || !((ofC24 a[i]).f1==(ofC24 b[i]).f1)) = !decide (a[i]=b[i]):=by
   unfold ofC24
   rw [un_beq,un_beq,Bool.eq_iff_iff]
   simp [Prod.ext_iff]
  rw [hq,e2]
  by_cases hc:a[i]=b[i]
  ·rw [if_neg (by simp [hc])]
   refine same_l0 a b hab hl d k (i+1) (by omega) (by omega) ?_
   rw [List.take_succ_eq_append_getElem hia,List.take_succ_eq_append_getElem hib,ht,hc]
  ·rw [if_pos (by simp [hc]),decide_eq_false (fun e=>hc (by subst e;rfl))]
theorem sameL(a b:List C)(k:Nat)(hl:a.length<4611686018427387904)(hk:a.length<k):r02Same.f k (LC a) (LC b)=some (decide (a=b)):=by
 unfold r02Same.f
 rw [LC_len,LC_len]
 by_cases h:a.length=b.length
 ·rw [if_pos (by omega)]
  exact same_l0 a b h hl a.length k 0 (by omega) hk rfl
 ·rw [if_neg (by omega),decide_eq_false (fun e=>h (by rw [e]))]
theorem leastL(l:List C)(h:l.length≤1000000):cl_Least.f (LC l)=some (LC (H.least l).1,(H.least l).2):=by
 unfold cl_Least.f
 rw [if_pos ⟨by unfold LC;rw [List.all_map,List.all_eq_true];intro c _;rw [Function.comp_apply,inR_ofC24],by rw [LC_len];exact h⟩,backLC]
 rfl
theorem equal_l0(a b:List C)(hab:a.length=b.length)(hl:a.length≤1000000):∀(d k i:Nat),i+d=a.length→d<k→a.take i=b.take i→ap_Clause.l0 k (LC a) (LC b) (a.length:Int) (i:Int)=some (decide (a=b))
 | d,0,_,_,hk,_=>absurd hk (by omega)
 | 0,k+1,i,hi,_,ht=>by
  have e:a=b:=by rw [←List.take_of_length_le (l:=a) (i:=i) (by omega),ht,List.take_of_length_le (by omega)]
  rw [ap_Clause.l0,if_neg (by omega),decide_eq_true e]
 | d+1,k+1,i,hi,hk,ht=>by
  have hia:i<a.length:=by omega
  have hib:i<b.length:=by omega
  have e2:wrap64 ((i:Int)+1)=((i+1:Nat):Int):=by
   unfold wrap64
   omega
  rw [ap_Clause.l0,if_pos (by omega),if_pos (by omega),if_pos (by rw [LC_len];omega),if_pos (by rw [LC_len];omega),rdC a i hia,rdC b i hib]
  have hq:(!((ofC24 a[i]).f0==(ofC24 b[i]).f0) || !((ofC24 a[i]).f1==(ofC24 b[i]).f1)) = !decide (a[i]=b[i]):=by
   unfold ofC24
   rw [un_beq,un_beq,Bool.eq_iff_iff]
   simp [Prod.ext_iff]
  rw [hq,e2]
  by_cases hc:a[i]=b[i]
  ·rw [if_neg (by simp [hc])]
   refine equal_l0 a b hab hl d k (i+1) (by omega) (by omega) ?_
   rw [List.take_succ_eq_append_getElem hia,List.take_succ_eq_append_getElem hib,ht,hc]
  ·rw [if_pos (by simp [hc]),decide_eq_false (fun e=>hc (by subst e;rfl))]
theorem equalL(a b:List C)(k:Nat)(hl:a.length≤1000000)(hk:a.length<k):ap_Clause.f k (LC a) (LC b)=some (decide (a=b)):=by
 unfold ap_Clause.f
 rw [LC_len,LC_len]
 by_cases h:a.length=b.length
 ·rw [if_pos (by omega)]
  exact equal_l0 a b h hl a.length k 0 (by omega) hk rfl
 ·rw [if_neg (by omega),decide_eq_false (fun e=>h (by rw [e]))]
theorem least_l64(l:List C):(H.least l).1.length≤64:=by
 rcases H.least_cases l with⟨_,e⟩ | ⟨_,_,e⟩ | ⟨_,h,e⟩
 ·rw [e];simp
 ·rw [e];simp
 ·rw [e]
  show(H.sortC (H.keep l)).length≤64
  rw [H.length_sortC]
  exact h
theorem rightL(f:List C)(k:Nat)(hf:f.length≤1000000)(hk:64<k):fo_Right.f k (LC f)=some (H.right f):=by
 have:=least_l64 f
 unfold fo_Right.f H.right
 rw [leastL f hf,Option.bind_some]
 by_cases he:(H.least f).2=0
 ·rw [if_pos he,equalL _ _ k (by omega) (by omega),Option.bind_some,decide_eq_true he,Bool.true_and]
 ·rw [if_neg he,decide_eq_false he,Bool.false_and]
theorem power_l0(n:Nat)(hn:n≤40):∀(d k i:Nat),i+d=n→d<k→r01power.l0 k (n:Int) ((2 ^ i:Nat):Int) (i:Int)=some ((2 ^ n:Nat):Int)
 | d,0,_,_,hk=>absurd hk (by omega)
 | 0,k+1,i,hi,_=>by
  unfold r01power.l0
  rw [if_neg (by omega),show i=n by omega]
 | d+1,k+1,i,hi,hk=>by
  have hp:2 ^ (i+1)≤2 ^ 40:=Nat.pow_le_pow_right (by omega) (by omega)
  have he:2 ^ (i+1)=2 ^ i * 2:=Nat.pow_succ ..
  have e1:wrap64 (((2 ^ i:Nat):Int) * 2)=((2 ^ (i+1):Nat):Int):=by
   rw [wrap64_small (by omega) (by omega)]
   omega
  have e2:wrap64 ((i:Int)+1)=((i+1:Nat):Int):=by
   rw [wrap64_small (by omega) (by omega)]
   omega
  unfold r01power.l0
  rw [if_pos (by omega),e1,e2]
  exact power_l0 n hn d k (i+1) (by omega) (by omega)
theorem power(n k:Nat)(hn:n≤40)(hk:41≤k):r01power.f k (n:Int)=some ((2 ^ n:Nat):Int):=by
 unfold r01power.f
 exact power_l0 n hn n k 0 (by omega) (by omega)
theorem has(s k:Nat)(i:Int)(hs:s<4294967296)(hk:41≤k):r01Has.f k (s:Int) i=some (decide (0≤i∧i<24)&&s.testBit i.toNat):=by
 unfold r01Has.f
 by_cases h0:i≥0
 ·by_cases h1:i<24
  ·obtain⟨n,rfl⟩:=Int.eq_ofNat_of_zero_le h0
   have hp:0<2 ^ n:=Nat.two_pow_pos n
   have hd:s / 2 ^ n≤s:=Nat.div_le_self ..
   rw [if_pos h0,if_pos h1,power n k (by omega) hk]
   simp only [Option.bind_some]
   rw [if_neg (by omega),wrap64_small (n:=(s:Int)) (by omega) (by omega),←Int.ofNat_tdiv,wrap64_small (Int.le_trans (by decide) (Int.natCast_nonneg _)) (Int.lt_of_le_of_lt (Int.ofNat_le.2 hd) (by omega))]
   rw [show(2:Int)=((2:Nat):Int) from rfl,←Int.ofNat_tmod,Int.toNat_natCast,Nat.testBit_eq_decide_div_mod_eq]
   rw [Option.some.injEq,Bool.eq_iff_iff]
   simp only [beq_iff_eq,Bool.and_eq_true,decide_eq_true_eq]
   omega
  ·rw [if_pos h0,if_neg h1]
   simp [h1]
 ·rw [if_neg h0]
  have:¬0≤i:=h0
  simp [this]
theorem list_l0(s:Nat)(hs:s<4294967296):∀(d k i:Nat),i+d=24→d+41≤k →
  r01List.l0 k (s:Int) (L ((List.range i).filter fun j=>s.testBit j)) (i:Int)=some (L (dimsN s))
 | d,0,_,_,hk=>absurd hk (by omega)
 | 0,k+1,i,hi,_=>by
  obtain rfl:i=24:=by omega
  unfold r01List.l0
  rw [if_neg (by omega)]
  rfl
 | d+1,k+1,i,hi,hk=>by
  have e2:wrap64 ((i:Int)+1)=((i+1:Nat):Int):=by
   rw [wrap64_small (by omega) (by omega)]
   omega
  have hl:((List.range i).filter fun j=>s.testBit j).length≤i:=by
   have:=List.length_filter_le (fun j=>s.testBit j) (List.range i)
   rwa [List.length_range] at this
  have ih:=list_l0 s hs d k (i+1) (by omega) (by omega)
  rw [List.range_succ,List.filter_append] at ih
  unfold r01List.l0
  rw [if_pos (by omega),has s k i hs (by omega)]
  simp only [Option.bind_some]
  rw [Int.toNat_natCast,show decide (0≤(i:Int)∧(i:Int)<24)=true from decide_eq_true (by omega),Bool.true_and,e2]
  by_cases hb:s.testBit i=true
  ·rw [if_pos hb,if_pos (by rw [L_len];omega)]
   rw [show L ((List.range i).filter fun j=>s.testBit j)++[(i:Int)]=L (((List.range i).filter fun j=>s.testBit j)++[i].filter fun j=>s.testBit j) by simp [L,hb]]
   exact ih
  ·rw [if_neg hb]
   rw [show L ((List.range i).filter fun j=>s.testBit j)=L (((List.range i).filter fun j=>s.testBit j)++[i].filter fun j=>s.testBit j) by simp [hb]]
   exact ih
theorem list(s k:Nat)(hs:s<4294967296)(hk:65≤k):r01List.f k (s:Int)=some (L (dimsN s)):=by
 unfold r01List.f
 exact list_l0 s hs 24 k 0 (by omega) (by omega)
theorem set_l0(l:List Nat)(hl:l.length≤25)(hb:∀x∈l,x<24):∀(post pre:List Nat) (k:Nat),pre++post=l→post.length+41<k →
  r01Set.l0 k (L l) ((sumPow pre:Nat):Int) (pre.length:Int)=some ((sumPow l:Nat):Int)
 | _,_,0,_,hk=>absurd hk (by omega)
 | [],pre,k+1,he,_=>by
  rw [List.append_nil] at he
  subst he
  have:=sumPow_le (l:=pre) 23 fun x hx=>by have:=hb x hx;omega
  have h2:pre.length * 2 ^ 23≤25 * 2 ^ 23:=Nat.mul_le_mul_right _ hl
  unfold r01Set.l0
  rw [if_neg (by rw [L_len];omega),Int.emod_eq_of_lt (by omega) (by omega)]
 | a :: post,pre,k+1,he,hk=>by
  subst he
  have ha:a<24:=hb a (by simp)
  rw [List.length_append,List.length_cons] at hl
  rw [List.length_cons] at hk
  have h1:=sumPow_le (l:=pre++[a]) 23 fun x hx=>by
   have:=hb x (by simp at hx ⊢;rcases hx with h | h;exact .inl h;exact .inr (.inl h))
   omega
  rw [List.length_append,List.length_singleton] at h1
  have h2:(pre.length+1) * 2 ^ 23≤25 * 2 ^ 23:=Nat.mul_le_mul_right _ (by omega)
  have h3:sumPow (pre++[a])=sumPow pre+2 ^ a:=by
   rw [sumPow_append]
   simp [sumPow]
  have e1:wrap64 (((sumPow pre:Nat):Int)+((2 ^ a:Nat):Int))=((sumPow (pre++[a]):Nat):Int):=by
   rw [wrap64_small (by omega) (by omega),h3]
   omega
  have e2:wrap64 ((pre.length:Int)+1)=(((pre++[a]).length:Nat):Int):=by
   rw [wrap64_small (by omega) (by omega),List.length_append,List.length_singleton]
   omega
  unfold r01Set.l0
  rw [if_pos (by rw [L_len,List.length_append,List.length_cons];omega),if_pos (by omega),rd_mid,power a k (by omega) (by omega)]
  simp only [Option.bind_some]
  rw [e1,e2]
  have e3:pre++a :: post=(pre++[a])++post:=by simp
  exact set_l0 (pre++a :: post) (by rw [List.length_append,List.length_cons];omega) hb post (pre++[a]) k e3.symm (by omega)
theorem set(l:List Nat)(k:Nat)(hl:l.length≤25)(hb:∀x∈l,x<24)(hk:70≤k):r01Set.f k (L l)=some ((sumPow l:Nat):Int):=by
 unfold r01Set.f
 exact set_l0 l hl hb l [] k rfl (by omega)
theorem r1_lt(x:UInt32):r1 x=decide (x.toNat<16777216):=rfl
theorem clash_l0(p n:Nat)(hp:p<16777216)(hn:n<16777216):∀(d k i:Nat),i+d=24→d+50≤k→(∀j,j<i→(p &&& n).testBit j=false) →
  r02Clash.l0 k (i:Int) (p:Int) (n:Int)=some (decide (p &&& n≠0))
 | d,0,_,_,hk,_=>absurd hk (by omega)
 | 0,k+1,i,hi,_,hb=>by
  obtain rfl:i=24:=by omega
  have h0:p &&& n=0:=by
   apply Nat.eq_of_testBit_eq
   intro j
   rw [Nat.zero_testBit]
   rcases Nat.lt_or_ge j 24 with h | h
   ·exact hb j h
   ·rw [Nat.testBit_and,testBit_high hp h];rfl
  rw [r02Clash.l0,if_neg (by omega),h0]
  rfl
 | d+1,k+1,i,hi,hk,hb=>by
  have e2:wrap64 ((i:Int)+1)=((i+1:Nat):Int):=by
   rw [wrap64_small (by omega) (by omega)]
   omega
  have h1:=has p k (i:Int) (by omega) (by omega)
  have h2:=has n k (i:Int) (by omega) (by omega)
  rw [Int.toNat_natCast,decide_eq_true (by omega),Bool.true_and] at h1 h2
  have ih:(p &&& n).testBit i=false→r02Clash.l0 k ((i+1:Nat):Int) (p:Int) (n:Int)=some (decide (p &&& n≠0)):=fun hf =>
   clash_l0 p n hp hn d k (i+1) (by omega) (by omega) fun j hj=>by
    rcases Nat.lt_or_ge j i with h | h
    ·exact hb j h
    ·rw [show j=i by omega];exact hf
  rw [Nat.testBit_and] at ih
  rw [r02Clash.l0,if_pos (by omega),h1,Option.bind_some,e2]
  cases hpb:p.testBit i
  ·rw [hpb] at ih
   rw [if_neg Bool.false_ne_true]
   exact ih rfl
  ·rw [hpb] at ih
   rw [if_pos rfl,h2,Option.bind_some]
   cases hnb:n.testBit i
   ·rw [hnb] at ih
    rw [if_neg Bool.false_ne_true]
    exact ih rfl
   ·rw [if_pos rfl]
    have:p &&& n≠0:=fun e=>by
     have h3:=Nat.testBit_and p n i
     rw [e,hpb,hnb,Nat.zero_testBit] at h3
     cases h3
    rw [decide_eq_true this]
theorem refclash(c:C)(k:Nat)(hc:ok c=true)(hk:100≤k):r02Clash.f k (un c.1) (un c.2)=some (decide (c.1 &&& c.2≠0)):=by
 unfold ok at hc
 rw [Bool.and_eq_true,r1_lt,r1_lt,decide_eq_true_eq,decide_eq_true_eq] at hc
 unfold r02Clash.f un
 have h:=clash_l0 c.1.toNat c.2.toNat hc.1 hc.2 24 k 0 (by omega) (by omega) (fun j hj=>absurd hj (by omega))
 rw [show((0:Nat):Int)=0 from rfl] at h
 rw [h,Option.some.injEq,decide_eq_decide,ne_eq,ne_eq,←UInt32.toNat_inj,UInt32.toNat_and]
 rfl
theorem refleastL(l:List C)(h:l.length≤1000000):r02Least.f (LC l)=some (LC (least l).1,(least l).2):=by
 unfold r02Least.f
 rw [if_pos (okLC h),backLC,leastR_eq]
 rfl
theorem least_le64(l:List C):(least l).1.length≤64:=by
 rcases least_cases l with⟨_,e⟩ | ⟨_,_,e⟩ | ⟨_,h2,e⟩
 ·rw [e];simp
 ·rw [e];simp
 ·rw [e]
  show(sortC (keep l)).length≤64
  rw [length_sortC]
  exact h2
theorem ref3right(l:List C)(k:Nat)(h:l.length≤1000000)(hk:64<k):r03Right.f k (LC l)=some (H.right l):=by
 have h64:=least_le64 l
 unfold r03Right.f H.right
 rw [refleastL l h,Option.bind_some]
 by_cases he:(least l).2=0
 ·rw [if_pos he,sameL _ _ k (by omega) (by omega),Option.bind_some,decide_eq_true he,Bool.true_and]
 ·rw [if_neg he,decide_eq_false he,Bool.false_and]
theorem ref5right_l0(l:List C)(hok:l.all ok=true)(hl:l.length≤1000000):∀(d k i:Nat),i+d=l.length→d+110<k→(∀x∈l.take i,H.clash x=false)→r05Right.l0 k (LC l) (i:Int)=some (!l.any H.clash)
 | d,0,_,_,hk,_=>absurd hk (by omega)
 | 0,k+1,i,hi,_,ht=>by
  rw [r05Right.l0,if_neg (by rw [LC_len];omega),List.any_eq_false.2]
  ·rfl
  ·intro x hx
   rw [ht x (by rw [List.take_of_length_le (by omega)];exact hx)]
   exact Bool.false_ne_true
 | d+1,k+1,i,hi,hk,ht=>by
  have hil:i<l.length:=by omega
  have e2:wrap64 ((i:Int)+1)=((i+1:Nat):Int):=by
   unfold wrap64
   omega
  have hc:r02Clash.f k (ofC24 l[i]).f0 (ofC24 l[i]).f1=some (H.clash l[i]):=refclash l[i] k (List.all_eq_true.1 hok _ (List.getElem_mem _)) (by omega)
  rw [r05Right.l0,if_pos (by rw [LC_len];omega),if_pos (by omega),rdC l i hil,hc,Option.bind_some,e2]
  cases h1:H.clash l[i]
  ·rw [if_neg (by simp)]
   refine ref5right_l0 l hok hl d k (i+1) (by omega) (by omega) fun x hx=>?_
   rw [List.take_succ_eq_append_getElem hil] at hx
   rcases List.mem_append.1 hx with h | h
   ·exact ht x h
   ·rw [List.mem_singleton.1 h]
    exact h1
  ·rw [if_pos rfl,List.any_eq_true.2 ⟨l[i],List.getElem_mem _,h1⟩]
   rfl
theorem ref5right(l:List C)(k:Nat)(h:l.length≤1000000)(hk:l.length+200<k):r05Right.f k (LC l)=some (faceR l):=by
 unfold r05Right.f faceR
 rw [ref3right l k h (by omega),Option.bind_some]
 cases hr:H.right l
 ·rfl
 ·rw [if_pos rfl,Bool.true_and]
  exact ref5right_l0 l (right_all hr) h l.length k 0 (by omega) (by omega) (by simp)
theorem hasT(x:UInt32)(k i:Nat)(hk:41≤k)(hi:i<24):r01Has.f k (un x) (i:Int)=some (tb x i):=by
 have h:=has x.toNat k (i:Int) (by have:=x.toNat_lt;omega) hk
 rw [decide_eq_true (by omega),Bool.true_and,Int.toNat_natCast] at h
 exact h
theorem withoutT(s:UInt32):ma_Withou.f (un s) (-1)=some (un (s &&& M24)):=by
 unfold ma_Withou.f
 rw [show ma_dimens.f (-1)=some false from rfl,Option.bind_some,if_neg Bool.false_ne_true,show(16777215:Int)=un M24 from rfl,un_and]
theorem dimsT_l0(l:List C)(hl:l.length≤1000000):∀(d k i:Nat) (s:UInt32),i+d=l.length→d<k→fo_Dims.l0 k (un s) (LC l) (l.length:Int) (i:Int)=some (un (((l.drop i).foldl (fun s c=>s ||| (c.1 ||| c.2)) s) &&& M24))
 | d,0,_,_,_,hk=>absurd hk (by omega)
 | 0,k+1,i,s,hi,_=>by
  rw [fo_Dims.l0,if_neg (by omega),withoutT,Option.bind_some,List.drop_eq_nil_of_le (by omega)]
  rfl
 | d+1,k+1,i,s,hi,hk=>by
  have hil:i<l.length:=by omega
  have e2:wrap64 ((i:Int)+1)=((i+1:Nat):Int):=by
   unfold wrap64
   omega
  have e3:Go.bits .or .u32 (un s) (Go.bits .or .u32 (ofC24 l[i]).f0 (ofC24 l[i]).f1)=un (s ||| (l[i].1 ||| l[i].2)):=by
   unfold ofC24
   rw [un_or,un_or]
  rw [fo_Dims.l0,if_pos (by omega),if_pos (by omega),if_pos (by rw [LC_len];omega),rdC l i hil,e3,e2,dimsT_l0 l hl d k (i+1) _ (by omega) (by omega),List.drop_eq_getElem_cons hil,List.foldl_cons]
theorem dimsT(l:List C)(k:Nat)(hl:l.length≤1000000)(hk:l.length<k):fo_Dims.f k (LC l)=some (un (dimsF l)):=by
 unfold fo_Dims.f
 rw [LC_len]
 exact dimsT_l0 l hl l.length k 0 0 (by omega) hk
theorem rdims_l1(f:List C)(hl:f.length≤1000000)(i:Nat)(hi:i<24)(pre:List Nat)(hpre:pre.length≤i)(R:Option Int)(K0:Nat)(hK:50≤K0):∀(d k j:Nat) (b:Bool),j+d=f.length→K0+d<k →
  (∀k',K0≤k'→r03Dims.l0 k' (LC f) (L (if (b||(f.drop j).any fun c=>tb c.1 i||tb c.2 i)=true then pre++[i] else pre)) ((i+1:Nat):Int)=R)→r03Dims.l1 k (LC f) (L pre) (i:Int) b (j:Int)=R
 | d,0,_,_,_,hk,_=>absurd hk (by omega)
 | 0,k+1,j,b,hj,hk,h=>by
  have e2:wrap64 ((i:Int)+1)=((i+1:Nat):Int):=by
   unfold wrap64
   omega
  have h2:=h k (by omega)
  rw [List.drop_eq_nil_of_le (by omega),List.any_nil,Bool.or_false] at h2
  rw [r03Dims.l1,if_neg (by rw [LC_len];omega),e2]
  cases b
  ·rw [if_neg Bool.false_ne_true]
   rw [if_neg Bool.false_ne_true] at h2
   exact h2
  ·rw [if_pos rfl,if_pos (by rw [L_len];omega)]
   rw [if_pos rfl] at h2
   rw [show L pre++[(i:Int)]=L (pre++[i]) by simp [L]]
   exact h2
 | d+1,k+1,j,b,hj,hk,h=>by
  have hjl:j<f.length:=by omega
  have e2:wrap64 ((j:Int)+1)=((j+1:Nat):Int):=by
   unfold wrap64
   omega
  have ih:=fun b' h'=>rdims_l1 f hl i hi pre hpre R K0 hK d k (j+1) b' (by omega) (by omega) h'
  rw [r03Dims.l1,if_pos (by rw [LC_len];omega),e2]
  rw [List.drop_eq_getElem_cons hjl] at h
  cases b
  ·rw [if_neg Bool.false_ne_true,if_pos (by omega),rdC f j hjl]
   show(r01Has.f k (un f[j].1) (i:Int)).bind _=_
   rw [hasT _ k i (by omega) hi,Option.bind_some]
   by_cases h1:tb f[j].1 i=true
   ·rw [if_pos h1]
    refine ih true fun k' hk'=>?_
    have h3:=h k' hk'
    rw [List.any_cons,h1,Bool.true_or,Bool.true_or,Bool.or_true] at h3
    rw [Bool.true_or]
    exact h3
   ·rw [if_neg h1]
    show(r01Has.f k (un f[j].2) (i:Int)).bind _=_
    rw [hasT _ k i (by omega) hi,Option.bind_some]
    refine ih _ fun k' hk'=>?_
    have h3:=h k' hk'
    rw [List.any_cons,show tb f[j].1 i=false by simpa using h1,Bool.false_or,Bool.false_or] at h3
    exact h3
  ·rw [if_pos rfl]
   refine ih true fun k' hk'=>?_
   have h3:=h k' hk'
   rw [Bool.true_or] at h3 ⊢
   exact h3
theorem rdims_l0(f:List C)(hl:f.length≤1000000)(R:Option Int)(h:∀k',90≤k'→r01Set.f k' (L ((List.range 24).filter fun i=>f.any fun c=>tb c.1 i||tb c.2 i))=R):∀(d k i:Nat),i+d=24→100+d * (f.length+5)<k →
  r03Dims.l0 k (LC f) (L ((List.range i).filter fun i=>f.any fun c=>tb c.1 i||tb c.2 i)) (i:Int)=R
 | d,0,_,_,hk=>absurd hk (by omega)
 | 0,k+1,i,hi,hk=>by
  obtain rfl:i=24:=by omega
  rw [r03Dims.l0,if_neg (by omega),h k (by omega)]
  cases R<;>rfl
 | d+1,k+1,i,hi,hk=>by
  have hm:(d+1) * (f.length+5)=d * (f.length+5)+(f.length+5):=Nat.succ_mul ..
  have hlen:((List.range i).filter fun i=>f.any fun c=>tb c.1 i||tb c.2 i).length≤i:=by
   have:=List.length_filter_le (fun i=>f.any fun c=>tb c.1 i||tb c.2 i) (List.range i)
   rwa [List.length_range] at this
  rw [r03Dims.l0,if_pos (by omega)]
  refine rdims_l1 f hl i (by omega) _ hlen R (101+d * (f.length+5)) (by omega) f.length k 0 false (by omega) (by omega) fun k' hk'=>?_
  have ih:=rdims_l0 f hl R h d k' (i+1) (by omega) (by omega)
  rw [List.range_succ,List.filter_append] at ih
  rw [List.drop_zero,Bool.false_or]
  by_cases hb:(f.any fun c=>tb c.1 i||tb c.2 i)=true
  ·rw [if_pos hb]
   rw [show List.filter (fun i=>f.any fun c=>tb c.1 i||tb c.2 i) [i]=[i] by rw [List.filter_cons,if_pos hb];rfl] at ih
   exact ih
  ·rw [if_neg hb]
   rw [show List.filter (fun i=>f.any fun c=>tb c.1 i||tb c.2 i) [i]=[] by rw [List.filter_cons,if_neg hb];rfl,List.append_nil] at ih
   exact ih
theorem refdims(f:List C)(k:Nat)(hl:f.length≤1000000)(hk:300+24 * f.length<k):r03Dims.f k (LC f)=some (un (dimsF f)):=by
 unfold r03Dims.f
 have hr:r1 (dimsF f)=true:=r1_iff.2 fun i hi=>by
  rw [tb_dimsF,Bool.and_eq_true,decide_eq_true_iff] at hi
  exact hi.1
 have hlt:(dimsF f).toNat<16777216:=of_decide_eq_true hr
 have e:((List.range 24).filter fun i=>f.any fun c=>tb c.1 i||tb c.2 i)=dimsN (dimsF f).toNat:=by
  unfold dimsN
  refine List.filter_congr fun i hi=>?_
  have h:=tb_dimsF f i
  rw [decide_eq_true (List.mem_range.1 hi),Bool.true_and] at h
  exact h.symm
 refine rdims_l0 f hl _ (fun k' hk'=>?_) 24 k 0 (by omega) (by omega)
 rw [e,set _ k' (by have:=dimsN_len (dimsF f).toNat;omega) (fun x hx=>(mem_dimsN.1 hx).1) (by have:=dimsN_len (dimsF f).toNat;omega),sumPow_dimsN,Nat.mod_eq_of_lt hlt]
 rfl
end Go.Proofs.YtahdjajdaggmjaaGreatDoor.Pure
namespace Go.Proofs.YtahdjajdaggmjaaGreatDoor.XPd
open Go.RowKit Go.Proofs.YtahdjajdaggmjaaGreatDoor.Pure Go.Proofs.YtahdjajdaggmjaaGreatDoorW.PrintWords Go.Proofs.YtahdjajdaggmjaaGreatDoorW.PrintLast Go.Proofs.YtahdjajdaggmjaaGreatDoorW.PrintMore H
theorem LC_back{l:List S113}(h:l.all inR24=true):LC (l.map toC24)=l:=by
 unfold LC
 rw [List.map_map]
 refine(List.map_congr_left (g:=id) fun c hc=>?_).trans (List.map_id _)
 rw [Function.comp_apply,ofC_toC24 (List.all_eq_true.1 h c hc)]
 rfl
def wiN(l:List C)(d:Int):Bool:=decide ((dimsF l).toNat<2 ^ d.toNat)
theorem dimsF_lt(l:List C):(dimsF l).toNat<16777216:=by
 have hr:r1 (dimsF l)=true:=r1_iff.2 fun i hi=>by
  rw [tb_dimsF,Bool.and_eq_true,decide_eq_true_iff] at hi
  exact hi.1
 exact of_decide_eq_true hr
theorem wiN_great(l:List C){d:Int}(h:24≤d):wiN l d=true:=by
 have h1:=dimsF_lt l
 have h2:2 ^ 24≤2 ^ d.toNat:=Nat.pow_le_pow_right (by omega) (by omega)
 exact decide_eq_true (by omega)
theorem withinE(l:List C)(d:Int)(hl:l.length≤1000000)(hd:0≤d):Ev (fun k=>te_within.f k (LC l) d) (wiN l d):=by
 by_cases h:d≥24
 ·rw [wiN_great l h]
  refine evS (fun k=>by rw [te_within.f]) ?_
  exact Ev.pos h (Ev.now _)
 ·obtain⟨n,rfl⟩:=Int.eq_ofNat_of_zero_le hd
  have e:shr .u32 (un (dimsF l)) (n:Int)=(((dimsF l).toNat / 2 ^ n:Nat):Int):=by
   unfold shr un
   rw [Int.toNat_natCast,Nat.min_eq_left (by show n≤32;omega),Int.natCast_ediv,Int.natCast_pow]
   rfl
  refine⟨l.length+1,fun k hk=>?_⟩
  show te_within.f k (LC l) (n:Int)=_
  unfold te_within.f
  rw [if_neg h,dimsT l k hl (by omega),Option.bind_some,u64w n (by omega),if_pos (by omega),e]
  congr 1
  unfold wiN
  rw [Int.toNat_natCast,Bool.eq_iff_iff,beq_iff_eq,decide_eq_true_iff]
  have hp:0<2 ^ n:=Nat.two_pow_pos n
  have:(dimsF l).toNat / 2 ^ n=0↔(dimsF l).toNat<2 ^ n:=Nat.div_eq_zero_iff_lt hp
  constructor
  ·intro h2
   exact this.1 (by omega)
  ·intro h2
   have:=this.2 h2
   omega
theorem lowE(l:List C)(d:Int)(hl:l.length≤1000000)(hd:0≤d):Ev (fun k=>r10low.f k (LC l) d) (wiN l d):=by
 have hlt:=dimsF_lt l
 have hs:=sumPow_dimsN (dimsF l).toNat
 rw [Nat.mod_eq_of_lt hlt] at hs
 have hlen:=dimsN_len (dimsF l).toNat
 refine⟨400+24 * l.length,fun k hk=>?_⟩
 show r10low.f k (LC l) d=_
 unfold r10low.f
 rw [refdims l k hl (by omega),Option.bind_some,show un (dimsF l)=(((dimsF l).toNat:Nat):Int) from rfl,list _ k (by omega) (by omega),Option.bind_some,L_len]
 by_cases h0:(dimsN (dimsF l).toNat).length=0
 ·rw [if_pos (by omega)]
  rw [List.length_eq_zero_iff.1 h0] at hs
  congr 1
  refine(decide_eq_true ?_).symm
  rw [←hs]
  exact Nat.two_pow_pos _
 ·have hw:wrap64 (((dimsN (dimsF l).toNat).length:Int)-1)=(((dimsN (dimsF l).toNat).length-1:Nat):Int):=by
   unfold wrap64
   omega
  have hi:(dimsN (dimsF l).toNat).length-1<(dimsN (dimsF l).toNat).length:=by omega
  have hrd:rd (L (dimsN (dimsF l).toNat)) (((dimsN (dimsF l).toNat).length-1:Nat):Int)=(((dimsN (dimsF l).toNat)[(dimsN (dimsF l).toNat).length-1]:Nat):Int):=by
   unfold rd L
   rw [Int.toNat_natCast,List.getD_eq_getElem?_getD,List.getElem?_map,List.getElem?_eq_getElem hi]
   rfl
  rw [if_neg (by omega),hw,if_pos (by omega),if_pos (by omega),hrd]
  congr 1
  unfold wiN
  rw [Bool.eq_iff_iff,decide_eq_true_iff,decide_eq_true_iff]
  have hm:=List.getElem_mem hi
  obtain⟨hm1,hm2⟩:=mem_dimsN.1 hm
  have hge:=Nat.ge_two_pow_of_testBit hm2
  constructor
  ·intro h
   refine Nat.lt_pow_two_of_testBit _ fun i hi2=>?_
   rw [Bool.eq_false_iff]
   intro hb
   have h24:i<24:=by
    apply Decidable.byContradiction
    intro hn
    rw [testBit_high (by omega) (by omega)] at hb
    cases hb
   obtain⟨j,hj,he⟩:=List.mem_iff_getElem.1 (mem_dimsN.2 ⟨h24,hb⟩)
   have hasc:=List.pairwise_iff_getElem.1 (dimsN_asc (dimsF l).toNat)
   by_cases hjl:j=(dimsN (dimsF l).toNat).length-1
   ·subst hjl
    omega
   ·have:=hasc j _ hj hi (by omega)
    omega
  ·intro h
   have hlt2:2 ^ (dimsN (dimsF l).toNat)[(dimsN (dimsF l).toNat).length-1]<2 ^ d.toNat:=by omega
   have:=(Nat.pow_lt_pow_iff_right (by omega)).1 hlt2
   omega
theorem rightE(l:List C)(hl:l.length≤1000000):Ev (fun k=>fo_Right.f k (LC l)) (H.right l):=⟨65,fun k hk=>rightL l k hl (by omega)⟩
theorem right3E(l:List C)(hl:l.length≤1000000):Ev (fun k=>r03Right.f k (LC l)) (H.right l):=⟨65,fun k hk=>ref3right l k hl (by omega)⟩
theorem faceE(l:List C)(hl:l.length≤1000000):fa_Right.f (LC l)=some (faceR l):=by
 unfold fa_Right.f
 rw [if_pos (okLC hl),backLC]
theorem face5E(l:List C)(hl:l.length≤1000000):Ev (fun k=>r05Right.f k (LC l)) (faceR l):=⟨l.length+201,fun k hk=>ref5right l k hl (by omega)⟩
end Go.Proofs.YtahdjajdaggmjaaGreatDoor.XPd
set_option linter.unusedVariables false
set_option linter.unusedSimpArgs false
namespace Go.Proofs.YtahdjajdaggmjaaGreatDoor.XPd
open Go.RowKit Go.Proofs.YtahdjajdaggmjaaGreatDoorW.PrintWords Go.Proofs.YtahdjajdaggmjaaGreatDoorW.PrintLast Go.Proofs.YtahdjajdaggmjaaGreatDoorW.PrintMore
theorem ws(a:Nat)(h:a<4000000000):wrap64 ((a:Int)+1)=((a+1:Nat):Int):=by unfold wrap64;omega
theorem letBI{c:UInt8}:letB c=true↔(97≤c.toNat∧c.toNat≤122)∨(65≤c.toNat∧c.toNat≤90)∨c.toNat=95:=by
 unfold letB
 simp only [Bool.or_eq_true,Bool.and_eq_true,decide_eq_true_eq,beq_iff_eq]
 omega
theorem digBI{c:UInt8}:digB c=true↔48≤c.toNat∧c.toNat≤57:=by
 unfold digB
 simp only [Bool.and_eq_true,decide_eq_true_eq]
theorem tname_from(s:ByteArray)(hs:s.size≤2000000):∀(n i:Nat),i+n=s.size→0<i→Ev (fun k=>te_name.l0 k s (s.size:Int) (i:Int)) ((s.data.toList.drop i).all alnB):=by
 intro n
 induction n with
 | zero =>
  intro i hi h0
  rw [drop_end s i (by omega)]
  refine Ev.up (G:=fun _=>some true) (Ev.now _) (fun k=>?_)
  rw [te_name.l0,if_neg (by omega)]
  congr 1
  rw [bne_iff_ne,Lib.toList_data]
  intro h
  rw [Lib.size_eq,h] at hi
  simp at hi
  omega
 | succ n ih =>
  intro i hi h0
  have hil:i<s.size:=by omega
  have hb:=bt_nat s i hil
  have hlt:=s[i].toNat_lt
  rw [drop_bt s i hil,List.all_cons]
  by_cases hL:letB s[i]=true
  ·rw [show alnB s[i]=true by unfold alnB;rw [hL];rfl,Bool.true_and]
   refine Ev.up (ih (i+1) (by omega) (by omega)) (fun k=>?_)
   have h:=letBI.1 hL
   rw [te_name.l0,hb,ws i (by omega)]
   ((repeat' (first | ((with_reducible refine(if_pos ?_).trans ?_);(focus omega)) | ((with_reducible refine(if_neg ?_).trans ?_);(focus omega)) | split))<;>(first | rfl | (exfalso;omega)))
  ·have h:¬((97≤s[i].toNat∧s[i].toNat≤122)∨(65≤s[i].toNat∧s[i].toNat≤90)∨s[i].toNat=95):=fun h=>hL (letBI.2 h)
   by_cases hD:digB s[i]=true
   ·rw [show alnB s[i]=true by unfold alnB;rw [hD];exact Bool.or_true _,Bool.true_and]
    refine Ev.up (ih (i+1) (by omega) (by omega)) (fun k=>?_)
    have h2:=digBI.1 hD
    rw [te_name.l0,hb,ws i (by omega)]
    ((repeat' (first | ((with_reducible refine(if_pos ?_).trans ?_);(focus omega)) | ((with_reducible refine(if_neg ?_).trans ?_);(focus omega)) | split))<;>(first | rfl | (exfalso;omega)))
   ·rw [show alnB s[i]=false by unfold alnB;rw [Bool.eq_false_iff.2 hL,Bool.eq_false_iff.2 hD];rfl,Bool.false_and]
    refine Ev.up (G:=fun _=>some false) (Ev.now _) (fun k=>?_)
    have h2:¬(48≤s[i].toNat∧s[i].toNat≤57):=fun h=>hD (digBI.2 h)
    rw [te_name.l0,hb]
    ((repeat' (first | ((with_reducible refine(if_pos ?_).trans ?_);(focus omega)) | ((with_reducible refine(if_neg ?_).trans ?_);(focus omega)) | split))<;>(first | rfl | (exfalso;omega)))
theorem tname(s:ByteArray)(hs:s.size≤2000000):Ev (fun k=>te_name.f k s) (nmB s):=by
 refine evS (fun k=>by rw [te_name.f]) ?_
 by_cases h0:s.size=0
 ·have he:s.data.toList=[]:=by
   rw [←List.length_eq_zero_iff,←Lib.size_eq]
   exact h0
  refine Ev.up (G:=fun _=>some (nmB s)) (Ev.now _) (fun k=>?_)
  rw [te_name.l0,if_neg (by omega)]
  congr 1
  unfold nmB
  rw [he,Lib.toList_data,he]
  rfl
 ·have hil:0<s.size:=by omega
  have hb:bt s 0=(s[0].toNat:Int):=bt_nat s 0 hil
  have hlt:=s[0].toNat_lt
  have hd:=drop_bt s 0 hil
  rw [List.drop_zero] at hd
  unfold nmB
  rw [hd,nmL_cons]
  by_cases hL:letB s[0]=true
  ·rw [hL,Bool.true_and]
   refine Ev.up (tname_from s hs (s.size-1) 1 (by omega) (by omega)) (fun k=>?_)
   have h:=letBI.1 hL
   rw [te_name.l0,hb,show wrap64 ((0:Int)+1)=((1:Nat):Int) from ws 0 (by omega)]
   ((repeat' (first | ((with_reducible refine(if_pos ?_).trans ?_);(focus omega)) | ((with_reducible refine(if_neg ?_).trans ?_);(focus omega)) | split))<;>(first | rfl | (exfalso;omega)))
  ·have h:¬((97≤s[0].toNat∧s[0].toNat≤122)∨(65≤s[0].toNat∧s[0].toNat≤90)∨s[0].toNat=95):=fun h=>hL (letBI.2 h)
   rw [Bool.eq_false_iff.2 hL,Bool.false_and]
   refine Ev.up (G:=fun _=>some false) (Ev.now _) (fun k=>?_)
   rw [te_name.l0,hb]
   ((repeat' (first | ((with_reducible refine(if_pos ?_).trans ?_);(focus omega)) | ((with_reducible refine(if_neg ?_).trans ?_);(focus omega)) | split))<;>(first | rfl | (exfalso;omega)))
theorem rname_from(s:ByteArray)(hs:s.size≤2000000):∀(n i:Nat),i+n=s.size→0<i→Ev (fun k=>r10name.l0 k s (i:Int)) ((s.data.toList.drop i).all alnB):=by
 intro n
 induction n with
 | zero =>
  intro i hi h0
  rw [drop_end s i (by omega)]
  refine Ev.up (G:=fun _=>some true) (Ev.now _) (fun k=>?_)
  rw [r10name.l0,if_neg (by omega),decide_eq_true (by omega)]
 | succ n ih =>
  intro i hi h0
  have hil:i<s.size:=by omega
  have hb:=bt_nat s i hil
  have hlt:=s[i].toNat_lt
  rw [drop_bt s i hil,List.all_cons]
  by_cases hD:digB s[i]=true
  ·rw [show alnB s[i]=true by unfold alnB;rw [hD];exact Bool.or_true _,Bool.true_and]
   have h2:=digBI.1 hD
   refine Ev.up (G:=fun k=>r10name.j1 k s (i:Int) (s[i].toNat:Int) true) (Ev.up (ih (i+1) (by omega) (by omega)) (fun k=>?_)) (fun k=>?_)
   ·rw [r10name.j1,if_pos rfl,ws i (by omega)]
   ·rw [r10name.l0,hb,decide_eq_true (show(i:Int) > 0 by omega)]
    ((repeat' (first | ((with_reducible refine(if_pos ?_).trans ?_);(focus omega)) | ((with_reducible refine(if_neg ?_).trans ?_);(focus omega)) | split))<;>(first | rfl | (exfalso;omega)))
  ·have h2:¬(48≤s[i].toNat∧s[i].toNat≤57):=fun h=>hD (digBI.2 h)
   have hj:∀k,r10name.l0 (k+1) s (i:Int)=r10name.j1 k s (i:Int) (s[i].toNat:Int) false:=by
    intro k
    rw [r10name.l0,hb,if_pos (by omega),if_pos (by omega)]
    by_cases h3:(s[i].toNat:Int)≥48
    ·rw [if_pos h3,if_neg (by omega)]
    ·rw [if_neg h3]
   by_cases hL:letB s[i]=true
   ·rw [show alnB s[i]=true by unfold alnB;rw [hL];rfl,Bool.true_and]
    have h:=letBI.1 hL
    refine Ev.up (Ev.up (ih (i+1) (by omega) (by omega)) (fun k=>?_)) hj
    rw [r10name.j1,if_neg Bool.false_ne_true,ws i (by omega)]
    ((repeat' (first | ((with_reducible refine(if_pos ?_).trans ?_);(focus omega)) | ((with_reducible refine(if_neg ?_).trans ?_);(focus omega)) | split))<;>(first | rfl | (exfalso;omega)))
   ·rw [show alnB s[i]=false by unfold alnB;rw [Bool.eq_false_iff.2 hL,Bool.eq_false_iff.2 hD];rfl,Bool.false_and]
    have h:¬((97≤s[i].toNat∧s[i].toNat≤122)∨(65≤s[i].toNat∧s[i].toNat≤90)∨s[i].toNat=95):=fun h=>hL (letBI.2 h)
    refine Ev.up (Ev.up (G:=fun _=>some false) (Ev.now _) (fun k=>?_)) hj
    rw [r10name.j1,if_neg Bool.false_ne_true]
    ((repeat' (first | ((with_reducible refine(if_pos ?_).trans ?_);(focus omega)) | ((with_reducible refine(if_neg ?_).trans ?_);(focus omega)) | split))<;>(first | rfl | (exfalso;omega)))
theorem rname(s:ByteArray)(hs:s.size≤2000000):Ev (fun k=>r10name.f k s) (nmB s):=by
 refine evS (fun k=>by rw [r10name.f]) ?_
 by_cases h0:s.size=0
 ·have he:s.data.toList=[]:=by
   rw [←List.length_eq_zero_iff,←Lib.size_eq]
   exact h0
  refine Ev.up (G:=fun _=>some (nmB s)) (Ev.now _) (fun k=>?_)
  rw [r10name.l0,if_neg (by omega),decide_eq_false (by omega)]
  unfold nmB
  rw [he]
  rfl
 ·have hil:0<s.size:=by omega
  have hb:bt s 0=(s[0].toNat:Int):=bt_nat s 0 hil
  have hlt:=s[0].toNat_lt
  have hd:=drop_bt s 0 hil
  rw [List.drop_zero] at hd
  unfold nmB
  rw [hd,nmL_cons]
  have hj:∀k,r10name.l0 (k+1) s 0=r10name.j1 k s 0 (s[0].toNat:Int) false:=by
   intro k
   rw [r10name.l0,hb,if_pos (by omega),if_pos (by omega),decide_eq_false (by omega)]
   by_cases h3:(s[0].toNat:Int)≥48
   ·rw [if_pos h3]
    by_cases h4:(s[0].toNat:Int)≤57
    ·rw [if_pos h4]
    ·rw [if_neg h4]
   ·rw [if_neg h3]
  by_cases hL:letB s[0]=true
  ·rw [hL,Bool.true_and]
   have h:=letBI.1 hL
   refine Ev.up (Ev.up (rname_from s hs (s.size-1) 1 (by omega) (by omega)) (fun k=>?_)) hj
   rw [r10name.j1,if_neg Bool.false_ne_true,show wrap64 ((0:Int)+1)=((1:Nat):Int) from ws 0 (by omega)]
   ((repeat' (first | ((with_reducible refine(if_pos ?_).trans ?_);(focus omega)) | ((with_reducible refine(if_neg ?_).trans ?_);(focus omega)) | split))<;>(first | rfl | (exfalso;omega)))
  ·have h:¬((97≤s[0].toNat∧s[0].toNat≤122)∨(65≤s[0].toNat∧s[0].toNat≤90)∨s[0].toNat=95):=fun h=>hL (letBI.2 h)
   rw [Bool.eq_false_iff.2 hL,Bool.false_and]
   refine Ev.up (Ev.up (G:=fun _=>some false) (Ev.now _) (fun k=>?_)) hj
   rw [r10name.j1,if_neg Bool.false_ne_true]
   ((repeat' (first | ((with_reducible refine(if_pos ?_).trans ?_);(focus omega)) | ((with_reducible refine(if_neg ?_).trans ?_);(focus omega)) | split))<;>(first | rfl | (exfalso;omega)))
end Go.Proofs.YtahdjajdaggmjaaGreatDoor.XPd
set_option linter.unusedVariables false
set_option linter.unusedSimpArgs false
set_option linter.unusedSectionVars false
namespace Go.Proofs.YtahdjajdaggmjaaGreatDoor.XPd
open Go.RowKit Go.Proofs.YtahdjajdaggmjaaGreatDoorW.PrintWords Go.Proofs.YtahdjajdaggmjaaGreatDoorW.PrintLast Go.Proofs.YtahdjajdaggmjaaGreatDoorW.PrintMore
theorem Ev.has{α:Type}{F:Nat→Option α}{r:α}(h:Ev F r):hasO F:=by
 obtain⟨k0,h0⟩:=h
 exact⟨k0,r,h0 k0 (Nat.le_refl _)⟩
theorem Ev.val{α:Type}{d:α}{F:Nat→Option α}{r:α}(hm:∀k,LeO (F k) (F (k+1)))(h:Ev F r):valO d F=r:=by
 obtain⟨k0,h0⟩:=h
 exact valO_eq hm (h0 k0 (Nat.le_refl _))
def rowIn(l:List Cl):Prop:=l.all cl32=true∧l.length≤1000000
def cvt(l:List Cl):List H.C:=l.map toC24
theorem rowIn_LC{l:List Cl}(h:rowIn l):Pure.LC (cvt l)=l∧(cvt l).length≤1000000:=⟨LC_back h.1,by unfold cvt;rw [List.length_map];exact h.2⟩
theorem rowP{l:List Cl}(h:rowIn l):PFp l∧frP l=H.right (cvt l)∧faP l=faceR (cvt l)∧∀d,0≤d→wiP l d=wiN (cvt l) d:=by
 obtain⟨e,hl⟩:=rowIn_LC h
 have h1:=rightE (cvt l) hl
 have h2:=faceE (cvt l) hl
 have h3:=fun d hd=>withinE (cvt l) d hl hd
 rw [e] at h1 h2
 simp only [e] at h3
 refine⟨⟨h1.has,⟨0,_,h2⟩,fun d hd _=>(h3 d hd).has⟩, ?_, ?_,fun d hd=>?_⟩
 ·exact Ev.val (fun k=>fo_Right.mono _ k) h1
 ·exact Ev.val (F:=fun _=>fa_Right.f l) (fun k=>LeO.refl _) (Ev.const h2)
 ·exact Ev.val (fun k=>te_within.mono _ _ k) (h3 d hd)
theorem rowR{l:List Cl}(h:rowIn l):PFr l∧frR l=H.right (cvt l)∧faR l=faceR (cvt l)∧∀d,0≤d→wiR l d=wiN (cvt l) d:=by
 obtain⟨e,hl⟩:=rowIn_LC h
 have h1:=right3E (cvt l) hl
 have h2:=face5E (cvt l) hl
 have h3:=fun d hd=>lowE (cvt l) d hl hd
 rw [e] at h1 h2
 simp only [e] at h3
 refine⟨⟨h1.has,h2.has,fun d hd _=>(h3 d hd).has,fun h0 d=>?_⟩, ?_, ?_,fun d hd=>?_⟩
 ·obtain rfl:l=[]:=List.length_eq_zero_iff.1 h0
  have hlow:r10low.f 400 ([]:List Cl) d=some true:=by
   unfold r10low.f
   rw [show r03Dims.f 400 ([]:List Cl)=some 0 from by kernel_rfl,Option.bind_some,show r01List.f 400 0=some [] from by kernel_rfl]
   rfl
  exact⟨400,hlow⟩
 ·exact Ev.val (fun k=>r03Right.mono _ k) h1
 ·exact Ev.val (fun k=>r05Right.mono _ k) h2
 ·unfold wiR
  by_cases h0:l.length=0
  ·rw [if_pos h0]
   obtain rfl:l=[]:=List.length_eq_zero_iff.1 h0
   refine(decide_eq_true ?_).symm
   show(0:Nat)<2 ^ d.toNat
   exact Nat.two_pow_pos _
  ·rw [if_neg h0]
   exact Ev.val (fun k=>r10low.mono _ _ k) (h3 d hd)
theorem nameP{s:ByteArray}(h:s.size≤2000000):PNp s∧nmP s=nmB s:=⟨(tname s h).has,Ev.val (fun k=>te_name.mono _ k) (tname s h)⟩
theorem nameR{s:ByteArray}(h:s.size≤2000000):PNr s∧nmR s=nmB s:=⟨(rname s h).has,Ev.val (fun k=>r10name.mono _ k) (rname s h)⟩
def nameIn(s:ByteArray):Prop:=s.size≤2000000
mutual
theorem okS_imp{P P':List Cl→Prop}{Q Q':ByteArray→Prop}(hp:∀l,P l→P' l)(hq:∀s,Q s→Q' s):∀t:Tm,okS P Q t→okS P' Q' t
 | ⟨k,n,s,r,ks,bs⟩,h=>by
  rw [okS] at h ⊢
  exact⟨hp _ h.1,hq _ h.2.1,okSL_imp hp hq ks h.2.2.1,okSB_imp hp hq bs h.2.2.2⟩
theorem okSL_imp{P P':List Cl→Prop}{Q Q':ByteArray→Prop}(hp:∀l,P l→P' l)(hq:∀s,Q s→Q' s):∀l:List Tm,okSL P Q l→okSL P' Q' l
 | [],_=>by rw [okSL];trivial
 | t :: r,h=>by
  rw [okSL] at h ⊢
  exact⟨okS_imp hp hq t h.1,okSL_imp hp hq r h.2⟩
theorem okSB_imp{P P':List Cl→Prop}{Q Q':ByteArray→Prop}(hp:∀l,P l→P' l)(hq:∀s,Q s→Q' s):∀l:List Br,okSB P Q l→okSB P' Q' l
 | [],_=>by rw [okSB];trivial
 | b :: r,h=>by
  rw [okSB] at h ⊢
  exact⟨okSR_imp hp hq b h.1,okSB_imp hp hq r h.2⟩
theorem okSR_imp{P P':List Cl→Prop}{Q Q':ByteArray→Prop}(hp:∀l,P l→P' l)(hq:∀s,Q s→Q' s):∀b:Br,okSR P Q b→okSR P' Q' b
 | ⟨f,ks⟩,h=>by
  rw [okSR] at h ⊢
  exact⟨hp _ h.1,okSL_imp hp hq ks h.2⟩
end
section
variable {fr fa fr' fa':List Cl→Bool}{wi wi':List Cl→Int→Bool}{nm nm':ByteArray→Bool}{P:List Cl→Prop}{Q:ByteArray→Prop}
 (hP:∀l,P l→fr l=fr' l∧fa l=fa' l∧∀d,0≤d→wi l d=wi' l d) (hQ:∀s,Q s→nm s=nm' s)
include hP hQ
theorem own_c(t:Tm)(v d:Int)(hd:0≤d)(h:okN P Q t):ownB fr fa wi nm t v d=ownB fr' fa' wi' nm' t v d:=by
 obtain⟨h1,h2,h3⟩:=h
 obtain⟨e1,e2,e3⟩:=hP _ h1
 have e4:=hQ _ h2
 have e5:t.f5.all (ownR fa wi t.f0 d)=t.f5.all (ownR fa' wi' t.f0 d):=by
  rw [Bool.eq_iff_iff,List.all_eq_true,List.all_eq_true]
  constructor
  ·intro h b hb
   have h4:=h b hb
   obtain⟨_,f2,f3⟩:=hP _ (h3 b hb)
   unfold ownR at h4 ⊢
   rwa [f2,f3 d hd] at h4
  ·intro h b hb
   have h4:=h b hb
   obtain⟨_,f2,f3⟩:=hP _ (h3 b hb)
   unfold ownR at h4 ⊢
   rwa [f2,f3 d hd]
 unfold ownB
 rw [e1,e2,e3 d hd,e4,e5]
mutual
theorem all_T:∀(t:Tm) (v d:Int),0≤d→okS P Q t→allT fr fa wi nm t v d=allT fr' fa' wi' nm' t v d
 | ⟨k,n,s,r,ks,bs⟩,v,d,hd,h=>by
  have h2:=own_c hP hQ ⟨k,n,s,r,ks,bs⟩ v d hd (okS_N h)
  rw [okS] at h
  rw [allT,allT,h2,all_L k ks 0 v d hd h.2.2.1,all_Bs k bs v d hd h.2.2.2]
theorem all_L:∀(kind:Int) (l:List Tm) (i:Nat) (v d:Int),0≤d→okSL P Q l→allL fr fa wi nm kind l i v d=allL fr' fa' wi' nm' kind l i v d
 | _,[],_,_,_,_,_=>by rw [allL,allL]
 | kind,t :: r,i,v,d,hd,h=>by
  have hb:=bindsI_01 kind (i:Int)
  rw [okSL] at h
  rw [allL,allL,all_T t _ _ (by omega) h.1,all_L kind r (i+1) v d hd h.2]
theorem all_Bs:∀(kind:Int) (l:List Br) (v d:Int),0≤d→okSB P Q l→allBs fr fa wi nm kind l v d=allBs fr' fa' wi' nm' kind l v d
 | _,[],_,_,_,_=>by rw [allBs,allBs]
 | kind,b :: r,v,d,hd,h=>by
  rw [okSB] at h
  rw [allBs,allBs,all_Br kind b v d hd h.1,all_Bs kind r v d hd h.2]
theorem all_Br:∀(kind:Int) (b:Br) (v d:Int),0≤d→okSR P Q b→allBr fr fa wi nm kind b v d=allBr fr' fa' wi' nm' kind b v d
 | kind,⟨f,ks⟩,v,d,hd,h=>by
  have hm:=moreI_01 kind
  rw [okSR] at h
  rw [allBr,allBr,all_P ks v _ (by omega) h.2]
theorem all_P:∀(l:List Tm) (v d:Int),0≤d→okSL P Q l→allP fr fa wi nm l v d=allP fr' fa' wi' nm' l v d
 | [],_,_,_,_=>by rw [allP,allP]
 | t :: r,v,d,hd,h=>by
  rw [okSL] at h
  rw [allP,allP,all_T t v d hd h.1,all_P r v d hd h.2]
end
end
theorem all_same(t:Tm)(h:okS rowIn nameIn t):okS PFp PNp t∧okS PFr PNr t∧allT frP faP wiP nmP t 0 0=allT frR faR wiR nmR t 0 0 :=
 ⟨okS_imp (fun _ hl=>(rowP hl).1) (fun _ hs=>(nameP hs).1) t h,okS_imp (fun _ hl=>(rowR hl).1) (fun _ hs=>(nameR hs).1) t h,
  all_T (fun l hl=>⟨(rowP hl).2.1.trans (rowR hl).2.1.symm,(rowP hl).2.2.1.trans (rowR hl).2.2.1.symm,fun d hd=>((rowP hl).2.2.2 d hd).trans ((rowR hl).2.2.2 d hd).symm⟩) (fun s hs=>(nameP hs).2.trans (nameR hs).2.symm) t 0 0 (by omega) h⟩
mutual
theorem bk_T:∀t:Tm,sizeT t≤bkT t∧depthT t≤bkT t∧t.f4.length≤bkT t∧t.f5.length≤bkT t
 | ⟨k,n,s,r,ks,bs⟩=>by
  have h1:=bk_L ks
  have h2:=bk_B bs
  rw [sizeT,depthT,bkT]
  exact⟨by omega,by omega,by show ks.length≤_;omega,by show bs.length≤_;omega⟩
theorem bk_L:∀l:List Tm,sizeL l≤bkL l∧depthL l≤bkL l∧l.length≤bkL l
 | []=>by rw [sizeL,depthL,bkL];exact⟨Nat.le_refl _,Nat.le_refl _,Nat.le_refl _⟩
 | t :: r=>by
  have h1:=bk_T t
  have h2:=bk_L r
  have h3:=sizeT_pos t
  rw [sizeL,depthL,bkL,List.length_cons]
  omega
theorem bk_B:∀l:List Br,sizeB l≤bkB l∧depthB l≤bkB l∧l.length≤bkB l
 | []=>by rw [sizeB,depthB,bkB];exact⟨Nat.le_refl _,Nat.le_refl _,Nat.le_refl _⟩
 | b :: r=>by
  have h1:=bk_R b
  have h2:=bk_B r
  rw [sizeB,depthB,bkB,List.length_cons]
  omega
theorem bk_R:∀b:Br,sizeR b+3≤bkR b∧depthR b+3≤bkR b∧b.f1.length+3≤bkR b
 | ⟨f,ks⟩=>by
  have h1:=bk_L ks
  rw [sizeR,depthR,bkR]
  exact⟨by omega,by omega,by show ks.length+3≤_;omega⟩
end
theorem bkT_eq(t:Tm):bkT t=7+t.f2.size+3 * t.f3.length+bkL t.f4+bkB t.f5:=by
 cases t
 rw [bkT]
theorem bkR_eq(b:Br):bkR b=3+3 * b.f0.length+bkL b.f1:=by
 cases b
 rw [bkR]
theorem bkL_mem{q:Tm}:∀ {l:List Tm},q∈l→bkT q≤bkL l
 | [],h=>absurd h (by simp)
 | t :: r,h=>by
  rw [bkL]
  rcases List.mem_cons.1 h with rfl | h
  ·omega
  ·have:=bkL_mem h
   omega
theorem bkB_mem{b:Br}:∀ {l:List Br},b∈l→bkR b≤bkB l
 | [],h=>absurd h (by simp)
 | t :: r,h=>by
  rw [bkB]
  rcases List.mem_cons.1 h with rfl | h
  ·omega
  ·have:=bkB_mem h
   omega
theorem bk_kid{t q:Tm}(h:q∈t.f4):bkT q<bkT t:=by
 have:=bkL_mem h
 rw [bkT_eq t]
 omega
theorem bk_part{t q:Tm}{b:Br}(hb:b∈t.f5)(h:q∈b.f1):bkT q<bkT t∧b.f1.length≤bkT t:=by
 have h1:=bkL_mem h
 have h2:=bkB_mem hb
 have h3:=(bk_R b).2.2
 rw [bkR_eq] at h2 h3
 rw [bkT_eq t]
 omega
theorem bk_part'{t:Tm}{b:Br}(hb:b∈t.f5):b.f1.length≤bkT t:=by
 have h2:=bkB_mem hb
 have h3:=(bk_R b).2.2
 rw [bkT_eq t]
 omega
theorem r_depth:∀(N:Nat) (t:Tm),sizeT t≤N→bkT t≤1048576→Ev (fun k=>r10Depth.f k t.f0 t.f1 t.f2 t.f3 t.f4 t.f5) ((depthT t:Nat):Int):=by
 intro N
 induction N with
 | zero=>exact fun t h _=>absurd (sizeT_pos t) (by omega)
 | succ N ih =>
  intro t hN hb
  obtain⟨_,hdb,hl4,hl5⟩:=bk_T t
  generalize hR:depthT t=R at hdb ⊢
  rw [depthT_eq] at hR
  have hl2:∀(i:Nat) (hi:i<t.f5.length),(∀m:Nat,max m (depthB (t.f5.drop (i+1)))+1=R→Ev (fun k=>r10Depth.l1 k (m:Int) ((i+1:Nat):Int) t.f0 t.f1 t.f2 t.f3 t.f4 t.f5) (R:Int)) →
    ∀(d c m:Nat),c+d=t.f5[i].f1.length→max (max m (depthL (t.f5[i].f1.drop c))) (depthB (t.f5.drop (i+1)))+1=R→Ev (fun k=>r10Depth.l2 k (m:Int) (i:Int) (c:Int) t.f0 t.f1 t.f2 t.f3 t.f4 t.f5) (R:Int):=by
   intro i hi hnext d
   have hbl:=bk_part' (List.getElem_mem hi)
   induction d with
   | zero =>
    intro c m hc hm
    rw [List.drop_eq_nil_of_le (by omega),depthL] at hm
    refine evU (fun k=>by rw [r10Depth.l2]) ?_
    refine Ev.pos (by omega) (Ev.pos (by omega) ?_)
    rw [rd_T90_at hi,ws i (by omega)]
    exact Ev.neg (by omega) (hnext m (by omega))
   | succ d ihd =>
    intro c m hc hm
    have hcl:c<t.f5[i].f1.length:=by omega
    have hmem:=List.getElem_mem hcl
    have hsz:=sizeT_part (List.getElem_mem hi) hmem
    have hbk:=(bk_part (List.getElem_mem hi) hmem).1
    have h1:=ih _ (show sizeT t.f5[i].f1[c]≤N by omega) (by omega)
    rw [drop_at hcl,depthL] at hm
    refine evU (fun k=>by rw [r10Depth.l2]) ?_
    refine Ev.pos (by omega) (Ev.pos (by omega) ?_)
    rw [rd_T90_at hi]
    refine Ev.pos (by omega) (Ev.pos (by omega) ?_)
    rw [rd_T49_at hcl,ws c (by omega)]
    refine Ev.bind h1 ?_
    by_cases hg:((depthT t.f5[i].f1[c]:Nat):Int) > (m:Int)
    ·exact Ev.pos hg (ihd (c+1) _ (by omega) (by omega))
    ·exact Ev.neg hg (ihd (c+1) _ (by omega) (by omega))
  have hl1:∀(d i m:Nat),i+d=t.f5.length→max m (depthB (t.f5.drop i))+1=R→Ev (fun k=>r10Depth.l1 k (m:Int) (i:Int) t.f0 t.f1 t.f2 t.f3 t.f4 t.f5) (R:Int):=by
   intro d
   induction d with
   | zero =>
    intro i m hi hm
    rw [List.drop_eq_nil_of_le (by omega),depthB] at hm
    refine evU (fun k=>by rw [r10Depth.l1]) ?_
    refine Ev.neg (by omega) (Ev.const ?_)
    rw [ws m (by omega),show m+1=R by omega]
   | succ d ihd =>
    intro i m hi hm
    have hil:i<t.f5.length:=by omega
    rw [drop_at hil,depthB,depthR_eq] at hm
    refine evU (fun k=>by rw [r10Depth.l1]) ?_
    refine Ev.pos (by omega) ?_
    exact hl2 i hil (fun m hm2=>ihd (i+1) m (by omega) hm2) t.f5[i].f1.length 0 m (by omega) (by rw [List.drop_zero];omega)
  have hl0:∀(d c m:Nat),c+d=t.f4.length→max (max m (depthL (t.f4.drop c))) (depthB t.f5)+1=R→Ev (fun k=>r10Depth.l0 k (m:Int) (c:Int) t.f0 t.f1 t.f2 t.f3 t.f4 t.f5) (R:Int):=by
   intro d
   induction d with
   | zero =>
    intro c m hc hm
    rw [List.drop_eq_nil_of_le (by omega),depthL] at hm
    refine evU (fun k=>by rw [r10Depth.l0]) ?_
    refine Ev.neg (by omega) ?_
    exact hl1 t.f5.length 0 m (by omega) (by rw [List.drop_zero];omega)
   | succ d ihd =>
    intro c m hc hm
    have hcl:c<t.f4.length:=by omega
    have hmem:=List.getElem_mem hcl
    have hsz:=sizeT_kid hmem
    have hbk:=bk_kid hmem
    have h1:=ih _ (show sizeT t.f4[c]≤N by omega) (by omega)
    rw [drop_at hcl,depthL] at hm
    refine evU (fun k=>by rw [r10Depth.l0]) ?_
    refine Ev.pos (by omega) (Ev.pos (by omega) ?_)
    rw [rd_T49_at hcl,ws c (by omega)]
    refine Ev.bind h1 ?_
    by_cases hg:((depthT t.f4[c]:Nat):Int) > (m:Int)
    ·exact Ev.pos hg (ihd (c+1) _ (by omega) (by omega))
    ·exact Ev.neg hg (ihd (c+1) _ (by omega) (by omega))
  refine evU (fun k=>by rw [r10Depth.f]) ?_
  exact hl0 t.f4.length 0 0 (by omega) (by rw [List.drop_zero];omega)
theorem r_size:∀(N:Nat) (t:Tm),sizeT t≤N→bkT t≤1048576→Ev (fun k=>r10Size.f k t.f0 t.f1 t.f2 t.f3 t.f4 t.f5) ((sizeT t:Nat):Int):=by
 intro N
 induction N with
 | zero=>exact fun t h _=>absurd (sizeT_pos t) (by omega)
 | succ N ih =>
  intro t hN hb
  obtain⟨hdb,_,hl4,hl5⟩:=bk_T t
  have hN':=hN
  generalize hR:sizeT t=R at hdb ⊢
  rw [sizeT_eq] at hR
  have wa:∀a b:Nat,a+b≤R→wrap64 ((a:Int)+(b:Int))=((a+b:Nat):Int):=fun a b h=>by unfold wrap64;omega
  have hl2:∀(i:Nat) (hi:i<t.f5.length),(∀m:Nat,m+sizeB (t.f5.drop (i+1))=R→Ev (fun k=>r10Size.l1 k (m:Int) ((i+1:Nat):Int) t.f0 t.f1 t.f2 t.f3 t.f4 t.f5) (R:Int)) →
    ∀(d c m:Nat),c+d=t.f5[i].f1.length→m+sizeL (t.f5[i].f1.drop c)+sizeB (t.f5.drop (i+1))=R→Ev (fun k=>r10Size.l2 k (m:Int) (i:Int) (c:Int) t.f0 t.f1 t.f2 t.f3 t.f4 t.f5) (R:Int):=by
   intro i hi hnext d
   have hbl:=bk_part' (List.getElem_mem hi)
   induction d with
   | zero =>
    intro c m hc hm
    rw [List.drop_eq_nil_of_le (by omega),sizeL] at hm
    refine evU (fun k=>by rw [r10Size.l2]) ?_
    refine Ev.pos (by omega) (Ev.pos (by omega) ?_)
    rw [rd_T90_at hi,ws i (by omega)]
    exact Ev.neg (by omega) (hnext m (by omega))
   | succ d ihd =>
    intro c m hc hm
    have hcl:c<t.f5[i].f1.length:=by omega
    have hmem:=List.getElem_mem hcl
    have hsz:=sizeT_part (List.getElem_mem hi) hmem
    have hbk:=(bk_part (List.getElem_mem hi) hmem).1
    have h1:=ih _ (show sizeT t.f5[i].f1[c]≤N by omega) (by omega)
    rw [drop_at hcl,sizeL] at hm
    refine evU (fun k=>by rw [r10Size.l2]) ?_
    refine Ev.pos (by omega) (Ev.pos (by omega) ?_)
    rw [rd_T90_at hi]
    refine Ev.pos (by omega) (Ev.pos (by omega) ?_)
    rw [rd_T49_at hcl,ws c (by omega)]
    refine Ev.bind h1 ?_
    rw [wa m _ (by omega)]
    exact ihd (c+1) _ (by omega) (by omega)
  have hl1:∀(d i m:Nat),i+d=t.f5.length→m+sizeB (t.f5.drop i)=R→Ev (fun k=>r10Size.l1 k (m:Int) (i:Int) t.f0 t.f1 t.f2 t.f3 t.f4 t.f5) (R:Int):=by
   intro d
   induction d with
   | zero =>
    intro i m hi hm
    rw [List.drop_eq_nil_of_le (by omega),sizeB] at hm
    refine evU (fun k=>by rw [r10Size.l1]) ?_
    refine Ev.neg (by omega) (Ev.const ?_)
    rw [show m=R by omega]
   | succ d ihd =>
    intro i m hi hm
    have hil:i<t.f5.length:=by omega
    rw [drop_at hil,sizeB,sizeR_eq] at hm
    refine evU (fun k=>by rw [r10Size.l1]) ?_
    refine Ev.pos (by omega) ?_
    exact hl2 i hil (fun m hm2=>ihd (i+1) m (by omega) hm2) t.f5[i].f1.length 0 m (by omega) (by rw [List.drop_zero];omega)
  have hl0:∀(d c m:Nat),c+d=t.f4.length→m+sizeL (t.f4.drop c)+sizeB t.f5=R→Ev (fun k=>r10Size.l0 k (m:Int) (c:Int) t.f0 t.f1 t.f2 t.f3 t.f4 t.f5) (R:Int):=by
   intro d
   induction d with
   | zero =>
    intro c m hc hm
    rw [List.drop_eq_nil_of_le (by omega),sizeL] at hm
    refine evU (fun k=>by rw [r10Size.l0]) ?_
    refine Ev.neg (by omega) ?_
    exact hl1 t.f5.length 0 m (by omega) (by rw [List.drop_zero];omega)
   | succ d ihd =>
    intro c m hc hm
    have hcl:c<t.f4.length:=by omega
    have hmem:=List.getElem_mem hcl
    have hsz:=sizeT_kid hmem
    have hbk:=bk_kid hmem
    have h1:=ih _ (show sizeT t.f4[c]≤N by omega) (by omega)
    rw [drop_at hcl,sizeL] at hm
    refine evU (fun k=>by rw [r10Size.l0]) ?_
    refine Ev.pos (by omega) (Ev.pos (by omega) ?_)
    rw [rd_T49_at hcl,ws c (by omega)]
    refine Ev.bind h1 ?_
    rw [wa m _ (by omega)]
    exact ihd (c+1) _ (by omega) (by omega)
  refine evU (fun k=>by rw [r10Size.f]) ?_
  exact hl0 t.f4.length 0 1 (by omega) (by rw [List.drop_zero];omega)
noncomputable def rtV(t:Tm):Int:=if 200<depthT t then 62 else if 20000<sizeT t then 221 else if allT frP faP wiP nmP t 0 0=true then 0 else 100
theorem tm_eta(t:Tm):(⟨t.f0,t.f1,t.f2,t.f3,t.f4,t.f5⟩:Tm)=t:=by
 cases t
 rfl
theorem right_evS(t:Tm)(h:okS rowIn nameIn t)(hsz:sizeT t≤900000000):Ev (fun k=>te_Right.f k t.f0 t.f1 t.f2 t.f3 t.f4 t.f5 0 0) (rtV t):=by
 have h1:okS PFp PNp t:=okS_imp (fun _ hl=>(rowP hl).1) (fun _ hs=>(nameP hs).1) t h
 have hsh:te_shallo.f t.f0 t.f1 t.f2 t.f3 t.f4 t.f5 200=some (decide (depthT t≤200)):=by
  unfold te_shallo.f
  rw [if_pos (by decide),show Int.toNat 200=200 from rfl,tm_eta]
 have hsm:te_small.f t.f0 t.f1 t.f2 t.f3 t.f4 t.f5 20000=some (decide (sizeT t≤20000)):=by
  unfold te_small.f
  rw [if_pos (by decide),show Int.toNat 20000=20000 from rfl,tm_eta]
 have hal:term_all.f t.f0 t.f1 t.f2 t.f3 t.f4 t.f5 0 0 true=some (allT frP faP wiP nmP t 0 0):=by
  have hG:allG t 0 0 true:=by
   unfold allG
   exact⟨rfl,h1,by omega,by omega,by omega,by omega⟩
  unfold term_all.f
  rw [tm_eta]
  exact if_pos hG
 unfold rtV
 refine evS (fun k=>by rw [te_Right.f]) ?_
 refine Ev.neg (by decide) (Ev.neg (by decide) ?_)
 rw [show decide ((0:Int) > 24)=false by decide]
 refine evU (fun k=>by rw [te_Right.j0]) ?_
 refine Ev.neg Bool.false_ne_true ?_
 by_cases d1:200<depthT t
 ·rw [if_pos d1]
  refine Ev.bindc (a:=62) ?_ (Ev.neg (by decide) (Ev.now _))
  unfold te_sized.f
  rw [hsh,Option.bind_some,if_neg (by rw [decide_eq_true_iff];omega)]
 ·rw [if_neg d1]
  by_cases d2:20000<sizeT t
  ·rw [if_pos d2]
   refine Ev.bindc (a:=221) ?_ (Ev.neg (by decide) (Ev.now _))
   unfold te_sized.f
   rw [hsh,Option.bind_some,if_pos (by rw [decide_eq_true_iff];omega),hsm,Option.bind_some,if_neg (by rw [decide_eq_true_iff];omega)]
  ·rw [if_neg d2]
   refine Ev.bindc (a:=0) ?_ (Ev.pos rfl ?_)
   ·unfold te_sized.f
    rw [hsh,Option.bind_some,if_pos (by rw [decide_eq_true_iff];omega),hsm,Option.bind_some,if_pos (by rw [decide_eq_true_iff];omega)]
   ·rw [hal]
    refine Ev.bindc rfl ?_
    by_cases d3:allT frP faP wiP nmP t 0 0=true
    ·rw [if_pos d3,if_pos d3]
     exact Ev.now _
    ·rw [if_neg d3,if_neg d3]
     exact Ev.now _
theorem Right_ev(t:Tm)(h:okS rowIn nameIn t)(hb:bkT t≤1048576):Ev (fun k=>r10Right.f k t.f0 t.f1 t.f2 t.f3 t.f4 t.f5 0 0) (rtV t):=by
 obtain⟨h1,h2,h3⟩:=all_same t h
 have hsz:=(bk_T t).1
 have hd:=r_depth _ t (Nat.le_refl _) hb
 have hs:=r_size _ t (Nat.le_refl _) hb
 have hal:r10All.f t.f0 t.f1 t.f2 t.f3 t.f4 t.f5 0 0 true=some (allT frP faP wiP nmP t 0 0):=by
  have hG:rallG t 0 0 true:=by
   unfold rallG
   exact⟨rfl,h2,by omega,by omega,by omega,by omega⟩
  unfold r10All.f
  rw [h3,tm_eta]
  exact if_pos hG
 have hsd:Ev (fun k=>r10sized.f k t.f0 t.f1 t.f2 t.f3 t.f4 t.f5) (if 200<depthT t then 62 else if 20000<sizeT t then 221 else 0):=by
  refine evS (fun k=>by rw [r10sized.f]) ?_
  refine Ev.bind hd ?_
  by_cases d1:200<depthT t
  ·rw [if_pos d1]
   exact Ev.pos (by omega) (Ev.now _)
  ·rw [if_neg d1]
   refine Ev.neg (by omega) (Ev.bind hs ?_)
   by_cases d2:20000<sizeT t
   ·rw [if_pos d2]
    exact Ev.pos (by omega) (Ev.now _)
   ·rw [if_neg d2]
    exact Ev.neg (by omega) (Ev.now _)
 unfold rtV
 refine evS (fun k=>by rw [r10Right.f]) ?_
 refine Ev.neg (by decide) (Ev.neg (by decide) ?_)
 rw [show decide ((0:Int) > 24)=false by decide]
 refine evU (fun k=>by rw [r10Right.j0]) ?_
 refine Ev.neg Bool.false_ne_true (Ev.bind hsd ?_)
 by_cases d1:200<depthT t
 ·rw [if_pos d1,if_pos d1]
  exact Ev.neg (by decide) (Ev.now _)
 ·rw [if_neg d1,if_neg d1]
  by_cases d2:20000<sizeT t
  ·rw [if_pos d2,if_pos d2]
   exact Ev.neg (by decide) (Ev.now _)
  ·rw [if_neg d2,if_neg d2]
   refine Ev.pos rfl ?_
   rw [hal]
   refine Ev.bindc rfl ?_
   by_cases d3:allT frP faP wiP nmP t 0 0=true
   ·rw [if_pos d3,if_pos d3]
    exact Ev.now _
   ·rw [if_neg d3,if_neg d3]
    exact Ev.now _
end Go.Proofs.YtahdjajdaggmjaaGreatDoor.XPd
set_option linter.unusedVariables false
set_option linter.unusedSimpArgs false
set_option linter.unusedSectionVars false
namespace Go.Proofs.YtahdjajdaggmjaaGreatDoor.XPd
open Go.RowKit Go.Proofs.YtahdjajdaggmjaaGreatDoorW.PrintWords Go.Proofs.YtahdjajdaggmjaaGreatDoorW.PrintLast Go.Proofs.YtahdjajdaggmjaaGreatDoorW.PrintMore
def By(l:List Int):Prop:=∀x∈l,0≤x∧x<256
theorem By.app{a b:List Int}(ha:By a)(hb:By b):By (a++b):=fun x hx=>(List.mem_append.1 hx).elim (ha x) (hb x)
theorem By.flat{α:Type}{l:List α}{g:α→List Int}(h:∀x∈l,By (g x)):By (l.flatMap g):=fun y hy=>by
 obtain⟨x,hx,hxy⟩:=List.mem_flatMap.1 hy
 exact h x hx y hxy
def stepN(s:Nat)(b:Int):Nat:=((s ^^^ b.toNat) * 16777619) % 4294967296
def sumN(s:Nat)(l:List Int):Nat:=l.foldl stepN s
theorem stepN_lt(s:Nat)(b:Int):stepN s b<4294967296:=Nat.mod_lt _ (by decide)
theorem sumN_lt(l:List Int):∀s,s<4294967296→sumN s l<4294967296:=by
 induction l with
 | nil=>exact fun s h=>h
 | cons b l ih=>exact fun s _=>ih _ (stepN_lt s b)
theorem xor_low(s b:Nat)(hb:b<256):s ^^^ b=256 * (s / 256)+((s % 256) ^^^ b):=by
 have h1:(s ^^^ b) % 2 ^ 8=(s % 2 ^ 8) ^^^ (b % 2 ^ 8):=Nat.xor_mod_two_pow
 have h2:(s ^^^ b) / 2 ^ 8=(s / 2 ^ 8) ^^^ (b / 2 ^ 8):=Nat.xor_div_two_pow
 rw [Nat.mod_eq_of_lt (show b<2 ^ 8 from hb)] at h1
 rw [Nat.div_eq_of_lt (show b<2 ^ 8 from hb),Nat.xor_zero] at h2
 have h3:=Nat.div_add_mod (s ^^^ b) (2 ^ 8)
 rw [h1,h2] at h3
 exact h3.symm
theorem xor64(a b:Nat)(ha:a<256)(hb:b<256):Go.bits .xor .i64 (a:Int) (b:Int)=((a ^^^ b:Nat):Int):=by
 have hx:a ^^^ b<2 ^ 8:=Nat.xor_lt_two_pow (by omega) (by omega)
 have h1:(BitVec.ofInt 64 (a:Int)).toNat=a:=by
  rw [BitVec.ofInt_natCast,BitVec.toNat_ofNat];exact Nat.mod_eq_of_lt (by omega)
 have h2:(BitVec.ofInt 64 (b:Int)).toNat=b:=by
  rw [BitVec.ofInt_natCast,BitVec.toNat_ofNat];exact Nat.mod_eq_of_lt (by omega)
 show IntKind.i64.wrap ((BitVec.ofInt 64 (a:Int) ^^^ BitVec.ofInt 64 (b:Int)).toNat:Int)=_
 rw [BitVec.toNat_xor,h1,h2]
 generalize a ^^^ b=q at hx
 simp [IntKind.wrap,IntKind.bits,IntKind.signed]
 omega
theorem rd_at{l:List Int}{i:Nat}(h:i<l.length):rd l (i:Int)=l[i]:=by
 unfold rd
 rw [Int.toNat_natCast,List.getD_eq_getElem?_getD,List.getElem?_eq_getElem h]
 rfl
theorem psum_l0(l:List Int)(hl:l.length≤100000000)(hB:By l):∀(d i s:Nat),i+d=l.length→s<4294967296→Ev (fun k=>pack_Sum.l0 k (s:Int) l (l.length:Int) (i:Int)) ((sumN s (l.drop i):Nat):Int):=by
 intro d
 induction d with
 | zero =>
  intro i s hi hs
  rw [List.drop_eq_nil_of_le (by omega)]
  refine evU (fun k=>by rw [pack_Sum.l0]) ?_
  exact Ev.neg (by omega) (Ev.now _)
 | succ d ih =>
  intro i s hi hs
  have hil:i<l.length:=by omega
  obtain⟨b0,b1⟩:=hB l[i] (List.getElem_mem hil)
  obtain⟨b,hb⟩:=Int.eq_ofNat_of_zero_le b0
  have hstep:((Go.bits .xor .u32 (s:Int) (l[i] % 4294967296)) * 16777619) % 4294967296=((stepN s l[i]:Nat):Int):=by
   unfold stepN
   rw [hb,show((b:Int) % 4294967296)=(b:Int) by omega,u32_xor_nat s b hs (by omega),Int.toNat_natCast]
   omega
  rw [drop_at hil]
  refine evU (fun k=>by rw [pack_Sum.l0]) ?_
  refine Ev.pos (by omega) (Ev.pos (by omega) (Ev.pos (by omega) ?_))
  rw [rd_at hil,hstep,ws i (by omega)]
  exact ih (i+1) _ (by omega) (stepN_lt _ _)
theorem psum(l:List Int)(hl:l.length≤100000000)(hB:By l):Ev (fun k=>pack_Sum.f k l) ((sumN 2166136261 l:Nat):Int):=by
 refine evS (fun k=>by rw [pack_Sum.f]) ?_
 exact psum_l0 l hl hB l.length 0 2166136261 (by omega) (by decide)
theorem rsum_l0(l:List Int)(hl:l.length≤100000000)(hB:By l):∀(d i s:Nat),i+d=l.length→s<4294967296→Ev (fun k=>r36Sum.l0 k l (s:Int) (i:Int)) ((sumN s (l.drop i):Nat):Int):=by
 intro d
 induction d with
 | zero =>
  intro i s hi hs
  rw [List.drop_eq_nil_of_le (by omega)]
  refine evU (fun k=>by rw [r36Sum.l0]) ?_
  exact Ev.neg (by omega) (Ev.now _)
 | succ d ih =>
  intro i s hi hs
  have hil:i<l.length:=by omega
  obtain⟨b0,b1⟩:=hB l[i] (List.getElem_mem hil)
  obtain⟨b,hb⟩:=Int.eq_ofNat_of_zero_le b0
  have hx:(s % 256) ^^^ b<2 ^ 8:=Nat.xor_lt_two_pow (by omega) (by omega)
  have hstep:Int.tmod (wrap64 ((wrap64 ((wrap64 ((s:Int)-(Int.tmod (s:Int) 256)))+(Go.bits .xor .i64 (Int.tmod (s:Int) 256) (wrap64 l[i])))) * 16777619)) 4294967296=((stepN s l[i]:Nat):Int):=by
   unfold stepN
   rw [hb,show Int.tmod (s:Int) 256=((s % 256:Nat):Int) from rfl,w64 (a:=(b:Int)) (by omega) (by omega),xor64 (s % 256) b (by omega) (by omega),w64 (a:=(s:Int)-((s % 256:Nat):Int)) (by omega) (by omega),w64 (a:=(s:Int)-((s % 256:Nat):Int)+_) (by omega) (by omega),w64 (by omega) (by omega),Int.toNat_natCast,xor_low s b (by omega)]
   generalize s % 256 ^^^ b=q at hx ⊢
   rw [show(s:Int)-((s % 256:Nat):Int)+(q:Int)=((256 * (s / 256)+q:Nat):Int) by omega]
   rfl
  rw [drop_at hil]
  refine evU (fun k=>by rw [r36Sum.l0]) ?_
  refine Ev.pos (by omega) (Ev.pos (by omega) ?_)
  rw [rd_at hil,hstep,ws i (by omega)]
  exact ih (i+1) _ (by omega) (stepN_lt _ _)
theorem rsum(l:List Int)(hl:l.length≤100000000)(hB:By l):Ev (fun k=>r36Sum.f k l) ((sumN 2166136261 l:Nat):Int):=by
 refine evS (fun k=>by rw [r36Sum.f]) ?_
 exact rsum_l0 l hl hB l.length 0 2166136261 (by omega) (by decide)
def four(s:Nat):List Int:=[((s / 16777216 % 256:Nat):Int),((s / 65536 % 256:Nat):Int),((s / 256 % 256:Nat):Int),((s % 256:Nat):Int)]
theorem sealed_ev(l:List Int)(hl:l.length≤100000000)(hB:By l):Ev (fun k=>pa_sealed.f k l) (l++four (sumN 2166136261 l)):=by
 have hs:=sumN_lt l 2166136261 (by decide)
 refine evS (fun k=>by rw [pa_sealed.f]) ?_
 refine Ev.bind (psum l hl hB) (Ev.bindc rfl (Ev.pos ?_ (Ev.const ?_)))
 ·show l.length+4<140737488355328
  omega
 ·generalize sumN 2166136261 l=s at hs
  unfold four
  rfl
theorem slV(l:List Int)(hl:l.length≤100000000)(hB:By l):slP l=l++four (sumN 2166136261 l):=Ev.val (fun k=>pa_sealed.mono _ k) (sealed_ev l hl hB)
end Go.Proofs.YtahdjajdaggmjaaGreatDoor.XPd
set_option linter.unusedVariables false
set_option linter.unusedSimpArgs false
set_option linter.unusedSectionVars false
namespace Go.Proofs.YtahdjajdaggmjaaGreatDoor.XPd
open Go.RowKit Go.Proofs.YtahdjajdaggmjaaGreatDoorW.PrintWords Go.Proofs.YtahdjajdaggmjaaGreatDoorW.PrintLast Go.Proofs.YtahdjajdaggmjaaGreatDoorW.PrintMore
end Go.Proofs.YtahdjajdaggmjaaGreatDoor.XPd
end
section
set_option linter.unusedVariables false
set_option linter.unusedSimpArgs false
set_option linter.unusedSectionVars false
namespace Go.Proofs.YtahdjajdaggmjaaGreatDoor.XPd
open Go.RowKit Go.Proofs.YtahdjajdaggmjaaGreatDoorW.PrintWords Go.Proofs.YtahdjajdaggmjaaGreatDoorW.PrintLast Go.Proofs.YtahdjajdaggmjaaGreatDoorW.PrintMore
theorem nbVal(s:ByteArray):nbP s=(decide (s.size≤65536)&&nmB s):=Ev.val (fun k=>pa_named.mono _ k) (namedA s)
theorem bkL_app(a:List Tm)(t:Tm):bkL (a++[t])=bkL a+bkT t:=by
 induction a with
 | nil=>simp [bkL]
 | cons x r ih=>rw [List.cons_append,bkL,ih,bkL];omega
theorem bkB_app(a:List Br)(t:Br):bkB (a++[t])=bkB a+bkR t:=by
 induction a with
 | nil=>simp [bkB]
 | cons x r ih=>rw [List.cons_append,bkB,ih,bkB];omega
theorem okSL_app{P:List Cl→Prop}{Q:ByteArray→Prop}{a:List Tm}{t:Tm}(h:okSL P Q a)(ht:okS P Q t):okSL P Q (a++[t]):=by
 induction a with
 | nil=>exact⟨ht,trivial⟩
 | cons x r ih=>exact⟨h.1,ih h.2⟩
theorem okSB_app{P:List Cl→Prop}{Q:ByteArray→Prop}{a:List Br}{t:Br}(h:okSB P Q a)(ht:okSR P Q t):okSB P Q (a++[t]):=by
 induction a with
 | nil=>exact⟨ht,trivial⟩
 | cons x r ih=>exact⟨h.1,ih h.2⟩
def clB(c:Cl):Prop:=0≤c.f0∧c.f0≤2147483647∧0≤c.f1∧c.f1≤2147483647
def rowB(f:List Cl):Prop:=f.length≤64∧∀c∈f,clB c
theorem rowB_in{f:List Cl}(h:rowB f):rowIn f:=⟨List.all_eq_true.2 fun c hc=>decide_eq_true (by have:=h.2 c hc;unfold clB at this;omega),by have:=h.1;omega⟩
theorem rowIn_nil:rowIn []:=⟨rfl,Nat.zero_le _⟩
theorem nameIn_nil:nameIn ⟨#[]⟩:=Nat.zero_le _
section
variable {bs:List Int}
theorem numG_adv{a:Nat}:∀(k n i s:Nat) {r s1:Nat},numG bs a k n i s=.ok (r,s1)→s+1≤s1∧s1≤bs.length
 | 0,_,_,_,_,_,h=>by cases h
 | k+1,n,i,s,r,s1,h=>by
  rw [numG] at h
  split at h
  ·split at h
   ·cases h
   ·split at h
    ·cases h
     omega
    ·have:=numG_adv k _ _ _ h
     omega
  ·cases h
theorem num_adv{s r s1:Nat}(h:numS bs s=.ok (r,s1)):s+1≤s1∧s1≤bs.length:=numG_adv _ _ _ _ h
theorem cls_adv:∀(n:Nat) (acc:List Cl) (s:Nat) {f:List Cl} {s1:Nat},s≤bs.length→clsG bs n acc s=.ok (f,s1)→∃g,f=acc++g∧g.length=n∧s+2 * n≤s1∧s1≤bs.length∧∀c∈g,clB c
 | 0,acc,s,f,s1,hs,h=>by
  cases h
  exact⟨[],by simp,rfl,Nat.le_refl _,hs,fun c hc=>by cases hc⟩
 | n+1,acc,s,f,s1,hs,h=>by
  rw [clsG] at h
  split at h
  ·cases h
  ·rename_i a sa ha
   split at h
   ·cases h
   ·rename_i b sb hb
    have h1:=num_adv ha
    have h3:=num_adv hb
    have h2:=numS_le ha
    have h4:=numS_le hb
    obtain⟨g,hf,hl,hat,hle,hc⟩:=cls_adv n _ _ h3.2 h
    refine⟨⟨(a:Int),(b:Int)⟩ :: g,by rw [hf,List.append_assoc];rfl,by rw [List.length_cons,hl],by omega,hle,fun c hc'=>?_⟩
    rcases List.mem_cons.1 hc' with rfl | hc'
    ·exact⟨Int.natCast_nonneg _,by show(a:Int)≤_;omega,Int.natCast_nonneg _,by show(b:Int)≤_;omega⟩
    ·exact hc c hc'
theorem row_adv{right:List Cl→Bool}{s s1:Nat}{f:List Cl}(h:rowS right bs s=.ok (f,s1)):s+1+2 * f.length≤s1∧s1≤bs.length∧rowB f:=by
 unfold rowS at h
 split at h
 ·cases h
 ·rename_i n sn hn
  have h1:=num_adv hn
  split at h
  ·cases h
  ·rcases hc:clsG bs n [] sn with y | ⟨g,sg⟩
   ·rw [hc,finR] at h
    cases h
   ·rw [hc,finR] at h
    obtain⟨g2,rfl,hl,h2,h3,h4⟩:=cls_adv n [] sn h1.2 hc
    split at h
    ·cases h
     exact⟨by omega,h3,by omega,h4⟩
    ·cases h
theorem text_adv{nb:ByteArray→Bool}{s s1:Nat}{x:ByteArray}(h:textS nb bs s=.ok (x,s1)):s+1+x.size≤s1∧s1≤bs.length∧nb x=true:=by
 unfold textS at h
 split at h
 ·cases h
 ·rename_i n s2 hn
  have h1:=num_adv hn
  split at h
  ·cases h
  ·split at h
   ·rename_i hb
    cases h
    refine⟨?_,by omega,hb⟩
    simp only [strOfNums,ByteArray.size,List.size_toArray,List.length_map,List.length_drop,List.length_take]
    omega
   ·cases h
def Fwd(bs:List Int)(T:Nat→Except (Int×Int) (Tm×Nat)):Prop:=∀s t s1,s≤bs.length→T s=.ok (t,s1)→bkT t+7 * s≤7 * s1∧s1≤bs.length∧okS rowIn nameIn t
theorem many_fwd{T:Nat→Except (Int×Int) (Tm×Nat)}(hT:Fwd bs T):∀(n:Nat) (acc:List Tm) (s:Nat) {ks:List Tm} {s1:Nat},s≤bs.length→okSL rowIn nameIn acc→manyS T n acc s=.ok (ks,s1)→bkL ks+7 * s≤bkL acc+7 * s1∧s1≤bs.length∧okSL rowIn nameIn ks
 | 0,acc,s,ks,s1,hs,ho,h=>by
  rw [manyS] at h
  cases h
  exact⟨Nat.le_refl _,hs,ho⟩
 | n+1,acc,s,ks,s1,hs,ho,h=>by
  rw [manyS] at h
  split at h
  ·cases h
  ·rename_i t s2 hq
   obtain⟨h1,h2,h3⟩:=hT _ _ _ hs hq
   obtain⟨h4,h5,h6⟩:=many_fwd hT n _ _ h2 (okSL_app ho h3) h
   rw [bkL_app] at h4
   exact⟨by omega,h5,h6⟩
theorem br_fwd{fa:List Cl→Bool}{T:Nat→Except (Int×Int) (Tm×Nat)}(hT:Fwd bs T)(q:Nat):∀(n:Nat) (acc:List Br) (s:Nat) {l:List Br} {s1:Nat},s≤bs.length→okSB rowIn nameIn acc→brS fa bs T q n acc s=.ok (l,s1)→bkB l+7 * s≤bkB acc+7 * s1∧s1≤bs.length∧okSB rowIn nameIn l
 | 0,acc,s,l,s1,hs,ho,h=>by
  rw [brS] at h
  cases h
  exact⟨Nat.le_refl _,hs,ho⟩
 | n+1,acc,s,l,s1,hs,ho,h=>by
  rw [brS] at h
  split at h
  ·cases h
  ·rename_i f s2 hq
   obtain⟨a1,a2,a3⟩:=row_adv hq
   split at h
   ·cases h
   ·rename_i ks s3 hm
    obtain⟨b1,b2,b3⟩:=many_fwd hT q [] _ a2 trivial hm
    obtain⟨c1,c2,c3⟩:=br_fwd hT q n _ _ b2 (okSB_app ho (by rw [okSR];exact⟨rowB_in a3,b3⟩)) h
    rw [bkB_app,bkR] at c1
    rw [bkL] at b1
    exact⟨by omega,c2,c3⟩
variable (hlen:bs.length≤1000000)
include hlen
theorem head_adv{nb:ByteArray→Bool}{fr fa:List Cl→Bool}{k n:Int}{s s1:Nat}{x:ByteArray}{r:List Cl}(hs:s≤bs.length)(h:headS nb fr fa bs k s=.ok ((n,x,r),s1)):x.size+3 * r.length+7 * s≤7 * s1∧s1≤bs.length∧rowIn r∧nameIn x:=by
 have e0:(⟨#[]⟩:ByteArray).size=0:=rfl
 unfold headS at h
 split at h
 ·split at h
  ·cases h
  ·rename_i hq
   have:=num_adv hq
   cases h
   exact⟨by rw [e0,List.length_nil];omega,this.2,rowIn_nil,nameIn_nil⟩
 ·split at h
  ·split at h
   ·cases h
   ·rename_i hq
    have:=text_adv hq
    cases h
    exact⟨by rw [List.length_nil];omega,this.2.1,rowIn_nil,by unfold nameIn;omega⟩
  ·split at h
   ·split at h
    ·cases h
    ·rename_i hq
     have:=row_adv hq
     cases h
     exact⟨by rw [e0];omega,this.2.1,rowB_in this.2.2,nameIn_nil⟩
   ·split at h
    ·split at h
     ·cases h
     ·rename_i hq
      have:=row_adv hq
      cases h
      exact⟨by rw [e0];omega,this.2.1,rowB_in this.2.2,nameIn_nil⟩
    ·cases h
     exact⟨by rw [e0,List.length_nil];omega,hs,rowIn_nil,nameIn_nil⟩
theorem term_fwd(nb:ByteArray→Bool)(fr fa:List Cl→Bool):∀d,Fwd bs (termS nb fr fa bs d)
 | 0,s,t,s1,hs,h=>by
  rw [termS] at h
  split at h
  ·split at h<;>cases h
  ·cases h
 | d+1,s,t,s1,hs,h=>by
  rw [termS] at h
  split at h
  ·rename_i hlt
   split at h
   ·cases h
   ·rcases hh:headS nb fr fa bs (rd bs s) (s+1) with y | ⟨⟨n,x,r⟩,s2⟩
    ·rw [hh,tailS] at h
     cases h
    ·rw [hh,tailS] at h
     obtain⟨a1,a2,a3,a4⟩:=head_adv hlen hlt hh
     rcases hm:manyS (termS nb fr fa bs d) (kidsI (rd bs s)).toNat [] s2 with y | ⟨ks,s3⟩
     ·rw [hm,tailK] at h
      cases h
     ·rw [hm,tailK] at h
      obtain⟨b1,b2,b3⟩:=many_fwd (term_fwd nb fr fa d) _ [] _ a2 trivial hm
      rw [bkL] at b1
      split at h
      ·cases h
       exact⟨by rw [bkT,bkB];omega,b2,a3,a4,b3,trivial⟩
      ·rcases hn:numS bs s3 with y | ⟨c,s4⟩
       ·rw [hn,tailN] at h
        cases h
       ·rw [hn,tailN] at h
        have c1:=num_adv hn
        rcases hb:brS fa bs (termS nb fr fa bs d) (partsI (rd bs s)).toNat c [] s4 with y | ⟨l,s5⟩
        ·rw [hb,tailL] at h
         cases h
        ·rw [hb,tailL] at h
         obtain⟨d1,d2,d3⟩:=br_fwd (term_fwd nb fr fa d) _ _ [] _ c1.2 trivial hb
         rw [bkB] at d1
         cases h
         exact⟨by rw [bkT];omega,d2,a3,a4,b3,d3⟩
  ·cases h
def TmOk(t:Tm):Prop:=okS rowIn nameIn t∧bkT t≤7000000
theorem term_ok(nb:ByteArray→Bool)(fr fa:List Cl→Bool){s s1:Nat}{t:Tm}(h:termS nb fr fa bs 200 s=.ok (t,s1)):TmOk t∧s1≤bs.length∧bkT t≤7 * bs.length:=by
 by_cases hs:s≤bs.length
 ·obtain⟨h1,h2,h3⟩:=term_fwd hlen nb fr fa 200 _ _ _ hs h
  exact⟨⟨h3,by omega⟩,h2,by omega⟩
 ·rw [termS,if_neg (by omega)] at h
  cases h
omit hlen in
theorem pt_of{t:Tm}(h:TmOk t):PTp t:=(right_evS t h.1 (by have:=(bk_T t).1;have:=h.2;omega)).has
def EnOk(x:En):Prop:=TmOk x.f1∧TmOk x.f2
theorem whole_ok{nb:ByteArray→Bool}{fr fa:List Cl→Bool}{rt:Tm→Int}{s s1:Nat}{t:Tm}(h:wholeS nb fr fa rt bs s=.ok (t,s1)):TmOk t∧s1≤bs.length:=by
 rw [wholeS] at h
 split at h
 ·cases h
 ·rename_i u su hq
  have h1:=term_ok hlen nb fr fa hq
  split at h
  ·cases h
   exact⟨h1.1,h1.2.1⟩
  ·cases h
theorem whole_fwd{nb:ByteArray→Bool}{fr fa:List Cl→Bool}{rt:Tm→Int}{s s1:Nat}{t:Tm}(hs:s≤bs.length)(h:wholeS nb fr fa rt bs s=.ok (t,s1)):s≤s1:=by
 rw [wholeS] at h
 split at h
 ·cases h
 ·rename_i u su hq
  have h1:=term_fwd hlen nb fr fa 200 _ _ _ hs hq
  split at h
  ·cases h
   omega
  ·cases h
theorem ents_ok{nb:ByteArray→Bool}{fr fa:List Cl→Bool}{rt:Tm→Int}:∀(n:Nat) (acc:List En) (s:Nat) {l:List En} {s1:Nat},(∀x∈acc,EnOk x)→entsS nb fr fa rt bs n acc s=.ok (l,s1)→(∀x∈l,EnOk x)∧l.length=acc.length+n∧(0<n→s+n≤s1∧s1≤bs.length)
 | 0,acc,s,l,s1,ha,h=>by
  cases h
  exact⟨ha,rfl,fun h=>absurd h (by omega)⟩
 | n+1,acc,s,l,s1,ha,h=>by
  rw [entsS] at h
  split at h
  ·cases h
  ·rename_i x sx hq
   have hx:EnOk x∧s+1≤sx∧sx≤bs.length:=by
    unfold entS at hq
    split at hq
    ·cases hq
    ·rename_i y sy hy
     have h0:=text_adv hy
     split at hq
     ·cases hq
     ·split at hq
      ·cases hq
      ·rename_i t1 s2 h1
       split at hq
       ·cases hq
       ·rename_i t2 s3 h2
        have e1:=whole_ok hlen h1
        have e2:=whole_ok hlen h2
        have f1:=whole_fwd hlen (by omega) h1
        have f2:=whole_fwd hlen e1.2 h2
        cases hq
        exact⟨⟨e1.1,e2.1⟩,by omega,e2.2⟩
   obtain⟨r1,r2,r3⟩:=ents_ok n _ _ (fun z hz=>by
    rcases List.mem_append.1 hz with hz | hz
    ·exact ha z hz
    ·rw [List.mem_singleton.1 hz]
     exact hx.1) h
   refine⟨r1,by rw [r2,List.length_append,List.length_singleton];omega,fun _=>?_⟩
   by_cases hn:0<n
   ·have:=r3 hn
    omega
   ·obtain rfl:n=0:=by omega
    cases h
    omega
theorem body_ok{nb:ByteArray→Bool}{fr fa:List Cl→Bool}{rt:Tm→Int}{l:List En}(h:bodyS nb fr fa rt bs=.ok l):(∀x∈l,EnOk x)∧l.length≤bs.length:=by
 unfold bodyS at h
 split at h
 ·cases h
 ·split at h
  ·cases h
  ·rename_i n s hn
   rcases he:entsS nb fr fa rt bs n [] s with y | ⟨x,s1⟩
   ·rw [he,endS] at h
    cases h
   ·rw [he,endS] at h
    obtain⟨r1,r2,r3⟩:=ents_ok hlen n [] s (fun x hx=>absurd hx (by simp)) he
    split at h
    ·cases h
    ·cases h
     refine⟨r1, ?_⟩
     rw [r2,List.length_nil]
     by_cases h0:0<n
     ·have:=r3 h0
      omega
     ·omega
end
theorem readG_all:readG:=by
 refine⟨fun s _=>(namedA s).has,fun f hf hc=>?_⟩
 have h:=rowP (rowB_in (f:=f) ⟨hf,fun c hc'=>hc c hc'⟩)
 exact⟨h.1.1,h.1.2.1⟩
theorem decG_of{l:List Int}(hby:By l)(hl:l.length≤1000000):decG l:=by
 have hby2:By (l.take (l.length-4)):=fun x hx=>hby x (List.mem_of_mem_take hx)
 have hl2:(l.take (l.length-4)).length≤1000000:=by rw [List.length_take];omega
 refine⟨readG_all,hby,.inl hl,(sealed_ev _ (by omega) hby2).has, ?_,fun s t s1 h=>pt_of (term_ok hl2 nbP frP faP h).1⟩
 rw [slV _ (by omega) hby2]
 refine hby2.app fun x hx=>?_
 unfold four at hx
 simp only [List.mem_cons,List.not_mem_nil,or_false] at hx
 omega
theorem decode_val{l:List Int}(hby:By l)(hl:l.length≤1000000):pa_Decode.f l=some (decI nbP frP faP rtP slP l):=by
 unfold pa_Decode.f
 exact if_pos (decG_of hby hl)
theorem sum4:pa_sealed.f 10 [72,67,1,0]=some [72,67,1,0,113,137,183,37]:=by kernel_rfl
theorem slP4:slP [72,67,1,0]=[72,67,1,0,113,137,183,37]:=valO_eq (fun k=>pa_sealed.mono _ k) sum4
theorem encode_nil:pa_Encode.f []=some ([72,67,1,0,113,137,183,37],0):=by
 have hg:encG0 []:=⟨rfl,10,_,sum4⟩
 unfold pa_Encode.f
 refine(if_pos hg).trans ?_
 rw [slP4]
theorem decode_8:pa_Decode.f [72,67,1,0,113,137,183,37]=some ([],0,0):=by
 rw [decode_val (fun x hx=>by simp at hx;omega) (by decide)]
 congr 1
 unfold decI
 rw [show([72,67,1,0,113,137,183,37]:List Int).take (([72,67,1,0,113,137,183,37]:List Int).length-4)=[72,67,1,0] from rfl,slP4,if_neg (by decide),if_neg (by decide),if_neg (by simp)]
 have hn:numS [72,67,1,0] 3=.ok (0,4):=by kernel_rfl
 rw [bodyS,show headB [72,67,1,0]=none by decide]
 dsimp only
 rw [hn]
 rfl
theorem works:Ev (fun k=>w36works.f k) true:=by
 have hs:pack_Sum.f 3 []=some 2166136261:=by kernel_rfl
 obtain⟨k0,h0⟩:=Ev.of (fun k=>pack_Sum.mono _ k) hs
 refine⟨k0,fun k hk=>?_⟩
 show w36works.f k=some true
 unfold w36works.f
 rw [encode_nil,Option.bind_some,decode_8,Option.bind_some]
 simp [rd,h0 k hk]
section
variable {bs:List Int}{nb nb':ByteArray→Bool}{fr fa fr' fa':List Cl→Bool}{rt rt':Tm→Int}
theorem text_c(hn:∀s:ByteArray,s.size≤bs.length→nb s=nb' s):textS nb bs=textS nb' bs:=by
 funext s
 unfold textS
 rcases hq:numS bs s with y | ⟨n,s2⟩
 ·rfl
 ·dsimp only
  by_cases h1:bs.length-s2<n
  ·rw [if_pos h1,if_pos h1]
  ·rw [if_neg h1,if_neg h1,hn]
   simp only [strOfNums,ByteArray.size,List.size_toArray,List.length_map,List.length_drop,List.length_take]
   omega
theorem row_c(hr:∀f:List Cl,rowB f→fr f=fr' f):rowS fr bs=rowS fr' bs:=by
 funext s
 unfold rowS
 rcases hq:numS bs s with y | ⟨n,s2⟩
 ·rfl
 ·dsimp only
  by_cases h1:64<n
  ·rw [if_pos h1,if_pos h1]
  ·rw [if_neg h1,if_neg h1]
   rcases hc:clsG bs n [] s2 with y | ⟨f,s3⟩
   ·rfl
   ·obtain⟨g,rfl,hg,_,_,hcl⟩:=cls_adv n [] s2 (num_adv hq).2 hc
    rw [finR,finR,hr _ ⟨by first | omega | (rw [List.nil_append,hg];omega),by first | exact hcl | (rw [List.nil_append];exact hcl)⟩]
theorem term_c(hn:∀s:ByteArray,s.size≤bs.length→nb s=nb' s)(hr:∀f:List Cl,rowB f→fr f=fr' f)(ha:∀f:List Cl,rowB f→fa f=fa' f):∀d,termS nb fr fa bs d=termS nb' fr' fa' bs d:=by
 have h1:=text_c hn
 have h2:=row_c (bs:=bs) hr
 have h3:=row_c (bs:=bs) ha
 have hh:∀k s,headS nb fr fa bs k s=headS nb' fr' fa' bs k s:=fun k s=>by
  unfold headS
  rw [h1,h2,h3]
 intro d
 induction d with
 | zero=>rfl
 | succ d ih =>
  have hb:∀q n acc s,brS fa bs (termS nb' fr' fa' bs d) q n acc s=brS fa' bs (termS nb' fr' fa' bs d) q n acc s:=fun q n=>by
   induction n with
   | zero=>exact fun acc s=>rfl
   | succ n ihn =>
    intro acc s
    rw [brS,brS,h3]
    rcases rowS fa' bs s with y | ⟨f,s1⟩
    ·rfl
    ·dsimp only
     rcases manyS (termS nb' fr' fa' bs d) q [] s1 with y | ⟨ks,s2⟩
     ·rfl
     ·exact ihn _ _
  funext s
  rw [termS,termS,ih,hh]
  by_cases hs:s<bs.length
  ·rw [if_pos hs,if_pos hs]
   by_cases hk:kidsI (rd bs s)<0
   ·rw [if_pos hk,if_pos hk]
   ·rw [if_neg hk,if_neg hk]
    rcases headS nb' fr' fa' bs (rd bs s) (s+1) with y | ⟨⟨n,x,r⟩,s1⟩
    ·rfl
    ·rw [tailS,tailS]
     rcases manyS (termS nb' fr' fa' bs d) (kidsI (rd bs s)).toNat [] s1 with y | ⟨ks,s2⟩
     ·rfl
     ·rw [tailK,tailK]
      by_cases hp:partsI (rd bs s)=0
      ·rw [if_pos hp,if_pos hp]
      ·rw [if_neg hp,if_neg hp]
       rcases numS bs s2 with y | ⟨c,s3⟩
       ·rfl
       ·rw [tailN,tailN,hb]
  ·rw [if_neg hs,if_neg hs]
theorem whole_c(hT:termS nb fr fa bs 200=termS nb' fr' fa' bs 200)(ht:∀s t s1,termS nb' fr' fa' bs 200 s=.ok (t,s1)→rt t=rt' t):wholeS nb fr fa rt bs=wholeS nb' fr' fa' rt' bs:=by
 funext s
 rw [wholeS,wholeS,hT]
 rcases hq:termS nb' fr' fa' bs 200 s with y | ⟨t,s1⟩
 ·rfl
 ·dsimp only
  rw [ht _ _ _ hq]
theorem body_c(h1:textS nb bs=textS nb' bs)(hW:wholeS nb fr fa rt bs=wholeS nb' fr' fa' rt' bs):bodyS nb fr fa rt bs=bodyS nb' fr' fa' rt' bs:=by
 have hE:∀seen s,entS nb fr fa rt bs seen s=entS nb' fr' fa' rt' bs seen s:=fun seen s=>by
  unfold entS
  rw [h1,hW]
 have hS:∀n acc s,entsS nb fr fa rt bs n acc s=entsS nb' fr' fa' rt' bs n acc s:=fun n=>by
  induction n with
  | zero=>exact fun acc s=>rfl
  | succ n ih =>
   intro acc s
   rw [entsS,entsS,hE]
   simp only [ih]
 unfold bodyS
 rcases headB bs with _ | a
 ·dsimp only
  rcases numS bs 3 with y | ⟨n,s⟩
  ·rfl
  ·dsimp only
   rw [hS]
 ·rfl
end
theorem nbQ_eq(s:ByteArray):nbQ s=nbP s:=by
 rw [nbVal]
 exact Ev.val (fun k=>r08Named.mono _ k) (NamedA s)
theorem r3Q_eq{f:List Cl}(h:rowB f):PFQ f∧r3Q f=frP f∧r5Q f=faP f∧(frP f&&faP f)=faP f:=by
 have hin:=rowB_in h
 obtain⟨e,hl⟩:=rowIn_LC hin
 have h3:=right3E (cvt f) hl
 have h5:=face5E (cvt f) hl
 rw [e] at h3 h5
 have hp:=rowP hin
 refine⟨⟨h3.has,h5.has⟩,(Ev.val (fun k=>r03Right.mono _ k) h3).trans hp.2.1.symm,(Ev.val (fun k=>r05Right.mono _ k) h5).trans hp.2.2.1.symm, ?_⟩
 rw [hp.2.1,hp.2.2.1,faceR]
 cases H.right (cvt f)<;>simp
theorem rgt_eq{f:List Cl}(h:rowB f):rgt r3Q r5Q false f=frP f∧rgt r3Q r5Q true f=faP f:=by
 obtain⟨_,h1,h2,h3⟩:=r3Q_eq h
 refine⟨?_, ?_⟩
 ·rw [rgt,h1]
  simp
 ·rw [rgt,h1,h2]
  simpa using h3
section
variable {bs:List Int}(hby:By bs)(hlen:bs.length≤100000)
include hby
theorem termQ:termS nbQ (rgt r3Q r5Q false) (rgt r3Q r5Q true) bs 200=termS nbP frP faP bs 200:=term_c (fun s _=>nbQ_eq s) (fun f h=>(rgt_eq h).1) (fun f h=>(rgt_eq h).2) 200
include hlen
theorem rtQ_ev{s s1:Nat}{t:Tm}(h:termS nbP frP faP bs 200 s=.ok (t,s1)):Ev (fun k=>r10Right.f k t.f0 t.f1 t.f2 t.f3 t.f4 t.f5 0 0) (rtV t)∧rtP t=rtV t:=by
 obtain⟨ho,_,hb⟩:=term_ok (by omega) nbP frP faP h
 exact⟨Right_ev t ho.1 (by omega),Ev.val (fun k=>te_Right.mono _ _ _ _ _ _ _ _ k) (right_evS t ho.1 (by have:=(bk_T t).1;omega))⟩
theorem rtQ_eq{s s1:Nat}{t:Tm}(h:termS nbP frP faP bs 200 s=.ok (t,s1)):PTQ t∧rtQ t=rtP t:=by
 obtain⟨h1,h2⟩:=rtQ_ev hby hlen h
 exact⟨h1.has,(Ev.val (fun k=>r10Right.mono _ _ _ _ _ _ _ _ k) h1).trans h2.symm⟩
theorem bodyQ:bodyS nbQ (rgt r3Q r5Q false) (rgt r3Q r5Q true) rtQ bs=bodyS nbP frP faP rtP bs :=
 body_c (text_c (fun s _=>nbQ_eq s)) (whole_c (termQ hby) (fun s t s1 h=>(rtQ_eq hby hlen h).2))
theorem smQ_eq:PSQ bs∧smQ bs=((sumN 2166136261 bs:Nat):Int):=by
 have h:=rsum bs (by omega) hby
 exact⟨h.has,Ev.val (fun k=>r36Sum.mono _ k) h⟩
end
theorem big4{l:List Int}{en s:Nat}(hby:By l)(h:l.length=en+4)(hs:s<4294967296):(l.take en++four s=l)↔bigJ l en 4=(s:Int):=by
 have hd:l.drop en=[rd l (en:Int),rd l ((en:Int)+1),rd l ((en:Int)+2),rd l ((en:Int)+3)]:=by
  rw [show(en:Int)+1=((en+1:Nat):Int) from rfl,show(en:Int)+2=((en+2:Nat):Int) from rfl,show(en:Int)+3=((en+3:Nat):Int) from rfl]
  rw [rd_at (by omega),rd_at (by omega),rd_at (by omega),rd_at (by omega),drop_at (by omega),drop_at (by omega),drop_at (by omega),drop_at (by omega),List.drop_eq_nil_of_le (by omega)]
 have hsp:l.take en++four s=l↔four s=l.drop en:=by
  constructor
  ·intro h2
   have h3:l.take en++four s=l.take en++l.drop en:=by rw [h2,List.take_append_drop]
   exact List.append_cancel_left h3
  ·intro h2
   rw [h2,List.take_append_drop]
 rw [hsp,hd]
 have b0:=rd_oct hby (en:Int)
 have b1:=rd_oct hby ((en:Int)+1)
 have b2:=rd_oct hby ((en:Int)+2)
 have b3:=rd_oct hby ((en:Int)+3)
 have hJ:bigJ l en 4=((rd l (en:Int) * 256+rd l ((en:Int)+1)) * 256+rd l ((en:Int)+2)) * 256+rd l ((en:Int)+3):=by
  simp only [bigJ]
  rw [show(en:Int)+((0:Nat):Int)=(en:Int) from Int.add_zero _]
  simp
 rw [hJ]
 generalize rd l (en:Int)=x0 at *
 generalize rd l ((en:Int)+1)=x1 at *
 generalize rd l ((en:Int)+2)=x2 at *
 generalize rd l ((en:Int)+3)=x3 at *
 unfold four
 simp only [List.cons.injEq,and_true]
 omega
theorem dec_same{l:List Int}(hby:By l)(hl:l.length≤100000):rdecG l∧rdecI nbQ (rgt r3Q r5Q false) (rgt r3Q r5Q true) rtQ smQ l=((decI nbP frP faP rtP slP l).1.map toE,(decI nbP frP faP rtP slP l).2.1,(decI nbP frP faP rtP slP l).2.2):=by
 have hby2:By (l.take (l.length-4)):=fun x hx=>hby x (List.mem_of_mem_take hx)
 have hl2:(l.take (l.length-4)).length≤100000:=by rw [List.length_take];omega
 refine⟨⟨⟨fun s _=>(NamedA s).has,fun f hf hc=>(r3Q_eq (f:=f) ⟨hf,fun c hc'=>hc c hc'⟩).1⟩,hby,.inl (by omega),(smQ_eq hby2 hl2).1,fun s t s1 h=>?_⟩, ?_⟩
 ·rw [termQ hby2] at h
  exact(rtQ_eq hby2 hl2 h).1
 ·unfold rdecI decI
  have hbig:¬1048576<l.length:=by omega
  rw [if_neg hbig,if_neg hbig]
  by_cases h8:l.length<8
  ·rw [if_pos h8,if_pos h8]
   rfl
  ·rw [if_neg h8,if_neg h8,(smQ_eq hby2 hl2).2,slV _ (by omega) hby2,bodyQ hby2 hl2]
   have hb:=big4 (l:=l) (en:=l.length-4) (s:=sumN 2166136261 (l.take (l.length-4))) hby (by omega) (sumN_lt _ _ (by decide))
   by_cases hq:bigJ l (l.length-4) 4=((sumN 2166136261 (l.take (l.length-4)):Nat):Int)
   ·rw [if_neg (fun h=>h hq),if_neg (fun h=>h (hb.2 hq))]
    rcases bodyS nbP frP faP rtP (l.take (l.length-4)) with y | x<;>rfl
   ·rw [if_pos hq,if_pos (fun h=>hq (hb.1 h))]
    rfl
theorem entries_l0(l:List En)(hl:l.length≤100000):∀(n j:Nat),j+n=l.length→Ev (fun k=>w36entrie.l0 k ((l.take j).map toE) l (l.length:Int) (j:Int)) (l.map toE):=by
 intro n
 induction n with
 | zero =>
  intro j hj
  refine evU (fun k=>by rw [w36entrie.l0]) (Ev.neg (by omega) (Ev.const ?_))
  rw [List.take_of_length_le (by omega)]
 | succ n ih =>
  intro j hj
  have hlt:j<l.length:=by omega
  refine evU (fun k=>by rw [w36entrie.l0]) (Ev.pos (by omega) (Ev.pos (by omega) (Ev.pos (by omega) (Ev.pos (by rw [List.length_map,List.length_take];omega) ?_))))
  rw [rd_T59_at hlt,wsucc j (by omega)]
  simp only [tm_eta]
  have h:=ih (j+1) (by omega)
  rw [List.take_succ_eq_append_getElem hlt,List.map_append] at h
  exact h
theorem entries_ev(l:List En)(hl:l.length≤100000):Ev (fun k=>w36entrie.f k l) (l.map toE) :=
 evS (fun k=>by rw [w36entrie.f];rfl) (entries_l0 l hl l.length 0 (by omega))
theorem same_l0(l:List Cl)(hl:l.length≤1000000):∀(n j:Nat),j+n=l.length→Ev (fun k=>r02Same.l0 k l l (j:Int)) true:=by
 intro n
 induction n with
 | zero =>
  intro j hj
  exact evU (fun k=>by rw [r02Same.l0]) (Ev.neg (by omega) (Ev.const rfl))
 | succ n ih =>
  intro j hj
  refine evU (fun k=>by rw [r02Same.l0]) (Ev.pos (by omega) (Ev.pos (by omega) (Ev.pos (by omega) (Ev.neg (by simp) ?_))))
  rw [ws j (by omega)]
  exact ih (j+1) (by omega)
theorem same_row{l:List Cl}(h:rowIn l):∃k,r02Same.f k l l=some true:=by
 obtain⟨k,hk⟩:=same_l0 l h.2 l.length 0 (by omega)
 refine⟨k, ?_⟩
 rw [r02Same.f,if_pos rfl]
 exact hk k (Nat.le_refl _)
theorem same_val{l:List En}(h:∀x∈l,EnOk x):r36Same.f (l.map toE) (l.map toE)=some true:=by
 unfold r36Same.f
 refine if_pos ⟨rfl,fun x hx=>?_⟩
 obtain⟨y,hy,rfl⟩:=List.mem_map.1 hx
 obtain⟨o1,o2⟩:=h y hy
 exact⟨okS_imp (fun f hf=>same_row hf) (fun _ _=>trivial) _ o1.1,okS_imp (fun f hf=>same_row hf) (fun _ _=>trivial) _ o2.1⟩
theorem dec_ok{l:List Int}(hby:By l)(hl:l.length≤100000):((decI nbP frP faP rtP slP l).1).length≤100000∧∀x∈(decI nbP frP faP rtP slP l).1,EnOk x:=by
 have hby2:By (l.take (l.length-4)):=fun x hx=>hby x (List.mem_of_mem_take hx)
 have hl2:(l.take (l.length-4)).length≤100000:=by rw [List.length_take];omega
 unfold decI
 split
 ·exact⟨Nat.zero_le _,fun x hx=>absurd hx (by simp)⟩
 ·split
  ·exact⟨Nat.zero_le _,fun x hx=>absurd hx (by simp)⟩
  ·rename_i h8
   split
   ·exact⟨Nat.zero_le _,fun x hx=>absurd hx (by simp)⟩
   ·rcases hb:bodyS nbP frP faP rtP (l.take (l.length-4)) with y | x
    ·exact⟨Nat.zero_le _,fun x hx=>absurd hx (by simp [outD])⟩
    ·obtain⟨r3,r4⟩:=body_ok (by omega) hb
     exact⟨by show x.length≤_;omega,r3⟩
theorem rdecode_val{l:List Int}(hby:By l)(hl:l.length≤100000):r36Decode.f l=some ((decI nbP frP faP rtP slP l).1.map toE,(decI nbP frP faP rtP slP l).2.1,(decI nbP frP faP rtP slP l).2.2):=by
 obtain⟨h1,h2⟩:=dec_same hby hl
 unfold r36Decode.f
 rw [←h2]
 exact if_pos h1
theorem PackDecodes(l:List Int)(hby:By l):∃k,w36PackDe.f k l=some true:=by
 suffices h:Ev (fun k=>w36PackDe.f k l) true by
  obtain⟨k0,h0⟩:=h
  exact⟨k0,h0 k0 (Nat.le_refl _)⟩
 refine evS (fun k=>by rw [w36PackDe.f]) ?_
 by_cases hl:(l.length:Int) > 4000
 ·exact Ev.pos hl (Ev.bind works (Ev.now _))
 ·obtain⟨d1,d2⟩:=dec_ok hby (by omega)
  refine Ev.neg hl (Ev.bindc rfl (Ev.pos (by show 0+l.length<_;omega) (Ev.bindc (a:=l) rfl ?_)))
  refine Ev.bindc (decode_val hby (by omega)) (Ev.bindc (rdecode_val hby (by omega)) (Ev.bind (entries_ev _ d1) (Ev.bindc (same_val d2) ?_)))
  exact Ev.pos rfl (Ev.pos rfl (Ev.pos rfl (Ev.pos rfl (Ev.bind works (Ev.pos rfl (Ev.now _))))))
theorem PackReads(l:List Int)(hby:By l):∃k,w36PackRe.f k l=some true:=by
 suffices h:Ev (fun k=>w36PackRe.f k l) true by
  obtain⟨k0,h0⟩:=h
  exact⟨k0,h0 k0 (Nat.le_refl _)⟩
 refine evS (fun k=>by rw [w36PackRe.f]) ?_
 by_cases hl:(l.length:Int) > 4000
 ·exact Ev.pos hl (Ev.bind works (Ev.now _))
 ·have hb1:By ([72,67,1]++l):=By.app (fun x hx=>by simp at hx;omega) hby
  have hl1:([72,67,1]++l).length=3+l.length:=by rw [List.length_append];rfl
  obtain⟨s,hs⟩:∃s,s=sumN 2166136261 ([72,67,1]++l):=⟨_,rfl⟩
  obtain⟨a,ha⟩:∃a:List Int,a=([72,67,1]++l)++[((s:Nat):Int) / 16777216 % 256,((s:Nat):Int) / 65536 % 256,((s:Nat):Int) / 256 % 256,((s:Nat):Int) % 256]:=⟨_,rfl⟩
  have hba:By a:=by
   rw [ha]
   refine By.app hb1 (fun x hx=>?_)
   simp only [List.mem_cons,List.not_mem_nil,or_false] at hx
   omega
  have hla:a.length=7+l.length:=by
   rw [ha,List.length_append,hl1]
   show 3+l.length+4=_
   omega
  obtain⟨d1,d2⟩:=dec_ok hba (by omega)
  have hsum:=rsum ([72,67,1]++l) (by omega) hb1
  rw [←hs] at hsum
  refine Ev.neg hl (Ev.bindc rfl (Ev.pos (by show 3+l.length<_;omega) (Ev.bindc rfl (Ev.bind hsum (Ev.bindc rfl (Ev.pos (by show([72,67,1]++l).length+4<_;omega) (Ev.bindc (a:=a) (by rw [ha]) ?_)))))))
  refine Ev.bindc (decode_val hba (by omega)) (Ev.bindc (rdecode_val hba (by omega)) (Ev.bind (entries_ev _ d1) (Ev.bindc (same_val d2) ?_)))
  exact Ev.pos rfl (Ev.pos rfl (Ev.pos rfl (Ev.bind works (Ev.now _))))
end Go.Proofs.YtahdjajdaggmjaaGreatDoor.XPd
end
