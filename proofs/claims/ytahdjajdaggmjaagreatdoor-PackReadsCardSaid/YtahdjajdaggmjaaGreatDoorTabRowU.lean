/-
From a row's list of variables to the tables of the decoder and the lexer's signs;a start for the witness in which they lie.
-/
import Derived.Test.YtahdjajdaggmjaaGreatDoorRows
import Derived.ProofKit
import Derived.OpenShut
import Derived.Deep.DeepHandedRow
import Derived.Lib.LaidU8
import Derived.Test.YtahdjajdaggmjaaGreatDoorSortLay
namespace Go.Proofs.YtahdjajdaggmjaaGreatDoor
open Go.ChangeShapes Go.WideShapes Go.ChangeAt Go.RowKit
theorem own:ownKnob Tryz.prog.godebug=none:=by kernel_rfl
theorem gSigns:Tryz.prog.globalNamed "hypercube/lex.signs" = some 0:=by kernel_rfl
theorem gSignsType:(Tryz.prog.globals[0]?).map (·.type)=some 139:=by kernel_rfl
theorem cSigns:Tryz.prog.cellsOf 139=20:=by kernel_rfl
theorem cString:Tryz.prog.cellsOf 9=1:=by kernel_rfl
theorem u8x:U8Extra Tryz.prog Tryz.lays260_ren:=⟨by kernel_rfl,by kernel_rfl,by kernel_rfl,by kernel_rfl,by kernel_rfl,by kernel_rfl,by kernel_rfl⟩
theorem cells_of_strs{H:Type}{enc:TypeId×Value→H}{P:Program}{w:World}{base:Nat}{sp:Nat→Bool}{held:Bool}{fuel:Nat}{t e:TypeId}{n:Nat}{cs:List Value}{zs:List (List UInt8)}{p:List MemPlace}
  (ht:P.underlying t=some (.array n e)) (he:P.underlying e=some .string) (hce:P.cellsOf e=1) (hct:P.cellsOf t=n)
  (h:DataW.trod enc P w base sp held fuel t cs=some (.agg (zs.map fun b=>.lit (.string b)),p)):cs=zs.map fun b=>Value.string ⟨b.toArray⟩:=by
 cases fuel with
 | zero=>simp [DataW.trod] at h
 | succ fuel =>
  simp only [DataW.trod,ht,hce,hct,Nat.mul_one] at h
  split at h
  ·rename_i hl
   obtain⟨xs,hm,hx⟩:=Option.map_eq_some_iff.1 h
   have hxs:xs.map (·.1)=zs.map fun b=>(DataW.lit (.string b):DataW H):=by
    have:=congrArg Prod.fst hx
    simpa using this
   have hxl:xs.length=n:=by simpa using Lib.mapM_length hm
   have hzl:zs.length=n:=by
    have:=congrArg List.length hxs
    simp at this
    omega
   apply List.ext_getElem?
   intro i
   by_cases hi:i<n
   ·obtain⟨b,hb,hf⟩:=Lib.mapM_at hm i i (by simp [hi])
    obtain⟨s,hc,hbs,_⟩:=DataW.trod_string he hf
    have h1:cs[i]? = some (.string s):=by
     have:=congrArg (·[0]?) hc
     simpa [List.getElem?_take,List.getElem?_drop] using this
    have h2:(xs.map (·.1))[i]? = some (DataW.lit (.string s.data.toList):DataW H):=by simp [hb,hbs]
    rw [hxs] at h2
    simp only [List.getElem?_map,Option.map_eq_some_iff,DataW.lit.injEq,Lit.string.injEq] at h2
    obtain⟨z',hz',rfl⟩:=h2
    rw [h1,List.getElem?_map,hz']
    rfl
   ·rw [List.getElem?_eq_none (by omega),List.getElem?_eq_none (by simp;omega)]
  ·cases h
theorem tab_of {W:World} (h:laidMetH Tryz.prog [("unicode/utf8.acceptRanges",Rows.laid_unicode_utf8_acceptRanges),("hypercube/lex.signs",Rows.laid_hypercube_lex_signs),("unicode/utf8.first",Rows.laid_unicode_utf8_first)] W):Tab W:=by
 have h':laidMet Tryz.prog [("unicode/utf8.acceptRanges",Rows.laid_unicode_utf8_acceptRanges),("hypercube/lex.signs",Rows.laid_hypercube_lex_signs),("unicode/utf8.first",Rows.laid_unicode_utf8_first)] W:=h
 have h1:=Lib.laidMet.reads h' (n := "unicode/utf8.acceptRanges") (d:=Rows.laid_unicode_utf8_acceptRanges) (by simp)
 have h2:=Lib.laidMet.reads h' (n := "hypercube/lex.signs") (d:=Rows.laid_hypercube_lex_signs) (by simp)
 have h3:=Lib.laidMet.reads h' (n := "unicode/utf8.first") (d:=Rows.laid_unicode_utf8_first) (by simp)
 rw [show(Rows.laid_unicode_utf8_acceptRanges:DataW Unit)=Lib.acceptData by kernel_rfl] at h1
 rw [show Rows.laid_unicode_utf8_first=Lib.firstData by kernel_rfl] at h3
 refine⟨utf8Tabs_of_reads Tryz.lays260 u8x h3 h1, ?_⟩
 obtain⟨g,t,cs,fuel,p,hg,hty,hvar,hd⟩:=h2
 obtain rfl:=Option.some.inj (gSigns.symm.trans hg)
 obtain rfl:=Option.some.inj (gSignsType.symm.trans hty)
 have hcs:=cells_of_strs (zs:=signTab) Tryz.underlying139 Tryz.underlying9 cString cSigns hd
 have hca:cs=signArr:=by
  rw [←Array.toArray_toList (xs:=cs),hcs]
  rfl
 subst hca
 unfold World.var? at hvar
 rw [gSigns,Option.bind_some] at hvar
 split at hvar
 ·rename_i cs' t' fr heq
  obtain rfl:=Option.some.inj hvar
  exact⟨t',fr,heq⟩
 ·cases hvar
def laidHeap(h:Array Obj):Array Obj :=
 let put (h:Array Obj) (g:Nat) (cs:Array Value):Array Obj:=h.modify g fun
  | .cells _ t frozen=>.cells cs t frozen
  | o=>o
 put (put (put h 0 signArr) 1 (Pinned.utf8FirstZ.map fun n:Nat=>Value.int .u8 (n:Int)).toArray) 2 (([128,191,160,191,128,159,144,191,128,143,0,0,0,0,0,0,0,0,0,0,0,0,0,0,0,0,0,0,0,0,0,0]:List Int).map fun n=>Value.int .u8 n).toArray
end Go.Proofs.YtahdjajdaggmjaaGreatDoor
