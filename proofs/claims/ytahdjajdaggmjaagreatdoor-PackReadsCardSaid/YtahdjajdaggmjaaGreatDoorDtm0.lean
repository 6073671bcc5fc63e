/-
Walks: the document's reader: a row.
-/
import Derived.Test.YtahdjajdaggmjaaGreatDoorYrow
set_option maxRecDepth 100000
section
set_option linter.unusedVariables false
set_option linter.unusedSimpArgs false
namespace Go.Proofs.YtahdjajdaggmjaaGreatDoor.XPd
open Go.RowKit Go.Proofs.YtahdjajdaggmjaaGreatDoorW.PrintWords Go.Proofs.YtahdjajdaggmjaaGreatDoorW.PrintLast Go.Proofs.YtahdjajdaggmjaaGreatDoorW.PrintMore
theorem R_number_ok{w0:World}{p:Nat}{bs:List Int}{s n s2:Nat}{a:Int}{w:World}(hq:numS bs s=.ok (n,s2))(hb:Below w0.heap.size w0 w)(hr:DSt w0 w p bs s 0 a) :
  Calls Tryz.prog 33 #[.pointer (some ⟨p,0,none⟩)] w fun e w'=>DK w0 w w' p∧DSt w0 w' p bs s2 0 a∧e=.returned (.int .i64 (n:Int)):=by
 have h:=R_number w0 p bs s a w hb hr
 rw [hq] at h
 exact h.mono fun e w' ⟨h1,v,h2,h3,h4⟩=>⟨h1,h4,by rw [h2,h3]⟩
theorem R_number_er{w0:World}{p:Nat}{bs:List Int}{s:Nat}{a x y:Int}{w:World}(hq:numS bs s=.error (x,y))(hb:Below w0.heap.size w0 w)(hr:DSt w0 w p bs s 0 a) :
  Calls Tryz.prog 33 #[.pointer (some ⟨p,0,none⟩)] w fun e w'=>∃(z s3:Nat),DK w0 w w' p∧DSt w0 w' p bs s3 y x∧y≠0∧e=.returned (.int .i64 (z:Int)):=by
 have h:=R_number w0 p bs s a w hb hr
 rw [hq] at h
 exact h.mono fun e w' ⟨h1,v,h2,⟨z,h3⟩,h4,s3,h5⟩=>⟨z,s3,h1,h5,h4,by rw [h2,h3]⟩
theorem R_number_any{w0:World}{p:Nat}{bs:List Int}{s:Nat}{a:Int}{w:World}(hb:Below w0.heap.size w0 w)(hr:DSt w0 w p bs s 0 a) :
  Calls Tryz.prog 33 #[.pointer (some ⟨p,0,none⟩)] w fun e w'=>∃(z s3:Nat) (e2 a2:Int),DK w0 w w' p∧DSt w0 w' p bs s3 e2 a2∧(e2=0∧a2=a∧numS bs s=.ok (z,s3)∨e2≠0∧numS bs s=.error (a2,e2))∧e=.returned (.int .i64 (z:Int)):=by
 rcases hq:numS bs s with⟨x,y⟩ | ⟨n,s1⟩
 ·exact(R_number_er hq hb hr).mono fun e w' ⟨z,s3,h1,h2,h3,h4⟩=>⟨z,s3,y,x,h1,h2,.inr ⟨h3,rfl⟩,h4⟩
 ·exact(R_number_ok hq hb hr).mono fun e w' ⟨h1,h2,h3⟩=>⟨n,s1,0,a,h1,h2,.inl ⟨rfl,rfl,rfl⟩,h3⟩
def RowB(right:List Cl→Bool)(bs:List Int)(s:Nat)(a:Int)(z s1:Nat)(e2 a2:Int):Prop :=
 (e2=0∧a2=a∧z≤64∧rowS right bs s=finR right s (clsG bs z [] s1))∨(e2≠0∧rowS right bs s=.error (a2,e2))
def RowL(right:List Cl→Bool)(bs:List Int)(s:Nat)(a:Int)(z kq i:Nat)(acc:List Cl)(s2:Nat)(e2 a2:Int):Prop :=
 (e2=0∧a2=a∧z≤64∧i≤z∧kq+i=z+2∧acc.length=i∧rowS right bs s=finR right s (clsG bs (z-i) acc s2)∧(∀x∈acc,0≤x.f0∧x.f0≤2147483647∧0≤x.f1∧x.f1≤2147483647))∨(e2≠0∧rowS right bs s=.error (a2,e2))
def RowT(bb:Bool)(e1:Int)(z:Nat):Prop:=bb=true↔(e1=0∧64<z)
def rgt(fr fa:List Cl→Bool)(isFace:Bool)(f:List Cl):Bool:=fr f&&(!isFace||fa f)
theorem R_number_all{w0:World}{p:Nat}{bs:List Int}{s:Nat}{e a:Int}{w:World}(hb:Below w0.heap.size w0 w)(hr:DSt w0 w p bs s e a) :
  Calls Tryz.prog 33 #[.pointer (some ⟨p,0,none⟩)] w fun x w'=>∃(z s3:Nat) (e2 a2:Int),DK w0 w w' p∧DSt w0 w' p bs s3 e2 a2∧((e=0∧(e2=0∧a2=a∧numS bs s=.ok (z,s3)∨e2≠0∧numS bs s=.error (a2,e2)))∨(e≠0∧e2=e∧a2=a))∧x=.returned (.int .i64 (z:Int)):=by
 by_cases h0:e=0
 ·subst h0
  exact(R_number_any hb hr).mono fun x w' ⟨z,s3,e2,a2,h1,h2,h3,h4⟩=>⟨z,s3,e2,a2,h1,h2,.inl ⟨rfl,h3⟩,h4⟩
 ·exact(R_numberE w0 p bs s e a w h0 hb hr).mono fun x w' ⟨h1,h2,h3⟩=>⟨0,s,e,a,h3,h2,.inr ⟨h0,rfl,rfl⟩,h1⟩
theorem RowL.step{right:List Cl→Bool}{bs:List Int}{s z kq i zA sA zB sB s2:Nat}{a eA aA eB aB:Int}{acc:List Cl}(hiz:i<z)(hz:z≤64)(hki:kq+i=z+2)(hal:acc.length=i)(hRR:rowS right bs s=finR right s (clsG bs (z-i) acc s2))(hU:∀x∈acc,0≤x.f0∧x.f0≤2147483647∧0≤x.f1∧x.f1≤2147483647)
  (hA:eA=0∧aA=a∧numS bs s2=.ok (zA,sA)∨eA≠0∧numS bs s2=.error (aA,eA)) (hB:(eA=0∧(eB=0∧aB=aA∧numS bs sA=.ok (zB,sB)∨eB≠0∧numS bs sA=.error (aB,eB)))∨(eA≠0∧eB=eA∧aB=aA)) :
  RowL right bs s a z (kq-1) (i+1) (acc++[⟨IntKind.u32.wrap (zA:Int),IntKind.u32.wrap (zB:Int)⟩]) sB eB aB:=by
 obtain⟨d,hd⟩:∃d,z-i=d+1:=⟨z-i-1,by omega⟩
 rw [hd,clsG] at hRR
 rcases hA with⟨hA0,hA1,hA2⟩ | ⟨hA0,hA2⟩
 ·rw [hA2] at hRR
  dsimp only at hRR
  rcases hB with⟨_,⟨hB0,hB1,hB2⟩ | ⟨hB0,hB2⟩⟩ | ⟨hB0,_⟩
  ·rw [hB2] at hRR
   have ha:=numS_le hA2
   have hb:=numS_le hB2
   rw [u32w (a:=(zA:Int)) (by omega) (by omega),u32w (a:=(zB:Int)) (by omega) (by omega)]
   refine .inl ⟨hB0,hB1.trans hA1,hz,hiz,by omega,by rw [List.length_append,hal];rfl, ?_,fun x hx=>?_⟩
   ·rw [show z-(i+1)=d by omega]
    exact hRR
   ·rcases List.mem_append.1 hx with hx | hx
    ·exact hU x hx
    ·rw [List.mem_singleton.1 hx]
     exact⟨by show(0:Int)≤(zA:Int);omega,by show(zA:Int)≤2147483647;omega,by show(0:Int)≤(zB:Int);omega,by show(zB:Int)≤2147483647;omega⟩
  ·rw [hB2] at hRR
   exact .inr ⟨hB0,hRR⟩
  ·exact absurd hA0 hB0
 ·rw [hA2] at hRR
  dsimp only at hRR
  rcases hB with⟨hB0,_⟩ | ⟨_,hB1,hB2⟩
  ·exact absurd hB0 hA0
  ·rw [hB1,hB2]
   exact .inr ⟨hA0,hRR⟩
set_option maxHeartbeats 4000000 in
theorem R_row{fr fa:List Cl→Bool}(PF:List Cl→Prop)
  (H3:∀(A:Option Addr) (c:Nat) (l:List Cl) (w:World),Kd.C k113 w A l.length l→l.length≤c→PF l→Calls Tryz.prog 65 #[.slice A l.length c] w fun e w'=>e=.returned (.bool (fr l))∧Below w.heap.size w w')
  (H5:∀(A:Option Addr) (c:Nat) (l:List Cl) (w:World),Kd.C k113 w A l.length l→l.length≤c→PF l→Calls Tryz.prog 66 #[.slice A l.length c] w fun e w'=>e=.returned (.bool (fa l))∧Below w.heap.size w w')
  (isFace:Bool) (w0:World) (p:Nat) (bs:List Int) (s:Nat) (a:Int) (w:World) (hpf:∀(f:List Cl),f.length≤64→(∀x∈f,0≤x.f0∧x.f0≤2147483647∧0≤x.f1∧x.f1≤2147483647)→PF f) (hb:Below w0.heap.size w0 w) (hr:DSt w0 w p bs s 0 a) :
  Calls Tryz.prog 71 #[.pointer (some ⟨p,0,none⟩),.bool isFace] w (DPost w0 w p bs a (rowV w.heap.size) (rowS (rgt fr fa isFace) bs s)):=by
 obtain⟨A,c,hv,hc,hC0⟩:=hr.row
 obtain⟨c0,c1,c2,c3,f0,f1,f2,f3⟩:=cells4 hv
 have hpw:Aside0 (p<w.heap.size):=⟨hr.lt⟩
 have hw0p:Aside0 (w0.heap.size≤w.heap.size):=⟨hb.size⟩
 have hcn:=R_number_any hb hr
 have H3':=ak H3
 have H5':=ak H5
 have HPF:=ak hpf
 clear hr hb hv hc hC0 H3 H5 hpf
 go_enter Tryz.func71,Tryz.ntmps71
 go_upto_region 3 with(go_at_call 33;refine hcn.mono ?_;rintro e w1 ⟨z,s1,e1,a1,hk1,hr1,hn1,rfl⟩;obtain⟨A1,k1,hv1,hc1,hC1⟩:=hr1.at_ hk1.1;clear c0 c1 c2 c3 f0 f1 f2 f3;obtain⟨c0,c1,c2,c3,f0,f1,f2,f3⟩:=cells4 hv1;have HK1:=ak hk1;have HR1:=ak hr1;have HN1:=ak hn1;clear hk1 hr1 hC1 hv1 hn1 hcn)
 go_cut [25] from 17 to 25 (fun v wx=>∃bb:Bool,v=.bool bb∧Aside0 (RowT bb e1 z)∧Aside0 (DSt w0 wx p bs s1 e1 a1)∧Aside0 (DK w0 w wx p))
 case first =>
  by_cases h0:e1=0
  ·have b0:(e1==0)=true:=beq_iff_eq.2 h0
   by_cases h64:64<z
   ·have d1:decide ((64:Int)<(z:Int))=true:=decide_eq_true (by omega)
    have HQ:Aside0 (RowT true e1 z):=⟨Iff.intro (fun _=>⟨h0,h64⟩) (fun _=>rfl)⟩
    clear h0 h64
    go_wp2
    go_meet
    exact⟨_,rfl,HQ,HR1,HK1⟩
   ·have d1:decide ((64:Int)<(z:Int))=false:=decide_eq_false (by omega)
    have HQ:Aside0 (RowT false e1 z):=⟨Iff.intro (fun h=>Bool.noConfusion h) (fun h=>absurd h.2 h64)⟩
    clear h0 h64
    go_wp2
    go_meet
    exact⟨_,rfl,HQ,HR1,HK1⟩
  ·have b0:(e1==0)=false:=beq_eq_false_iff_ne.2 h0
   have HQ:Aside0 (RowT false e1 z):=⟨Iff.intro (fun h=>Bool.noConfusion h) (fun h=>absurd h.1 h0)⟩
   clear h0
   go_wp2
   go_meet
   exact⟨_,rfl,HQ,HR1,HK1⟩
 case rest =>
  clear c0 c1 c2 c3 f0 f1 f2 f3 HR1 HK1
  obtain⟨bb,rfl,HQ,HR1,HK1⟩:=hcut
  go_upto_if 25 with fail
  go_cut [] from 26 to 28 (fun wx=>∃(e2 a2:Int),Aside0 (RowB (rgt fr fa isFace) bs s a z s1 e2 a2)∧Aside0 (DSt w0 wx p bs s1 e2 a2)∧Aside0 (DK w0 w wx p))
  case first =>
   cases bb with
   | true =>
    obtain⟨h0,h64⟩:=HQ.out.1 rfl
    have HB:Aside0 (RowB (rgt fr fa isFace) bs s a z s1 61 (s:Int)):=⟨.inr ⟨by decide,by
     rcases HN1.out with⟨_,_,h⟩ | ⟨h,_⟩
     ·rw [rowS,h]
      exact if_pos h64
     ·exact absurd h0 h⟩⟩
    subst h0
    clear h64 HN1 HQ
    go_wp2_with (go_at_call 35;refine(R_bad0 w0 p bs s1 _ _ _ _ HK1.out.1 HR1.out).mono ?_;rintro e w3 ⟨rfl,hr3,hk3⟩;have HR3:=ak hr3;have HK3:=ak (HK1.out.trans hk3);clear hr3 hk3)
    go_meet
    exact⟨_,_,HB,HR3,HK3⟩
   | false =>
    have HB:Aside0 (RowB (rgt fr fa isFace) bs s a z s1 e1 a1):=⟨by
     rcases HN1.out with⟨h0,h1,h⟩ | ⟨h,h2⟩
     ·have h64:¬64<z:=fun h64=>Bool.noConfusion (HQ.out.2 ⟨h0,h64⟩)
      exact .inl ⟨h0,h1,Nat.le_of_not_lt h64,by rw [rowS,h];exact if_neg h64⟩
     ·exact .inr ⟨h,by rw [rowS,h2]⟩⟩
    clear HN1 HQ
    go_wp2
    go_meet
    exact⟨_,_,HB,HR1,HK1⟩
  case rest =>
   clear HR1 HK1 HQ HN1
   obtain⟨e2,a2,HB,HR,HK⟩:=hcut
   go_wp2
   go_loopg [7,8,9,10] (z+2) (fun kq v7 v8 v9 v10 wx=>∃(i:Nat) (acc:List Cl) (s2:Nat) (e3 a3:Int),v8=.int .i64 (i:Int)∧1≤kq∧Aside0 (RowL (rgt fr fa isFace) bs s a z kq i acc s2 e3 a3)∧Aside0 (DSt w0 wx p bs s2 e3 a3)∧Aside0 (DK w0 w wx p)∧Aside0 (Kd.R k113 113 wx w.heap.size (fun _=>True) v7 acc))
   case atStart=>exact⟨0,[],s1,e2,a2,rfl,by omega,⟨by
    rcases HB.out with⟨h0,h1,h2,h3⟩ | h
    ·exact .inl ⟨h0,h1,h2,Nat.zero_le _,rfl,rfl,h3,fun x hx=>absurd hx (by simp)⟩
    ·exact .inr h⟩,HR,HK,⟨Kd.R_nil _ _ _ _ _⟩⟩
   case round =>
    clear HB HR HK
    obtain⟨i,acc,s2,e3,a3,rfl,hk,HL,HR,HK,HO⟩:=hrel
    obtain⟨A2,k2,hv2,hc2,hC2⟩:=HR.out.at_ HK.out.1
    obtain⟨c0,c1,c2,c3,f0,f1,f2,f3⟩:=cells4 hv2
    have HC2:=ak hC2
    clear hv2 hC2
    rcases HL.out with⟨h0,h1,hz,hi,hki,hal,hRR,hU⟩ | ⟨h0,hE⟩
    ·subst h0
     subst h1
     by_cases hiz:i<z
     ·have d0:decide ((i:Int)<(z:Int))=true:=decide_eq_true (by omega)
      have d1:(i:Int)<(z:Int):=by omega
      have hcA:=R_number_any HK.out.1 HR.out
      have hal5:acc.length≤64:=by omega
      have HST:=ak (fun(zA sA zB sB:Nat) (eA aA eB aB:Int)=>RowL.step (a:=a3) (zA:=zA) (sA:=sA) (zB:=zB) (sB:=sB) (eA:=eA) (aA:=aA) (eB:=eB) (aB:=aB) hiz hz hki hal hRR hU)
      have hpr:Aside0 (p<wr.heap.size):=⟨HR.out.lt⟩
      have hgk:2≤gk-1:=by omega
      have HWI:Aside0 (wrap64 ((i:Int)+1)=((i+1:Nat):Int)):=⟨w64r (a:=(i:Int)+1) (by omega) (by omega)⟩
      clear hiz hz hki hal hRR hU HL
      go_wp2_with (first | (go_at_call 33;refine hcA.mono ?_;rintro e wa ⟨zA,sA,eA,aA,hkA,hrA,hA,rfl⟩;have hcB:=R_number_all (HK.out.trans hkA).1 hrA;have HKA:=ak (HK.out.trans hkA);have HOA:=ak (R_stay HO.out hkA.2 (fun k hk=>by rw [hk];exact hpw.out));have HA:=ak hA;clear hkA hrA hA hcA) | (go_at_call 33;refine hcB.mono ?_;rintro e wb ⟨zB,sB,eB,aB,hkB,hrB,hB,rfl⟩;have HKB:=ak (HKA.out.trans hkB);have HRB:=ak hrB;have HOB:=ak (R_stay HOA.out hkB.2 (fun k hk=>by rw [hk];exact hpw.out));have HLL:=ak (HST.out zA sA zB sB eA aA eB aB HA.out hB);clear hkB hrB hB hcB) | (at_builtin;refine Kd.R_append k113 (w0:=wb) w.heap.size rfl (.tmp 45) (.tmp 51) 45 113 (.agg #[.int .u32 0,.int .u32 0]) 8 rfl Tryz.underlying45 cl_info rfl (by decide) (by omega) u7 acc ⟨IntKind.u32.wrap (zA:Int),IntKind.u32.wrap (zB:Int)⟩ [.int .u32 (IntKind.u32.wrap (zA:Int)),.int .u32 (IntKind.u32.wrap (zB:Int))] (fun _=>True) (fun _=>False) rfl rfl (k113_mkM _ _ _ _) (fun _ hk=>hk.elim) (fun _ _=>trivial) HOB.out (Below.refl _ _) HKB.out.2.1 (by omega) ?_;intro v1 wc ho hb1 hg hat;have HOC:=ak ho;have HAC:=ak (app_keep hg (Kd.R_base HOB.out));have HBC:=ak (below_up HKB.out.1 hb1 hw0p.out);clear ho hb1 hg hat))
      go_roundg (gk-1)
      case measure=>omega
      case rel=>exact⟨i+1,acc++[⟨IntKind.u32.wrap (zA:Int),IntKind.u32.wrap (zB:Int)⟩],sB,eB,aB,congrArg (Value.int .i64) HWI.out,by omega,HLL,⟨HRB.out.kept HAC.out (by have:=hpw.out;omega)⟩,⟨HBC.out,HKB.out.2.then_ HAC.out (fun _ h=>.inr h)⟩,HOC⟩
     ·have d0:decide ((i:Int)<(z:Int))=false:=decide_eq_false (by omega)
      have d1:¬(i:Int)<(z:Int):=by omega
      rw [show z-i=0 by omega,clsG] at hRR
      obtain⟨A4,c4,rfl⟩:=Kd.R_slice HO.out
      have hrd:=Kd.R_reads' HO.out
      have hpf:=HPF.out acc (by omega) hU
      have hcf:=H3'.out A4 c4 acc wr hrd.2.2 hrd.2.1 hpf
      have HRR:=ak hRR
      have HPA:=ak hpf
      clear hRR hrd hU HL hpf hal hki hi hz
      cases hfr:fr acc with
      | false =>
       rw [hfr] at hcf
       have HE:Aside0 (rowS (rgt fr fa isFace) bs s=.error ((s:Int),61)):=⟨by rw [HRR.out,finR,rgt,hfr];exact if_neg Bool.false_ne_true⟩
       clear hfr HRR
       go_wp2_with (first | (go_at_call 65;refine hcf.mono ?_;rintro e wd ⟨rfl,hbd⟩;have HR3:=ak (HR.out.below hbd);have HK3:=ak (HK.out.below hbd);have HO3:=ak (Kd.R_below HO.out hbd);clear hbd hcf) | (go_at_call 35;refine(R_bad0 w0 p bs s2 _ _ _ _ HK3.out.1 HR3.out).mono ?_;rintro e w4 ⟨rfl,hr4,hk4⟩;have HO4:=ak (R_stay HO3.out hk4.2 (fun k hk=>by rw [hk];exact hpw.out));have HR4:=ak hr4;have HK4:=ak (HK3.out.trans hk4);clear hr4 hk4))
       go_ret
       exact DPost.no HE.out HK4.out HR4.out (by decide) acc HO4.out
      | true =>
       rw [hfr] at hcf
       cases isFace with
       | false =>
        have HE:Aside0 (rowS (rgt fr fa false) bs s=.ok (acc,s2)):=⟨by rw [HRR.out,finR,rgt,hfr];rfl⟩
        clear hfr HRR
        go_wp2_with (go_at_call 65;refine hcf.mono ?_;rintro e wd ⟨rfl,hbd⟩;have HR3:=ak (HR.out.below hbd);have HK3:=ak (HK.out.below hbd);have HO3:=ak (Kd.R_below HO.out hbd);clear hbd hcf)
        go_ret
        exact DPost.yes HE.out HK3.out HR3.out HO3.out
       | true =>
        have hc5:=fun(wd:World) (hbd:Below wr.heap.size wr wd)=>H5'.out A4 c4 acc wd (Kd.C_below (Kd.R_reads' HO.out).2.2 hbd) (Kd.R_reads' HO.out).2.1 HPA.out
        cases hfa:fa acc with
        | true =>
         rw [hfa] at hc5
         have HE:Aside0 (rowS (rgt fr fa true) bs s=.ok (acc,s2)):=⟨by rw [HRR.out,finR,rgt,hfr,hfa];rfl⟩
         clear hfr hfa HRR
         go_wp2_with (first | (go_at_call 65;refine hcf.mono ?_;rintro e wd ⟨rfl,hbd⟩;have HR3:=ak (HR.out.below hbd);have HK3:=ak (HK.out.below hbd);have HO3:=ak (Kd.R_below HO.out hbd);have hc6:=hc5 wd hbd;clear hbd hcf hc5) | (go_at_call 66;refine hc6.mono ?_;rintro e we ⟨rfl,hbe⟩;have HR4:=ak (HR3.out.below hbe);have HK4:=ak (HK3.out.below hbe);have HO4:=ak (Kd.R_below HO3.out hbe);clear hbe hc6))
         go_ret
         exact DPost.yes HE.out HK4.out HR4.out HO4.out
        | false =>
         rw [hfa] at hc5
         have HE:Aside0 (rowS (rgt fr fa true) bs s=.error ((s:Int),61)):=⟨by rw [HRR.out,finR,rgt,hfr,hfa];rfl⟩
         clear hfr hfa HRR
         go_wp2_with (first | (go_at_call 65;refine hcf.mono ?_;rintro e wd ⟨rfl,hbd⟩;have HR3:=ak (HR.out.below hbd);have HK3:=ak (HK.out.below hbd);have HO3:=ak (Kd.R_below HO.out hbd);have hc6:=hc5 wd hbd;clear hbd hcf hc5) | (go_at_call 66;refine hc6.mono ?_;rintro e we ⟨rfl,hbe⟩;have HR4:=ak (HR3.out.below hbe);have HK4:=ak (HK3.out.below hbe);have HO4:=ak (Kd.R_below HO3.out hbe);clear hbe hc6) | (go_at_call 35;refine(R_bad0 w0 p bs s2 _ _ _ _ HK4.out.1 HR4.out).mono ?_;rintro e w5 ⟨rfl,hr5,hk5⟩;have HO5:=ak (R_stay HO4.out hk5.2 (fun k hk=>by rw [hk];exact hpw.out));have HR5:=ak hr5;have HK5:=ak (HK4.out.trans hk5);clear hr5 hk5))
         go_ret
         exact DPost.no HE.out HK5.out HR5.out (by decide) acc HO5.out
    ·have HE:=ak hE
     have HN0:=ak h0
     have b0:(e3==0)=false:=beq_eq_false_iff_ne.2 h0
     have b1:(e3 != 0)=true:=bne_iff_ne.2 h0
     clear hE h0 HL
     by_cases hiz:i<z
     ·have d0:decide ((i:Int)<(z:Int))=true:=decide_eq_true (by omega)
      have d1:(i:Int)<(z:Int):=by omega
      go_wp2
      go_ret
      exact DPost.no HE.out HK.out HR.out HN0.out acc HO.out
     ·have d0:decide ((i:Int)<(z:Int))=false:=decide_eq_false (by omega)
      have d1:¬(i:Int)<(z:Int):=by omega
      go_wp2
      go_ret
      exact DPost.no HE.out HK.out HR.out HN0.out acc HO.out
section
variable (nb:ByteArray→Bool)(fr fa:List Cl→Bool)(bs:List Int)
def headS(k:Int)(s:Nat):Except (Int×Int) ((Int×ByteArray×List Cl)×Nat) :=
 if k=1 then match numS bs s with
  | .error e=>.error e
  | .ok (n,s1)=>.ok (((n:Int),⟨#[]⟩,[]),s1)
 else if k=2 then match textS nb bs s with
  | .error e=>.error e
  | .ok (x,s1)=>.ok ((0,x,[]),s1)
 else if k=13∨k=21∨k=26 then match rowS fr bs s with
  | .error e=>.error e
  | .ok (f,s1)=>.ok ((0,⟨#[]⟩,f),s1)
 else if k=14 then match rowS fa bs s with
  | .error e=>.error e
  | .ok (f,s1)=>.ok ((0,⟨#[]⟩,f),s1)
 else .ok ((0,⟨#[]⟩,[]),s)
def manyS(T:Nat→Except (Int×Int) (Tm×Nat)):Nat→List Tm→Nat→Except (Int×Int) (List Tm×Nat)
 | 0,acc,s=>.ok (acc,s)
 | n+1,acc,s=>match T s with
  | .error e=>.error e
  | .ok (t,s1)=>manyS T n (acc++[t]) s1
def brS(T:Nat→Except (Int×Int) (Tm×Nat))(q:Nat):Nat→List Br→Nat→Except (Int×Int) (List Br×Nat)
 | 0,acc,s=>.ok (acc,s)
 | n+1,acc,s=>match rowS fa bs s with
  | .error e=>.error e
  | .ok (f,s1)=>match manyS T q [] s1 with
   | .error e=>.error e
   | .ok (ks,s2)=>brS T q n (acc++[⟨f,ks⟩]) s2
def brK(T:Nat→Except (Int×Int) (Tm×Nat))(q n:Nat)(acc:List Br)(f:List Cl):Except (Int×Int) (List Tm×Nat)→Except (Int×Int) (List Br×Nat)
 | .error e=>.error e
 | .ok (ks,s2)=>brS fa bs T q n (acc++[⟨f,ks⟩]) s2
theorem brS_ok{T:Nat→Except (Int×Int) (Tm×Nat)}{q n s s1:Nat}{acc:List Br}{f:List Cl}(h:rowS fa bs s=.ok (f,s1)):brS fa bs T q (n+1) acc s=brK fa bs T q n acc f (manyS T q [] s1):=by
 rw [brS,h]
 dsimp only
 cases manyS T q [] s1<;>rfl
theorem brS_er{T:Nat→Except (Int×Int) (Tm×Nat)}{q n s:Nat}{acc:List Br}{y:Int×Int}(h:rowS fa bs s=.error y):brS fa bs T q (n+1) acc s=.error y:=by
 rw [brS,h]
def tailL(k n:Int)(x:ByteArray)(r:List Cl)(ks:List Tm):Except (Int×Int) (List Br×Nat)→Except (Int×Int) (Tm×Nat)
 | .error e=>.error e
 | .ok (l,s4)=>.ok (⟨k,n,x,r,ks,l⟩,s4)
def tailN(T:Nat→Except (Int×Int) (Tm×Nat))(k n:Int)(x:ByteArray)(r:List Cl)(ks:List Tm):Except (Int×Int) (Nat×Nat)→Except (Int×Int) (Tm×Nat)
 | .error e=>.error e
 | .ok (c,s3)=>tailL k n x r ks (brS fa bs T (partsI k).toNat c [] s3)
def tailK(T:Nat→Except (Int×Int) (Tm×Nat))(k n:Int)(x:ByteArray)(r:List Cl):Except (Int×Int) (List Tm×Nat)→Except (Int×Int) (Tm×Nat)
 | .error e=>.error e
 | .ok (ks,s2)=>if partsI k=0 then .ok (⟨k,n,x,r,ks,[]⟩,s2) else tailN fa bs T k n x r ks (numS bs s2)
def tailS(T:Nat→Except (Int×Int) (Tm×Nat))(k:Int):Except (Int×Int) ((Int×ByteArray×List Cl)×Nat)→Except (Int×Int) (Tm×Nat)
 | .error e=>.error e
 | .ok ((n,x,r),s1)=>tailK fa bs T k n x r (manyS T (kidsI k).toNat [] s1)
def termS:Nat→Nat→Except (Int×Int) (Tm×Nat)
 | 0,s=>if s<bs.length then if kidsI (rd bs s)<0 then .error ((s:Int),61) else .error ((s:Int),62) else .error ((s:Int),61)
 | d+1,s=>if s<bs.length then if kidsI (rd bs s)<0 then .error ((s:Int),61) else tailS fa bs (termS d) (rd bs s) (headS nb fr fa bs (rd bs s) (s+1)) else .error ((s:Int),61)
end
structure ReadP(PN:ByteArray→Prop)(PF:List Cl→Prop)(nb:ByteArray→Bool)(fr fa:List Cl→Bool):Prop where
 named:∀(s:ByteArray) (w:World),Tab w→PN s→Calls Tryz.prog 38 #[.string s] w fun e w'=>e=.returned (.bool (nb s))∧Below w.heap.size w w'
 fright:∀(A:Option Addr) (c:Nat) (l:List Cl) (w:World),Kd.C k113 w A l.length l→l.length≤c→PF l→Calls Tryz.prog 87 #[.slice A l.length c] w fun e w'=>e=.returned (.bool (fr l))∧Below w.heap.size w w'
 faright:∀(A:Option Addr) (c:Nat) (l:List Cl) (w:World),Kd.C k113 w A l.length l→l.length≤c→PF l→Calls Tryz.prog 88 #[.slice A l.length c] w fun e w'=>e=.returned (.bool (fa l))∧Below w.heap.size w w'
 kids:∀(a:Int) (w:World),Calls Tryz.prog 85 #[.int .i64 a] w fun e w'=>e=.returned (.int .i64 (kidsI a))∧Below w.heap.size w w'
 parts:∀(a:Int) (w:World),Calls Tryz.prog 41 #[.int .i64 a] w fun e w'=>e=.returned (.int .i64 (partsI a))∧Below w.heap.size w w'
 pn:∀s:ByteArray,s.size≤1048576→PN s
 pf:∀(f:List Cl),f.length≤64→(∀x∈f,0≤x.f0∧x.f0≤2147483647∧0≤x.f1∧x.f1≤2147483647)→PF f
def tmV(base:Nat)(t:Tm)(w:World)(v:Value):Prop:=∃cs:List Value,v=.agg cs.toArray∧k49.M w base (fun _=>True) t cs
theorem tm_info:(Tryz.prog.info? 49).map (fun i=>(i.zero,i.size,i.bytes))=some (some (.agg #[.int .i64 0,.int .i64 0,.string ⟨#[]⟩,.slice none 0 0,.slice none 0 0,.slice none 0 0]),6,104):=by kernel_rfl
theorem br_info:(Tryz.prog.info? 90).map (fun i=>(i.zero,i.size,i.bytes))=some (some (.agg #[.slice none 0 0,.slice none 0 0]),2,48):=by kernel_rfl
theorem R_stayN{α:Type}{d:Kd α}{e base N:Nat}{w w1:World}{v:Value}{xs:List α}{S:Nat→Prop}(h:d.R e w base (fun k=>k<N) v xs)(hk:Kept w w1 S)(hS:∀k,S k→k<base∨N≤k):d.R e w1 base (fun k=>k<N) v xs :=
 Kd.R_mono (ok:=fun k=>k<N∧base≤k∧k<w.heap.size∧∃q,q∈e :: d.E∧∃cells,w.heap[k]? = some (.cells cells q (0,0))) (Kd.R_kept (Kd.R_bound h) hk (fun k hk1 hk2=>by rcases hS k hk2 with h | h<;>omega)) (fun _ hk=>hk.1)
theorem R_done{α:Type}{d:Kd α}{e base base2 N:Nat}{w:World}{v:Value}{xs:List α}(h:d.R e w base (fun _=>True) v xs)(hb:base2≤base)(hN:w.heap.size≤N):d.R e w base2 (fun k=>k<N) v xs :=
 Kd.R_lower (Kd.R_mono (Kd.R_bound h) (fun k hk=>by have:=hk.2.2.1;omega)) hb
theorem R_wide{α:Type}{d:Kd α}{e base N N2:Nat}{w:World}{v:Value}{xs:List α}(h:d.R e w base (fun k=>k<N) v xs)(hN:N≤N2):d.R e w base (fun k=>k<N2) v xs:=Kd.R_mono h (fun k hk=>by omega)
abbrev zeroTm:Array Value:=#[.int .i64 0,.int .i64 0,.string ⟨#[]⟩,.slice none 0 0,.slice none 0 0,.slice none 0 0]
theorem callP_ {P:Program} {ops:Array Oper} {Q:Exit→Act→World→Prop} {oi:Oper} {N:Option Tmp} {a:Act} {w:World} {K:Act→World→Prop} {f:FuncId} {fn:Func} {xs:Array Operand} {ts:Array TypeId} (hf:P.funcs[f]? = some fn) (hname:(fn.name == "runtime.NumGoroutine")=false) (hb:fn.body.isSome=true) (args:Array Value)
  (hw:Region.wanted oi (yielded ops a.tmps)=true) (hN:oi.dst=N) (hop:oi.op=.call { callee:=.value (.func f),args:=xs,argTypes:=ts }) (hargs:xs.map a.eval=args)
  (h:Calls P f args w fun e w'=>(∃v,e=.returned v∧K (a.put N v) w')∨(∃c,e=.panicked c∧Q (.panic c) a w')):if Region.wanted oi (yielded ops a.tmps)=true then Oper.wp P oi a w K Q else K (a.put N undef) w:=by
 have he:=enters_ hf hname hb args w
 have hrun:(execOp a.eval oi).run P w=.ok (.enter f args) w:=by
  unfold execOp
  simp [hop,resolve,Deferred.ofValue,invoke,Act.eval,hargs,he]
 rw [if_pos hw]
 subst hN
 unfold Oper.wp
 rw [hrun,Oper.upon_enter]
 refine h.mono fun e w'' hh=>?_
 rcases hh with⟨v,rfl,hk⟩ | ⟨c,rfl,hk⟩
 ·exact hk
 ·exact hk
theorem tm_cells{w:World}{base:Nat}{t:Tm}{cs:List Value}(h:k49.M w base (fun _=>True) t cs):∃A3 c3 A4 c4 A5 c5,cs=[.int .i64 t.f0,.int .i64 t.f1,.string t.f2,.slice A3 t.f3.length c3,.slice A4 t.f4.length c4,.slice A5 t.f5.length c5]:=by
 obtain⟨v3,v4,v5,rfl,g3,g4,g5⟩:=k49_openM h
 obtain⟨A3,c3,rfl⟩:=Kd.R_slice g3
 obtain⟨A4,c4,rfl⟩:=Kd.R_slice g4
 obtain⟨A5,c5,rfl⟩:=Kd.R_slice g5
 exact⟨A3,c3,A4,c4,A5,c5,rfl⟩
theorem M_from{α:Type}{d:Kd α}{base base2:Nat}{w:World}{x:α}{cs:List Value}(h:d.M w base (fun _=>True) x cs)(hb:base2≤base):d.M w base2 (fun k=>base≤k) x cs :=
 d.M_lower hb (d.M_mono (fun k hk=>hk.2.1) (d.M_bound h))
theorem R_from{α:Type}{d:Kd α}{e base base2:Nat}{ok:Nat→Prop}{w:World}{v:Value}{xs:List α}(h:d.R e w base ok v xs)(hb:base2≤base):d.R e w base2 (fun k=>base≤k) v xs :=
 Kd.R_lower (Kd.R_mono (Kd.R_bound h) (fun k hk=>hk.2.1)) hb
structure Tst(w0 w wx:World)(p m:Nat)(bs:List Int)(s b4 b6 N:Nat)(t:Tm)(v3 v4 v5 u3 u4 u5:Value):Prop where
 rs:RSt w0 wx p bs s m
 be:Below w0.heap.size w0 wx
 ke:Kept w wx (fun k=>k=p)
 c4:wx.heap[b4]? = some (.cells zeroTm 49 (0,0))
 c6:wx.heap[b6]? = some (.cells #[.int .i64 t.f0,.int .i64 t.f1,.string t.f2,u3,u4,u5] 49 (0,0))
 r3:Kd.R k113 113 wx (b6+1) (fun k=>k<N) v3 t.f3
 r4:Kd.R k49 49 wx (b6+1) (fun k=>k<N) v4 t.f4
 r5:Kd.R k90 90 wx (b6+1) (fun k=>k<N) v5 t.f5
 o1:w.heap.size≤b4
 o2:b4<b6
 o3:p<w.heap.size
 o4:b6<N
 o5:N≤wx.heap.size
section
variable {w0 w wx wy:World}{p m:Nat}{bs:List Int}{s s2 b4 b6 N N2:Nat}{t:Tm}{v3 v4 v5 u3 u4 u5:Value}
theorem Tst.move(h:Tst w0 w wx p m bs s b4 b6 N t v3 v4 v5 u3 u4 u5)(hk:Kept wx wy (fun k=>k=p∨N≤k))(hb:Below w0.heap.size w0 wy)(hr:RSt w0 wy p bs s2 m):Tst w0 w wy p m bs s2 b4 b6 N t v3 v4 v5 u3 u4 u5 where
 rs:=hr
 be:=hb
 ke:=h.ke.then_ hk (fun k hk2=>by have:=h.o1;have:=h.o2;have:=h.o4;exact hk2.elim .inl (fun h1=>.inr (by omega)))
 c4:=blk_kept h.c4 hk (by have:=h.o1;have:=h.o2;have:=h.o3;have:=h.o4;omega)
 c6:=blk_kept h.c6 hk (by have:=h.o1;have:=h.o2;have:=h.o3;have:=h.o4;omega)
 r3:=R_stayN h.r3 hk (fun k hk2=>by have:=h.o1;have:=h.o2;have:=h.o3;omega)
 r4:=R_stayN h.r4 hk (fun k hk2=>by have:=h.o1;have:=h.o2;have:=h.o3;omega)
 r5:=R_stayN h.r5 hk (fun k hk2=>by have:=h.o1;have:=h.o2;have:=h.o3;omega)
 o1:=h.o1
 o2:=h.o2
 o3:=h.o3
 o4:=h.o4
 o5:=Nat.le_trans h.o5 hk.1
theorem Tst.call(h:Tst w0 w wx p m bs s b4 b6 N t v3 v4 v5 u3 u4 u5)(hb:Below w0.heap.size w0 wy)(hk:Kept wx wy (fun k=>k=p))(hr:RSt w0 wy p bs s2 m):Tst w0 w wy p m bs s2 b4 b6 N t v3 v4 v5 u3 u4 u5 :=
 h.move (hk.mono fun _ h=>.inl h) hb hr
theorem Tst.below(h:Tst w0 w wx p m bs s b4 b6 N t v3 v4 v5 u3 u4 u5)(hb:Below wx.heap.size wx wy):Tst w0 w wy p m bs s b4 b6 N t v3 v4 v5 u3 u4 u5 :=
 h.move (Kept.of_below hb _) (below_step h.be hb) (h.rs.below hb)
theorem Tst.wide(h:Tst w0 w wx p m bs s b4 b6 N t v3 v4 v5 u3 u4 u5)(hN:N≤N2)(h2:N2≤wx.heap.size):Tst w0 w wx p m bs s b4 b6 N2 t v3 v4 v5 u3 u4 u5 :=
 ⟨h.rs,h.be,h.ke,h.c4,h.c6,R_wide h.r3 hN,R_wide h.r4 hN,R_wide h.r5 hN,h.o1,h.o2,h.o3,Nat.lt_of_lt_of_le h.o4 hN,h2⟩
theorem six_set{w:World}{b ty:Nat}{x0 x1 x2 x3 x4 x5:Value}(h:w.heap[b]? = some (.cells #[x0,x1,x2,x3,x4,x5] ty (0,0)))(i:Nat)(u:Value):(w.setCell ⟨b,i,none⟩ u).heap[b]? = some (.cells (#[x0,x1,x2,x3,x4,x5].setIfInBounds i u) ty (0,0)):=by
 have hlt:=lt_of_block h
 have h':w.heap[b]=.cells #[x0,x1,x2,x3,x4,x5] ty (0,0):=by simpa [Array.getElem?_eq_getElem hlt] using h
 show(w.heap.modify b _)[b]? = _
 rw [Array.getElem?_eq_getElem (by simpa using hlt),Array.getElem_modify_self,h']
 rfl
theorem Tst.put(h:Tst w0 w wx p m bs s b4 b6 N t v3 v4 v5 u3 u4 u5)(i:Nat)(u:Value){t2:Tm}{x3 x4 x5 y3 y4 y5:Value}(hc:#[Value.int .i64 t.f0,.int .i64 t.f1,.string t.f2,u3,u4,u5].setIfInBounds i u=#[.int .i64 t2.f0,.int .i64 t2.f1,.string t2.f2,y3,y4,y5])
  (h3:Kd.R k113 113 (wx.setCell ⟨b6,i,none⟩ u) (b6+1) (fun k=>k<N2) x3 t2.f3) (h4:Kd.R k49 49 (wx.setCell ⟨b6,i,none⟩ u) (b6+1) (fun k=>k<N2) x4 t2.f4) (h5:Kd.R k90 90 (wx.setCell ⟨b6,i,none⟩ u) (b6+1) (fun k=>k<N2) x5 t2.f5) (hN:N≤N2) (hN2:N2≤wx.heap.size) :
  Tst w0 w (wx.setCell ⟨b6,i,none⟩ u) p m bs s b4 b6 N2 t2 x3 x4 x5 y3 y4 y5:=by
 have hk:Kept wx (wx.setCell ⟨b6,i,none⟩ u) (fun k=>k=b6):=(Kept.refl wx (fun k=>k=b6)).setCell (p:=⟨b6,i,none⟩) (.inl rfl) u
 have o1:=h.o1
 have o2:=h.o2
 have o3:=h.o3
 have o4:=h.o4
 refine⟨h.rs.kept hk (by omega),h.be.setCell (p:=⟨b6,i,none⟩) (by have:=h.rs.old;show w0.heap.size≤b6;omega) u,h.ke.setCell (p:=⟨b6,i,none⟩) (.inr (by show w.heap.size≤b6;omega)) u,blk_kept h.c4 hk (by omega), ?_,h3,h4,h5,o1,o2,o3,by omega,by rw [World.size_setCell];exact hN2⟩
 rw [←hc]
 exact six_set h.c6 i u
theorem R_set6{α:Type}{d:Kd α}{e:Nat}{ok:Nat→Prop}{v:Value}{xs:List α}(h:d.R e wx (b6+1) ok v xs)(i:Nat)(u:Value):d.R e (wx.setCell ⟨b6,i,none⟩ u) (b6+1) ok v xs :=
 Kd.R_mono (ok:=fun k=>ok k∧b6+1≤k∧k<wx.heap.size∧∃q,q∈e :: d.E∧∃cells,wx.heap[k]? = some (.cells cells q (0,0))) (Kd.R_far (Kd.R_bound h) (p:=⟨b6,i,none⟩) (fun k hk=>by show k≠b6;have:=hk.2.1;omega) u) (fun _ hk=>hk.1)
theorem cells6{w:World}{b ty:Nat}{x0 x1 x2 x3 x4 x5:Value}(h:w.heap[b]? = some (.cells #[x0,x1,x2,x3,x4,x5] ty (0,0))):w.cell? ⟨b,0,none⟩=some x0∧w.cell? ⟨b,1,none⟩=some x1∧w.cell? ⟨b,2,none⟩=some x2∧w.cell? ⟨b,3,none⟩=some x3∧w.cell? ⟨b,4,none⟩=some x4∧w.cell? ⟨b,5,none⟩=some x5∧w.frozen? ⟨b,0,none⟩=false∧w.frozen? ⟨b,1,none⟩=false∧w.frozen? ⟨b,2,none⟩=false∧w.frozen? ⟨b,3,none⟩=false∧w.frozen? ⟨b,4,none⟩=false∧w.frozen? ⟨b,5,none⟩=false:=by
 simp [World.cell?,World.frozen?,h]
theorem Tst.kids{k n:Int}{x:ByteArray}{r:List Cl}{ks:List Tm}{N':Nat}(h:Tst w0 w wx p m bs s b4 b6 N ⟨k,n,x,r,[],[]⟩ v3 v4 v5 u3 u4 u5){vk:Value}(hg:Kd.R k49 49 wx N' (fun _=>True) vk ks)(hN:b6<N')(h2:N2=wx.heap.size) :
  Tst w0 w wx p m bs s b4 b6 N2 ⟨k,n,x,r,ks,[]⟩ v3 vk (.slice none 0 0) u3 u4 u5:=by
 subst h2
 exact⟨h.rs,h.be,h.ke,h.c4,h.c6,R_wide h.r3 h.o5,R_done hg hN (Nat.le_refl _),Kd.R_nil _ _ _ _ _,h.o1,h.o2,h.o3,Nat.lt_of_lt_of_le h.o4 h.o5,Nat.le_refl _⟩
theorem Tst.fin(h:Tst w0 w wx p m bs s b4 b6 N t v3 v4 v5 u3 u4 u5)(y0 y1 y2 y3 y4 y5:Value) :
  ((((((wx.setCell ⟨b4,0,none⟩ y0).setCell ⟨b4,1,none⟩ y1).setCell ⟨b4,2,none⟩ y2).setCell ⟨b4,3,none⟩ y3).setCell ⟨b4,4,none⟩ y4).setCell ⟨b4,5,none⟩ y5).heap[b4]? = some (.cells #[y0,y1,y2,y3,y4,y5] 49 (0,0)) ∧
  Kept wx ((((((wx.setCell ⟨b4,0,none⟩ y0).setCell ⟨b4,1,none⟩ y1).setCell ⟨b4,2,none⟩ y2).setCell ⟨b4,3,none⟩ y3).setCell ⟨b4,4,none⟩ y4).setCell ⟨b4,5,none⟩ y5) (fun k=>k=b4) ∧
  Below w0.heap.size w0 ((((((wx.setCell ⟨b4,0,none⟩ y0).setCell ⟨b4,1,none⟩ y1).setCell ⟨b4,2,none⟩ y2).setCell ⟨b4,3,none⟩ y3).setCell ⟨b4,4,none⟩ y4).setCell ⟨b4,5,none⟩ y5):=by
 have hb:w0.heap.size≤b4:=by have:=h.rs.old;have:=h.o1;have:=h.o3;omega
 refine⟨six_set (six_set (six_set (six_set (six_set (six_set h.c4 0 y0) 1 y1) 2 y2) 3 y3) 4 y4) 5 y5, ?_, ?_⟩
 ·exact((((((Kept.refl wx (fun k=>k=b4)).setCell (p:=⟨b4,0,none⟩) (.inl rfl) y0).setCell (p:=⟨b4,1,none⟩) (.inl rfl) y1).setCell (p:=⟨b4,2,none⟩) (.inl rfl) y2).setCell (p:=⟨b4,3,none⟩) (.inl rfl) y3).setCell (p:=⟨b4,4,none⟩) (.inl rfl) y4).setCell (p:=⟨b4,5,none⟩) (.inl rfl) y5
 ·exact(((((h.be.setCell (p:=⟨b4,0,none⟩) hb y0).setCell (p:=⟨b4,1,none⟩) hb y1).setCell (p:=⟨b4,2,none⟩) hb y2).setCell (p:=⟨b4,3,none⟩) hb y3).setCell (p:=⟨b4,4,none⟩) hb y4).setCell (p:=⟨b4,5,none⟩) hb y5
theorem fin_row{α:Type}{d:Kd α}{e base base2 b:Nat}{ok:Nat→Prop}{w1:World}{v:Value}{xs:List α}(h:d.R e wx base ok v xs)(hk:Kept wx w1 (fun k=>k=b))(hb:b<base)(hw:base2≤base):d.R e w1 base2 (fun _=>True) v xs :=
 Kd.R_lower (R_stay (Kd.R_mono h (fun _ _=>trivial)) hk (fun k hk=>by omega)) hw
theorem tm_out{w:World}{b:Nat}{y0 y1 y2 y3 y4 y5 x0 x1 x2 x3:Value}{ts:List Value}(h:w.heap[b]? = some (.cells #[y0,y1,y2,y3,y4,y5] 49 (0,0)))(h1:y0.oneCell'=true∧y1.oneCell'=true∧y2.oneCell'=true∧y3.oneCell'=true∧y4.oneCell'=true∧y5.oneCell'=true) :
  (results Tryz.f70 ⟨x0 :: x1 :: x2 :: x3 :: .pointer (some ⟨b,0,none⟩) :: ts⟩).run Tryz.prog w=.ok (.agg #[y0,y1,y2,y3,y4,y5]) w:=by
 obtain⟨c0,c1,c2,c3,c4,c5,_⟩:=cells6 h
 simp [results,Tryz.results70,go_sem,c0,c1,c2,c3,c4,c5]
end
theorem depw(n:Nat)(h:n≤1000):wrap64 ((n:Int)+1)=(n:Int)+1:=w64r (by omega) (by omega)
theorem depw2(n:Nat)(h:n≤1000):IntKind.i64.wrap ((n:Int)+1)=(n:Int)+1:=wI64 (by omega) (by omega)
theorem partsI_rng(k:Int):0≤partsI k∧partsI k≤2:=by
 unfold partsI
 repeat (split<;>try omega)
theorem kidsI_le(k:Int):kidsI k≤5:=by
 unfold kidsI
 split
 ·omega
 ·rename_i h
  obtain⟨n,rfl⟩:=Int.eq_ofNat_of_zero_le (show 0≤k by omega)
  have hn:n<29:=by omega
  have key:∀j:Fin 29,kidsI ((j.val:Nat):Int)≤5:=by decide
  have:=key ⟨n,hn⟩
  unfold kidsI at this
  rw [if_neg (by omega)] at this
  exact this
set_option maxHeartbeats 4000000 in
theorem reader_term0{PN:ByteArray→Prop}{PF:List Cl→Prop}{nb:ByteArray→Bool}{fr fa:List Cl→Bool}(RP:ReadP PN PF nb fr fa)(w0:World)(p m:Nat)(bs:List Int)(hT:Tab w0)(d depth:Nat)(hd:depth+d=201)
  (ih:∀(d':Nat),d=d'+1→∀(s:Nat) (w:World),Below w0.heap.size w0 w→RSt w0 w p bs s m→Calls Tryz.prog 70 #[.pointer (some ⟨p,0,none⟩),.int .i64 ((depth:Int)+1)] w (RPost w0 w p m bs (tmV w.heap.size) (termS nb fr fa bs d' s)))
  (s:Nat) (w:World) (hb:Below w0.heap.size w0 w) (hr:RSt w0 w p bs s m) :
  Calls Tryz.prog 70 #[.pointer (some ⟨p,0,none⟩),.int .i64 (depth:Int)] w (RPost w0 w p m bs (tmV w.heap.size) (termS nb fr fa bs d s)):=by
 obtain⟨A,c,hv,hc,hC0⟩:=hr.row
 have hv0:=blk_alloc hv (.cells zeroTm 49)
 obtain⟨c0,c1,c2,f0,f1,f2⟩:=cells3 hv0
 have hpw:Aside0 (p<w.heap.size):=⟨hr.lt⟩
 have hw0p:Aside0 (w0.heap.size≤w.heap.size):=⟨hb.size⟩
 have hr0:=hr.below (below_alloc (Below.refl _ _) (.cells zeroTm 49))
 have hb0:=below_alloc hb (.cells zeroTm 49)
 have HK0:=ak ((Kept.refl w (fun k=>k=p)).alloc (.cells zeroTm 49))
 have HN0:=ak (blk_new w (.cells zeroTm 49))
 by_cases hs:s<bs.length
 ·have hcb:=source_byte w0 p bs s m (s:Int) _ hb0 hr0 hs
  have ho:=rd_oct hr.oct (s:Int)
  obtain⟨k,hk⟩:∃k,k=rd bs (s:Int):=⟨_,rfl⟩
  rw [←hk] at hcb ho
  have HKI:=ak hk
  have hkc:=RP.kids k
  clear hr hb hv hv0 hc hC0 hr0 hb0 hk
  have hwk:=wI64 (a:=k) (by omega) (by omega)
  by_cases hneg:kidsI k<0
  ·have HE:Aside0 (termS nb fr fa bs d s=.error ((s:Int),61)):=⟨by cases d<;>rw [termS,if_pos hs,if_pos (by rw [←HKI.out];exact hneg)]⟩
   have hneg':decide (kidsI k<0)=true:=decide_eq_true hneg
   clear hneg ih
   go_enter Tryz.func70,Tryz.ntmps70
   go_wp2_with (first | (go_at_call 29;refine hcb.mono ?_;rintro e w1 ⟨rfl,hr1,hb1,hk1⟩;have HB1:=ak (below_alloc hb1 (.cells #[.int .i64 k,.int .i64 0,.string ⟨#[]⟩,.slice none 0 0,.slice none 0 0,.slice none 0 0] 49));have HK1:=ak ((HK0.out.then_ hk1 (fun _ h=>.inl h)).alloc (.cells #[.int .i64 k,.int .i64 0,.string ⟨#[]⟩,.slice none 0 0,.slice none 0 0,.slice none 0 0] 49));clear hr1 hb1 hk1 hcb) | (go_at_call 85;refine(hkc _).mono ?_;rintro e w2 ⟨rfl,hb2⟩;have HB2:=ak (below_step HB1.out hb2);have HK2:=ak (HK1.out.below hb2);clear hb2 hkc) | ((with_reducible refine(source_fail _ _ _ _).mono ?_);rintro e w2 ⟨rfl,rfl⟩))
   rename_i hq9
   cases hq9
   simp only [bodyPost]
   exact⟨trivial,RPost.no HE.out HB2.out HK2.out⟩
  ·have hneg':decide (kidsI k<0)=false:=decide_eq_false hneg
   cases d with
   | zero =>
    have HE:Aside0 (termS nb fr fa bs 0 s=.error ((s:Int),62)):=⟨by rw [termS,if_pos hs,if_neg (by rw [←HKI.out];exact hneg)]⟩
    have hdd:(200:Int)<(depth:Int):=by omega
    clear hneg ih
    go_enter Tryz.func70,Tryz.ntmps70
    go_wp2_with (first | (go_at_call 29;refine hcb.mono ?_;rintro e w1 ⟨rfl,hr1,hb1,hk1⟩;have HB1:=ak (below_alloc hb1 (.cells #[.int .i64 k,.int .i64 0,.string ⟨#[]⟩,.slice none 0 0,.slice none 0 0,.slice none 0 0] 49));have HK1:=ak ((HK0.out.then_ hk1 (fun _ h=>.inl h)).alloc (.cells #[.int .i64 k,.int .i64 0,.string ⟨#[]⟩,.slice none 0 0,.slice none 0 0,.slice none 0 0] 49));clear hr1 hb1 hk1 hcb) | (go_at_call 85;refine(hkc _).mono ?_;rintro e w2 ⟨rfl,hb2⟩;have HB2:=ak (below_step HB1.out hb2);have HK2:=ak (HK1.out.below hb2);clear hb2 hkc) | ((with_reducible refine(source_fail _ _ _ _).mono ?_);rintro e w2 ⟨rfl,rfl⟩))
    rename_i hq9
    cases hq9
    simp only [bodyPost]
    exact⟨trivial,RPost.no HE.out HB2.out HK2.out⟩
   | succ d' =>
    have HE:Aside0 (termS nb fr fa bs (d'+1) s=tailS fa bs (termS nb fr fa bs d') k (headS nb fr fa bs k (s+1))):=⟨by rw [termS,if_pos hs,if_neg (by rw [←HKI.out];exact hneg),←HKI.out]⟩
    have hdd:¬(200:Int)<(depth:Int):=by omega
    have hdep:depth≤1000:=by omega
    have hkl:kidsI k≤5:=kidsI_le k
    have IH:=ak (ih d' rfl)
    clear ih
    go_enter Tryz.func70,Tryz.ntmps70
    go_upto_block 0 with(first | (go_at_call 29;refine hcb.mono ?_;rintro e w1 ⟨rfl,hr1,hb1,hk1⟩;have HNB:=ak (blk_new w1 (.cells #[.int .i64 k,.int .i64 0,.string ⟨#[]⟩,.slice none 0 0,.slice none 0 0,.slice none 0 0] 49));have HT1:Aside0 (Tst w0 w (w1.alloc (.cells #[.int .i64 k,.int .i64 0,.string ⟨#[]⟩,.slice none 0 0,.slice none 0 0,.slice none 0 0] 49)) p m bs (s+1) w.heap.size w1.heap.size (w1.heap.size+1) ⟨k,0,⟨#[]⟩,[],[],[]⟩ (.slice none 0 0) (.slice none 0 0) (.slice none 0 0) (.slice none 0 0) (.slice none 0 0) (.slice none 0 0)):=⟨⟨hr1.below (below_alloc (Below.refl _ _) _),below_alloc hb1 _,(HK0.out.then_ hk1 (fun _ h=>.inl h)).alloc _,blk_alloc (blk_kept HN0.out hk1 (by have:=hpw.out;omega)) _,HNB.out,Kd.R_nil _ _ _ _ _,Kd.R_nil _ _ _ _ _,Kd.R_nil _ _ _ _ _,Nat.le_refl _,by have:=hk1.1;simp at this;omega,hpw.out,Nat.lt_succ_self _,by simp⟩⟩;have hcc:=(blk_cell HNB.out 0).trans (rfl:_=some (Value.int .i64 k));clear hr1 hb1 hk1 hcb) | (go_at_call 85;refine(hkc _).mono ?_;rintro e w2 ⟨rfl,hb2⟩;have HT2:=ak (HT1.out.below hb2);have hcc2:=(blk_cell HT2.out.c6 0).trans (rfl:_=some (Value.int .i64 k));clear hb2 hkc hcc HT1))
    clear c0 c1 c2 f0 f1 f2 HNB hwk
    generalize w1.heap.size=b6 at *
    go_cut [] from 38 to 61 (fun wx=>∃(n:Int) (x:ByteArray) (r:List Cl) (v3:Value) (s1 N:Nat),Aside0 (headS nb fr fa bs k (s+1)=.ok ((n,x,r),s1))∧Aside0 (Tst w0 w wx p m bs s1 w.heap.size b6 N ⟨k,n,x,r,[],[]⟩ v3 (.slice none 0 0) (.slice none 0 0) v3 (.slice none 0 0) (.slice none 0 0)))
    case first =>
     have hpn:∀s:ByteArray,s.size≤bs.length→PN s:=fun s hs=>RP.pn s (Nat.le_trans hs HT2.out.rs.len)
     have hks:k=1∨k=2∨k=13∨k=21∨k=26∨k=14∨(k≠1∧k≠2∧k≠13∧k≠21∧k≠26∧k≠14):=by omega
     rcases hks with h1 | h2 | h13 | h21 | h26 | h14 | hrest
     ·obtain rfl:=h1
      rcases hq:numS bs (s+1) with x | ⟨n,s1⟩
      ·have hcE:=number_er hq HT2.out.be HT2.out.rs
       have HE2:Aside0 (termS nb fr fa bs (d'+1) s=.error x):=⟨by rw [HE.out,headS,if_pos rfl,hq];rfl⟩
       clear hq
       go_wp2_with (go_at_call 31;refine hcE.mono ?_;rintro e w3 ⟨rfl,hb3,hk3⟩)
       rename_i hq9
       cases hq9
       simp only [bodyPost]
       exact⟨trivial,RPost.err HE2.out hb3 (HT2.out.ke.then_ hk3 (fun _ h=>.inl h))⟩
      ·have hcE:=number_ok hq HT2.out.be HT2.out.rs
       have HH:Aside0 (headS nb fr fa bs 1 (s+1)=.ok (((n:Int),⟨#[]⟩,[]),s1)):=⟨by rw [headS,if_pos rfl,hq]⟩
       clear hq
       go_wp2_with (go_at_call 31;refine hcE.mono ?_;rintro e w3 ⟨rfl,hb3,hk3,hr3⟩;have HT3:=ak (HT2.out.call hb3 hk3 hr3);obtain⟨d0,d1,d2,d3,d4,d5,g0,g1,g2,g3,g4,g5⟩:=cells6 HT3.out.c6;clear hb3 hr3 hcE)
       go_meet
       exact⟨_,_,_,_,s1,_,HH,⟨HT3.out.put 1 (.int .i64 (n:Int)) rfl (Kd.R_nil _ _ _ _ _) (Kd.R_nil _ _ _ _ _) (Kd.R_nil _ _ _ _ _) (Nat.le_refl _) HT3.out.o5⟩⟩
     ·obtain rfl:=h2
      rcases hq:textS nb bs (s+1) with x | ⟨y,s1⟩
      ·have hcE:=RPost.er_ hq (reader_text RP.named w0 p bs (s+1) m w2 hT hpn HT2.out.be HT2.out.rs)
       have HE2:Aside0 (termS nb fr fa bs (d'+1) s=.error x):=⟨by rw [HE.out,headS,if_neg (by decide),if_pos rfl,hq];rfl⟩
       clear hq
       go_wp2_with (go_at_call 48;refine hcE.mono ?_;rintro e w3 ⟨rfl,hb3,hk3⟩)
       rename_i hq9
       cases hq9
       simp only [bodyPost]
       exact⟨trivial,RPost.err HE2.out hb3 (HT2.out.ke.then_ hk3 (fun _ h=>.inl h))⟩
      ·have hcE:=RPost.ok_ hq (reader_text RP.named w0 p bs (s+1) m w2 hT hpn HT2.out.be HT2.out.rs)
       have HH:Aside0 (headS nb fr fa bs 2 (s+1)=.ok ((0,y,[]),s1)):=⟨by rw [headS,if_neg (by decide),if_pos rfl,hq]⟩
       clear hq
       go_wp2_with (go_at_call 48;refine hcE.mono ?_;rintro e w3 ⟨hb3,hk3,hr3,v,rfl,rfl⟩;have HT3:=ak (HT2.out.call hb3 hk3 hr3);obtain⟨d0,d1,d2,d3,d4,d5,g0,g1,g2,g3,g4,g5⟩:=cells6 HT3.out.c6;clear hb3 hr3 hcE)
       go_meet
       exact⟨_,_,_,_,s1,_,HH,⟨HT3.out.put 2 (.string y) rfl (Kd.R_nil _ _ _ _ _) (Kd.R_nil _ _ _ _ _) (Kd.R_nil _ _ _ _ _) (Nat.le_refl _) HT3.out.o5⟩⟩
     ·obtain rfl:=h13
      rcases hq:rowS fr bs (s+1) with x | ⟨y,s1⟩
      ·have hcE:=RPost.er_ hq (reader_row 87 fr PF RP.fright (enters_ Tryz.func87 (by kernel_rfl) rfl) w0 p bs (s+1) m w2 RP.pf HT2.out.be HT2.out.rs)
       have HE2:Aside0 (termS nb fr fa bs (d'+1) s=.error x):=⟨by rw [HE.out,headS,if_neg (by decide),if_neg (by decide),if_pos (by decide),hq];rfl⟩
       clear hq
       go_wp2_with (go_at_call 86;refine hcE.mono ?_;rintro e w3 ⟨rfl,hb3,hk3⟩)
       rename_i hq9
       cases hq9
       simp only [bodyPost]
       exact⟨trivial,RPost.err HE2.out hb3 (HT2.out.ke.then_ hk3 (fun _ h=>.inl h))⟩
      ·have hcE:=RPost.ok_ hq (reader_row 87 fr PF RP.fright (enters_ Tryz.func87 (by kernel_rfl) rfl) w0 p bs (s+1) m w2 RP.pf HT2.out.be HT2.out.rs)
       have HH:Aside0 (headS nb fr fa bs 13 (s+1)=.ok ((0,⟨#[]⟩,y),s1)):=⟨by rw [headS,if_neg (by decide),if_neg (by decide),if_pos (by decide),hq]⟩
       clear hq
       go_wp2_with (go_at_call 86;refine hcE.mono ?_;rintro e w3 ⟨hb3,hk3,hr3,v,rfl,hv3⟩;obtain⟨A9,c9,rfl⟩:=Kd.R_slice hv3;have HV3:Aside0 (Kd.R k113 113 w3 (b6+1) (fun k=>k<w3.heap.size) (.slice A9 y.length c9) y):=⟨R_done hv3 (Nat.le_trans HT2.out.o4 HT2.out.o5) (Nat.le_refl _)⟩;clear hv3;have HT3:=ak (HT2.out.call hb3 hk3 hr3);obtain⟨d0,d1,d2,d3,d4,d5,g0,g1,g2,g3,g4,g5⟩:=cells6 HT3.out.c6;clear hb3 hr3 hcE)
       go_meet
       exact⟨_,_,_,_,s1,_,HH,⟨HT3.out.put 3 _ rfl (R_set6 HV3.out 3 _) (Kd.R_nil _ _ _ _ _) (Kd.R_nil _ _ _ _ _) HT3.out.o5 (Nat.le_refl _)⟩⟩
     ·obtain rfl:=h21
      rcases hq:rowS fr bs (s+1) with x | ⟨y,s1⟩
      ·have hcE:=RPost.er_ hq (reader_row 87 fr PF RP.fright (enters_ Tryz.func87 (by kernel_rfl) rfl) w0 p bs (s+1) m w2 RP.pf HT2.out.be HT2.out.rs)
       have HE2:Aside0 (termS nb fr fa bs (d'+1) s=.error x):=⟨by rw [HE.out,headS,if_neg (by decide),if_neg (by decide),if_pos (by decide),hq];rfl⟩
       clear hq
       go_wp2_with (go_at_call 86;refine hcE.mono ?_;rintro e w3 ⟨rfl,hb3,hk3⟩)
       rename_i hq9
       cases hq9
       simp only [bodyPost]
       exact⟨trivial,RPost.err HE2.out hb3 (HT2.out.ke.then_ hk3 (fun _ h=>.inl h))⟩
      ·have hcE:=RPost.ok_ hq (reader_row 87 fr PF RP.fright (enters_ Tryz.func87 (by kernel_rfl) rfl) w0 p bs (s+1) m w2 RP.pf HT2.out.be HT2.out.rs)
       have HH:Aside0 (headS nb fr fa bs 21 (s+1)=.ok ((0,⟨#[]⟩,y),s1)):=⟨by rw [headS,if_neg (by decide),if_neg (by decide),if_pos (by decide),hq]⟩
       clear hq
       go_wp2_with (go_at_call 86;refine hcE.mono ?_;rintro e w3 ⟨hb3,hk3,hr3,v,rfl,hv3⟩;obtain⟨A9,c9,rfl⟩:=Kd.R_slice hv3;have HV3:Aside0 (Kd.R k113 113 w3 (b6+1) (fun k=>k<w3.heap.size) (.slice A9 y.length c9) y):=⟨R_done hv3 (Nat.le_trans HT2.out.o4 HT2.out.o5) (Nat.le_refl _)⟩;clear hv3;have HT3:=ak (HT2.out.call hb3 hk3 hr3);obtain⟨d0,d1,d2,d3,d4,d5,g0,g1,g2,g3,g4,g5⟩:=cells6 HT3.out.c6;clear hb3 hr3 hcE)
       go_meet
       exact⟨_,_,_,_,s1,_,HH,⟨HT3.out.put 3 _ rfl (R_set6 HV3.out 3 _) (Kd.R_nil _ _ _ _ _) (Kd.R_nil _ _ _ _ _) HT3.out.o5 (Nat.le_refl _)⟩⟩
     ·obtain rfl:=h26
      rcases hq:rowS fr bs (s+1) with x | ⟨y,s1⟩
      ·have hcE:=RPost.er_ hq (reader_row 87 fr PF RP.fright (enters_ Tryz.func87 (by kernel_rfl) rfl) w0 p bs (s+1) m w2 RP.pf HT2.out.be HT2.out.rs)
       have HE2:Aside0 (termS nb fr fa bs (d'+1) s=.error x):=⟨by rw [HE.out,headS,if_neg (by decide),if_neg (by decide),if_pos (by decide),hq];rfl⟩
       clear hq
       go_wp2_with (go_at_call 86;refine hcE.mono ?_;rintro e w3 ⟨rfl,hb3,hk3⟩)
       rename_i hq9
       cases hq9
       simp only [bodyPost]
       exact⟨trivial,RPost.err HE2.out hb3 (HT2.out.ke.then_ hk3 (fun _ h=>.inl h))⟩
      ·have hcE:=RPost.ok_ hq (reader_row 87 fr PF RP.fright (enters_ Tryz.func87 (by kernel_rfl) rfl) w0 p bs (s+1) m w2 RP.pf HT2.out.be HT2.out.rs)
       have HH:Aside0 (headS nb fr fa bs 26 (s+1)=.ok ((0,⟨#[]⟩,y),s1)):=⟨by rw [headS,if_neg (by decide),if_neg (by decide),if_pos (by decide),hq]⟩
       clear hq
       go_wp2_with (go_at_call 86;refine hcE.mono ?_;rintro e w3 ⟨hb3,hk3,hr3,v,rfl,hv3⟩;obtain⟨A9,c9,rfl⟩:=Kd.R_slice hv3;have HV3:Aside0 (Kd.R k113 113 w3 (b6+1) (fun k=>k<w3.heap.size) (.slice A9 y.length c9) y):=⟨R_done hv3 (Nat.le_trans HT2.out.o4 HT2.out.o5) (Nat.le_refl _)⟩;clear hv3;have HT3:=ak (HT2.out.call hb3 hk3 hr3);obtain⟨d0,d1,d2,d3,d4,d5,g0,g1,g2,g3,g4,g5⟩:=cells6 HT3.out.c6;clear hb3 hr3 hcE)
       go_meet
       exact⟨_,_,_,_,s1,_,HH,⟨HT3.out.put 3 _ rfl (R_set6 HV3.out 3 _) (Kd.R_nil _ _ _ _ _) (Kd.R_nil _ _ _ _ _) HT3.out.o5 (Nat.le_refl _)⟩⟩
     ·obtain rfl:=h14
      rcases hq:rowS fa bs (s+1) with x | ⟨y,s1⟩
      ·have hcE:=RPost.er_ hq (reader_row 88 fa PF RP.faright (enters_ Tryz.func88 (by kernel_rfl) rfl) w0 p bs (s+1) m w2 RP.pf HT2.out.be HT2.out.rs)
       have HE2:Aside0 (termS nb fr fa bs (d'+1) s=.error x):=⟨by rw [HE.out,headS,if_neg (by decide),if_neg (by decide),if_neg (by decide),if_pos rfl,hq];rfl⟩
       clear hq
       go_wp2_with (go_at_call 86;refine hcE.mono ?_;rintro e w3 ⟨rfl,hb3,hk3⟩)
       rename_i hq9
       cases hq9
       simp only [bodyPost]
       exact⟨trivial,RPost.err HE2.out hb3 (HT2.out.ke.then_ hk3 (fun _ h=>.inl h))⟩
      ·have hcE:=RPost.ok_ hq (reader_row 88 fa PF RP.faright (enters_ Tryz.func88 (by kernel_rfl) rfl) w0 p bs (s+1) m w2 RP.pf HT2.out.be HT2.out.rs)
       have HH:Aside0 (headS nb fr fa bs 14 (s+1)=.ok ((0,⟨#[]⟩,y),s1)):=⟨by rw [headS,if_neg (by decide),if_neg (by decide),if_neg (by decide),if_pos rfl,hq]⟩
       clear hq
       go_wp2_with (go_at_call 86;refine hcE.mono ?_;rintro e w3 ⟨hb3,hk3,hr3,v,rfl,hv3⟩;obtain⟨A9,c9,rfl⟩:=Kd.R_slice hv3;have HV3:Aside0 (Kd.R k113 113 w3 (b6+1) (fun k=>k<w3.heap.size) (.slice A9 y.length c9) y):=⟨R_done hv3 (Nat.le_trans HT2.out.o4 HT2.out.o5) (Nat.le_refl _)⟩;clear hv3;have HT3:=ak (HT2.out.call hb3 hk3 hr3);obtain⟨d0,d1,d2,d3,d4,d5,g0,g1,g2,g3,g4,g5⟩:=cells6 HT3.out.c6;clear hb3 hr3 hcE)
       go_meet
       exact⟨_,_,_,_,s1,_,HH,⟨HT3.out.put 3 _ rfl (R_set6 HV3.out 3 _) (Kd.R_nil _ _ _ _ _) (Kd.R_nil _ _ _ _ _) HT3.out.o5 (Nat.le_refl _)⟩⟩
     ·obtain⟨h1,h2,h13,h21,h26,h14⟩:=hrest
      have HH:Aside0 (headS nb fr fa bs k (s+1)=.ok ((0,⟨#[]⟩,[]),s+1)):=⟨by rw [headS,if_neg h1,if_neg h2,if_neg (by omega),if_neg h14]⟩
      have e1:(k==1)=false:=by simp [h1]
      have e2:(k==2)=false:=by simp [h2]
      have e13:(k==13)=false:=by simp [h13]
      have e21:(k==21)=false:=by simp [h21]
      have e26:(k==26)=false:=by simp [h26]
      have e14:(k==14)=false:=by simp [h14]
      clear h1 h2 h13 h21 h26 h14
      go_wp2
      go_meet
      exact⟨_,_,_,_,s+1,_,HH,HT2⟩
    case rest =>
     obtain⟨n,x,r,v3,s1,N,HH,HT⟩:=hcut
     obtain⟨A33,c33,rfl⟩:=Kd.R_slice HT.out.r3
     obtain⟨kn,hkn⟩:∃kn:Nat,kidsI k=(kn:Int):=⟨(kidsI k).toNat,by omega⟩
     have HE3:Aside0 (termS nb fr fa bs (d'+1) s=tailK fa bs (termS nb fr fa bs d') k n x r (manyS (termS nb fr fa bs d') kn [] s1)):=⟨by rw [HE.out,HH.out,tailS,hkn];rfl⟩
     have hkc2:=RP.kids k
     rw [hkn] at hkc2
     have hcc:=(blk_cell HT.out.c6 0).trans (rfl:_=some (Value.int .i64 k))
     have hk5:kn≤5:=by omega
     clear hneg' hkn hkl
     go_wp2_with (go_at_call 85;refine(hkc2 _).mono ?_;rintro e w3 ⟨rfl,hb3⟩;have HT3:=ak ((HT.out.below hb3).wide (N2:=w3.heap.size) (Nat.le_trans HT.out.o5 hb3.size) (Nat.le_refl _));clear hb3 hcc hkc2)
     obtain⟨N3,hN3⟩:∃N3,N3=w3.heap.size:=⟨_,rfl⟩
     rw [←hN3] at HT3
     have hpb:Aside0 (p<N3):=⟨by have:=HT3.out.o1;have:=HT3.out.o2;have:=HT3.out.o4;have:=hpw.out;omega⟩
     have hw0b:Aside0 (w0.heap.size≤N3):=⟨by have:=hpb.out;have:=HT3.out.rs.old;omega⟩
     clear hN3 HT
     go_loopg [65] (kn+1) (fun kq v65 wy=>∃(i:Nat) (ks:List Tm) (s2:Nat) (vk:Value),v65=.int .i64 (i:Int)∧i≤kn∧kq+i=kn+1∧Aside0 (ks.length=i)∧Aside0 (manyS (termS nb fr fa bs d') (kn-i) ks s2=manyS (termS nb fr fa bs d') kn [] s1)∧Aside0 (Tst w0 w wy p m bs s2 w.heap.size b6 N3 ⟨k,n,x,r,[],[]⟩ (.slice A33 r.length c33) (.slice none 0 0) (.slice none 0 0) (.slice A33 r.length c33) vk (.slice none 0 0))∧Aside0 (Kd.R k49 49 wy N3 (fun _=>True) vk ks))
     case atStart=>exact⟨0,[],s1,.slice none 0 0,rfl,Nat.zero_le _,rfl,⟨rfl⟩,⟨rfl⟩,HT3,⟨Kd.R_nil _ _ _ _ _⟩⟩
     case round =>
      clear HT3
      obtain⟨i,ks,s2,vk,rfl,hi,hk9,HKL,HM,HT,HG⟩:=hrel
      have hkl3:ks.length≤5:=by have:=HKL.out;omega
      by_cases hlt:i<kn
      ·have hlt':decide ((i:Int)<(kn:Int))=true:=decide_eq_true (by omega)
       obtain⟨dd,hdd2⟩:∃dd,kn-i=dd+1:=⟨kn-i-1,by omega⟩
       have hdd3:dd=kn-(i+1):=by omega
       have hM:=HM.out
       rw [hdd2,manyS] at hM
       have HTd:=ak (HT.out.below (wy:=wr.drew) (below_drew (Below.refl _ _)))
       have HGd:=ak (Kd.R_drew HG.out)
       have hvk:wr.drew.cell? ⟨b6,4,none⟩=some vk:=(blk_cell HTd.out.c6 4).trans rfl
       have hcI:=IH.out s2 wr.drew HTd.out.be HTd.out.rs
       have hwd:=depw depth hdep
       have hwd2:=depw2 depth hdep
       have HBS:Aside0 (N3≤wr.drew.heap.size):=⟨HTd.out.o5⟩
       clear HT HG HM
       rcases hq:termS nb fr fa bs d' s2 with y | ⟨t1,s3⟩
       ·have hcE:=RPost.er_ hq hcI
        have hM2:(Except.error y:Except (Int×Int) (List Tm×Nat))=manyS (termS nb fr fa bs d') kn [] s1:=by simpa [hq] using hM
        have HE4:Aside0 (termS nb fr fa bs (d'+1) s=.error y):=⟨by rw [HE3.out,←hM2];rfl⟩
        clear hq hM hM2 hcI hdd2 hdd3
        go_wp2
        refine start_ (n:=10) (S:=fun w'=>w'.cell? ⟨b6,4,none⟩=some vk) (ds:=[9]) #[false,false,false,false,false,false,false,false,false,false] (by kernel_rfl) rfl rfl (show wr.drew.cell? ⟨b6,4,none⟩=some vk from hvk) (fun hHeld=>?_)
        clear hvk
        generalize wr.drew=wd at *
        refine pu_ 0 67 ?_
        refine ta_ 1 68 ?_
        refine pu_ 2 69 ?_
        refine pu_ 3 70 ?_
        refine pu_ 4 71 ?_
        refine on_ 5 (some 72) fun K hK=>?_
        refine callP_ Tryz.func70 (by kernel_rfl) rfl #[.pointer (some ⟨p,0,none⟩),.int .i64 ((depth:Int)+1)] (by rfl) rfl rfl (by (try simp only [List.map_toArray,List.map_cons,List.map_nil]);first | done | rfl) ?_
        refine hcE.mono ?_
        rintro e w5 ⟨rfl,hb5,hk5⟩
        refine .inr ⟨_,rfl, ?_⟩
        exact⟨rfl,RPost.err HE4.out hb5 (HTd.out.ke.then_ hk5 (fun _ h=>.inl h))⟩
       ·have hcE:=RPost.ok_ hq hcI
        have hM2:manyS (termS nb fr fa bs d') dd (ks++[t1]) s3=manyS (termS nb fr fa bs d') kn [] s1:=by simpa [hq] using hM
        have HM2:Aside0 (manyS (termS nb fr fa bs d') (kn-(i+1)) (ks++[t1]) s3=manyS (termS nb fr fa bs d') kn [] s1):=⟨by rw [←hdd3];exact hM2⟩
        clear hq hM hM2 hcI hdd2 hdd3
        go_wp2
        refine start_ (n:=10) (S:=fun w'=>w'.cell? ⟨b6,4,none⟩=some vk) (ds:=[9]) #[false,false,false,false,false,false,false,false,false,false] (by kernel_rfl) rfl rfl (show wr.drew.cell? ⟨b6,4,none⟩=some vk from hvk) (fun hHeld=>?_)
        clear hvk
        generalize wr.drew=wd at *
        refine pu_ 0 67 ?_
        refine ta_ 1 68 ?_
        refine pu_ 2 69 ?_
        refine pu_ 3 70 ?_
        refine pu_ 4 71 ?_
        refine on_ 5 (some 72) fun K hK=>?_
        refine callP_ Tryz.func70 (by kernel_rfl) rfl #[.pointer (some ⟨p,0,none⟩),.int .i64 ((depth:Int)+1)] (by rfl) rfl rfl (by (try simp only [List.map_toArray,List.map_cons,List.map_nil]);first | done | rfl) ?_
        refine hcE.mono ?_
        rintro e w5 ⟨hb5,hk5,hr5,v,rfl,cs,rfl,hM5⟩
        refine .inl ⟨_,rfl, ?_⟩
        obtain⟨B3,k3,B4,k4,B5,k5,rfl⟩:=tm_cells hM5
        have HT5:=ak (HTd.out.call hb5 hk5 hr5)
        have HG5:=ak (R_stay HGd.out hk5 (fun k hk=>by rw [hk];exact hpb.out))
        have HM5:=ak hM5
        have HS5:Aside0 (wd.heap.size≤w5.heap.size):=⟨hk5.1⟩
        clear hb5 hr5 hM5 hk5
        have hHeld_:=hHeld
        refine hK.out _ _ ((blk_cell HT5.out.c6 4).trans rfl) (fun hHeld=>?_)
        clear hK K hHeld_
        refine no_ 72 ?_
        refine on_ 6 (some 73) fun K hK=>?_
        refine event_step (v:=.slice (some ⟨w5.heap.size,0,none⟩) 1 1) (w1:=w5.alloc (.cells #[.int .i64 t1.f0,.int .i64 t1.f1,.string t1.f2,.slice B3 t1.f3.length k3,.slice B4 t1.f4.length k4,.slice B5 t1.f5.length k5] 49)) (by rfl) (by first | (go_simp;done) | (go_simp;rfl)) ?_
        have hHeld_:=hHeld
        refine hK.out _ _ (World.cell?_alloc_old_ hHeld) (fun hHeld=>?_)
        clear hK K hHeld_
        refine no_ 73 ?_
        refine on_ 7 (some 74) fun K hK=>?_
        refine Kd.R_append_step k49 (w0:=w5) N3 (by rfl) (.tmp 68) (.tmp 73) 46 49 (.agg #[.int .i64 0,.int .i64 0,.string ⟨#[]⟩,.slice none 0 0,.slice none 0 0,.slice none 0 0]) 104 rfl Tryz.underlying46 tm_info rfl (by decide) (by omega) vk ks t1 [.int .i64 t1.f0,.int .i64 t1.f1,.string t1.f2,.slice B3 t1.f3.length k3,.slice B4 t1.f4.length k4,.slice B5 t1.f5.length k5] (fun _=>True) (fun k=>wd.heap.size≤k) rfl rfl (M_from HM5.out HBS.out) (fun k hk=>⟨trivial,fun h9=>by have:=Kd.R_lt HGd.out k h9.symm;omega⟩) (fun _ _=>trivial) HG5.out (Below.refl _ _) (Nat.le_trans HBS.out HS5.out) (by omega) ?_
        intro v1 w6 ho hb6 hg hat
        have hak:=app_keep hg (Kd.R_base HG5.out)
        have hb6':=below_up HT5.out.be hb6 hw0b.out
        have hr6:=HT5.out.rs.kept hak (by have:=hpb.out;omega)
        have HT6:=ak (HT5.out.move (hak.mono (fun k h=>.inr h)) hb6' hr6)
        obtain⟨A6,n6,c6,rfl⟩:=slice3 ho
        have HO6:=ak ho
        clear ho hb6 hg hat hb6' hr6
        have hHeld_:=hHeld
        refine hK.out _ _ ((blk_cell HT6.out.c6 4).trans rfl) (fun hHeld=>?_)
        clear hK K hHeld_
        refine no_ 74 ?_
        refine pu_ 8 75 ?_
        refine last_ (i:=9) (N:=none) #[true,true,true,true,true,true,true,true,true,true] rfl rfl (by kernel_rfl) (by decide) (fun K hK=>?_)
        obtain⟨d0,d1,d2,d3,d4,d5,g0,g1,g2,g3,g4,g5⟩:=cells6 HT6.out.c6
        refine skip_ (w1:=w6.setCell ⟨b6,4,none⟩ (.slice A6 n6 c6)) (by rfl) rfl (by go_simp) ?_
        refine hK.out _ _ ?_
        clear hK K
        refine done_ (by kernel_rfl) ?_
        have HK7:=ak ((Kept.refl w6 (fun k=>k=b6)).setCell (p:=⟨b6,4,none⟩) (.inl rfl) (.slice A6 n6 c6))
        have HT7:Aside0 (Tst w0 w (w6.setCell ⟨b6,4,none⟩ (.slice A6 n6 c6)) p m bs s3 w.heap.size b6 N3 ⟨k,n,x,r,[],[]⟩ (.slice A33 r.length c33) (.slice none 0 0) (.slice none 0 0) (.slice A33 r.length c33) (.slice A6 n6 c6) (.slice none 0 0)):=⟨HT6.out.put 4 _ rfl (R_set6 HT6.out.r3 4 _) (Kd.R_nil _ _ _ _ _) (Kd.R_nil _ _ _ _ _) (Nat.le_refl _) HT6.out.o5⟩
        have HG7:=ak (R_stay HO6.out HK7.out (fun k hk=>by have:=HT6.out.o4;omega))
        clear d0 d1 d2 d3 d4 d5 g0 g1 g2 g3 g4 g5 HT6 HO6 HT5 HG5 HM5 HS5 hHeld hwd2
        go_wp2
        go_roundg (gk-1)
        case measure=>omega
        case rel=>exact⟨i+1,ks++[t1],s3,_,rfl,by omega,by omega,⟨by rw [List.length_append,HKL.out];rfl⟩,HM2,HT7,HG7⟩
      ·have hlt':decide ((i:Int)<(kn:Int))=false:=decide_eq_false (by omega)
       obtain⟨A44,c44,rfl⟩:=Kd.R_slice HG.out
       have hM:=HM.out
       rw [show kn-i=0 by omega,manyS] at hM
       have HE4:Aside0 (termS nb fr fa bs (d'+1) s=if partsI k=0 then .ok (⟨k,n,x,r,ks,[]⟩,s2) else tailN fa bs (termS nb fr fa bs d') k n x r ks (numS bs s2)):=⟨by rw [HE3.out,←hM];rfl⟩
       have hcc:=(blk_cell HT.out.c6 0).trans (rfl:_=some (Value.int .i64 k))
       have hkp:=RP.parts k
       obtain⟨N5,hN5⟩:∃N5,N5=wr.heap.size:=⟨_,rfl⟩
       clear hM HM
       by_cases hp0:partsI k=0
       ·have HE5:Aside0 (termS nb fr fa bs (d'+1) s=.ok (⟨k,n,x,r,ks,[]⟩,s2)):=⟨by rw [HE4.out,if_pos hp0]⟩
        rw [hp0] at hkp
        clear hp0 HE4
        go_wp2_with (go_at_call 41;refine(hkp _).mono ?_;rintro e w4 ⟨rfl,hb4⟩;have HT4:=ak (HT.out.below hb4);have HG4:=ak (Kd.R_below HG.out hb4);obtain⟨d0,d1,d2,d3,d4,d5,g0,g1,g2,g3,g4,g5⟩:=cells6 HT4.out.c6;obtain⟨b0,b1,b2,b3,b4,b5,f0,f1,f2,f3,f4,f5⟩:=cells6 HT4.out.c4;clear hb4 hkp hcc)
        have HTF:=ak HT4.out
        clear HT HG
        have F:=HTF.out.fin (.int .i64 k) (.int .i64 n) (.string x) (.slice A33 r.length c33) (.slice A44 ks.length c44) (.slice none 0 0)
        clear d0 d1 d2 d3 d4 d5 g0 g1 g2 g3 g4 g5 b0 b1 b2 b3 b4 b5 f0 f1 f2 f3 f4 f5 HT4
        revert F
        generalize (World.setCell _ ⟨w.heap.size,5,none⟩ _)=Wf
        rintro⟨F1,F2,F3⟩
        refine bodyPost_ret (v:=.agg #[.int .i64 k,.int .i64 n,.string x,.slice A33 r.length c33,.slice A44 ks.length c44,.slice none 0 0]) (tm_out F1 ⟨rfl,rfl,rfl,rfl,rfl,rfl⟩) rfl ?_
        exact RPost.yes HE5.out F3 (HTF.out.ke.then_ F2 (fun j hj=>.inr (by omega))) (HTF.out.rs.kept F2 (by have:=HTF.out.o1;have:=HTF.out.o3;omega)) ⟨_,rfl,k49_mkM Wf w.heap.size _ ⟨k,n,x,r,ks,[]⟩ (fin_row HTF.out.r3 F2 (by have:=HTF.out.o2;omega) (by have:=HTF.out.o2;omega)) (fin_row HG4.out F2 (by have:=HTF.out.o2;have:=HTF.out.o4;omega) (by have:=HTF.out.o2;have:=HTF.out.o4;omega)) (Kd.R_nil _ _ _ _ _)⟩
       ·have HE5:Aside0 (termS nb fr fa bs (d'+1) s=tailN fa bs (termS nb fr fa bs d') k n x r ks (numS bs s2)):=⟨by rw [HE4.out,if_neg hp0]⟩
        have hpr:=partsI_rng k
        obtain⟨q,hq0⟩:∃q:Nat,partsI k=(q:Int):=⟨(partsI k).toNat,by omega⟩
        have hq2:q≤2:=by omega
        have hqz:((q:Int)==0)=false:=by
         rw [beq_eq_false_iff_ne]
         rw [hq0] at hp0
         exact hp0
        have HPQ:=ak hq0
        rw [hq0] at hkp
        clear hp0 HE4 hpr hq0 hN5
        rcases hn:numS bs s2 with y | ⟨c,s3⟩
        ·have HE6:Aside0 (termS nb fr fa bs (d'+1) s=.error y):=⟨by rw [HE5.out,hn];rfl⟩
         have HNE:=ak hn
         clear hn
         go_wp2_with (first | (go_at_call 41;refine(hkp _).mono ?_;rintro e w4 ⟨rfl,hb4⟩;have HT4:=ak (HT.out.below hb4);have hcE:=number_er HNE.out HT4.out.be HT4.out.rs;clear hb4 hkp hcc) | (go_at_call 31;refine hcE.mono ?_;rintro e w5 ⟨rfl,hb5,hk5⟩))
         rename_i hq9
         cases hq9
         simp only [bodyPost]
         exact⟨trivial,RPost.err HE6.out hb5 (HT4.out.ke.then_ hk5 (fun _ h=>.inl h))⟩
        ·have HE6:Aside0 (termS nb fr fa bs (d'+1) s=tailL k n x r ks (brS fa bs (termS nb fr fa bs d') q c [] s3)):=⟨by rw [HE5.out,hn,tailN,HPQ.out];rfl⟩
         have HNO:=ak hn
         have hc31:=numS_le hn
         clear hn HE5
         obtain⟨go,rfl⟩:∃go,go=gk:=⟨_,rfl⟩
         obtain⟨wo,rfl⟩:∃wo:World,wo=wr:=⟨_,rfl⟩
         go_wp2_with (first | (go_at_call 41;refine(hkp _).mono ?_;rintro e w4 ⟨rfl,hb4⟩;have HT4:=ak (HT.out.below hb4);have HG4:=ak (Kd.R_below HG.out hb4);have hcE:=number_ok HNO.out HT4.out.be HT4.out.rs;clear hb4 hkp hcc) | (go_at_call 31;refine hcE.mono ?_;rintro e w5 ⟨rfl,hb5,hk5,hr5⟩;have HT5:=ak (HT4.out.call hb5 hk5 hr5);have HG5:=ak (R_stay HG4.out hk5 (fun k hk=>by rw [hk];exact hpb.out));clear hb5 hk5 hr5 hcE))
         obtain⟨N5,hN5⟩:∃N5,N5=w5.heap.size:=⟨_,rfl⟩
         have HT6:=ak (HT5.out.kids HG5.out HT5.out.o4 hN5)
         have HBN5:Aside0 (b6<N5):=⟨HT6.out.o4⟩
         have hpb5:Aside0 (p<N5):=⟨by have:=hpb.out;have:=HT5.out.o5;omega⟩
         have hw0b5:Aside0 (w0.heap.size≤N5):=⟨by have:=hw0b.out;have:=HT5.out.o5;omega⟩
         clear HT5 HG5 HT4 HG4 HT HG hN5
         go_loopg [86] (c+1) (fun kq v86 wy=>∃(i2:Nat) (brs:List Br) (s4:Nat) (v5:Value),v86=.int .i64 (i2:Int)∧i2≤c∧kq+i2=c+1∧Aside0 (brs.length=i2)∧Aside0 (brS fa bs (termS nb fr fa bs d') q (c-i2) brs s4=brS fa bs (termS nb fr fa bs d') q c [] s3)∧Aside0 (Tst w0 w wy p m bs s4 w.heap.size b6 N5 ⟨k,n,x,r,ks,[]⟩ (.slice A33 r.length c33) (.slice A44 ks.length c44) (.slice none 0 0) (.slice A33 r.length c33) (.slice A44 ks.length c44) v5)∧Aside0 (Kd.R k90 90 wy N5 (fun _=>True) v5 brs))
         case atStart=>exact⟨0,[],s3,.slice none 0 0,rfl,Nat.zero_le _,rfl,⟨rfl⟩,⟨rfl⟩,HT6,⟨Kd.R_nil _ _ _ _ _⟩⟩
         case round =>
          clear HT6
          obtain⟨i2,brs,s4,v5,rfl,hi2,hk92,HBL,HBS2,HT,HG⟩:=hrel
          obtain⟨n55,A55,c55,rfl⟩:∃n5 A5 c5,v5=.slice A5 n5 c5:=by obtain⟨A,n,c,e⟩:=slice3 HG.out;exact⟨n,A,c,e⟩
          by_cases hlt2:i2<c
          ·have hlt2':decide ((i2:Int)<(c:Int))=true:=decide_eq_true (by omega)
           obtain⟨de,hde⟩:∃de,c-i2=de+1:=⟨c-i2-1,by omega⟩
           have hde3:de=c-(i2+1):=by omega
           have hB:=HBS2.out
           rw [hde] at hB
           have hrow:=reader_row 88 fa PF RP.faright (enters_ Tryz.func88 (by kernel_rfl) rfl) w0 p bs s4 m wr RP.pf HT.out.be HT.out.rs
           rcases hq:rowS fa bs s4 with y | ⟨f,s5⟩
           ·have hcE:=RPost.er_ hq hrow
            have hB2:(Except.error y:Except (Int×Int) (List Br×Nat))=brS fa bs (termS nb fr fa bs d') q c [] s3:=(brS_er fa bs hq).symm.trans hB
            have HE7:Aside0 (termS nb fr fa bs (d'+1) s=.error y):=⟨by rw [HE6.out,←hB2];rfl⟩
            clear hq hB hB2 hrow hde hde3
            go_wp2_with (go_at_call 86;refine hcE.mono ?_;rintro e w6 ⟨rfl,hb6,hk6⟩)
            rename_i hq9
            cases hq9
            simp only [bodyPost]
            exact⟨trivial,RPost.err HE7.out hb6 (HT.out.ke.then_ hk6 (fun _ h=>.inl h))⟩
           ·have hcE:=RPost.ok_ hq hrow
            have hB2:=(brS_ok fa bs hq).symm.trans hB
            have HB2:Aside0 (brK fa bs (termS nb fr fa bs d') q (c-(i2+1)) brs f (manyS (termS nb fr fa bs d') q [] s5)=brS fa bs (termS nb fr fa bs d') q c [] s3):=⟨by rw [←hde3];exact hB2⟩
            have hkp:=RP.parts k
            rw [HPQ.out] at hkp
            clear hq hB hB2 hrow hde hde3 HBS2
            go_wp2_with (first | (go_at_call 86;refine hcE.mono ?_;rintro e w6 ⟨hb6,hk6,hr6,v,rfl,hv6⟩;obtain⟨A7,c7,rfl⟩:=Kd.R_slice hv6;have HT7:=ak ((HT.out.call hb6 hk6 hr6).below (below_alloc (Below.refl _ _) (.cells #[.slice A7 f.length c7,.slice none 0 0] 90)));have HB7:=ak (blk_new w6 (.cells #[.slice A7 f.length c7,.slice none 0 0] 90));have HVF:=ak (Kd.R_alloc (R_done hv6 (Nat.le_refl _) (Nat.le_refl w6.heap.size)) (.cells #[.slice A7 f.length c7,.slice none 0 0] 90));have HGS:=ak (Kd.R_alloc (R_stayN (R_done HG.out (Nat.le_refl N5) (Nat.le_refl wr.heap.size)) hk6 (fun k hk=>.inl (by rw [hk];exact hpb5.out))) (.cells #[.slice A7 f.length c7,.slice none 0 0] 90));have HSZ:Aside0 (wr.heap.size≤w6.heap.size):=⟨hk6.1⟩;have hcc:=(blk_cell HT7.out.c6 0).trans (rfl:_=some (Value.int .i64 k));clear hb6 hk6 hr6 hv6 hcE) | (go_at_call 41;refine(hkp _).mono ?_;rintro e w8 ⟨rfl,hb8⟩;have HT8:=ak (HT7.out.below hb8);have HB8:=ak (blk_below HB7.out hb8);have HVF8:=ak (Kd.R_below HVF.out hb8);have HGS8:=ak (Kd.R_below HGS.out hb8);have HS8:Aside0 (w6.heap.size<w8.heap.size):=⟨blk_lt HB8.out⟩;clear hb8 hkp hcc))
            obtain⟨b7,hb7⟩:∃b7,b7=w6.heap.size:=⟨_,rfl⟩
            obtain⟨B1,hB1⟩:∃B1,B1=wr.heap.size:=⟨_,rfl⟩
            obtain⟨N7,hN7⟩:∃N7,N7=w8.heap.size:=⟨_,rfl⟩
            have HLE:Aside0 (N5≤B1∧B1≤b7∧b7<N7):=⟨by have:=HT.out.o5;have:=HSZ.out;have:=HS8.out;omega⟩
            rw [←hb7] at HB8 HVF8
            rw [←hB1] at HVF8 HGS8
            have hpb7:Aside0 (p<N7):=⟨by have:=hpb5.out;have:=HLE.out;omega⟩
            have hw0b7:Aside0 (w0.heap.size≤N7):=⟨by have:=hw0b5.out;have:=HLE.out;omega⟩
            have HN78:Aside0 (N7≤w8.heap.size):=⟨by omega⟩
            clear HT HG HT7 HB7 HVF HGS HSZ HS8 hN7 hB1
            generalize w6.heap.size=b7_ at *
            subst hb7
            obtain⟨gp,rfl⟩:∃gp,gp=gk:=⟨_,rfl⟩
            obtain⟨wo2,rfl⟩:∃wo:World,wo=wr:=⟨_,rfl⟩
            go_loopg [94] (q+1) (fun kq v94 wz=>∃(j:Nat) (ks2:List Tm) (s6:Nat) (vk:Value),v94=.int .i64 (j:Int)∧j≤q∧kq+j=q+1∧Aside0 (ks2.length=j)∧Aside0 (manyS (termS nb fr fa bs d') (q-j) ks2 s6=manyS (termS nb fr fa bs d') q [] s5)∧Aside0 (Tst w0 w wz p m bs s6 w.heap.size b6 N5 ⟨k,n,x,r,ks,[]⟩ (.slice A33 r.length c33) (.slice A44 ks.length c44) (.slice none 0 0) (.slice A33 r.length c33) (.slice A44 ks.length c44) (.slice A55 n55 c55))∧Aside0 (N7≤wz.heap.size)∧Aside0 (wz.heap[b7]? = some (.cells #[.slice A7 f.length c7,vk] 90 (0,0)))∧Aside0 (Kd.R k113 113 wz B1 (fun k=>k<b7) (.slice A7 f.length c7) f)∧Aside0 (Kd.R k90 90 wz N5 (fun k=>k<B1) (.slice A55 n55 c55) brs)∧Aside0 (Kd.R k49 49 wz N7 (fun _=>True) vk ks2))
            case atStart=>exact⟨0,[],s5,.slice none 0 0,rfl,Nat.zero_le _,rfl,⟨rfl⟩,⟨rfl⟩,HT8,HN78,HB8,HVF8,HGS8,⟨Kd.R_nil _ _ _ _ _⟩⟩
            case round =>
             clear HT8 HB8 HVF8 HGS8 HN78
             obtain⟨j,ks2,s6,vk,rfl,hj,hk94,HKL,HM,HT,HNZ,HB7,HVF,HGS,HG⟩:=hrel
             have hkl3:ks2.length≤5:=by have:=HKL.out;omega
             by_cases hlt3:j<q
             ·have hlt3':decide ((j:Int)<(q:Int))=true:=decide_eq_true (by omega)
              obtain⟨dd,hdd2⟩:∃dd,q-j=dd+1:=⟨q-j-1,by omega⟩
              have hdd3:dd=q-(j+1):=by omega
              have hM:=HM.out
              rw [hdd2,manyS] at hM
              have HTd:=ak (HT.out.below (wy:=wr.drew) (below_drew (Below.refl _ _)))
              have HB7d:Aside0 (wr.drew.heap[b7]? = some (.cells #[.slice A7 f.length c7,vk] 90 (0,0))):=HB7
              have HVFd:=ak (Kd.R_drew HVF.out)
              have HGSd:=ak (Kd.R_drew HGS.out)
              have HGd:=ak (Kd.R_drew HG.out)
              have hvk:wr.drew.cell? ⟨b7,1,none⟩=some vk:=(blk_cell HB7d.out 1).trans rfl
              have hcI:=IH.out s6 wr.drew HTd.out.be HTd.out.rs
              have hwd:=depw depth hdep
              have hwd2:=depw2 depth hdep
              have HBS:Aside0 (N7≤wr.drew.heap.size):=HNZ
              clear HT HG HM HB7 HVF HGS HNZ
              rcases hq:termS nb fr fa bs d' s6 with y | ⟨t1,s7⟩
              ·have hcE:=RPost.er_ hq hcI
               have hM2:(Except.error y:Except (Int×Int) (List Tm×Nat))=manyS (termS nb fr fa bs d') q [] s5:=by simpa [hq] using hM
               have HE7:Aside0 (termS nb fr fa bs (d'+1) s=.error y):=⟨by rw [HE6.out,←HB2.out,←hM2];rfl⟩
               clear hq hM hM2 hcI hdd2 hdd3
               go_wp2
               refine start_ (n:=10) (S:=fun w'=>w'.cell? ⟨b7,1,none⟩=some vk) (ds:=[9]) #[false,false,false,false,false,false,false,false,false,false] (by kernel_rfl) rfl rfl (show wr.drew.cell? ⟨b7,1,none⟩=some vk from hvk) (fun hHeld=>?_)
               clear hvk
               generalize wr.drew=wd at *
               refine pu_ 0 96 ?_
               refine ta_ 1 97 ?_
               refine pu_ 2 98 ?_
               refine pu_ 3 99 ?_
               refine pu_ 4 100 ?_
               refine on_ 5 (some 101) fun K hK=>?_
               refine callP_ Tryz.func70 (by kernel_rfl) rfl #[.pointer (some ⟨p,0,none⟩),.int .i64 ((depth:Int)+1)] (by rfl) rfl rfl (by (try simp only [List.map_toArray,List.map_cons,List.map_nil]);first | done | rfl) ?_
               refine hcE.mono ?_
               rintro e w5 ⟨rfl,hb5,hk5⟩
               refine .inr ⟨_,rfl, ?_⟩
               exact⟨rfl,RPost.err HE7.out hb5 (HTd.out.ke.then_ hk5 (fun _ h=>.inl h))⟩
              ·have hcE:=RPost.ok_ hq hcI
               have hM2:manyS (termS nb fr fa bs d') dd (ks2++[t1]) s7=manyS (termS nb fr fa bs d') q [] s5:=by simpa [hq] using hM
               have HM2:Aside0 (manyS (termS nb fr fa bs d') (q-(j+1)) (ks2++[t1]) s7=manyS (termS nb fr fa bs d') q [] s5):=⟨by rw [←hdd3];exact hM2⟩
               clear hq hM hM2 hcI hdd2 hdd3
               go_wp2
               refine start_ (n:=10) (S:=fun w'=>w'.cell? ⟨b7,1,none⟩=some vk) (ds:=[9]) #[false,false,false,false,false,false,false,false,false,false] (by kernel_rfl) rfl rfl (show wr.drew.cell? ⟨b7,1,none⟩=some vk from hvk) (fun hHeld=>?_)
               clear hvk
               generalize wr.drew=wd at *
               refine pu_ 0 96 ?_
               refine ta_ 1 97 ?_
               refine pu_ 2 98 ?_
               refine pu_ 3 99 ?_
               refine pu_ 4 100 ?_
               refine on_ 5 (some 101) fun K hK=>?_
               refine callP_ Tryz.func70 (by kernel_rfl) rfl #[.pointer (some ⟨p,0,none⟩),.int .i64 ((depth:Int)+1)] (by rfl) rfl rfl (by (try simp only [List.map_toArray,List.map_cons,List.map_nil]);first | done | rfl) ?_
               refine hcE.mono ?_
               rintro e w5 ⟨hb5,hk5,hr5,v,rfl,cs,rfl,hM5⟩
               refine .inl ⟨_,rfl, ?_⟩
               obtain⟨B3,k3,B4,k4,B5,k5,rfl⟩:=tm_cells hM5
               have HT5:=ak (HTd.out.call hb5 hk5 hr5)
               have HG5:=ak (R_stay HGd.out hk5 (fun k hk=>by rw [hk];exact hpb7.out))
               have HM5:=ak hM5
               have HS5:Aside0 (wd.heap.size≤w5.heap.size):=⟨hk5.1⟩
               have HB75:=ak (blk_kept HB7d.out hk5 (by have:=HLE.out;have:=hpb5.out;omega))
               have HVF5:=ak (R_stayN HVFd.out hk5 (fun k hk=>.inl (by have:=HLE.out;have:=hpb5.out;omega)))
               have HGS5:=ak (R_stayN HGSd.out hk5 (fun k hk=>.inl (by have:=hpb5.out;omega)))
               clear hb5 hr5 hM5 hk5
               have hHeld_:=hHeld
               refine hK.out _ _ ((blk_cell HB75.out 1).trans rfl) (fun hHeld=>?_)
               clear hK K hHeld_
               refine no_ 101 ?_
               refine on_ 6 (some 102) fun K hK=>?_
               refine event_step (v:=.slice (some ⟨w5.heap.size,0,none⟩) 1 1) (w1:=w5.alloc (.cells #[.int .i64 t1.f0,.int .i64 t1.f1,.string t1.f2,.slice B3 t1.f3.length k3,.slice B4 t1.f4.length k4,.slice B5 t1.f5.length k5] 49)) (by rfl) (by first | (go_simp;done) | (go_simp;rfl)) ?_
               have hHeld_:=hHeld
               refine hK.out _ _ (World.cell?_alloc_old_ hHeld) (fun hHeld=>?_)
               clear hK K hHeld_
               refine no_ 102 ?_
               refine on_ 7 (some 103) fun K hK=>?_
               refine Kd.R_append_step k49 (w0:=w5) N7 (by rfl) (.tmp 97) (.tmp 102) 46 49 (.agg #[.int .i64 0,.int .i64 0,.string ⟨#[]⟩,.slice none 0 0,.slice none 0 0,.slice none 0 0]) 104 rfl Tryz.underlying46 tm_info rfl (by decide) (by omega) vk ks2 t1 [.int .i64 t1.f0,.int .i64 t1.f1,.string t1.f2,.slice B3 t1.f3.length k3,.slice B4 t1.f4.length k4,.slice B5 t1.f5.length k5] (fun _=>True) (fun k=>wd.heap.size≤k) rfl rfl (M_from HM5.out HBS.out) (fun k hk=>⟨trivial,fun h9=>by have:=Kd.R_lt HGd.out k h9.symm;omega⟩) (fun _ _=>trivial) HG5.out (Below.refl _ _) (Nat.le_trans HBS.out HS5.out) (by omega) ?_
               intro v1 w6 ho hb6 hg hat
               have hak:=app_keep hg (Kd.R_base HG5.out)
               have hb6':=below_up HT5.out.be hb6 hw0b7.out
               have hr6:=HT5.out.rs.kept hak (by have:=hpb7.out;omega)
               have HT6:=ak (HT5.out.move (hak.mono (fun k h=>.inr (by have:=HLE.out;omega))) hb6' hr6)
               have HB76:=ak (blk_kept HB75.out hak (by have:=HLE.out;omega))
               have HVF6:=ak (R_stayN HVF5.out hak (fun k hk=>.inr (by have:=HLE.out;omega)))
               have HGS6:=ak (R_stayN HGS5.out hak (fun k hk=>.inr (by have:=HLE.out;omega)))
               have HNZ6:Aside0 (N7≤w6.heap.size):=⟨Nat.le_trans (Nat.le_trans HBS.out HS5.out) hak.1⟩
               obtain⟨A6,n6,c6,rfl⟩:=slice3 ho
               have HO6:=ak ho
               clear ho hb6 hg hat hb6' hr6
               have hHeld_:=hHeld
               refine hK.out _ _ ((blk_cell HB76.out 1).trans rfl) (fun hHeld=>?_)
               clear hK K hHeld_
               refine no_ 103 ?_
               refine pu_ 8 104 ?_
               refine last_ (i:=9) (N:=none) #[true,true,true,true,true,true,true,true,true,true] rfl rfl (by kernel_rfl) (by decide) (fun K hK=>?_)
               obtain⟨d0,d1,g0,g1⟩:=cells2 HB76.out
               refine skip_ (w1:=w6.setCell ⟨b7,1,none⟩ (.slice A6 n6 c6)) (by rfl) rfl (by go_simp) ?_
               refine hK.out _ _ ?_
               clear hK K
               refine done_ (by kernel_rfl) ?_
               have HK7:=ak ((Kept.refl w6 (fun k=>k=b7)).setCell (p:=⟨b7,1,none⟩) (.inl rfl) (.slice A6 n6 c6))
               have HT7:Aside0 (Tst w0 w (w6.setCell ⟨b7,1,none⟩ (.slice A6 n6 c6)) p m bs s7 w.heap.size b6 N5 ⟨k,n,x,r,ks,[]⟩ (.slice A33 r.length c33) (.slice A44 ks.length c44) (.slice none 0 0) (.slice A33 r.length c33) (.slice A44 ks.length c44) (.slice A55 n55 c55)):=⟨HT6.out.move (HK7.out.mono (fun k hk=>.inr (by have:=HLE.out;omega))) (HT6.out.be.setCell (p:=⟨b7,1,none⟩) (by have:=HLE.out;have:=hw0b5.out;show w0.heap.size≤b7;omega) _) (HT6.out.rs.kept HK7.out (by have:=HLE.out;have:=hpb5.out;omega))⟩
               have HB77:=ak (two_set1 HB76.out (.slice A6 n6 c6))
               have HVF7:=ak (R_stayN HVF6.out HK7.out (fun k hk=>.inr (by omega)))
               have HGS7:=ak (R_stayN HGS6.out HK7.out (fun k hk=>.inr (by have:=HLE.out;omega)))
               have HG7:=ak (R_stay HO6.out HK7.out (fun k hk=>by have:=HLE.out;omega))
               have HNZ7:Aside0 (N7≤(w6.setCell ⟨b7,1,none⟩ (.slice A6 n6 c6)).heap.size):=⟨by rw [World.size_setCell];exact HNZ6.out⟩
               clear d0 d1 g0 g1 HT6 HO6 HT5 HG5 HM5 HS5 hHeld hwd2 HB75 HVF5 HGS5 HB76 HVF6 HGS6
               go_wp2
               go_roundg (gk-1)
               case measure=>omega
               case rel=>exact⟨j+1,ks2++[t1],s7,_,rfl,by omega,by omega,⟨by rw [List.length_append,HKL.out];rfl⟩,HM2,HT7,HNZ7,HB77,HVF7,HGS7,HG7⟩
             ·have hlt3':decide ((j:Int)<(q:Int))=false:=decide_eq_false (by omega)
              have hM:=HM.out
              rw [show q-j=0 by omega,manyS] at hM
              have HB3:Aside0 (brS fa bs (termS nb fr fa bs d') q (c-(i2+1)) (brs++[⟨f,ks2⟩]) s6=brS fa bs (termS nb fr fa bs d') q c [] s3):=⟨by rw [←HB2.out,←hM];rfl⟩
              obtain⟨n99,A99,c99,rfl⟩:∃n5 A5 c5,vk=.slice A5 n5 c5:=by obtain⟨A,n,c,e⟩:=slice3 HG.out;exact⟨n,A,c,e⟩
              obtain⟨d0,d1,d2,d3,d4,d5,g0,g1,g2,g3,g4,g5⟩:=cells6 HT.out.c6
              obtain⟨d6,d7,g6,g7⟩:=cells2 HB7.out
              have hbl:brs.length≤2147483647:=by have:=HBL.out;omega
              have HE0:Aside0 (k90.M wr N5 (fun k=>B1≤k) (⟨f,ks2⟩:Br) [.slice A7 f.length c7,.slice A99 n99 c99]):=⟨k90_mkM wr N5 _ ⟨f,ks2⟩ (R_from HVF.out HLE.out.1) (Kd.R_mono (R_from HG.out (by have:=HLE.out;omega)) (fun k hk=>by have:=HLE.out;omega))⟩
              have HOK:Aside0 (∀k,B1≤k→True∧some k≠Value.ownBlock (.slice A55 n55 c55)):=⟨fun k hk=>⟨trivial,fun h9=>by have:=HGS.out.1 k h9.symm;omega⟩⟩
              have HGT:=ak (Kd.R_mono HGS.out (ok':=fun _=>True) (fun _ _=>trivial))
              clear hM HM
              go_wp2_with (at_builtin;refine Kd.R_append k90 (w0:=wr) N5 rfl (.tmp 107) (.tmp 109) 47 90 (.agg #[.slice none 0 0,.slice none 0 0]) 48 rfl Tryz.underlying47 br_info rfl (by decide) (by omega) (.slice A55 n55 c55) brs ⟨f,ks2⟩ [.slice A7 f.length c7,.slice A99 n99 c99] (fun _=>True) (fun k=>B1≤k) rfl rfl HE0.out HOK.out (fun _ _=>trivial) HGT.out (Below.refl _ _) HT.out.o5 (by omega) ?_;intro v1 wA ho hb1 hg hat;obtain⟨A6,n6,c6,rfl⟩:=slice3 ho;have hak:=app_keep hg (Kd.R_base HGT.out);have HTA:=ak (HT.out.move (hak.mono (fun k h=>.inr h)) (below_up HT.out.be hb1 hw0b5.out) (HT.out.rs.kept hak (by have:=hpb5.out;omega)));have HOA:=ak ho;clear d0 d1 d2 d3 d4 d5 g0 g1 g2 g3 g4 g5 d6 d7 g6 g7;obtain⟨d0,d1,d2,d3,d4,d5,g0,g1,g2,g3,g4,g5⟩:=cells6 HTA.out.c6;clear ho hb1 hg hat hak)
              have HKB:=ak ((Kept.refl wA (fun k=>k=b6)).setCell (p:=⟨b6,5,none⟩) (.inl rfl) (.slice A6 n6 c6))
              have HTB:Aside0 (Tst w0 w (wA.setCell ⟨b6,5,none⟩ (.slice A6 n6 c6)) p m bs s6 w.heap.size b6 N5 ⟨k,n,x,r,ks,[]⟩ (.slice A33 r.length c33) (.slice A44 ks.length c44) (.slice none 0 0) (.slice A33 r.length c33) (.slice A44 ks.length c44) (.slice A6 n6 c6)):=⟨HTA.out.put 5 _ rfl (R_set6 HTA.out.r3 5 _) (R_set6 HTA.out.r4 5 _) (Kd.R_nil _ _ _ _ _) (Nat.le_refl _) HTA.out.o5⟩
              have HGB:=ak (R_stay HOA.out HKB.out (fun k hk=>by have:=HBN5.out;omega))
              go_roundg (gp-1)
              case measure=>omega
              case rel=>exact⟨i2+1,brs++[⟨f,ks2⟩],s6,_,rfl,by omega,by omega,⟨by rw [List.length_append,HBL.out];rfl⟩,HB3,HTB,HGB⟩
          ·have hlt2':decide ((i2:Int)<(c:Int))=false:=decide_eq_false (by omega)
           have hB:=HBS2.out
           rw [show c-i2=0 by omega,brS] at hB
           have HE8:Aside0 (termS nb fr fa bs (d'+1) s=.ok (⟨k,n,x,r,ks,brs⟩,s4)):=⟨by rw [HE6.out,←hB];rfl⟩
           obtain⟨d0,d1,d2,d3,d4,d5,g0,g1,g2,g3,g4,g5⟩:=cells6 HT.out.c6
           obtain⟨b0,b1,b2,b3,b4,b5,f0,f1,f2,f3,f4,f5⟩:=cells6 HT.out.c4
           clear hB HBS2
           go_wp2
           have F:=HT.out.fin (.int .i64 k) (.int .i64 n) (.string x) (.slice A33 r.length c33) (.slice A44 ks.length c44) (.slice A55 n55 c55)
           clear d0 d1 d2 d3 d4 d5 g0 g1 g2 g3 g4 g5 b0 b1 b2 b3 b4 b5 f0 f1 f2 f3 f4 f5
           revert F
           generalize (World.setCell _ ⟨w.heap.size,5,none⟩ _)=Wf
           rintro⟨F1,F2,F3⟩
           refine bodyPost_ret (v:=.agg #[.int .i64 k,.int .i64 n,.string x,.slice A33 r.length c33,.slice A44 ks.length c44,.slice A55 n55 c55]) (tm_out F1 ⟨rfl,rfl,rfl,rfl,rfl,rfl⟩) rfl ?_
           exact RPost.yes HE8.out F3 (HT.out.ke.then_ F2 (fun j hj=>.inr (by omega))) (HT.out.rs.kept F2 (by have:=HT.out.o1;have:=HT.out.o3;omega)) ⟨_,rfl,k49_mkM Wf w.heap.size _ ⟨k,n,x,r,ks,brs⟩ (fin_row HT.out.r3 F2 (by have:=HT.out.o2;omega) (by have:=HT.out.o2;omega)) (fin_row HT.out.r4 F2 (by have:=HT.out.o2;omega) (by have:=HT.out.o2;omega)) (fin_row HG.out F2 (by have:=HT.out.o2;have:=HT.out.o4;omega) (by have:=HT.out.o2;have:=HT.out.o4;omega))⟩
 ·have hcb:=source_byte_no w0 p bs s m (s:Int) _ hb0 hr0 hs
  have HE:Aside0 (termS nb fr fa bs d s=.error ((s:Int),61)):=⟨by cases d<;>rw [termS,if_neg hs]⟩
  clear hr hb hv hv0 hc hC0 hr0
  go_enter Tryz.func70,Tryz.ntmps70
  go_wp2_with (go_at_call 29;refine hcb.mono ?_;rintro e w1 ⟨rfl,hd1⟩;obtain⟨n1,rfl⟩:=hd1)
  rename_i hq9
  cases hq9
  simp only [bodyPost]
  exact⟨trivial,RPost.no HE.out (pw_below_drewN hb0 n1) (HK0.out.drewN n1)⟩
theorem reader_term{PN:ByteArray→Prop}{PF:List Cl→Prop}{nb:ByteArray→Bool}{fr fa:List Cl→Bool}(RP:ReadP PN PF nb fr fa)(w0:World)(p m:Nat)(bs:List Int)(hT:Tab w0):∀(d depth:Nat),depth+d=201 →
  ∀(s:Nat) (w:World),Below w0.heap.size w0 w→RSt w0 w p bs s m →
  Calls Tryz.prog 70 #[.pointer (some ⟨p,0,none⟩),.int .i64 (depth:Int)] w (RPost w0 w p m bs (tmV w.heap.size) (termS nb fr fa bs d s)):=by
 intro d
 induction d with
 | zero=>exact fun depth hd s w hb hr=>reader_term0 RP w0 p m bs hT 0 depth hd (fun d' h=>absurd h (by omega)) s w hb hr
 | succ d ih =>
  intro depth hd s w hb hr
  refine reader_term0 RP w0 p m bs hT (d+1) depth hd (fun d' h=>?_) s w hb hr
  obtain rfl:d=d':=by omega
  intro s2 w2 hb2 hr2
  have:=ih (depth+1) (by omega) s2 w2 hb2 hr2
  rwa [Int.natCast_add] at this
def wholeS(nb:ByteArray→Bool)(fr fa:List Cl→Bool)(rt:Tm→Int)(bs:List Int)(s:Nat):Except (Int×Int) (Tm×Nat) :=
 match termS nb fr fa bs 200 s with
 | .error e=>.error e
 | .ok (t,s1)=>if rt t=0 then .ok (t,s1) else .error ((s:Int),61)
theorem whole_out{w:World}{b:Nat}{y0 y1 y2 y3 y4 y5 x0 x1:Value}{ts:List Value}(h:w.heap[b]? = some (.cells #[y0,y1,y2,y3,y4,y5] 49 (0,0))) :
  (results Tryz.f49 ⟨x0 :: x1 :: .pointer (some ⟨b,0,none⟩) :: ts⟩).run Tryz.prog w=.ok (.agg #[y0,y1,y2,y3,y4,y5]) w:=by
 obtain⟨c0,c1,c2,c3,c4,c5,_⟩:=cells6 h
 simp [results,Tryz.results49,go_sem,c0,c1,c2,c3,c4,c5]
theorem six_fin{wx:World}{b4:Nat}{t:Nat}{z0 z1 z2 z3 z4 z5:Value}(h:wx.heap[b4]? = some (.cells #[z0,z1,z2,z3,z4,z5] t (0,0)))(y0 y1 y2 y3 y4 y5:Value) :
  ((((((wx.setCell ⟨b4,0,none⟩ y0).setCell ⟨b4,1,none⟩ y1).setCell ⟨b4,2,none⟩ y2).setCell ⟨b4,3,none⟩ y3).setCell ⟨b4,4,none⟩ y4).setCell ⟨b4,5,none⟩ y5).heap[b4]? = some (.cells #[y0,y1,y2,y3,y4,y5] t (0,0)) ∧
  Kept wx ((((((wx.setCell ⟨b4,0,none⟩ y0).setCell ⟨b4,1,none⟩ y1).setCell ⟨b4,2,none⟩ y2).setCell ⟨b4,3,none⟩ y3).setCell ⟨b4,4,none⟩ y4).setCell ⟨b4,5,none⟩ y5) (fun k=>k=b4) ∧
  ∀w0:World,Below w0.heap.size w0 wx→w0.heap.size≤b4→Below w0.heap.size w0 ((((((wx.setCell ⟨b4,0,none⟩ y0).setCell ⟨b4,1,none⟩ y1).setCell ⟨b4,2,none⟩ y2).setCell ⟨b4,3,none⟩ y3).setCell ⟨b4,4,none⟩ y4).setCell ⟨b4,5,none⟩ y5):=by
 refine⟨six_set (six_set (six_set (six_set (six_set (six_set h 0 y0) 1 y1) 2 y2) 3 y3) 4 y4) 5 y5, ?_,fun w0 hbe hb=>?_⟩
 ·exact((((((Kept.refl wx (fun k=>k=b4)).setCell (p:=⟨b4,0,none⟩) (.inl rfl) y0).setCell (p:=⟨b4,1,none⟩) (.inl rfl) y1).setCell (p:=⟨b4,2,none⟩) (.inl rfl) y2).setCell (p:=⟨b4,3,none⟩) (.inl rfl) y3).setCell (p:=⟨b4,4,none⟩) (.inl rfl) y4).setCell (p:=⟨b4,5,none⟩) (.inl rfl) y5
 ·exact(((((hbe.setCell (p:=⟨b4,0,none⟩) hb y0).setCell (p:=⟨b4,1,none⟩) hb y1).setCell (p:=⟨b4,2,none⟩) hb y2).setCell (p:=⟨b4,3,none⟩) hb y3).setCell (p:=⟨b4,4,none⟩) hb y4).setCell (p:=⟨b4,5,none⟩) hb y5
set_option maxHeartbeats 4000000 in
theorem reader_whole{PN:ByteArray→Prop}{PF:List Cl→Prop}{PT:Tm→Prop}{nb:ByteArray→Bool}{fr fa:List Cl→Bool}{rt:Tm→Int}(RP:ReadP PN PF nb fr fa)
  (HR:∀(t:Tm) (cs:List Value) (w:World),k49.K w t cs→PT t→Calls Tryz.prog 39 #[.agg cs.toArray,.int .i64 0,.int .i64 0] w fun e w'=>e=.returned (.int .i64 (rt t))∧Below w.heap.size w w')
  (w0:World) (p m:Nat) (bs:List Int) (hT:Tab w0) (hpt:∀(s:Nat) (t:Tm) (s1:Nat),termS nb fr fa bs 200 s=.ok (t,s1)→PT t) (s:Nat) (w:World) (hb:Below w0.heap.size w0 w) (hr:RSt w0 w p bs s m) :
  Calls Tryz.prog 49 #[.pointer (some ⟨p,0,none⟩)] w (RPost w0 w p m bs (tmV w.heap.size) (wholeS nb fr fa rt bs s)):=by
 obtain⟨A,c,hv,hc,hC0⟩:=hr.row
 have hv0:=blk_alloc hv (.cells zeroTm 49)
 obtain⟨c0,c1,c2,f0,f1,f2⟩:=cells3 hv0
 have hpw:Aside0 (p<w.heap.size):=⟨hr.lt⟩
 have hw0p:Aside0 (w0.heap.size≤w.heap.size):=⟨hb.size⟩
 have HK0:=ak ((Kept.refl w (fun k=>k=p)).alloc (.cells zeroTm 49))
 have HN0:=ak (blk_new w (.cells zeroTm 49))
 have hct:=reader_term RP w0 p m bs hT 200 1 rfl s _ (below_alloc hb (.cells zeroTm 49)) (hr.below (below_alloc (Below.refl _ _) (.cells zeroTm 49)))
 have HRR:=ak HR
 clear hr hb hv hv0 hc hC0 HR
 rcases hq:termS nb fr fa bs 200 s with y | ⟨t,s1⟩
 ·have hcE:=RPost.er_ hq hct
  have HE:Aside0 (wholeS nb fr fa rt bs s=.error y):=⟨by rw [wholeS,hq]⟩
  clear hct hq
  go_enter Tryz.func49,Tryz.ntmps49
  go_wp2_with (go_at_call 70;refine hcE.mono ?_;rintro e w1 ⟨rfl,hb1,hk1⟩)
  rename_i hq9
  cases hq9
  simp only [bodyPost]
  exact⟨trivial,RPost.err HE.out hb1 (HK0.out.then_ hk1 (fun _ h=>.inl h))⟩
 ·have hcE:=RPost.ok_ hq hct
  have HPT:=ak (hpt s t s1 hq)
  have HE:Aside0 (wholeS nb fr fa rt bs s=if rt t=0 then .ok (t,s1) else .error ((s:Int),61)):=⟨by rw [wholeS,hq]⟩
  clear hct hq
  by_cases h0:rt t=0
  ·have HE2:Aside0 (wholeS nb fr fa rt bs s=.ok (t,s1)):=⟨by rw [HE.out,if_pos h0]⟩
   have HZ:=ak h0
   clear h0 HE
   go_enter Tryz.func49,Tryz.ntmps49
   go_wp2_with (first | (go_at_call 70;refine hcE.mono ?_;rintro e w1 ⟨hb1,hk1,hr1,v,rfl,cs,rfl,hM⟩;obtain⟨A3,k3,A4,k4,A5,k5,rfl⟩:=tm_cells hM;have hcR:=HRR.out t _ (w1.alloc (.cells #[.int .i64 t.f0,.int .i64 t.f1,.string t.f2,.slice A3 t.f3.length k3,.slice A4 t.f4.length k4,.slice A5 t.f5.length k5] 49)) (k49.K_below (below_alloc (Below.refl _ _) _) (k49.K_of_M hM)) HPT.out;rw [HZ.out] at hcR;have HM:=ak (Kd.M_below hM (below_alloc (Below.refl _ _) (.cells #[.int .i64 t.f0,.int .i64 t.f1,.string t.f2,.slice A3 t.f3.length k3,.slice A4 t.f4.length k4,.slice A5 t.f5.length k5] 49)));have HB1:=ak (below_alloc hb1 (.cells #[.int .i64 t.f0,.int .i64 t.f1,.string t.f2,.slice A3 t.f3.length k3,.slice A4 t.f4.length k4,.slice A5 t.f5.length k5] 49));have HR1:=ak (hr1.below (below_alloc (Below.refl _ _) (.cells #[.int .i64 t.f0,.int .i64 t.f1,.string t.f2,.slice A3 t.f3.length k3,.slice A4 t.f4.length k4,.slice A5 t.f5.length k5] 49)));have HK1:=ak ((HK0.out.then_ hk1 (fun _ h=>.inl h)).alloc (.cells #[.int .i64 t.f0,.int .i64 t.f1,.string t.f2,.slice A3 t.f3.length k3,.slice A4 t.f4.length k4,.slice A5 t.f5.length k5] 49));have HN1:=ak (blk_alloc (blk_kept HN0.out hk1 (by have:=hpw.out;omega)) (.cells #[.int .i64 t.f0,.int .i64 t.f1,.string t.f2,.slice A3 t.f3.length k3,.slice A4 t.f4.length k4,.slice A5 t.f5.length k5] 49));have HT1:=ak (blk_new w1 (.cells #[.int .i64 t.f0,.int .i64 t.f1,.string t.f2,.slice A3 t.f3.length k3,.slice A4 t.f4.length k4,.slice A5 t.f5.length k5] 49));have HS1:Aside0 (w.heap.size<w1.heap.size):=⟨by have:=hk1.1;simp at this;omega⟩;obtain⟨d0,d1,d2,d3,d4,d5,_⟩:=cells6 HT1.out;clear hb1 hk1 hr1 hM hcE) | (go_at_call 39;refine hcR.mono ?_;rintro e w2 ⟨rfl,hb2⟩;have HM2:=ak (Kd.M_below HM.out hb2);have HB2:=ak (below_step HB1.out hb2);have HR2:=ak (HR1.out.below hb2);have HK2:=ak (HK1.out.below hb2);have HN2:=ak (blk_below HN1.out hb2);have HT2:=ak (blk_below HT1.out hb2);clear d0 d1 d2 d3 d4 d5;obtain⟨d0,d1,d2,d3,d4,d5,_⟩:=cells6 HT2.out;obtain⟨b0,b1,b2,b3,b4,b5,g0,g1,g2,g3,g4,g5⟩:=cells6 HN2.out;clear hb2 hcR))
   have F:=six_fin HN2.out (.int .i64 t.f0) (.int .i64 t.f1) (.string t.f2) (.slice A3 t.f3.length k3) (.slice A4 t.f4.length k4) (.slice A5 t.f5.length k5)
   clear d0 d1 d2 d3 d4 d5 g0 g1 g2 g3 g4 g5 b0 b1 b2 b3 b4 b5
   revert F
   generalize (World.setCell _ ⟨w.heap.size,5,none⟩ _)=Wf
   rintro⟨F1,F2,F3⟩
   refine bodyPost_ret (v:=.agg #[.int .i64 t.f0,.int .i64 t.f1,.string t.f2,.slice A3 t.f3.length k3,.slice A4 t.f4.length k4,.slice A5 t.f5.length k5]) (whole_out F1) rfl ?_
   exact RPost.yes HE2.out (F3 w0 HB2.out hw0p.out) (HK2.out.then_ F2 (fun j hj=>.inr (by omega))) (HR2.out.kept F2 (by have:=hpw.out;omega)) ⟨_,rfl,k49.M_lower (Nat.le_of_lt (by rw [World.size_alloc];exact Nat.lt_succ_self _)) (M_stay HM2.out F2 (fun k hk=>by rw [World.size_alloc];omega))⟩
  ·have h0':(rt t != 0)=true:=by simp [h0]
   have HE2:Aside0 (wholeS nb fr fa rt bs s=.error ((s:Int),61)):=⟨by rw [HE.out,if_neg h0]⟩
   clear h0 HE
   go_enter Tryz.func49,Tryz.ntmps49
   go_wp2_with (first | (go_at_call 70;refine hcE.mono ?_;rintro e w1 ⟨hb1,hk1,hr1,v,rfl,cs,rfl,hM⟩;obtain⟨A3,k3,A4,k4,A5,k5,rfl⟩:=tm_cells hM;have hcR:=HRR.out t _ (w1.alloc (.cells #[.int .i64 t.f0,.int .i64 t.f1,.string t.f2,.slice A3 t.f3.length k3,.slice A4 t.f4.length k4,.slice A5 t.f5.length k5] 49)) (k49.K_below (below_alloc (Below.refl _ _) _) (k49.K_of_M hM)) HPT.out;have HB1:=ak (below_alloc hb1 (.cells #[.int .i64 t.f0,.int .i64 t.f1,.string t.f2,.slice A3 t.f3.length k3,.slice A4 t.f4.length k4,.slice A5 t.f5.length k5] 49));have HK1:=ak ((HK0.out.then_ hk1 (fun _ h=>.inl h)).alloc (.cells #[.int .i64 t.f0,.int .i64 t.f1,.string t.f2,.slice A3 t.f3.length k3,.slice A4 t.f4.length k4,.slice A5 t.f5.length k5] 49));have HT1:=ak (blk_new w1 (.cells #[.int .i64 t.f0,.int .i64 t.f1,.string t.f2,.slice A3 t.f3.length k3,.slice A4 t.f4.length k4,.slice A5 t.f5.length k5] 49));obtain⟨d0,d1,d2,d3,d4,d5,_⟩:=cells6 HT1.out;clear hb1 hk1 hr1 hM hcE) | (go_at_call 39;refine hcR.mono ?_;rintro e w2 ⟨rfl,hb2⟩;have HB2:=ak (below_step HB1.out hb2);have HK2:=ak (HK1.out.below hb2);clear hb2 hcR) | ((with_reducible refine(source_fail _ _ _ _).mono ?_);rintro e w2 ⟨rfl,rfl⟩))
   rename_i hq9
   cases hq9
   simp only [bodyPost]
   exact⟨trivial,RPost.no HE2.out HB2.out HK2.out⟩
structure ReadD(PN:ByteArray→Prop)(PF:List Cl→Prop)(nb:ByteArray→Bool)(fr fa:List Cl→Bool):Prop where
 named:∀(s:ByteArray) (w:World),Tab w→PN s→Calls Tryz.prog 23 #[.string s] w fun e w'=>e=.returned (.bool (nb s))∧Below w.heap.size w w'
 fright:∀(A:Option Addr) (c:Nat) (l:List Cl) (w:World),Kd.C k113 w A l.length l→l.length≤c→PF l→Calls Tryz.prog 65 #[.slice A l.length c] w fun e w'=>e=.returned (.bool (fr l))∧Below w.heap.size w w'
 faright:∀(A:Option Addr) (c:Nat) (l:List Cl) (w:World),Kd.C k113 w A l.length l→l.length≤c→PF l→Calls Tryz.prog 66 #[.slice A l.length c] w fun e w'=>e=.returned (.bool (fa l))∧Below w.heap.size w w'
 kids:∀(a:Int) (w:World),Calls Tryz.prog 63 #[.int .i64 a] w fun e w'=>e=.returned (.int .i64 (kidsI a))∧Below w.heap.size w w'
 parts:∀(a:Int) (w:World),Calls Tryz.prog 47 #[.int .i64 a] w fun e w'=>e=.returned (.int .i64 (partsI a))∧Below w.heap.size w w'
 rowed:∀(a:Int) (w:World),Calls Tryz.prog 45 #[.int .i64 a] w fun e w'=>e=.returned (.bool (decide (a=13∨a=21∨a=26∨a=14)))∧Below w.heap.size w w'
 pn:∀s:ByteArray,s.size≤1048576→PN s
 pf:∀(f:List Cl),f.length≤64→(∀x∈f,0≤x.f0∧x.f0≤2147483647∧0≤x.f1∧x.f1≤2147483647)→PF f
def Got{α:Type}(r:Except (Int×Int) (α×Nat))(a0:Int)(y:α)(s:Nat)(e a:Int):Prop:=(e=0∧a=a0∧r=.ok (y,s))∨(e≠0∧r=.error (a,e))
def DAny{α:Type}(w0 w:World)(p:Nat)(bs:List Int)(a0:Int)(mk:α→World→Value→Prop)(r:Except (Int×Int) (α×Nat))(e:Ending)(w':World):Prop :=
 DK w0 w w' p∧∃(v:Value) (y:α) (s:Nat) (c a:Int),e=.returned v∧mk y w' v∧DSt w0 w' p bs s c a∧Got r a0 y s c a
theorem DPost.any{α:Type}{w0 w:World}{p:Nat}{bs:List Int}{a0:Int}{mk:α→World→Value→Prop}{r:Except (Int×Int) (α×Nat)}{e:Ending}{w':World}(h:DPost w0 w p bs a0 mk r e w'):DAny w0 w p bs a0 mk r e w':=by
 obtain⟨hk,v,he,hm⟩:=h
 rcases r with⟨a,c⟩ | ⟨y,s⟩
 ·obtain⟨⟨y,hy⟩,hc,s,hR⟩:=hm
  exact⟨hk,v,y,s,c,a,he,hy,hR,.inr ⟨hc,rfl⟩⟩
 ·exact⟨hk,v,y,s,0,a0,he,hm.1,hm.2,.inl ⟨rfl,rfl,rfl⟩⟩
structure Dst(w0 w wx:World)(p:Nat)(bs:List Int)(s:Nat)(e a:Int)(b4 b6 N:Nat)(t:Tm)(v3 v4 v5 u3 u4 u5:Value):Prop where
 rs:DSt w0 wx p bs s e a
 dk:DK w0 w wx p
 c4:wx.heap[b4]? = some (.cells zeroTm 49 (0,0))
 c6:wx.heap[b6]? = some (.cells #[.int .i64 t.f0,.int .i64 t.f1,.string t.f2,u3,u4,u5] 49 (0,0))
 r3:Kd.R k113 113 wx (b6+1) (fun k=>k<N) v3 t.f3
 r4:Kd.R k49 49 wx (b6+1) (fun k=>k<N) v4 t.f4
 r5:Kd.R k90 90 wx (b6+1) (fun k=>k<N) v5 t.f5
 o1:w.heap.size≤b4
 o2:b4<b6
 o3:p<w.heap.size
 o4:b6<N
 o5:N≤wx.heap.size
section
variable {w0 w wx wy:World}{p:Nat}{bs:List Int}{s s2 b4 b6 N N2:Nat}{e a e2 a2:Int}{t:Tm}{v3 v4 v5 u3 u4 u5:Value}
theorem Dst.move(h:Dst w0 w wx p bs s e a b4 b6 N t v3 v4 v5 u3 u4 u5)(hk:Kept wx wy (fun k=>k=p∨N≤k))(hb:Below w0.heap.size w0 wy)(hr:DSt w0 wy p bs s2 e2 a2):Dst w0 w wy p bs s2 e2 a2 b4 b6 N t v3 v4 v5 u3 u4 u5 where
 rs:=hr
 dk:=⟨hb,h.dk.2.then_ hk (fun k hk2=>by have:=h.o1;have:=h.o2;have:=h.o4;exact hk2.elim .inl (fun h1=>.inr (by omega)))⟩
 c4:=blk_kept h.c4 hk (by have:=h.o1;have:=h.o2;have:=h.o3;have:=h.o4;omega)
 c6:=blk_kept h.c6 hk (by have:=h.o1;have:=h.o2;have:=h.o3;have:=h.o4;omega)
 r3:=R_stayN h.r3 hk (fun k hk2=>by have:=h.o1;have:=h.o2;have:=h.o3;omega)
 r4:=R_stayN h.r4 hk (fun k hk2=>by have:=h.o1;have:=h.o2;have:=h.o3;omega)
 r5:=R_stayN h.r5 hk (fun k hk2=>by have:=h.o1;have:=h.o2;have:=h.o3;omega)
 o1:=h.o1
 o2:=h.o2
 o3:=h.o3
 o4:=h.o4
 o5:=Nat.le_trans h.o5 hk.1
theorem Dst.call(h:Dst w0 w wx p bs s e a b4 b6 N t v3 v4 v5 u3 u4 u5)(hk:DK w0 wx wy p)(hr:DSt w0 wy p bs s2 e2 a2):Dst w0 w wy p bs s2 e2 a2 b4 b6 N t v3 v4 v5 u3 u4 u5 :=
 h.move (hk.2.mono fun _ h=>.inl h) hk.1 hr
theorem Dst.below(h:Dst w0 w wx p bs s e a b4 b6 N t v3 v4 v5 u3 u4 u5)(hb:Below wx.heap.size wx wy):Dst w0 w wy p bs s e a b4 b6 N t v3 v4 v5 u3 u4 u5 :=
 h.move (Kept.of_below hb _) (below_step h.dk.1 hb) (h.rs.below hb)
theorem Dst.wide(h:Dst w0 w wx p bs s e a b4 b6 N t v3 v4 v5 u3 u4 u5)(hN:N≤N2)(h2:N2≤wx.heap.size):Dst w0 w wx p bs s e a b4 b6 N2 t v3 v4 v5 u3 u4 u5 :=
 ⟨h.rs,h.dk,h.c4,h.c6,R_wide h.r3 hN,R_wide h.r4 hN,R_wide h.r5 hN,h.o1,h.o2,h.o3,Nat.lt_of_lt_of_le h.o4 hN,h2⟩
theorem Dst.put(h:Dst w0 w wx p bs s e a b4 b6 N t v3 v4 v5 u3 u4 u5)(i:Nat)(u:Value){t2:Tm}{x3 x4 x5 y3 y4 y5:Value}(hc:#[Value.int .i64 t.f0,.int .i64 t.f1,.string t.f2,u3,u4,u5].setIfInBounds i u=#[.int .i64 t2.f0,.int .i64 t2.f1,.string t2.f2,y3,y4,y5])
  (h3:Kd.R k113 113 (wx.setCell ⟨b6,i,none⟩ u) (b6+1) (fun k=>k<N2) x3 t2.f3) (h4:Kd.R k49 49 (wx.setCell ⟨b6,i,none⟩ u) (b6+1) (fun k=>k<N2) x4 t2.f4) (h5:Kd.R k90 90 (wx.setCell ⟨b6,i,none⟩ u) (b6+1) (fun k=>k<N2) x5 t2.f5) (hN:N≤N2) (hN2:N2≤wx.heap.size) :
  Dst w0 w (wx.setCell ⟨b6,i,none⟩ u) p bs s e a b4 b6 N2 t2 x3 x4 x5 y3 y4 y5:=by
 have hk:Kept wx (wx.setCell ⟨b6,i,none⟩ u) (fun k=>k=b6):=(Kept.refl wx (fun k=>k=b6)).setCell (p:=⟨b6,i,none⟩) (.inl rfl) u
 have o1:=h.o1
 have o2:=h.o2
 have o3:=h.o3
 have o4:=h.o4
 refine⟨h.rs.kept hk (by omega),⟨h.dk.1.setCell (p:=⟨b6,i,none⟩) (by have:=h.rs.old;show w0.heap.size≤b6;omega) u,h.dk.2.setCell (p:=⟨b6,i,none⟩) (.inr (by show w.heap.size≤b6;omega)) u⟩,blk_kept h.c4 hk (by omega), ?_,h3,h4,h5,o1,o2,o3,by omega,by rw [World.size_setCell];exact hN2⟩
 rw [←hc]
 exact six_set h.c6 i u
theorem Dst.kids{k n:Int}{x:ByteArray}{r:List Cl}{ks:List Tm}{N':Nat}(h:Dst w0 w wx p bs s e a b4 b6 N ⟨k,n,x,r,[],[]⟩ v3 v4 v5 u3 u4 u5){vk:Value}(hg:Kd.R k49 49 wx N' (fun _=>True) vk ks)(hN:b6<N')(h2:N2=wx.heap.size) :
  Dst w0 w wx p bs s e a b4 b6 N2 ⟨k,n,x,r,ks,[]⟩ v3 vk (.slice none 0 0) u3 u4 u5:=by
 subst h2
 exact⟨h.rs,h.dk,h.c4,h.c6,R_wide h.r3 h.o5,R_done hg hN (Nat.le_refl _),Kd.R_nil _ _ _ _ _,h.o1,h.o2,h.o3,Nat.lt_of_lt_of_le h.o4 h.o5,Nat.le_refl _⟩
theorem Dst.fin(h:Dst w0 w wx p bs s e a b4 b6 N t v3 v4 v5 u3 u4 u5)(y0 y1 y2 y3 y4 y5:Value) :
  ((((((wx.setCell ⟨b4,0,none⟩ y0).setCell ⟨b4,1,none⟩ y1).setCell ⟨b4,2,none⟩ y2).setCell ⟨b4,3,none⟩ y3).setCell ⟨b4,4,none⟩ y4).setCell ⟨b4,5,none⟩ y5).heap[b4]? = some (.cells #[y0,y1,y2,y3,y4,y5] 49 (0,0)) ∧
  Kept wx ((((((wx.setCell ⟨b4,0,none⟩ y0).setCell ⟨b4,1,none⟩ y1).setCell ⟨b4,2,none⟩ y2).setCell ⟨b4,3,none⟩ y3).setCell ⟨b4,4,none⟩ y4).setCell ⟨b4,5,none⟩ y5) (fun k=>k=b4) ∧
  Below w0.heap.size w0 ((((((wx.setCell ⟨b4,0,none⟩ y0).setCell ⟨b4,1,none⟩ y1).setCell ⟨b4,2,none⟩ y2).setCell ⟨b4,3,none⟩ y3).setCell ⟨b4,4,none⟩ y4).setCell ⟨b4,5,none⟩ y5):=by
 obtain⟨F1,F2,F3⟩:=six_fin h.c4 y0 y1 y2 y3 y4 y5
 exact⟨F1,F2,F3 w0 h.dk.1 (by have:=h.rs.old;have:=h.o1;have:=h.o3;omega)⟩
theorem rtm_out{w:World}{b:Nat}{y0 y1 y2 y3 y4 y5 x0 x1 x2 x3:Value}{ts:List Value}(h:w.heap[b]? = some (.cells #[y0,y1,y2,y3,y4,y5] 49 (0,0))) :
  (results Tryz.f50 ⟨x0 :: x1 :: x2 :: x3 :: .pointer (some ⟨b,0,none⟩) :: ts⟩).run Tryz.prog w=.ok (.agg #[y0,y1,y2,y3,y4,y5]) w:=by
 obtain⟨c0,c1,c2,c3,c4,c5,_⟩:=cells6 h
 simp [results,Tryz.results50,go_sem,c0,c1,c2,c3,c4,c5]
end
def So{β:Type}(R C:Except (Int×Int) β)(a0 e a:Int):Prop:=(e=0∧a=a0∧R=C)∨(e≠0∧R=.error (a,e))
theorem So.got{α β:Type}{R:Except (Int×Int) β}{r:Except (Int×Int) (α×Nat)}{F:Except (Int×Int) (α×Nat)→Except (Int×Int) β}{a0 e a:Int}{y:α}{s:Nat}(hF:∀y,F (.error y)=.error y)(hR:R=F r)(g:Got r a0 y s e a):So R (F (.ok (y,s))) a0 e a:=by
 rcases g with⟨h1,h2,h3⟩ | ⟨h1,h2⟩
 ·exact .inl ⟨h1,h2,by rw [hR,h3]⟩
 ·exact .inr ⟨h1,by rw [hR,h2,hF]⟩
theorem So.out{α:Type}{R:Except (Int×Int) (α×Nat)}{a0 e a:Int}{y:α}{s:Nat}(h:So R (.ok (y,s)) a0 e a):Got R a0 y s e a:=h
abbrev tm0:Tm:=⟨0,0,⟨#[]⟩,[],[],[]⟩
theorem dterm_zero{w0 w wx:World}{p s:Nat}{bs:List Int}{c at_ a0:Int}{r:Except (Int×Int) (Tm×Nat)}(hn:wx.heap[w.heap.size]? = some (.cells zeroTm 49 (0,0)))(hk:DK w0 w wx p)(hr:DSt w0 wx p bs s c at_)(hpw:p<w.heap.size)(hc:c≠0)(he:r=.error (at_,c)) :
  DAny w0 w p bs a0 (tmV w.heap.size) r (.returned (.agg zeroTm)) ((((((wx.setCell ⟨w.heap.size,0,none⟩ (.int .i64 0)).setCell ⟨w.heap.size,1,none⟩ (.int .i64 0)).setCell ⟨w.heap.size,2,none⟩ (.string ⟨#[]⟩)).setCell ⟨w.heap.size,3,none⟩ (.slice none 0 0)).setCell ⟨w.heap.size,4,none⟩ (.slice none 0 0)).setCell ⟨w.heap.size,5,none⟩ (.slice none 0 0)):=by
 obtain⟨F1,F2,F3⟩:=six_fin hn (.int .i64 0) (.int .i64 0) (.string ⟨#[]⟩) (.slice none 0 0) (.slice none 0 0) (.slice none 0 0)
 refine⟨⟨F3 w0 hk.1 (by have:=hr.old;omega),hk.2.then_ F2 (fun j hj=>.inr (by omega))⟩,_,tm0,s,c,at_,rfl,⟨_,rfl,k49_mkM _ _ _ tm0 (Kd.R_nil _ _ _ _ _) (Kd.R_nil _ _ _ _ _) (Kd.R_nil _ _ _ _ _)⟩,hr.kept F2 (by omega),.inr ⟨hc,he⟩⟩
theorem Dst.done{w0 w wx:World}{p s b6 N B4 B5:Nat}{bs:List Int}{e a a0:Int}{t0 t:Tm}{v3 v4 v5 v4' v5' u3 u4 u5:Value}{ok4 ok5:Nat→Prop}{r:Except (Int×Int) (Tm×Nat)}(h:Dst w0 w wx p bs s e a w.heap.size b6 N t0 v3 v4' v5' u3 u4 u5)(h3:t.f3=t0.f3)(r4:Kd.R k49 49 wx B4 ok4 v4 t.f4)(b4:b6<B4)(r5:Kd.R k90 90 wx B5 ok5 v5 t.f5)(b5:b6<B5)(g:Got r a0 t s e a) :
  DAny w0 w p bs a0 (tmV w.heap.size) r (.returned (.agg #[.int .i64 t.f0,.int .i64 t.f1,.string t.f2,v3,v4,v5])) ((((((wx.setCell ⟨w.heap.size,0,none⟩ (.int .i64 t.f0)).setCell ⟨w.heap.size,1,none⟩ (.int .i64 t.f1)).setCell ⟨w.heap.size,2,none⟩ (.string t.f2)).setCell ⟨w.heap.size,3,none⟩ v3).setCell ⟨w.heap.size,4,none⟩ v4).setCell ⟨w.heap.size,5,none⟩ v5):=by
 obtain⟨F1,F2,F3⟩:=h.fin (.int .i64 t.f0) (.int .i64 t.f1) (.string t.f2) v3 v4 v5
 have r3:=h.r3
 rw [←h3] at r3
 have o2:=h.o2
 have o3:=h.o3
 exact⟨⟨F3,h.dk.2.then_ F2 (fun j hj=>.inr (by omega))⟩,_,t,s,e,a,rfl,⟨_,rfl,k49_mkM _ _ _ t (fin_row r3 F2 (by omega) (by omega)) (fin_row r4 F2 (by omega) (by omega)) (fin_row r5 F2 (by omega) (by omega))⟩,h.rs.kept F2 (by omega),g⟩
theorem Dst.moved{w0 w wx:World}{p s s2 b4 b6 N:Nat}{bs:List Int}{e a:Int}{t:Tm}{v3 v4 v5 u3 u4 u5:Value}(h:Dst w0 w wx p bs s e a b4 b6 N t v3 v4 v5 u3 u4 u5)(h2:s2≤bs.length):Dst w0 w (wx.setCell ⟨p,1,none⟩ (.int .i64 (s2:Int))) p bs s2 e a b4 b6 N t v3 v4 v5 u3 u4 u5 :=
 h.move ((Kept.refl wx _).setCell (p:=⟨p,1,none⟩) (.inl (.inl rfl)) _) (h.dk.1.setCell (p:=⟨p,1,none⟩) h.rs.old _) (h.rs.move s2 h2)
def termD(nb:ByteArray→Bool)(fr fa:List Cl→Bool)(bs:List Int):Nat→Nat→Except (Int×Int) (Tm×Nat):=termS nb (rgt fr fa false) (rgt fr fa true) bs
def mnK(T:Nat→Except (Int×Int) (Tm×Nat))(n:Nat)(acc:List Tm):Except (Int×Int) (Tm×Nat)→Except (Int×Int) (List Tm×Nat)
 | .error e=>.error e
 | .ok (t,s1)=>manyS T n (acc++[t]) s1
theorem manyS_succ(T:Nat→Except (Int×Int) (Tm×Nat))(n:Nat)(acc:List Tm)(s:Nat):manyS T (n+1) acc s=mnK T n acc (T s):=by
 rw [manyS]
 cases T s<;>rfl
def brR(fa:List Cl→Bool)(bs:List Int)(T:Nat→Except (Int×Int) (Tm×Nat))(q n:Nat)(acc:List Br):Except (Int×Int) (List Cl×Nat)→Except (Int×Int) (List Br×Nat)
 | .error e=>.error e
 | .ok (f,s1)=>brK fa bs T q n acc f (manyS T q [] s1)
theorem brS_succ(fa:List Cl→Bool)(bs:List Int)(T:Nat→Except (Int×Int) (Tm×Nat))(q n:Nat)(acc:List Br)(s:Nat):brS fa bs T q (n+1) acc s=brR fa bs T q n acc (rowS fa bs s):=by
 rcases h:rowS fa bs s with y | ⟨f,s1⟩
 ·exact brS_er fa bs h
 ·exact brS_ok fa bs h
theorem Got.num{nb:ByteArray→Bool}{fr fa:List Cl→Bool}{bs:List Int}{a0 e a:Int}{s s1 z:Nat}(g:Got (numS bs s) a0 z s1 e a):Got (headS nb fr fa bs 1 s) a0 ((z:Int),⟨#[]⟩,[]) s1 e a:=by
 rcases g with⟨h1,h2,h3⟩ | ⟨h1,h2⟩
 ·exact .inl ⟨h1,h2,by rw [headS,if_pos rfl,h3]⟩
 ·exact .inr ⟨h1,by rw [headS,if_pos rfl,h2]⟩
theorem Got.txt{nb:ByteArray→Bool}{fr fa:List Cl→Bool}{bs:List Int}{a0 e a:Int}{s s1:Nat}{y:ByteArray}(g:Got (textS nb bs s) a0 y s1 e a):Got (headS nb fr fa bs 2 s) a0 (0,y,[]) s1 e a:=by
 rcases g with⟨h1,h2,h3⟩ | ⟨h1,h2⟩
 ·exact .inl ⟨h1,h2,by rw [headS,if_neg (by decide),if_pos rfl,h3]⟩
 ·exact .inr ⟨h1,by rw [headS,if_neg (by decide),if_pos rfl,h2]⟩
theorem Got.rowf{nb:ByteArray→Bool}{fr fa:List Cl→Bool}{bs:List Int}{a0 e a k:Int}{s s1:Nat}{y:List Cl}(hk:k=13∨k=21∨k=26)(g:Got (rowS fr bs s) a0 y s1 e a):Got (headS nb fr fa bs k s) a0 (0,⟨#[]⟩,y) s1 e a:=by
 rcases g with⟨h1,h2,h3⟩ | ⟨h1,h2⟩
 ·exact .inl ⟨h1,h2,by rw [headS,if_neg (by omega),if_neg (by omega),if_pos hk,h3]⟩
 ·exact .inr ⟨h1,by rw [headS,if_neg (by omega),if_neg (by omega),if_pos hk,h2]⟩
theorem Got.rowa{nb:ByteArray→Bool}{fr fa:List Cl→Bool}{bs:List Int}{a0 e a:Int}{s s1:Nat}{y:List Cl}(g:Got (rowS fa bs s) a0 y s1 e a):Got (headS nb fr fa bs 14 s) a0 (0,⟨#[]⟩,y) s1 e a:=by
 rcases g with⟨h1,h2,h3⟩ | ⟨h1,h2⟩
 ·exact .inl ⟨h1,h2,by rw [headS,if_neg (by decide),if_neg (by decide),if_neg (by decide),if_pos rfl,h3]⟩
 ·exact .inr ⟨h1,by rw [headS,if_neg (by decide),if_neg (by decide),if_neg (by decide),if_pos rfl,h2]⟩
def HdP(done:Prop)(H:Except (Int×Int) ((Int×ByteArray×List Cl)×Nat))(s:Nat)(a n:Int)(x:ByteArray)(r:List Cl)(v3:Value)(s1:Nat)(e1 a1:Int):Prop :=
 (done→Got H a (n,x,r) s1 e1 a1)∧(¬done→n=0∧x=⟨#[]⟩∧r=[]∧v3=.slice none 0 0∧s1=s+1∧e1=0∧a1=a)
theorem So.next{α β:Type}{R C:Except (Int×Int) β}{r:Except (Int×Int) (α×Nat)}{F:Except (Int×Int) (α×Nat)→Except (Int×Int) β}{a0 a1 e a:Int}{y:α}{s:Nat}(hF:∀y,F (.error y)=.error y)(hC:C=F r)(h:So R C a0 0 a1)(g:Got r a1 y s e a):So R (F (.ok (y,s))) a0 e a:=by
 rcases h with⟨_,h1,h2⟩ | ⟨h1,_⟩
 ·subst h1
  exact So.got hF (h2.trans hC) g
 ·exact absurd rfl h1
theorem So.as{β:Type}{R C C':Except (Int×Int) β}{a0 e a:Int}(h:So R C a0 e a)(hc:e=0→C=C'):So R C' a0 e a:=by
 rcases h with⟨h0,h1,h2⟩ | h
 ·exact .inl ⟨h0,h1,h2.trans (hc h0)⟩
 ·exact .inr h
def Tells(bb:Bool)(p:Prop):Prop:=bb=true↔p
end Go.Proofs.YtahdjajdaggmjaaGreatDoor.XPd
end
