/-
Walk: the document's reader's term.
-/
import Derived.Test.YtahdjajdaggmjaaGreatDoorDtm0
import Derived.Defers
import Derived.Recover
import Derived.Laws.Pointers
set_option maxRecDepth 100000
section
set_option linter.unusedVariables false
set_option linter.unusedSimpArgs false
namespace Go.Proofs.YtahdjajdaggmjaaGreatDoor.XPd
open Go.RowKit Go.Proofs.YtahdjajdaggmjaaGreatDoorW.PrintWords Go.Proofs.YtahdjajdaggmjaaGreatDoorW.PrintLast Go.Proofs.YtahdjajdaggmjaaGreatDoorW.PrintMore
set_option maxHeartbeats 8000000 in
theorem R_term0{PN:ByteArray→Prop}{PF:List Cl→Prop}{nb:ByteArray→Bool}{fr fa:List Cl→Bool}(RP:ReadD PN PF nb fr fa)(w0:World)(p:Nat)(bs:List Int)(hT:Tab w0)(d depth:Nat)(hd:depth+d=201)
  (ih:∀(d':Nat),d=d'+1→∀(s:Nat) (a:Int) (w:World),Below w0.heap.size w0 w→DSt w0 w p bs s 0 a→Calls Tryz.prog 50 #[.pointer (some ⟨p,0,none⟩),.int .i64 ((depth:Int)+1)] w (DAny w0 w p bs a (tmV w.heap.size) (termD nb fr fa bs d' s)))
  (s:Nat) (a:Int) (w:World) (hb:Below w0.heap.size w0 w) (hr:DSt w0 w p bs s 0 a) :
  Calls Tryz.prog 50 #[.pointer (some ⟨p,0,none⟩),.int .i64 (depth:Int)] w (DAny w0 w p bs a (tmV w.heap.size) (termD nb fr fa bs d s)):=by
 obtain⟨A,c,hv,hc,hC0⟩:=hr.row
 have hv0:=blk_alloc hv (.cells zeroTm 49)
 have HV0:=ak hv0
 obtain⟨c0,c1,c2,c3,f0,f1,f2,f3⟩:=cells4 hv0
 have hpw:Aside0 (p<w.heap.size):=⟨hr.lt⟩
 have hw0p:Aside0 (w0.heap.size≤w.heap.size):=⟨hb.size⟩
 have hsl:=hr.le
 have hln:=hr.len
 have ho:=rd_oct hr.oct (s:Int)
 have HR0:=ak (hr.below (below_alloc (Below.refl _ _) (.cells zeroTm 49)))
 have HK0:Aside0 (DK w0 w (w.alloc (.cells zeroTm 49)) p):=⟨below_alloc hb _,(Kept.refl w (fun k=>k=p)).alloc _⟩
 have HN0:=ak (blk_new w (.cells zeroTm 49))
 have HP:=ak RP
 have HTT:=ak hT
 by_cases hs:s<bs.length
 ·obtain⟨ad,rfl,ha⟩:=Kd.at_int hC0 (s:Int) (by omega) (by omega)
  rw [Int.toNat_natCast] at ha
  obtain⟨k,hk⟩:=(⟨_,rfl⟩:∃k,k=rd bs (s:Int))
  rw [←hk] at ha ho
  have HKI:=ak hk
  have ha1:=cell_from ha HK0.out.1
  have hi1:(0:Int)≤(s:Int):=by omega
  have hi2:(s:Int)<(bs.length:Int):=by omega
  have d1:decide ((bs.length:Int)≤(s:Int))=false:=decide_eq_false (by omega)
  have e1:¬bs.length≤s:=by omega
  have hwk:=wI64 (a:=k) (by omega) (by omega)
  have hkc:=RP.kids k
  clear hr hb hv hv0 hc hC0 hk RP hT
  by_cases hneg:kidsI k<0
  ·have HE:Aside0 (termD nb fr fa bs d s=.error ((s:Int),61)):=⟨by rw [termD];cases d<;>rw [termS,if_pos hs,if_pos (by rw [←HKI.out];exact hneg)]⟩
   have hneg1:decide (kidsI k<0)=true:=decide_eq_true hneg
   clear hneg ih HV0
   go_enter Tryz.func50,Tryz.ntmps50
   go_wp2_with (first | (go_at_call 63;refine(hkc _).mono ?_;rintro e w2 ⟨rfl,hb2⟩;have HR2:=ak (HR0.out.below hb2);have HK2:=ak (HK0.out.below hb2);have HN2:=ak (blk_below HN0.out hb2);clear hb2 hkc) | (go_at_call 35;refine(R_bad0 w0 p bs s _ _ _ _ HK2.out.1 HR2.out).mono ?_;rintro e w3 ⟨rfl,hr3,hk3⟩;have HN3:=ak (blk_kept HN2.out hk3.2 (by have:=hpw.out;omega));have HR3:=ak hr3;have HK3:=ak (HK2.out.trans hk3);clear hr3 hk3;obtain⟨b0,b1,b2,b3,b4,b5,g0,g1,g2,g3,g4,g5⟩:=cells6 HN3.out))
   refine bodyPost_ret (v:=.agg zeroTm) (rtm_out (six_fin HN3.out (.int .i64 0) (.int .i64 0) (.string ⟨#[]⟩) (.slice none 0 0) (.slice none 0 0) (.slice none 0 0)).1) rfl ?_
   exact dterm_zero HN3.out HK3.out HR3.out hpw.out (by decide) HE.out
  ·have hneg1:decide (kidsI k<0)=false:=decide_eq_false hneg
   cases d with
   | zero =>
    have HE:Aside0 (termD nb fr fa bs 0 s=.error ((s:Int),62)):=⟨by rw [termD,termS,if_pos hs,if_neg (by rw [←HKI.out];exact hneg)]⟩
    have hdd:decide ((200:Int)<(depth:Int))=true:=decide_eq_true (by omega)
    have hdd2:(200:Int)<(depth:Int):=by omega
    clear hneg ih HV0
    go_enter Tryz.func50,Tryz.ntmps50
    go_wp2_with (first | (go_at_call 63;refine(hkc _).mono ?_;rintro e w2 ⟨rfl,hb2⟩;have HR2:=ak (HR0.out.below hb2);have HK2:=ak (HK0.out.below hb2);have HN2:=ak (blk_below HN0.out hb2);clear hb2 hkc) | (go_at_call 35;refine(R_bad0 w0 p bs s _ _ _ _ HK2.out.1 HR2.out).mono ?_;rintro e w3 ⟨rfl,hr3,hk3⟩;have HN3:=ak (blk_kept HN2.out hk3.2 (by have:=hpw.out;omega));have HR3:=ak hr3;have HK3:=ak (HK2.out.trans hk3);clear hr3 hk3;obtain⟨b0,b1,b2,b3,b4,b5,g0,g1,g2,g3,g4,g5⟩:=cells6 HN3.out))
    refine bodyPost_ret (v:=.agg zeroTm) (rtm_out (six_fin HN3.out (.int .i64 0) (.int .i64 0) (.string ⟨#[]⟩) (.slice none 0 0) (.slice none 0 0) (.slice none 0 0)).1) rfl ?_
    exact dterm_zero HN3.out HK3.out HR3.out hpw.out (by decide) HE.out
   | succ d' =>
    have HE:Aside0 (termD nb fr fa bs (d'+1) s=tailS (rgt fr fa true) bs (termD nb fr fa bs d') k (headS nb (rgt fr fa false) (rgt fr fa true) bs k (s+1))):=⟨by rw [termD,termS,if_pos hs,if_neg (by rw [←HKI.out];exact hneg),←HKI.out]⟩
    have hdd:decide ((200:Int)<(depth:Int))=false:=decide_eq_false (by omega)
    have hdd2:¬(200:Int)<(depth:Int):=by omega
    have hdep:depth≤1000:=by omega
    have hkl:kidsI k≤5:=kidsI_le k
    have IH:=ak (ih d' rfl)
    have hs1:s+1≤bs.length:=hs
    have hkn0:Aside0 (0≤kidsI k):=⟨by omega⟩
    have hw1:=w64r (a:=(s:Int)+1) (by omega) (by omega)
    have hw2:=wI64 (a:=(s:Int)+1) (by omega) (by omega)
    clear hneg ih
    go_enter Tryz.func50,Tryz.ntmps50
    go_upto_if 69 with(go_at_call 63;refine(hkc _).mono ?_;rintro e w2 ⟨rfl,hb2⟩;have hb3:=below_step HK0.out.1 hb2;have ha3:=cell_from ha hb3;have HV2:=blk_below HV0.out hb2;clear c0 c1 c2 c3 f0 f1 f2 f3;obtain⟨c0,c1,c2,c3,f0,f1,f2,f3⟩:=cells4 HV2;obtain⟨c4,c5,c6,c7,f4,f5,f6,f7⟩:=cells4 (blk_alloc HV2 (.cells #[.int .i64 k,.int .i64 0,.string ⟨#[]⟩,.slice none 0 0,.slice none 0 0,.slice none 0 0] 49));have HR2:=ak ((HR0.out.below hb2).below (below_alloc (Below.refl _ _) (.cells #[.int .i64 k,.int .i64 0,.string ⟨#[]⟩,.slice none 0 0,.slice none 0 0,.slice none 0 0] 49)));have HK2:Aside0 (DK w0 w (w2.alloc (.cells #[.int .i64 k,.int .i64 0,.string ⟨#[]⟩,.slice none 0 0,.slice none 0 0,.slice none 0 0] 49)) p):=⟨below_alloc (HK0.out.below hb2).1 _,(HK0.out.below hb2).2.alloc _⟩;have HN2:=ak (blk_alloc (blk_below HN0.out hb2) (.cells #[.int .i64 k,.int .i64 0,.string ⟨#[]⟩,.slice none 0 0,.slice none 0 0,.slice none 0 0] 49));have HB2:=ak (blk_new w2 (.cells #[.int .i64 k,.int .i64 0,.string ⟨#[]⟩,.slice none 0 0,.slice none 0 0,.slice none 0 0] 49));have HS2:Aside0 (w.heap.size<w2.heap.size):=⟨by have:=hb2.size;simp at this;omega⟩;clear hb2 hb3 hkc ha1)
    have HT:Aside0 (Dst w0 w ((w2.alloc (.cells #[.int .i64 k,.int .i64 0,.string ⟨#[]⟩,.slice none 0 0,.slice none 0 0,.slice none 0 0] 49)).setCell ⟨p,1,none⟩ (.int .i64 ((s+1:Nat):Int))) p bs (s+1) 0 a w.heap.size w2.heap.size (w2.heap.size+1) ⟨k,0,⟨#[]⟩,[],[],[]⟩ (.slice none 0 0) (.slice none 0 0) (.slice none 0 0) (.slice none 0 0) (.slice none 0 0) (.slice none 0 0)):=⟨Dst.moved ⟨HR2.out,HK2.out,HN2.out,HB2.out,(Kd.R_nil _ _ _ _ _),(Kd.R_nil _ _ _ _ _),(Kd.R_nil _ _ _ _ _),Nat.le_refl _,HS2.out,hpw.out,Nat.lt_succ_self _,by simp⟩ hs1⟩
    have hpw2:Aside0 (p<w2.heap.size):=⟨by have:=HS2.out;have:=hpw.out;omega⟩
    clear c0 c1 c2 c3 f0 f1 f2 f3 c4 c5 c6 c7 f4 f5 f6 f7
    clear hw1 hw2 ha3 HV2 HR2 HK2 HN2 HB2 HS2 HR0 HK0 HN0 HV0 hi1 hi2 d1 e1 hdd hdd2 hneg1 ha
    revert HT
    rw [show((s+1:Nat):Int)=(s:Int)+1 from rfl]
    generalize (World.setCell _ ⟨p,1,none⟩ _)=W1
    intro HT
    generalize w2.heap.size=b6 at *
    obtain⟨B4,hB4⟩:∃B4,B4=w.heap.size:=⟨_,rfl⟩
    obtain⟨d0,d1,d2,d3,d4,d5,g0,g1,g2,g3,g4,g5⟩:=cells6 HT.out.c6
    go_cut [] from 67 to 72 (fun wx=>∃(n:Int) (x:ByteArray) (r:List Cl) (v3:Value) (s1 N:Nat) (e1 a1:Int),Aside0 (HdP (k=1) (headS nb (rgt fr fa false) (rgt fr fa true) bs k (s+1)) s a n x r v3 s1 e1 a1)∧Aside0 (Dst w0 w wx p bs s1 e1 a1 w.heap.size b6 N ⟨k,n,x,r,[],[]⟩ v3 (.slice none 0 0) (.slice none 0 0) v3 (.slice none 0 0) (.slice none 0 0)))
    case first =>
     by_cases h1:k=1
     ·obtain rfl:=h1
      have hcE:=R_number_any HT.out.dk.1 HT.out.rs
      go_wp2_with (go_at_call 33;refine hcE.mono ?_;rintro e w3 ⟨z,s3,e2,a2,hk3,hr3,hn3,rfl⟩;have HT3:=ak (HT.out.call hk3 hr3);have HN3:=ak hn3;clear d0 d1 d2 d3 d4 d5 g0 g1 g2 g3 g4 g5;obtain⟨d0,d1,d2,d3,d4,d5,g0,g1,g2,g3,g4,g5⟩:=cells6 HT3.out.c6;clear hk3 hr3 hn3 hcE)
      go_meet
      exact⟨(z:Int),⟨#[]⟩,[],_,s3,_,e2,a2,⟨fun _=>Got.num HN3.out,fun h=>absurd (by decide) h⟩,⟨HT3.out.put (t2:=⟨1,(z:Int),⟨#[]⟩,[],[],[]⟩) 1 (.int .i64 (z:Int)) rfl (Kd.R_nil _ _ _ _ _) (Kd.R_nil _ _ _ _ _) (Kd.R_nil _ _ _ _ _) (Nat.le_refl _) HT3.out.o5⟩⟩
     ·have q1:(k==1)=false:=by simp [h1]
      have HH:Aside0 (k≠1):=⟨h1⟩
      clear h1
      go_wp2
      go_meet
      exact⟨0,⟨#[]⟩,[],_,s+1,_,0,a,⟨fun h=>absurd h HH.out,fun _=>⟨rfl,rfl,rfl,rfl,rfl,rfl,rfl⟩⟩,HT⟩
    case rest =>
     clear d0 d1 d2 d3 d4 d5 g0 g1 g2 g3 g4 g5
     clear HT
     obtain⟨n,x,r,v3,s1,N,e1,a1,HH1,HT⟩:=hcut
     obtain⟨d0,d1,d2,d3,d4,d5,g0,g1,g2,g3,g4,g5⟩:=cells6 HT.out.c6
     go_upto_if 75 with fail
     go_cut [] from 73 to 78 (fun wx=>∃(n:Int) (x:ByteArray) (r:List Cl) (v3:Value) (s1 N:Nat) (e1 a1:Int),Aside0 (HdP (k=1∨k=2) (headS nb (rgt fr fa false) (rgt fr fa true) bs k (s+1)) s a n x r v3 s1 e1 a1)∧Aside0 (Dst w0 w wx p bs s1 e1 a1 w.heap.size b6 N ⟨k,n,x,r,[],[]⟩ v3 (.slice none 0 0) (.slice none 0 0) v3 (.slice none 0 0) (.slice none 0 0)))
     case first =>
      by_cases h2:k=2
      ·obtain rfl:=h2
       obtain⟨rfl,rfl,rfl,rfl,rfl,rfl,rfl⟩:=HH1.out.2 (by decide)
       have hpn:∀s:ByteArray,s.size≤bs.length→PN s:=fun s hs=>HP.out.pn s (Nat.le_trans hs HT.out.rs.len)
       have hcE:=(R_name HP.out.named w0 p bs (s+1) _ wc HTT.out hpn HT.out.dk.1 HT.out.rs).mono fun _ _ h=>DPost.any h
       clear hpn
       go_wp2_with (go_at_call 34;refine hcE.mono ?_;rintro e w3 ⟨hk3,v,y,s3,e2,a2,rfl,rfl,hr3,hn3⟩;have HT3:=ak (HT.out.call hk3 hr3);have HN3:=ak hn3;clear d0 d1 d2 d3 d4 d5 g0 g1 g2 g3 g4 g5;obtain⟨d0,d1,d2,d3,d4,d5,g0,g1,g2,g3,g4,g5⟩:=cells6 HT3.out.c6;clear hk3 hr3 hn3 hcE)
       go_meet
       exact⟨0,y,[],_,s3,_,e2,a2,⟨fun _=>Got.txt HN3.out,fun h=>absurd (by decide) h⟩,⟨HT3.out.put (t2:=⟨2,0,y,[],[],[]⟩) 2 (.string y) rfl (Kd.R_nil _ _ _ _ _) (Kd.R_nil _ _ _ _ _) (Kd.R_nil _ _ _ _ _) (Nat.le_refl _) HT3.out.o5⟩⟩
      ·have q2:(k==2)=false:=by simp [h2]
       have HH:Aside0 (k≠2):=⟨h2⟩
       clear h2
       go_wp2
       go_meet
       exact⟨n,x,r,v3,s1,N,e1,a1,⟨fun h=>HH1.out.1 (h.resolve_right HH.out),fun h=>HH1.out.2 (fun h1=>h (.inl h1))⟩,HT⟩
     case rest =>
      clear d0 d1 d2 d3 d4 d5 g0 g1 g2 g3 g4 g5
      clear HT HH1 n x r v3 s1 N e1 a1
      obtain⟨n,x,r,v3,s1,N,e1,a1,HH1,HT⟩:=hcut
      obtain⟨d0,d1,d2,d3,d4,d5,g0,g1,g2,g3,g4,g5⟩:=cells6 HT.out.c6
      obtain⟨bb,hbb⟩:∃bb:Bool,bb=decide (k=13∨k=21∨k=26∨k=14):=⟨_,rfl⟩
      have hrw:=HP.out.rowed k
      rw [←hbb] at hrw
      have HBB:=ak hbb
      clear hbb
      go_upto_if 81 with(go_at_call 45;refine(hrw _).mono ?_;rintro e w4 ⟨rfl,hb4⟩;have HT4:=ak (HT.out.below hb4);clear d0 d1 d2 d3 d4 d5 g0 g1 g2 g3 g4 g5;obtain⟨d0,d1,d2,d3,d4,d5,g0,g1,g2,g3,g4,g5⟩:=cells6 HT4.out.c6;clear hb4 hrw)
      clear HT
      go_cut [] from 79 to 87 (fun wx=>∃(n:Int) (x:ByteArray) (r:List Cl) (v3:Value) (s1 N:Nat) (e1 a1:Int),Aside0 (HdP (True) (headS nb (rgt fr fa false) (rgt fr fa true) bs k (s+1)) s a n x r v3 s1 e1 a1)∧Aside0 (Dst w0 w wx p bs s1 e1 a1 w.heap.size b6 N ⟨k,n,x,r,[],[]⟩ v3 (.slice none 0 0) (.slice none 0 0) v3 (.slice none 0 0) (.slice none 0 0)))
      case first =>
       cases bb with
       | true =>
        have hk4:(k=13∨k=21∨k=26)∨k=14:=by have:=of_decide_eq_true HBB.out.symm;omega
        obtain⟨rfl,rfl,rfl,rfl,rfl,rfl,rfl⟩:=HH1.out.2 (by omega)
        rcases hk4 with hk3 | h14
        ·have q14:(k==14)=false:=by rw [beq_eq_false_iff_ne];omega
         have HK3:=ak hk3
         clear hk3
         have hcR:=(R_row PF HP.out.fright HP.out.faright false w0 p bs (s+1) _ w4 HP.out.pf HT4.out.dk.1 HT4.out.rs).mono fun _ _ h=>DPost.any h
         go_wp2_with (go_at_call 71;refine hcR.mono ?_;rintro e w5 ⟨hk5,v,y,s3,e2,a2,rfl,hv5,hr5,hn5⟩;obtain⟨A9,c9,rfl⟩:=Kd.R_slice hv5;have HV5:Aside0 (Kd.R k113 113 w5 (b6+1) (fun k=>k<w5.heap.size) (.slice A9 y.length c9) y):=⟨R_done hv5 (Nat.le_trans HT4.out.o4 HT4.out.o5) (Nat.le_refl _)⟩;have HT5:=ak (HT4.out.call hk5 hr5);have HN5:=ak hn5;clear d0 d1 d2 d3 d4 d5 g0 g1 g2 g3 g4 g5;obtain⟨d0,d1,d2,d3,d4,d5,g0,g1,g2,g3,g4,g5⟩:=cells6 HT5.out.c6;clear hk5 hr5 hn5 hv5 hcR)
         go_meet
         exact⟨0,⟨#[]⟩,y,_,s3,_,e2,a2,⟨fun _=>Got.rowf HK3.out HN5.out,fun h=>absurd (by decide) h⟩,⟨HT5.out.put (t2:=⟨k,0,⟨#[]⟩,y,[],[]⟩) 3 _ rfl (R_set6 HV5.out 3 _) (Kd.R_nil _ _ _ _ _) (Kd.R_nil _ _ _ _ _) HT5.out.o5 (Nat.le_refl _)⟩⟩
        ·obtain rfl:=h14
         have hcR:=(R_row PF HP.out.fright HP.out.faright true w0 p bs (s+1) _ w4 HP.out.pf HT4.out.dk.1 HT4.out.rs).mono fun _ _ h=>DPost.any h
         go_wp2_with (go_at_call 71;refine hcR.mono ?_;rintro e w5 ⟨hk5,v,y,s3,e2,a2,rfl,hv5,hr5,hn5⟩;obtain⟨A9,c9,rfl⟩:=Kd.R_slice hv5;have HV5:Aside0 (Kd.R k113 113 w5 (b6+1) (fun k=>k<w5.heap.size) (.slice A9 y.length c9) y):=⟨R_done hv5 (Nat.le_trans HT4.out.o4 HT4.out.o5) (Nat.le_refl _)⟩;have HT5:=ak (HT4.out.call hk5 hr5);have HN5:=ak hn5;clear d0 d1 d2 d3 d4 d5 g0 g1 g2 g3 g4 g5;obtain⟨d0,d1,d2,d3,d4,d5,g0,g1,g2,g3,g4,g5⟩:=cells6 HT5.out.c6;clear hk5 hr5 hn5 hv5 hcR)
         go_meet
         exact⟨0,⟨#[]⟩,y,_,s3,_,e2,a2,⟨fun _=>Got.rowa HN5.out,fun h=>absurd (by decide) h⟩,⟨HT5.out.put (t2:=⟨14,0,⟨#[]⟩,y,[],[]⟩) 3 _ rfl (R_set6 HV5.out 3 _) (Kd.R_nil _ _ _ _ _) (Kd.R_nil _ _ _ _ _) HT5.out.o5 (Nat.le_refl _)⟩⟩
       | false =>
        have HH:Aside0 (Got (headS nb (rgt fr fa false) (rgt fr fa true) bs k (s+1)) a (n,x,r) s1 e1 a1):=⟨by
         by_cases h12:k=1∨k=2
         ·exact HH1.out.1 h12
         ·obtain⟨rfl,rfl,rfl,rfl,rfl,rfl,rfl⟩:=HH1.out.2 h12
          have:=of_decide_eq_false HBB.out.symm
          exact .inl ⟨rfl,rfl,by rw [headS,if_neg (by omega),if_neg (by omega),if_neg (by omega),if_neg (by omega)]⟩⟩
        go_wp2
        go_meet
        exact⟨n,x,r,v3,s1,N,e1,a1,⟨fun _=>HH.out,fun h=>absurd (by decide) h⟩,HT4⟩
      case rest =>
       clear d0 d1 d2 d3 d4 d5 g0 g1 g2 g3 g4 g5
       clear HT4 HH1 HBB
       clear n x r v3 s1 N e1 a1
       obtain⟨n,x,r,v3,s1,N,e1,a1,HH1,HT⟩:=hcut
       have HH:=ak (HH1.out.1 trivial)
       clear HH1
       obtain⟨A33,c33,rfl⟩:=Kd.R_slice HT.out.r3
       obtain⟨kn,hkn⟩:∃kn:Nat,kidsI k=(kn:Int):=⟨(kidsI k).toNat,by have:=hkn0.out;omega⟩
       have HS0:Aside0 (So (termD nb fr fa bs (d'+1) s) (tailK (rgt fr fa true) bs (termD nb fr fa bs d') k n x r (manyS (termD nb fr fa bs d') kn [] s1)) a e1 a1):=⟨by
        have h:=So.got (F:=tailS (rgt fr fa true) bs (termD nb fr fa bs d') k) (fun _=>rfl) HE.out HH.out
        rw [tailS,hkn] at h
        exact h⟩
       have hkc:=HP.out.kids k
       rw [hkn] at hkc
       have hkn5:kn≤5:=by omega
       clear hkn hkl HE HH
       obtain⟨N3,hN3⟩:∃N3,N3=wc.heap.size:=⟨_,rfl⟩
       have HT3:=ak (HT.out.wide (N2:=N3) (by rw [hN3];exact HT.out.o5) (by rw [hN3];exact Nat.le_refl _))
       have HB6:Aside0 (b6<N3):=⟨HT3.out.o4⟩
       have hpb:Aside0 (p<N3):=⟨by have:=HT3.out.o1;have:=HT3.out.o2;have:=HT3.out.o4;have:=hpw.out;omega⟩
       have hw0b:Aside0 (w0.heap.size≤N3):=⟨by have:=hpb.out;have:=HT3.out.rs.old;omega⟩
       clear hN3 HT
       go_wp2
       go_loopg [7] (kn+1) (fun kq v7 wy=>∃(i:Nat) (ks:List Tm) (s2:Nat) (vk:Value) (e2 a2:Int),v7=.int .i64 (i:Int)∧i≤kn∧kq+i=kn+1∧Aside0 (ks.length=i)∧Aside0 (So (termD nb fr fa bs (d'+1) s) (tailK (rgt fr fa true) bs (termD nb fr fa bs d') k n x r (manyS (termD nb fr fa bs d') (kn-i) ks s2)) a e2 a2)∧Aside0 (Dst w0 w wy p bs s2 e2 a2 w.heap.size b6 N3 ⟨k,n,x,r,[],[]⟩ (.slice A33 r.length c33) (.slice none 0 0) (.slice none 0 0) (.slice A33 r.length c33) vk (.slice none 0 0))∧Aside0 (Kd.R k49 49 wy N3 (fun _=>True) vk ks))
       case atStart=>exact⟨0,[],s1,.slice none 0 0,e1,a1,rfl,Nat.zero_le _,rfl,⟨rfl⟩,HS0,HT3,⟨Kd.R_nil _ _ _ _ _⟩⟩
       case round =>
        clear HT3 HS0
        obtain⟨i,ks,s2,vk,e2,a2,rfl,hi,hk9,HKL,HS,HT,HG⟩:=hrel
        have hkl3:ks.length≤5:=by have:=HKL.out;omega
        obtain⟨A9,c9,hv9,hc9,hC9⟩:=HT.out.rs.row
        obtain⟨c0,c1,c2,c3,f0,f1,f2,f3⟩:=cells4 hv9
        clear hv9 hc9 hC9
        have hcc:=(blk_cell HT.out.c6 0).trans (rfl:_=some (Value.int .i64 k))
        go_upto_region 19 with fail
        go_cut [99] from 88 to 110 (fun v wx=>∃bb:Bool,v=.bool bb∧Aside0 (Tells bb (i<kn∧e2=0))∧Aside0 (Dst w0 w wx p bs s2 e2 a2 w.heap.size b6 N3 ⟨k,n,x,r,[],[]⟩ (.slice A33 r.length c33) (.slice none 0 0) (.slice none 0 0) (.slice A33 r.length c33) vk (.slice none 0 0))∧Aside0 (Kd.R k49 49 wx N3 (fun _=>True) vk ks))
        case first =>
         by_cases hlt:i<kn
         ·by_cases h0:e2=0
          ·have q3:(e2==0)=true:=beq_iff_eq.2 h0
           have q1:decide ((i:Int)<(kn:Int))=true:=decide_eq_true (Int.ofNat_lt.2 hlt)
           have q2:(i:Int)<(kn:Int):=Int.ofNat_lt.2 hlt
           have HQ:Aside0 (Tells true (i<kn∧e2=0)):=⟨fun _=>⟨hlt,h0⟩,fun _=>rfl⟩
           clear hlt h0
           go_wp2_with (go_at_call 63;refine(hkc _).mono ?_;rintro e w3 ⟨rfl,hb3⟩;have HT3:=ak (HT.out.below hb3);have HG3:=ak (Kd.R_below HG.out hb3);clear c0 c1 c2 c3 f0 f1 f2 f3;obtain⟨A9,c9,hv9,hc9,hC9⟩:=HT3.out.rs.row;obtain⟨c0,c1,c2,c3,f0,f1,f2,f3⟩:=cells4 hv9;clear hv9 hc9 hC9;clear hb3 hkc)
           go_meet
           exact⟨true,rfl,HQ,HT3,HG3⟩
          ·have q3:(e2==0)=false:=beq_eq_false_iff_ne.2 h0
           have q1:decide ((i:Int)<(kn:Int))=true:=decide_eq_true (Int.ofNat_lt.2 hlt)
           have q2:(i:Int)<(kn:Int):=Int.ofNat_lt.2 hlt
           have HQ:Aside0 (Tells false (i<kn∧e2=0)):=⟨fun h=>Bool.noConfusion h,fun h=>absurd h.2 h0⟩
           clear hlt h0
           go_wp2_with (go_at_call 63;refine(hkc _).mono ?_;rintro e w3 ⟨rfl,hb3⟩;have HT3:=ak (HT.out.below hb3);have HG3:=ak (Kd.R_below HG.out hb3);clear c0 c1 c2 c3 f0 f1 f2 f3;obtain⟨A9,c9,hv9,hc9,hC9⟩:=HT3.out.rs.row;obtain⟨c0,c1,c2,c3,f0,f1,f2,f3⟩:=cells4 hv9;clear hv9 hc9 hC9;clear hb3 hkc)
           go_meet
           exact⟨false,rfl,HQ,HT3,HG3⟩
         ·have q1:decide ((i:Int)<(kn:Int))=false:=decide_eq_false (fun h=>hlt (Int.ofNat_lt.1 h))
          have q2:¬(i:Int)<(kn:Int):=fun h=>hlt (Int.ofNat_lt.1 h)
          have HQ:Aside0 (Tells false (i<kn∧e2=0)):=⟨fun h=>Bool.noConfusion h,fun h=>absurd h.1 hlt⟩
          clear hlt
          go_wp2_with (go_at_call 63;refine(hkc _).mono ?_;rintro e w3 ⟨rfl,hb3⟩;have HT3:=ak (HT.out.below hb3);have HG3:=ak (Kd.R_below HG.out hb3);clear c0 c1 c2 c3 f0 f1 f2 f3;obtain⟨A9,c9,hv9,hc9,hC9⟩:=HT3.out.rs.row;obtain⟨c0,c1,c2,c3,f0,f1,f2,f3⟩:=cells4 hv9;clear hv9 hc9 hC9;clear hb3 hkc)
          go_meet
          exact⟨false,rfl,HQ,HT3,HG3⟩
        case rest =>
         clear c0 c1 c2 c3 f0 f1 f2 f3
         clear hcc HT HG
         obtain⟨bb,rfl,HQ,HT,HG⟩:=hcut
         cases bb with
         | true =>
          obtain⟨hlt,h0⟩:=HQ.out.1 rfl
          subst h0
          obtain⟨dd,hdd2⟩:∃dd,kn-i=dd+1:=⟨kn-i-1,by omega⟩
          have hdd3:dd=kn-(i+1):=by omega
          have HC:Aside0 (manyS (termD nb fr fa bs d') (kn-i) ks s2=mnK (termD nb fr fa bs d') (kn-(i+1)) ks ((termD nb fr fa bs d') s2)):=⟨by rw [hdd2,manyS_succ,hdd3]⟩
          have HTd:=ak (HT.out.below (wy:=wc.drew) (below_drew (Below.refl _ _)))
          have HGd:=ak (Kd.R_drew HG.out)
          have hvk:wc.drew.cell? ⟨b6,4,none⟩=some vk:=(blk_cell HTd.out.c6 4).trans rfl
          have hcI:=IH.out s2 a2 wc.drew HTd.out.dk.1 HTd.out.rs
          have hwd:=depw depth hdep
          have hwd2:=depw2 depth hdep
          have HBS:Aside0 (N3≤wc.drew.heap.size):=⟨HTd.out.o5⟩
          clear HT HG hdd2 hdd3
          go_wp2
          refine start_ (n:=10) (S:=fun w'=>w'.cell? ⟨b6,4,none⟩=some vk) (ds:=[9]) #[false,false,false,false,false,false,false,false,false,false] (by kernel_rfl) rfl rfl (show wc.drew.cell? ⟨b6,4,none⟩=some vk from hvk) (fun hHeld=>?_)
          clear hvk
          generalize wc.drew=wd at *
          refine pu_ 0 102 ?_
          refine ta_ 1 103 ?_
          refine pu_ 2 104 ?_
          refine pu_ 3 105 ?_
          refine pu_ 4 106 ?_
          refine on_ 5 (some 107) fun K hK=>?_
          refine callP_ Tryz.func50 (by kernel_rfl) rfl #[.pointer (some ⟨p,0,none⟩),.int .i64 ((depth:Int)+1)] (by rfl) rfl rfl (by (try simp only [List.map_toArray,List.map_cons,List.map_nil]);first | done | rfl) ?_
          refine hcI.mono ?_
          rintro e w5 ⟨hk5,v,t1,s3,e3,a3,rfl,⟨cs,rfl,hM5⟩,hr5,hg5⟩
          refine .inl ⟨_,rfl, ?_⟩
          obtain⟨B3,k3,B4,k4,B5,k5,rfl⟩:=tm_cells hM5
          have HT5:=ak (HTd.out.call hk5 hr5)
          have HGT:=ak hg5
          have HG5:=ak (R_stay HGd.out hk5.2 (fun k hk=>by rw [hk];exact hpb.out))
          have HM5:=ak hM5
          have HS5:Aside0 (wd.heap.size≤w5.heap.size):=⟨hk5.2.1⟩
          clear hr5 hM5 hk5 hg5
          have hHeld_:=hHeld
          refine hK.out _ _ ((blk_cell HT5.out.c6 4).trans rfl) (fun hHeld=>?_)
          clear hK K hHeld_
          refine no_ 107 ?_
          refine on_ 6 (some 108) fun K hK=>?_
          refine event_step (v:=.slice (some ⟨w5.heap.size,0,none⟩) 1 1) (w1:=w5.alloc (.cells #[.int .i64 t1.f0,.int .i64 t1.f1,.string t1.f2,.slice B3 t1.f3.length k3,.slice B4 t1.f4.length k4,.slice B5 t1.f5.length k5] 49)) (by rfl) (by first | (go_simp;done) | (go_simp;rfl)) ?_
          have hHeld_:=hHeld
          refine hK.out _ _ (World.cell?_alloc_old_ hHeld) (fun hHeld=>?_)
          clear hK K hHeld_
          refine no_ 108 ?_
          refine on_ 7 (some 109) fun K hK=>?_
          refine Kd.R_append_step k49 (w0:=w5) N3 (by rfl) (.tmp 103) (.tmp 108) 46 49 (.agg zeroTm) 104 rfl Tryz.underlying46 tm_info rfl (by decide) (by omega) vk ks t1 [.int .i64 t1.f0,.int .i64 t1.f1,.string t1.f2,.slice B3 t1.f3.length k3,.slice B4 t1.f4.length k4,.slice B5 t1.f5.length k5] (fun _=>True) (fun k=>wd.heap.size≤k) rfl rfl (M_from HM5.out HBS.out) (fun k hk=>⟨trivial,fun h9=>by have:=Kd.R_lt HGd.out k h9.symm;omega⟩) (fun _ _=>trivial) HG5.out (Below.refl _ _) (Nat.le_trans HBS.out HS5.out) (by omega) ?_
          intro v1 w6 ho hb6 hg hat
          have hak:=app_keep hg (Kd.R_base HG5.out)
          have hb6':=below_up HT5.out.dk.1 hb6 hw0b.out
          have hr6:=HT5.out.rs.kept hak (by have:=hpb.out;omega)
          have HT6:=ak (HT5.out.move (hak.mono (fun k h=>.inr h)) hb6' hr6)
          obtain⟨A6,n6,c6,rfl⟩:=slice3 ho
          have HO6:=ak ho
          clear ho hb6 hg hat hb6' hr6
          have hHeld_:=hHeld
          refine hK.out _ _ ((blk_cell HT6.out.c6 4).trans rfl) (fun hHeld=>?_)
          clear hK K hHeld_
          refine no_ 109 ?_
          refine pu_ 8 110 ?_
          refine last_ (i:=9) (N:=none) #[true,true,true,true,true,true,true,true,true,true] rfl rfl (by kernel_rfl) (by decide) (fun K hK=>?_)
          obtain⟨d0,d1,d2,d3,d4,d5,g0,g1,g2,g3,g4,g5⟩:=cells6 HT6.out.c6
          refine skip_ (w1:=w6.setCell ⟨b6,4,none⟩ (.slice A6 n6 c6)) (by rfl) rfl (by go_simp) ?_
          refine hK.out _ _ ?_
          clear hK K
          refine done_ (by kernel_rfl) ?_
          have HK7:=ak ((Kept.refl w6 (fun k=>k=b6)).setCell (p:=⟨b6,4,none⟩) (.inl rfl) (.slice A6 n6 c6))
          have HT7:Aside0 (Dst w0 w (w6.setCell ⟨b6,4,none⟩ (.slice A6 n6 c6)) p bs s3 e3 a3 w.heap.size b6 N3 ⟨k,n,x,r,[],[]⟩ (.slice A33 r.length c33) (.slice none 0 0) (.slice none 0 0) (.slice A33 r.length c33) (.slice A6 n6 c6) (.slice none 0 0)):=⟨HT6.out.put 4 _ rfl (R_set6 HT6.out.r3 4 _) (Kd.R_nil _ _ _ _ _) (Kd.R_nil _ _ _ _ _) (Nat.le_refl _) HT6.out.o5⟩
          have HG7:=ak (R_stay HO6.out HK7.out (fun k hk=>by have:=HT6.out.o4;omega))
          have HS7:Aside0 (So (termD nb fr fa bs (d'+1) s) (tailK (rgt fr fa true) bs (termD nb fr fa bs d') k n x r (manyS (termD nb fr fa bs d') (kn-(i+1)) (ks++[t1]) s3)) a e3 a3):=⟨So.next (F:=fun ρ=>tailK (rgt fr fa true) bs (termD nb fr fa bs d') k n x r (mnK (termD nb fr fa bs d') (kn-(i+1)) ks ρ)) (fun _=>rfl) (congrArg _ HC.out) HS.out HGT.out⟩
          clear d0 d1 d2 d3 d4 d5 g0 g1 g2 g3 g4 g5
          clear HT6 HO6 HT5 HG5 HM5 HS5 hHeld hwd hwd2 HS HC HGT
          go_wp2
          go_roundg (gk-1)
          case measure=>omega
          case rel=>exact⟨i+1,ks++[t1],s3,_,e3,a3,rfl,hlt,by omega,⟨by rw [List.length_append,HKL.out];rfl⟩,HS7,HT7,HG7⟩
         | false =>
          have HQ2:¬(i<kn∧e2=0):=fun h=>Bool.noConfusion (HQ.out.2 h)
          have HS3:Aside0 (So (termD nb fr fa bs (d'+1) s) (if partsI k=0 then .ok (⟨k,n,x,r,ks,[]⟩,s2) else tailN (rgt fr fa true) bs (termD nb fr fa bs d') k n x r ks (numS bs s2)) a e2 a2):=⟨So.as HS.out (fun h0=>by rw [show kn-i=0 by omega,manyS];rfl)⟩
          obtain⟨A44,c44,rfl⟩:=Kd.R_slice HG.out
          have hkp:=HP.out.parts k
          obtain⟨A9,c9,hv9,hc9,hC9⟩:=HT.out.rs.row
          obtain⟨c0,c1,c2,c3,f0,f1,f2,f3⟩:=cells4 hv9
          clear hv9 hc9 hC9
          have hcc:=(blk_cell HT.out.c6 0).trans (rfl:_=some (Value.int .i64 k))
          clear HQ2 HS HQ HKL hkc hi hkl3 hk9 hkn5
          go_upto_region 22 with fail
          go_cut [121] from 111 to 121 (fun v wx=>∃bb:Bool,v=.bool bb∧Aside0 (bb=true→Got (termD nb fr fa bs (d'+1) s) a (⟨k,n,x,r,ks,[]⟩:Tm) s2 e2 a2)∧Aside0 (bb=false→e2=0∧So (termD nb fr fa bs (d'+1) s) (tailN (rgt fr fa true) bs (termD nb fr fa bs d') k n x r ks (numS bs s2)) a e2 a2)∧Aside0 (Dst w0 w wx p bs s2 e2 a2 w.heap.size b6 N3 ⟨k,n,x,r,[],[]⟩ (.slice A33 r.length c33) (.slice none 0 0) (.slice none 0 0) (.slice A33 r.length c33) (.slice A44 ks.length c44) (.slice none 0 0))∧Aside0 (Kd.R k49 49 wx N3 (fun _=>True) (.slice A44 ks.length c44) ks))
          case first =>
           by_cases h0:e2=0
           ·have q3:(e2 != 0)=false:=by simp [h0]
            by_cases hp0:partsI k=0
            ·have q4:(partsI k==0)=true:=by simp [hp0]
             have HX:Aside0 (Got (termD nb fr fa bs (d'+1) s) a (⟨k,n,x,r,ks,[]⟩:Tm) s2 e2 a2):=⟨So.out (So.as HS3.out (fun _=>if_pos hp0))⟩
             clear h0 hp0 HS3
             go_wp2_with (go_at_call 47;refine(hkp _).mono ?_;rintro e w3 ⟨rfl,hb3⟩;have HT3:=ak (HT.out.below hb3);have HG3:=ak (Kd.R_below HG.out hb3);clear hb3 hkp)
             go_meet
             exact⟨true,rfl,⟨fun _=>HX.out⟩,⟨fun h=>Bool.noConfusion h⟩,HT3,HG3⟩
            ·have q4:(partsI k==0)=false:=by simp [hp0]
             have HX:Aside0 (e2=0∧So (termD nb fr fa bs (d'+1) s) (tailN (rgt fr fa true) bs (termD nb fr fa bs d') k n x r ks (numS bs s2)) a e2 a2):=⟨h0,So.as HS3.out (fun _=>if_neg hp0)⟩
             clear h0 hp0 HS3
             go_wp2_with (go_at_call 47;refine(hkp _).mono ?_;rintro e w3 ⟨rfl,hb3⟩;have HT3:=ak (HT.out.below hb3);have HG3:=ak (Kd.R_below HG.out hb3);clear hb3 hkp)
             go_meet
             exact⟨false,rfl,⟨fun h=>Bool.noConfusion h⟩,⟨fun _=>HX.out⟩,HT3,HG3⟩
           ·have q3:(e2 != 0)=true:=by simp [h0]
            have HX:Aside0 (Got (termD nb fr fa bs (d'+1) s) a (⟨k,n,x,r,ks,[]⟩:Tm) s2 e2 a2):=⟨.inr ⟨h0,HS3.out.elim (fun h=>absurd h.1 h0) (fun h=>h.2)⟩⟩
            clear h0 HS3
            go_wp2
            go_meet
            exact⟨true,rfl,⟨fun _=>HX.out⟩,⟨fun h=>Bool.noConfusion h⟩,HT,HG⟩
          case rest =>
           clear c0 c1 c2 c3 f0 f1 f2 f3
           clear hcc HT HG HS3
           obtain⟨bb,rfl,HX,HY,HT,HG⟩:=hcut
           cases bb with
           | true =>
            have HGo:=ak (HX.out rfl)
            clear HX HY hkp
            obtain⟨d0,d1,d2,d3,d4,d5,g0,g1,g2,g3,g4,g5⟩:=cells6 HT.out.c6
            obtain⟨b0,b1,b2,b3,b4,b5,k0,k1,k2,k3,k4,k5⟩:=cells6 HT.out.c4
            go_wp2
            refine bodyPost_ret (v:=.agg #[.int .i64 k,.int .i64 n,.string x,(.slice A33 r.length c33),(.slice A44 ks.length c44),(.slice none 0 0)]) (rtm_out (HT.out.fin (.int .i64 k) (.int .i64 n) (.string x) (.slice A33 r.length c33) (.slice A44 ks.length c44) (.slice none 0 0)).1) rfl ?_
            exact HT.out.done (t:=⟨k,n,x,r,ks,[]⟩) rfl HG.out HB6.out (B5:=b6+1) (ok5:=fun _=>True) (Kd.R_nil _ _ _ _ _) (Nat.lt_succ_self _) HGo.out
           | false =>
            obtain⟨h0,hS5⟩:=HY.out rfl
            have HS5:=ak hS5
            subst h0
            obtain⟨q,hq0⟩:∃q:Nat,partsI k=(q:Int):=⟨(partsI k).toNat,by have:=partsI_rng k;omega⟩
            have hq2:q≤2:=by have:=partsI_rng k;omega
            have HPQ:=ak hq0
            rw [hq0] at hkp
            clear hq0 HX HY hS5
            have hcE:=R_number_any HT.out.dk.1 HT.out.rs
            go_wp2_with (go_at_call 33;refine hcE.mono ?_;rintro e w5 ⟨c,s3,e3,a3,hk5,hr5,hn5,rfl⟩;have HT5:=ak (HT.out.call hk5 hr5);have HG5:=ak (R_stay HG.out hk5.2 (fun k hk=>by rw [hk];exact hpb.out));have HN5:=ak hn5;clear hk5 hr5 hn5 hcE)
            obtain⟨N5,hN5⟩:∃N5,N5=w5.heap.size:=⟨_,rfl⟩
            have HT6:=ak (HT5.out.kids HG5.out HT5.out.o4 hN5)
            have HBN5:Aside0 (b6<N5):=⟨HT6.out.o4⟩
            have hpb5:Aside0 (p<N5):=⟨by have:=hpb.out;have:=HT5.out.o5;omega⟩
            have hw0b5:Aside0 (w0.heap.size≤N5):=⟨by have:=hw0b.out;have:=HT5.out.o5;omega⟩
            have HS6:Aside0 (So (termD nb fr fa bs (d'+1) s) (tailL k n x r ks (brS (rgt fr fa true) bs (termD nb fr fa bs d') q c [] s3)) a e3 a3):=⟨by
             have h:=So.next (F:=tailN (rgt fr fa true) bs (termD nb fr fa bs d') k n x r ks) (fun _=>rfl) rfl HS5.out HN5.out
             rw [tailN,HPQ.out] at h
             exact h⟩
            have HCL:Aside0 (e3=0→c≤2147483647):=⟨fun h=>HN5.out.elim (fun h2=>numS_le h2.2.2) (fun h2=>absurd h h2.1)⟩
            clear HT5 HG5 HT HG hN5 HN5 HS5
            obtain⟨go,rfl⟩:∃go,go=gk:=⟨_,rfl⟩
            go_loopg [9,10,11] (c+1) (fun kq v9 v10 v11 wy=>∃(i2:Nat) (brs:List Br) (s4:Nat) (v5:Value) (e4 a4:Int),v9=.int .i64 (i2:Int)∧i2≤c∧kq+i2=c+1∧Aside0 (brs.length=i2)∧Aside0 (e4=0→c≤2147483647)∧Aside0 (So (termD nb fr fa bs (d'+1) s) (tailL k n x r ks (brS (rgt fr fa true) bs (termD nb fr fa bs d') q (c-i2) brs s4)) a e4 a4)∧Aside0 (Dst w0 w wy p bs s4 e4 a4 w.heap.size b6 N5 ⟨k,n,x,r,ks,[]⟩ (.slice A33 r.length c33) (.slice A44 ks.length c44) (.slice none 0 0) (.slice A33 r.length c33) (.slice A44 ks.length c44) v5)∧Aside0 (Kd.R k90 90 wy N5 (fun _=>True) v5 brs))
            case atStart=>exact⟨0,[],s3,.slice none 0 0,e3,a3,rfl,Nat.zero_le _,rfl,⟨rfl⟩,HCL,HS6,HT6,⟨Kd.R_nil _ _ _ _ _⟩⟩
            case round =>
             clear HT6 HS6 HCL
             obtain⟨i2,brs,s4,v5,e4,a4,rfl,hi2,hk92,HBL,HCL,HS,HT,HG⟩:=hrel
             obtain⟨A55,n55,c55,rfl⟩:=slice3 HG.out
             obtain⟨A9,c9,hv9,hc9,hC9⟩:=HT.out.rs.row
             obtain⟨c0,c1,c2,c3,f0,f1,f2,f3⟩:=cells4 hv9
             clear hv9 hc9 hC9
             go_upto_region 26 with fail
             go_cut [134] from 125 to 168 (fun v wx=>∃bb:Bool,v=.bool bb∧Aside0 (Tells bb (i2<c∧e4=0))∧Aside0 (Dst w0 w wx p bs s4 e4 a4 w.heap.size b6 N5 ⟨k,n,x,r,ks,[]⟩ (.slice A33 r.length c33) (.slice A44 ks.length c44) (.slice none 0 0) (.slice A33 r.length c33) (.slice A44 ks.length c44) (.slice A55 n55 c55))∧Aside0 (Kd.R k90 90 wx N5 (fun _=>True) (.slice A55 n55 c55) brs))
             case first =>
              by_cases hlt:i2<c
              ·by_cases h0:e4=0
               ·have q3:(e4==0)=true:=beq_iff_eq.2 h0
                have q1:decide ((i2:Int)<(c:Int))=true:=decide_eq_true (Int.ofNat_lt.2 hlt)
                have q2:(i2:Int)<(c:Int):=Int.ofNat_lt.2 hlt
                have HQ:Aside0 (Tells true (i2<c∧e4=0)):=⟨fun _=>⟨hlt,h0⟩,fun _=>rfl⟩
                clear hlt h0
                go_wp2
                go_meet
                exact⟨true,rfl,HQ,HT,HG⟩
               ·have q3:(e4==0)=false:=beq_eq_false_iff_ne.2 h0
                have q1:decide ((i2:Int)<(c:Int))=true:=decide_eq_true (Int.ofNat_lt.2 hlt)
                have q2:(i2:Int)<(c:Int):=Int.ofNat_lt.2 hlt
                have HQ:Aside0 (Tells false (i2<c∧e4=0)):=⟨fun h=>Bool.noConfusion h,fun h=>absurd h.2 h0⟩
                clear hlt h0
                go_wp2
                go_meet
                exact⟨false,rfl,HQ,HT,HG⟩
              ·have q1:decide ((i2:Int)<(c:Int))=false:=decide_eq_false (fun h=>hlt (Int.ofNat_lt.1 h))
               have q2:¬(i2:Int)<(c:Int):=fun h=>hlt (Int.ofNat_lt.1 h)
               have HQ:Aside0 (Tells false (i2<c∧e4=0)):=⟨fun h=>Bool.noConfusion h,fun h=>absurd h.1 hlt⟩
               clear hlt
               go_wp2
               go_meet
               exact⟨false,rfl,HQ,HT,HG⟩
             case rest =>
              clear c0 c1 c2 c3 f0 f1 f2 f3
              clear HT HG
              obtain⟨bb,rfl,HQ,HT,HG⟩:=hcut
              cases bb with
              | true =>
               obtain⟨hlt2,h0⟩:=HQ.out.1 rfl
               subst h0
               have hcl:=HCL.out rfl
               have hbl:brs.length≤2147483647:=by have:=HBL.out;omega
               obtain⟨de,hde⟩:∃de,c-i2=de+1:=⟨c-i2-1,by omega⟩
               have HC:Aside0 (brS (rgt fr fa true) bs (termD nb fr fa bs d') q (c-i2) brs s4=brR (rgt fr fa true) bs (termD nb fr fa bs d') q (c-(i2+1)) brs (rowS (rgt fr fa true) bs s4)):=⟨by rw [hde,brS_succ,show de=c-(i2+1) by omega]⟩
               have hcR:=(R_row PF HP.out.fright HP.out.faright true w0 p bs s4 a4 wc HP.out.pf HT.out.dk.1 HT.out.rs).mono fun _ _ h=>DPost.any h
               have hgk:2≤gk:=by omega
               clear hde HQ
               go_wp2_with (go_at_call 71;refine hcR.mono ?_;rintro e w6 ⟨hk6,v,f,s5,e5,a5,rfl,hv6,hr6,hn6⟩;obtain⟨A7,c7,rfl⟩:=Kd.R_slice hv6;have HT7:=ak ((HT.out.call hk6 hr6).below (below_alloc (Below.refl _ _) (.cells #[.slice A7 f.length c7,.slice none 0 0] 90)));have HB7:=ak (blk_new w6 (.cells #[.slice A7 f.length c7,.slice none 0 0] 90));have HVF:=ak (Kd.R_alloc (R_done hv6 (Nat.le_refl _) (Nat.le_refl w6.heap.size)) (.cells #[.slice A7 f.length c7,.slice none 0 0] 90));have HGS:=ak (Kd.R_alloc (R_stayN (R_done HG.out (Nat.le_refl N5) (Nat.le_refl wc.heap.size)) hk6.2 (fun k hk=>.inl (by rw [hk];exact hpb5.out))) (.cells #[.slice A7 f.length c7,.slice none 0 0] 90));have HSZ:Aside0 (wc.heap.size≤w6.heap.size):=⟨hk6.2.1⟩;have HN6:=ak hn6;clear hk6 hr6 hv6 hn6 hcR)
               have HS7:Aside0 (So (termD nb fr fa bs (d'+1) s) (tailL k n x r ks (brK (rgt fr fa true) bs (termD nb fr fa bs d') q (c-(i2+1)) brs f (manyS (termD nb fr fa bs d') q [] s5))) a e5 a5):=⟨So.next (F:=fun ρ=>tailL k n x r ks (brR (rgt fr fa true) bs (termD nb fr fa bs d') q (c-(i2+1)) brs ρ)) (fun _=>rfl) (congrArg _ HC.out) HS.out HN6.out⟩
               obtain⟨b7,hb7⟩:∃b7,b7=w6.heap.size:=⟨_,rfl⟩
               obtain⟨B1,hB1⟩:∃B1,B1=wc.heap.size:=⟨_,rfl⟩
               obtain⟨N7,hN7⟩:∃N7,N7=w6.heap.size+1:=⟨_,rfl⟩
               have HLE:Aside0 (N5≤B1∧B1≤b7∧b7<N7):=⟨by have:=HT.out.o5;have:=HSZ.out;omega⟩
               have HN78:Aside0 (N7≤(w6.alloc (.cells #[.slice A7 f.length c7,.slice none 0 0] 90)).heap.size):=⟨by rw [World.size_alloc];omega⟩
               rw [←hb7] at HB7 HVF
               rw [←hB1] at HVF HGS
               have hpb7:Aside0 (p<N7):=⟨by have:=hpb5.out;have:=HLE.out;omega⟩
               have hw0b7:Aside0 (w0.heap.size≤N7):=⟨by have:=hw0b5.out;have:=HLE.out;omega⟩
               clear HT HG HSZ hN7 hB1 HC HS HN6
               generalize w6.heap.size=b7_ at *
               subst hb7
               obtain⟨gp,rfl⟩:∃gp,gp=gk:=⟨_,rfl⟩
               go_loopg [11] (q+1) (fun kq v11 wz=>∃(j:Nat) (ks2:List Tm) (s6:Nat) (vk:Value) (e6 a6:Int),v11=.int .i64 (j:Int)∧j≤q∧kq+j=q+1∧Aside0 (ks2.length=j)∧Aside0 (So (termD nb fr fa bs (d'+1) s) (tailL k n x r ks (brK (rgt fr fa true) bs (termD nb fr fa bs d') q (c-(i2+1)) brs f (manyS (termD nb fr fa bs d') (q-j) ks2 s6))) a e6 a6)∧Aside0 (Dst w0 w wz p bs s6 e6 a6 w.heap.size b6 N5 ⟨k,n,x,r,ks,[]⟩ (.slice A33 r.length c33) (.slice A44 ks.length c44) (.slice none 0 0) (.slice A33 r.length c33) (.slice A44 ks.length c44) (.slice A55 n55 c55))∧Aside0 (N7≤wz.heap.size)∧Aside0 (wz.heap[b7]? = some (.cells #[.slice A7 f.length c7,vk] 90 (0,0)))∧Aside0 (Kd.R k113 113 wz B1 (fun k=>k<b7) (.slice A7 f.length c7) f)∧Aside0 (Kd.R k90 90 wz N5 (fun k=>k<B1) (.slice A55 n55 c55) brs)∧Aside0 (Kd.R k49 49 wz N7 (fun _=>True) vk ks2))
               case atStart=>exact⟨0,[],s5,.slice none 0 0,e5,a5,rfl,Nat.zero_le _,rfl,⟨rfl⟩,HS7,HT7,HN78,HB7,HVF,HGS,⟨Kd.R_nil _ _ _ _ _⟩⟩
               case round =>
                clear HT7 HB7 HVF HGS HN78 HS7
                obtain⟨j,ks2,s6,vk,e6,a6,rfl,hj,hk94,HKL,HS,HT,HNZ,HB7,HVF,HGS,HG⟩:=hrel
                have hkl3:ks2.length≤5:=by have:=HKL.out;omega
                obtain⟨A9,c9,hv9,hc9,hC9⟩:=HT.out.rs.row
                obtain⟨c0,c1,c2,c3,f0,f1,f2,f3⟩:=cells4 hv9
                clear hv9 hc9 hC9
                have hcc:=(blk_cell HT.out.c6 0).trans (rfl:_=some (Value.int .i64 k))
                have hkp:=HP.out.parts k
                rw [HPQ.out] at hkp
                go_upto_region 30 with fail
                go_cut [151] from 140 to 162 (fun v wx=>∃bb:Bool,v=.bool bb∧Aside0 (Tells bb (j<q∧e6=0))∧Aside0 (Dst w0 w wx p bs s6 e6 a6 w.heap.size b6 N5 ⟨k,n,x,r,ks,[]⟩ (.slice A33 r.length c33) (.slice A44 ks.length c44) (.slice none 0 0) (.slice A33 r.length c33) (.slice A44 ks.length c44) (.slice A55 n55 c55))∧Aside0 (N7≤wx.heap.size)∧Aside0 (wx.heap[b7]? = some (.cells #[.slice A7 f.length c7,vk] 90 (0,0)))∧Aside0 (Kd.R k113 113 wx B1 (fun k=>k<b7) (.slice A7 f.length c7) f)∧Aside0 (Kd.R k90 90 wx N5 (fun k=>k<B1) (.slice A55 n55 c55) brs)∧Aside0 (Kd.R k49 49 wx N7 (fun _=>True) vk ks2))
                case first =>
                 by_cases hlt:j<q
                 ·by_cases h0:e6=0
                  ·have q3:(e6==0)=true:=beq_iff_eq.2 h0
                   have q1:decide ((j:Int)<(q:Int))=true:=decide_eq_true (Int.ofNat_lt.2 hlt)
                   have q2:(j:Int)<(q:Int):=Int.ofNat_lt.2 hlt
                   have HQ:Aside0 (Tells true (j<q∧e6=0)):=⟨fun _=>⟨hlt,h0⟩,fun _=>rfl⟩
                   clear hlt h0
                   go_wp2_with (go_at_call 47;refine(hkp _).mono ?_;rintro e w3 ⟨rfl,hb3⟩;have HT3:=ak (HT.out.below hb3);have HG3:=ak (Kd.R_below HG.out hb3);have HB3:=ak (blk_below HB7.out hb3);have HV3:=ak (Kd.R_below HVF.out hb3);have HS3:=ak (Kd.R_below HGS.out hb3);have HZ3:Aside0 (N7≤w3.heap.size):=⟨Nat.le_trans HNZ.out hb3.size⟩;clear c0 c1 c2 c3 f0 f1 f2 f3;obtain⟨A9,c9,hv9,hc9,hC9⟩:=HT3.out.rs.row;obtain⟨c0,c1,c2,c3,f0,f1,f2,f3⟩:=cells4 hv9;clear hv9 hc9 hC9;clear hb3 hkp)
                   go_meet
                   exact⟨true,rfl,HQ,HT3,HZ3,HB3,HV3,HS3,HG3⟩
                  ·have q3:(e6==0)=false:=beq_eq_false_iff_ne.2 h0
                   have q1:decide ((j:Int)<(q:Int))=true:=decide_eq_true (Int.ofNat_lt.2 hlt)
                   have q2:(j:Int)<(q:Int):=Int.ofNat_lt.2 hlt
                   have HQ:Aside0 (Tells false (j<q∧e6=0)):=⟨fun h=>Bool.noConfusion h,fun h=>absurd h.2 h0⟩
                   clear hlt h0
                   go_wp2_with (go_at_call 47;refine(hkp _).mono ?_;rintro e w3 ⟨rfl,hb3⟩;have HT3:=ak (HT.out.below hb3);have HG3:=ak (Kd.R_below HG.out hb3);have HB3:=ak (blk_below HB7.out hb3);have HV3:=ak (Kd.R_below HVF.out hb3);have HS3:=ak (Kd.R_below HGS.out hb3);have HZ3:Aside0 (N7≤w3.heap.size):=⟨Nat.le_trans HNZ.out hb3.size⟩;clear c0 c1 c2 c3 f0 f1 f2 f3;obtain⟨A9,c9,hv9,hc9,hC9⟩:=HT3.out.rs.row;obtain⟨c0,c1,c2,c3,f0,f1,f2,f3⟩:=cells4 hv9;clear hv9 hc9 hC9;clear hb3 hkp)
                   go_meet
                   exact⟨false,rfl,HQ,HT3,HZ3,HB3,HV3,HS3,HG3⟩
                 ·have q1:decide ((j:Int)<(q:Int))=false:=decide_eq_false (fun h=>hlt (Int.ofNat_lt.1 h))
                  have q2:¬(j:Int)<(q:Int):=fun h=>hlt (Int.ofNat_lt.1 h)
                  have HQ:Aside0 (Tells false (j<q∧e6=0)):=⟨fun h=>Bool.noConfusion h,fun h=>absurd h.1 hlt⟩
                  clear hlt
                  go_wp2_with (go_at_call 47;refine(hkp _).mono ?_;rintro e w3 ⟨rfl,hb3⟩;have HT3:=ak (HT.out.below hb3);have HG3:=ak (Kd.R_below HG.out hb3);have HB3:=ak (blk_below HB7.out hb3);have HV3:=ak (Kd.R_below HVF.out hb3);have HS3:=ak (Kd.R_below HGS.out hb3);have HZ3:Aside0 (N7≤w3.heap.size):=⟨Nat.le_trans HNZ.out hb3.size⟩;clear c0 c1 c2 c3 f0 f1 f2 f3;obtain⟨A9,c9,hv9,hc9,hC9⟩:=HT3.out.rs.row;obtain⟨c0,c1,c2,c3,f0,f1,f2,f3⟩:=cells4 hv9;clear hv9 hc9 hC9;clear hb3 hkp)
                  go_meet
                  exact⟨false,rfl,HQ,HT3,HZ3,HB3,HV3,HS3,HG3⟩
                case rest =>
                 clear c0 c1 c2 c3 f0 f1 f2 f3
                 clear HT HG HB7 HVF HGS HNZ hcc
                 obtain⟨bb,rfl,HQ,HT,HNZ,HB7,HVF,HGS,HG⟩:=hcut
                 cases bb with
                 | true =>
                  obtain⟨hlt,h0⟩:=HQ.out.1 rfl
                  subst h0
                  obtain⟨dd,hdd2⟩:∃dd,q-j=dd+1:=⟨q-j-1,by omega⟩
                  have HC:Aside0 (manyS (termD nb fr fa bs d') (q-j) ks2 s6=mnK (termD nb fr fa bs d') (q-(j+1)) ks2 ((termD nb fr fa bs d') s6)):=⟨by rw [hdd2,manyS_succ,show dd=q-(j+1) by omega]⟩
                  have HTd:=ak (HT.out.below (wy:=wc.drew) (below_drew (Below.refl _ _)))
                  have HB7d:Aside0 (wc.drew.heap[b7]? = some (.cells #[.slice A7 f.length c7,vk] 90 (0,0))):=HB7
                  have HVFd:=ak (Kd.R_drew HVF.out)
                  have HGSd:=ak (Kd.R_drew HGS.out)
                  have HGd:=ak (Kd.R_drew HG.out)
                  have hvk:wc.drew.cell? ⟨b7,1,none⟩=some vk:=(blk_cell HB7d.out 1).trans rfl
                  have hcI:=IH.out s6 a6 wc.drew HTd.out.dk.1 HTd.out.rs
                  have hwd:=depw depth hdep
                  have hwd2:=depw2 depth hdep
                  have HBS:Aside0 (N7≤wc.drew.heap.size):=HNZ
                  clear HT HG HB7 HVF HGS HNZ hdd2 HQ hkp
                  go_wp2
                  refine start_ (n:=10) (S:=fun w'=>w'.cell? ⟨b7,1,none⟩=some vk) (ds:=[9]) #[false,false,false,false,false,false,false,false,false,false] (by kernel_rfl) rfl rfl (show wc.drew.cell? ⟨b7,1,none⟩=some vk from hvk) (fun hHeld=>?_)
                  clear hvk
                  generalize wc.drew=wd at *
                  refine pu_ 0 154 ?_
                  refine ta_ 1 155 ?_
                  refine pu_ 2 156 ?_
                  refine pu_ 3 157 ?_
                  refine pu_ 4 158 ?_
                  refine on_ 5 (some 159) fun K hK=>?_
                  refine callP_ Tryz.func50 (by kernel_rfl) rfl #[.pointer (some ⟨p,0,none⟩),.int .i64 ((depth:Int)+1)] (by rfl) rfl rfl (by (try simp only [List.map_toArray,List.map_cons,List.map_nil]);first | done | rfl) ?_
                  refine hcI.mono ?_
                  rintro e w5 ⟨hk5,v,t1,s3,e3,a3,rfl,⟨cs,rfl,hM5⟩,hr5,hg5⟩
                  refine .inl ⟨_,rfl, ?_⟩
                  obtain⟨B3,k3,B4,k4,B5,k5,rfl⟩:=tm_cells hM5
                  have HT5:=ak (HTd.out.call hk5 hr5)
                  have HGT:=ak hg5
                  have HG5:=ak (R_stay HGd.out hk5.2 (fun k hk=>by rw [hk];exact hpb7.out))
                  have HM5:=ak hM5
                  have HS5:Aside0 (wd.heap.size≤w5.heap.size):=⟨hk5.2.1⟩
                  have HB75:=ak (blk_kept HB7d.out hk5.2 (by have:=HLE.out;have:=hpb5.out;omega))
                  have HVF5:=ak (R_stayN HVFd.out hk5.2 (fun k hk=>.inl (by have:=HLE.out;have:=hpb5.out;omega)))
                  have HGS5:=ak (R_stayN HGSd.out hk5.2 (fun k hk=>.inl (by have:=hpb5.out;omega)))
                  clear hr5 hM5 hk5 hg5
                  have hHeld_:=hHeld
                  refine hK.out _ _ ((blk_cell HB75.out 1).trans rfl) (fun hHeld=>?_)
                  clear hK K hHeld_
                  refine no_ 159 ?_
                  refine on_ 6 (some 160) fun K hK=>?_
                  refine event_step (v:=.slice (some ⟨w5.heap.size,0,none⟩) 1 1) (w1:=w5.alloc (.cells #[.int .i64 t1.f0,.int .i64 t1.f1,.string t1.f2,.slice B3 t1.f3.length k3,.slice B4 t1.f4.length k4,.slice B5 t1.f5.length k5] 49)) (by rfl) (by first | (go_simp;done) | (go_simp;rfl)) ?_
                  have hHeld_:=hHeld
                  refine hK.out _ _ (World.cell?_alloc_old_ hHeld) (fun hHeld=>?_)
                  clear hK K hHeld_
                  refine no_ 160 ?_
                  refine on_ 7 (some 161) fun K hK=>?_
                  refine Kd.R_append_step k49 (w0:=w5) N7 (by rfl) (.tmp 155) (.tmp 160) 46 49 (.agg zeroTm) 104 rfl Tryz.underlying46 tm_info rfl (by decide) (by omega) vk ks2 t1 [.int .i64 t1.f0,.int .i64 t1.f1,.string t1.f2,.slice B3 t1.f3.length k3,.slice B4 t1.f4.length k4,.slice B5 t1.f5.length k5] (fun _=>True) (fun k=>wd.heap.size≤k) rfl rfl (M_from HM5.out HBS.out) (fun k hk=>⟨trivial,fun h9=>by have:=Kd.R_lt HGd.out k h9.symm;omega⟩) (fun _ _=>trivial) HG5.out (Below.refl _ _) (Nat.le_trans HBS.out HS5.out) (by omega) ?_
                  intro v1 w6 ho hb6 hg hat
                  have hak:=app_keep hg (Kd.R_base HG5.out)
                  have hb6':=below_up HT5.out.dk.1 hb6 hw0b7.out
                  have hr6:=HT5.out.rs.kept hak (by have:=hpb7.out;omega)
                  have HT6:=ak (HT5.out.move (hak.mono (fun k h=>.inr (by have:=HLE.out;omega))) hb6' hr6)
                  have HB76:=ak (blk_kept HB75.out hak (by have:=HLE.out;omega))
                  have HVF6:=ak (R_stayN HVF5.out hak (fun k hk=>.inr (by have:=HLE.out;omega)))
                  have HGS6:=ak (R_stayN HGS5.out hak (fun k hk=>.inr (by have:=HLE.out;omega)))
                  have HNZ6:Aside0 (N7≤w6.heap.size):=⟨Nat.le_trans (Nat.le_trans HBS.out HS5.out) hak.1⟩
                  obtain⟨A6,n6,c6,rfl⟩:=slice3 ho
                  have HO6:=ak ho
                  clear ho hb6 hg hat hb6' hr6
                  have hHeld_:=hHeld
                  refine hK.out _ _ ((blk_cell HB76.out 1).trans rfl) (fun hHeld=>?_)
                  clear hK K hHeld_
                  refine no_ 161 ?_
                  refine pu_ 8 162 ?_
                  refine last_ (i:=9) (N:=none) #[true,true,true,true,true,true,true,true,true,true] rfl rfl (by kernel_rfl) (by decide) (fun K hK=>?_)
                  obtain⟨d0,d1,g0,g1⟩:=cells2 HB76.out
                  refine skip_ (w1:=w6.setCell ⟨b7,1,none⟩ (.slice A6 n6 c6)) (by rfl) rfl (by go_simp) ?_
                  refine hK.out _ _ ?_
                  clear hK K
                  refine done_ (by kernel_rfl) ?_
                  have HK7:=ak ((Kept.refl w6 (fun k=>k=b7)).setCell (p:=⟨b7,1,none⟩) (.inl rfl) (.slice A6 n6 c6))
                  have HT7:Aside0 (Dst w0 w (w6.setCell ⟨b7,1,none⟩ (.slice A6 n6 c6)) p bs s3 e3 a3 w.heap.size b6 N5 ⟨k,n,x,r,ks,[]⟩ (.slice A33 r.length c33) (.slice A44 ks.length c44) (.slice none 0 0) (.slice A33 r.length c33) (.slice A44 ks.length c44) (.slice A55 n55 c55)):=⟨HT6.out.move (HK7.out.mono (fun k hk=>.inr (by have:=HLE.out;omega))) (HT6.out.dk.1.setCell (p:=⟨b7,1,none⟩) (by have:=HLE.out;have:=hw0b5.out;show w0.heap.size≤b7;omega) _) (HT6.out.rs.kept HK7.out (by have:=HLE.out;have:=hpb5.out;omega))⟩
                  have HB77:=ak (two_set1 HB76.out (.slice A6 n6 c6))
                  have HVF7:=ak (R_stayN HVF6.out HK7.out (fun k hk=>.inr (by omega)))
                  have HGS7:=ak (R_stayN HGS6.out HK7.out (fun k hk=>.inr (by have:=HLE.out;omega)))
                  have HG7:=ak (R_stay HO6.out HK7.out (fun k hk=>by have:=HLE.out;omega))
                  have HNZ7:Aside0 (N7≤(w6.setCell ⟨b7,1,none⟩ (.slice A6 n6 c6)).heap.size):=⟨by rw [World.size_setCell];exact HNZ6.out⟩
                  have HS7:Aside0 (So (termD nb fr fa bs (d'+1) s) (tailL k n x r ks (brK (rgt fr fa true) bs (termD nb fr fa bs d') q (c-(i2+1)) brs f (manyS (termD nb fr fa bs d') (q-(j+1)) (ks2++[t1]) s3))) a e3 a3):=⟨So.next (F:=fun ρ=>tailL k n x r ks (brK (rgt fr fa true) bs (termD nb fr fa bs d') q (c-(i2+1)) brs f (mnK (termD nb fr fa bs d') (q-(j+1)) ks2 ρ))) (fun _=>rfl) (congrArg (fun ρ=>tailL k n x r ks (brK (rgt fr fa true) bs (termD nb fr fa bs d') q (c-(i2+1)) brs f ρ)) HC.out) HS.out HGT.out⟩
                  clear d0 d1 g0 g1 HT6 HO6 HT5 HG5 HM5 HS5 hHeld hwd hwd2 HB75 HVF5 HGS5 HB76 HVF6 HGS6 HS HC HGT
                  go_wp2
                  go_roundg (gk-1)
                  case measure=>omega
                  case rel=>exact⟨j+1,ks2++[t1],s3,_,e3,a3,rfl,hlt,by omega,⟨by rw [List.length_append,HKL.out];rfl⟩,HS7,HT7,HNZ7,HB77,HVF7,HGS7,HG7⟩
                 | false =>
                  have HQ2:¬(j<q∧e6=0):=fun h=>Bool.noConfusion (HQ.out.2 h)
                  have HS8:Aside0 (So (termD nb fr fa bs (d'+1) s) (tailL k n x r ks (brS (rgt fr fa true) bs (termD nb fr fa bs d') q (c-(i2+1)) (brs++[⟨f,ks2⟩]) s6)) a e6 a6):=⟨So.as HS.out (fun h0=>by rw [show q-j=0 by omega,manyS];rfl)⟩
                  obtain⟨n99,A99,c99,rfl⟩:∃n5 A5 c5,vk=.slice A5 n5 c5:=by obtain⟨A,n,c,e⟩:=slice3 HG.out;exact⟨n,A,c,e⟩
                  obtain⟨d0,d1,d2,d3,d4,d5,g0,g1,g2,g3,g4,g5⟩:=cells6 HT.out.c6
                  obtain⟨d6,d7,g6,g7⟩:=cells2 HB7.out
                  have HE0:Aside0 (k90.M wc N5 (fun k=>B1≤k) (⟨f,ks2⟩:Br) [.slice A7 f.length c7,.slice A99 n99 c99]):=⟨k90_mkM wc N5 _ ⟨f,ks2⟩ (R_from HVF.out HLE.out.1) (Kd.R_mono (R_from HG.out (by have:=HLE.out;omega)) (fun k hk=>by have:=HLE.out;omega))⟩
                  have HOK:Aside0 (∀k,B1≤k→True∧some k≠Value.ownBlock (.slice A55 n55 c55)):=⟨fun k hk=>⟨trivial,fun h9=>by have:=HGS.out.1 k h9.symm;omega⟩⟩
                  have HGT:=ak (Kd.R_mono HGS.out (ok':=fun _=>True) (fun _ _=>trivial))
                  clear HQ HQ2 HS hkp
                  go_wp2_with (at_builtin;refine Kd.R_append k90 (w0:=wc) N5 rfl (.tmp 164) (.tmp 166) 47 90 (.agg #[.slice none 0 0,.slice none 0 0]) 48 rfl Tryz.underlying47 br_info rfl (by decide) (by omega) (.slice A55 n55 c55) brs ⟨f,ks2⟩ [.slice A7 f.length c7,.slice A99 n99 c99] (fun _=>True) (fun k=>B1≤k) rfl rfl HE0.out HOK.out (fun _ _=>trivial) HGT.out (Below.refl _ _) HT.out.o5 (by omega) ?_;intro v1 wA ho hb1 hg hat;obtain⟨A6,n6,c6,rfl⟩:=slice3 ho;have hak:=app_keep hg (Kd.R_base HGT.out);have HTA:=ak (HT.out.move (hak.mono (fun k h=>.inr h)) (below_up HT.out.dk.1 hb1 hw0b5.out) (HT.out.rs.kept hak (by have:=hpb5.out;omega)));have HOA:=ak ho;clear d0 d1 d2 d3 d4 d5 g0 g1 g2 g3 g4 g5 d6 d7 g6 g7;obtain⟨d0,d1,d2,d3,d4,d5,g0,g1,g2,g3,g4,g5⟩:=cells6 HTA.out.c6;clear ho hb1 hg hat hak)
                  have HKB:=ak ((Kept.refl wA (fun k=>k=b6)).setCell (p:=⟨b6,5,none⟩) (.inl rfl) (.slice A6 n6 c6))
                  have HTB:Aside0 (Dst w0 w (wA.setCell ⟨b6,5,none⟩ (.slice A6 n6 c6)) p bs s6 e6 a6 w.heap.size b6 N5 ⟨k,n,x,r,ks,[]⟩ (.slice A33 r.length c33) (.slice A44 ks.length c44) (.slice none 0 0) (.slice A33 r.length c33) (.slice A44 ks.length c44) (.slice A6 n6 c6)):=⟨HTA.out.put 5 _ rfl (R_set6 HTA.out.r3 5 _) (R_set6 HTA.out.r4 5 _) (Kd.R_nil _ _ _ _ _) (Nat.le_refl _) HTA.out.o5⟩
                  have HGB:=ak (R_stay HOA.out HKB.out (fun k hk=>by have:=HBN5.out;omega))
                  go_roundg (gp-1)
                  case measure=>omega
                  case rel=>exact⟨i2+1,brs++[⟨f,ks2⟩],s6,_,e6,a6,rfl,hlt2,by omega,⟨by rw [List.length_append,HBL.out];rfl⟩,⟨fun _=>hcl⟩,HS8,HTB,HGB⟩
              | false =>
               have HQ2:¬(i2<c∧e4=0):=fun h=>Bool.noConfusion (HQ.out.2 h)
               have HGo:Aside0 (Got (termD nb fr fa bs (d'+1) s) a (⟨k,n,x,r,ks,brs⟩:Tm) s4 e4 a4):=⟨So.out (So.as HS.out (fun h0=>by rw [show c-i2=0 by omega,brS];rfl))⟩
               clear HQ HQ2 HS
               obtain⟨d0,d1,d2,d3,d4,d5,g0,g1,g2,g3,g4,g5⟩:=cells6 HT.out.c6
               obtain⟨b0,b1,b2,b3,b4,b5,k0,k1,k2,k3,k4,k5⟩:=cells6 HT.out.c4
               go_wp2
               refine bodyPost_ret (v:=.agg #[.int .i64 k,.int .i64 n,.string x,(.slice A33 r.length c33),(.slice A44 ks.length c44),(.slice A55 n55 c55)]) (rtm_out (HT.out.fin (.int .i64 k) (.int .i64 n) (.string x) (.slice A33 r.length c33) (.slice A44 ks.length c44) (.slice A55 n55 c55)).1) rfl ?_
               exact HT.out.done (t:=⟨k,n,x,r,ks,brs⟩) rfl HT.out.r4 (Nat.lt_succ_self _) HG.out HBN5.out HGo.out
 ·have HE:Aside0 (termD nb fr fa bs d s=.error ((s:Int),61)):=⟨by rw [termD];cases d<;>rw [termS,if_neg hs]⟩
  have d1:decide ((bs.length:Int)≤(s:Int))=true:=decide_eq_true (by omega)
  have e1:bs.length≤s:=by omega
  clear hr hb hv hv0 hc hC0 RP hT ih HV0
  go_enter Tryz.func50,Tryz.ntmps50
  go_wp2_with (go_at_call 35;refine(R_bad0 w0 p bs s _ _ _ _ HK0.out.1 HR0.out).mono ?_;rintro e w3 ⟨rfl,hr3,hk3⟩;have HN3:=ak (blk_kept HN0.out hk3.2 (by have:=hpw.out;omega));have HR3:=ak hr3;have HK3:=ak (HK0.out.trans hk3);clear hr3 hk3;obtain⟨b0,b1,b2,b3,b4,b5,g0,g1,g2,g3,g4,g5⟩:=cells6 HN3.out)
  refine bodyPost_ret (v:=.agg zeroTm) (rtm_out (six_fin HN3.out (.int .i64 0) (.int .i64 0) (.string ⟨#[]⟩) (.slice none 0 0) (.slice none 0 0) (.slice none 0 0)).1) rfl ?_
  exact dterm_zero HN3.out HK3.out HR3.out hpw.out (by decide) HE.out
theorem R_term{PN:ByteArray→Prop}{PF:List Cl→Prop}{nb:ByteArray→Bool}{fr fa:List Cl→Bool}(RP:ReadD PN PF nb fr fa)(w0:World)(p:Nat)(bs:List Int)(hT:Tab w0):∀(d depth:Nat),depth+d=201 →
  ∀(s:Nat) (a:Int) (w:World),Below w0.heap.size w0 w→DSt w0 w p bs s 0 a →
  Calls Tryz.prog 50 #[.pointer (some ⟨p,0,none⟩),.int .i64 (depth:Int)] w (DAny w0 w p bs a (tmV w.heap.size) (termD nb fr fa bs d s)):=by
 intro d
 induction d with
 | zero=>exact fun depth hd s a w hb hr=>R_term0 RP w0 p bs hT 0 depth hd (fun d' h=>absurd h (by omega)) s a w hb hr
 | succ d ih =>
  intro depth hd s a w hb hr
  refine R_term0 RP w0 p bs hT (d+1) depth hd (fun d' h=>?_) s a w hb hr
  obtain rfl:d=d':=by omega
  intro s2 a2 w2 hb2 hr2
  have:=ih (depth+1) (by omega) s2 a2 w2 hb2 hr2
  rwa [Int.natCast_add] at this
theorem dwhole_out{w:World}{b:Nat}{y0 y1 y2 y3 y4 y5 x0 x1:Value}{ts:List Value}(h:w.heap[b]? = some (.cells #[y0,y1,y2,y3,y4,y5] 49 (0,0))) :
  (results Tryz.f36 ⟨x0 :: x1 :: .pointer (some ⟨b,0,none⟩) :: ts⟩).run Tryz.prog w=.ok (.agg #[y0,y1,y2,y3,y4,y5]) w:=by
 obtain⟨c0,c1,c2,c3,c4,c5,_⟩:=cells6 h
 simp [results,Tryz.results36,go_sem,c0,c1,c2,c3,c4,c5]
def DZ(w0 w:World)(p:Nat)(bs:List Int)(Z:Tm→Nat→Int→Int→Prop)(e:Ending)(w':World):Prop :=
 DK w0 w w' p∧∃(v:Value) (t:Tm) (s:Nat) (c a:Int),e=.returned v∧tmV w.heap.size t w' v∧DSt w0 w' p bs s c a∧Z t s c a
set_option maxHeartbeats 1000000 in
theorem R_termE(w0:World)(p:Nat)(bs:List Int)(s:Nat)(e a:Int)(w:World)(he:e≠0)(hb:Below w0.heap.size w0 w)(hr:DSt w0 w p bs s e a) :
  Calls Tryz.prog 50 #[.pointer (some ⟨p,0,none⟩),.int .i64 1] w (DZ w0 w p bs (fun t s1 e1 a1=>e1=e∧a1=a)):=by
 obtain⟨A,c,hv,hc,hC0⟩:=hr.row
 have hv0:=blk_alloc hv (.cells zeroTm 49)
 obtain⟨c0,c1,c2,c3,f0,f1,f2,f3⟩:=cells4 hv0
 have hpw:Aside0 (p<w.heap.size):=⟨hr.lt⟩
 have HR0:=ak (hr.below (below_alloc (Below.refl _ _) (.cells zeroTm 49)))
 have HK0:Aside0 (DK w0 w (w.alloc (.cells zeroTm 49)) p):=⟨below_alloc hb _,(Kept.refl w (fun k=>k=p)).alloc _⟩
 have HN0:=ak (blk_new w (.cells zeroTm 49))
 have q1:(e != 0)=true:=bne_iff_ne.2 he
 clear hr hb hv hv0 hc hC0 he
 go_enter Tryz.func50,Tryz.ntmps50
 go_wp2
 refine bodyPost_ret (v:=.agg zeroTm) (rtm_out HN0.out) rfl ?_
 exact⟨HK0.out,_,tm0,s,e,a,rfl,⟨_,rfl,k49_mkM _ _ _ tm0 (Kd.R_nil _ _ _ _ _) (Kd.R_nil _ _ _ _ _) (Kd.R_nil _ _ _ _ _)⟩,HR0.out,rfl,rfl⟩
theorem dwhole_fin{w0 w wx:World}{p s B:Nat}{bs:List Int}{c a:Int}{t:Tm}{A3 A4 A5:Option Addr}{k3 k4 k5:Nat}{Z:Tm→Nat→Int→Int→Prop}(hn:wx.heap[w.heap.size]? = some (.cells zeroTm 49 (0,0)))(hk:DK w0 w wx p)(hr:DSt w0 wx p bs s c a)(hpw:p<w.heap.size)(hM:k49.M wx B (fun _=>True) t [.int .i64 t.f0,.int .i64 t.f1,.string t.f2,.slice A3 t.f3.length k3,.slice A4 t.f4.length k4,.slice A5 t.f5.length k5])(hB:w.heap.size<B)(g:Z t s c a) :
  DZ w0 w p bs Z (.returned (.agg #[.int .i64 t.f0,.int .i64 t.f1,.string t.f2,.slice A3 t.f3.length k3,.slice A4 t.f4.length k4,.slice A5 t.f5.length k5])) ((((((wx.setCell ⟨w.heap.size,0,none⟩ (.int .i64 t.f0)).setCell ⟨w.heap.size,1,none⟩ (.int .i64 t.f1)).setCell ⟨w.heap.size,2,none⟩ (.string t.f2)).setCell ⟨w.heap.size,3,none⟩ (.slice A3 t.f3.length k3)).setCell ⟨w.heap.size,4,none⟩ (.slice A4 t.f4.length k4)).setCell ⟨w.heap.size,5,none⟩ (.slice A5 t.f5.length k5)):=by
 obtain⟨F1,F2,F3⟩:=six_fin hn (.int .i64 t.f0) (.int .i64 t.f1) (.string t.f2) (.slice A3 t.f3.length k3) (.slice A4 t.f4.length k4) (.slice A5 t.f5.length k5)
 exact⟨⟨F3 w0 hk.1 (by have:=hr.old;omega),hk.2.then_ F2 (fun j hj=>.inr (by omega))⟩,_,t,s,c,a,rfl,⟨_,rfl,k49.M_lower (Nat.le_of_lt hB) (M_stay hM F2 (fun k hk=>by omega))⟩,hr.kept F2 (by omega),g⟩
set_option maxHeartbeats 4000000 in
theorem R_whole0{PT:Tm→Prop}{rt:Tm→Int}
  (HR:∀(t:Tm) (cs:List Value) (w:World),k49.K w t cs→PT t→Calls Tryz.prog 25 #[.agg cs.toArray,.int .i64 0,.int .i64 0] w fun e w'=>e=.returned (.int .i64 (rt t))∧Below w.heap.size w w')
  (w0:World) (p:Nat) (bs:List Int) (s:Nat) (e a:Int) (w:World) (hb:Below w0.heap.size w0 w) (hr:DSt w0 w p bs s e a) (Z Z2:Tm→Nat→Int→Int→Prop)
  (hct:Calls Tryz.prog 50 #[.pointer (some ⟨p,0,none⟩),.int .i64 1] (w.alloc (.cells zeroTm 49)) (DZ w0 (w.alloc (.cells zeroTm 49)) p bs Z))
  (h1:∀t s1 e1 a1,Z t s1 e1 a1→e1≠0→Z2 t s1 e1 a1) (h2:∀t s1 a1,Z t s1 0 a1→PT t∧(rt t=0→Z2 t s1 0 a1)∧(rt t≠0→Z2 t s1 61 (s:Int))) :
  Calls Tryz.prog 36 #[.pointer (some ⟨p,0,none⟩)] w (DZ w0 w p bs Z2):=by
 obtain⟨A,c,hv,hc,hC0⟩:=hr.row
 have hv0:=blk_alloc hv (.cells zeroTm 49)
 obtain⟨c0,c1,c2,c3,f0,f1,f2,f3⟩:=cells4 hv0
 have hpw:Aside0 (p<w.heap.size):=⟨hr.lt⟩
 have HK0:Aside0 (DK w0 w (w.alloc (.cells zeroTm 49)) p):=⟨below_alloc hb _,(Kept.refl w (fun k=>k=p)).alloc _⟩
 have HN0:=ak (blk_new w (.cells zeroTm 49))
 have H1:=ak h1
 have H2:=ak h2
 have HRR:=ak HR
 clear hr hb hv hv0 hc hC0 HR h1 h2
 go_enter Tryz.func36,Tryz.ntmps36
 go_upto_region 3 with(go_at_call 50;refine hct.mono ?_;rintro e_ w1 ⟨hk1,v,t,s1,e1,a1,rfl,⟨cs,rfl,hM⟩,hr1,hz⟩;obtain⟨A3,k3,A4,k4,A5,k5,rfl⟩:=tm_cells hM;have HM:=ak (Kd.M_below hM (below_alloc (Below.refl _ _) (.cells #[.int .i64 t.f0,.int .i64 t.f1,.string t.f2,.slice A3 t.f3.length k3,.slice A4 t.f4.length k4,.slice A5 t.f5.length k5] 49)));have HK1:Aside0 (DK w0 w (w1.alloc (.cells #[.int .i64 t.f0,.int .i64 t.f1,.string t.f2,.slice A3 t.f3.length k3,.slice A4 t.f4.length k4,.slice A5 t.f5.length k5] 49)) p):=⟨below_alloc hk1.1 _,(HK0.out.2.then_ hk1.2 (fun _ h=>.inl h)).alloc _⟩;have HR1:=ak (hr1.below (below_alloc (Below.refl _ _) (.cells #[.int .i64 t.f0,.int .i64 t.f1,.string t.f2,.slice A3 t.f3.length k3,.slice A4 t.f4.length k4,.slice A5 t.f5.length k5] 49)));have HN1:=ak (blk_alloc (blk_kept HN0.out hk1.2 (by have:=hpw.out;omega)) (.cells #[.int .i64 t.f0,.int .i64 t.f1,.string t.f2,.slice A3 t.f3.length k3,.slice A4 t.f4.length k4,.slice A5 t.f5.length k5] 49));have HT1:=ak (blk_new w1 (.cells #[.int .i64 t.f0,.int .i64 t.f1,.string t.f2,.slice A3 t.f3.length k3,.slice A4 t.f4.length k4,.slice A5 t.f5.length k5] 49));have HS1:Aside0 (w.heap.size<w1.heap.size):=⟨by have:=hk1.2.1;simp at this;omega⟩;have HZ:=ak hz;clear c0 c1 c2 c3 f0 f1 f2 f3 hk1 hr1 hM hz hct;obtain⟨A9,c9,hv9,hc9,hC9⟩:=HR1.out.row;obtain⟨c0,c1,c2,c3,f0,f1,f2,f3⟩:=cells4 hv9;clear hv9 hc9 hC9;obtain⟨d0,d1,d2,d3,d4,d5,_⟩:=cells6 HT1.out)
 by_cases h0:e1=0
 ·have q1:(e1==0)=true:=beq_iff_eq.2 h0
  have HZ2:=ak (H2.out t s1 a1 (by have:=HZ.out;rwa [h0] at this))
  have hcR:=HRR.out t _ (w1.alloc (.cells #[.int .i64 t.f0,.int .i64 t.f1,.string t.f2,.slice A3 t.f3.length k3,.slice A4 t.f4.length k4,.slice A5 t.f5.length k5] 49)) (k49.K_of_M HM.out) HZ2.out.1
  by_cases hz:rt t=0
  ·have q2:(rt t != 0)=false:=by simp [hz]
   have HG:=ak (HZ2.out.2.1 hz)
   have HE:=ak h0
   clear h0 hz HZ2
   go_wp2_with (go_at_call 25;refine hcR.mono ?_;rintro e_ w2 ⟨rfl,hb2⟩;have HM2:=ak (Kd.M_below HM.out hb2);have HK2:=ak (HK1.out.below hb2);have HR2:=ak (HR1.out.below hb2);have HN2:=ak (blk_below HN1.out hb2);have HT2:=ak (blk_below HT1.out hb2);clear d0 d1 d2 d3 d4 d5;obtain⟨d0,d1,d2,d3,d4,d5,_⟩:=cells6 HT2.out;obtain⟨b0,b1,b2,b3,b4,b5,g0,g1,g2,g3,g4,g5⟩:=cells6 HN2.out;clear hb2 hcR)
   refine bodyPost_ret (v:=.agg #[.int .i64 t.f0,.int .i64 t.f1,.string t.f2,.slice A3 t.f3.length k3,.slice A4 t.f4.length k4,.slice A5 t.f5.length k5]) (dwhole_out (six_fin HN2.out (.int .i64 t.f0) (.int .i64 t.f1) (.string t.f2) (.slice A3 t.f3.length k3) (.slice A4 t.f4.length k4) (.slice A5 t.f5.length k5)).1) rfl ?_
   exact dwhole_fin HN2.out HK2.out HR2.out hpw.out HM2.out (by rw [World.size_alloc];exact Nat.lt_succ_self _) (by rw [HE.out];exact HG.out)
  ·have q2:(rt t != 0)=true:=by simp [hz]
   have HG:=ak (HZ2.out.2.2 hz)
   subst h0
   clear hz HZ2
   go_wp2_with (first | (go_at_call 25;refine hcR.mono ?_;rintro e_ w2 ⟨rfl,hb2⟩;have HM2:=ak (Kd.M_below HM.out hb2);have HK2:=ak (HK1.out.below hb2);have HR2:=ak (HR1.out.below hb2);have HN2:=ak (blk_below HN1.out hb2);have HT2:=ak (blk_below HT1.out hb2);clear d0 d1 d2 d3 d4 d5 hb2 hcR) | (go_at_call 35;refine(R_bad0 w0 p bs s1 _ _ _ _ HK2.out.1 HR2.out).mono ?_;rintro e_ w3 ⟨rfl,hr3,hk3⟩;have HM3:=ak (M_stay HM2.out hk3.2 (fun k hk=>by rw [hk,World.size_alloc];have:=hpw.out;omega));have HN3:=ak (blk_kept HN2.out hk3.2 (by have:=hpw.out;omega));have HT3:=ak (blk_kept HT2.out hk3.2 (by have:=hpw.out;have:=HS1.out;omega));have HR3:=ak hr3;have HK3:=ak (HK2.out.trans hk3);obtain⟨d0,d1,d2,d3,d4,d5,_⟩:=cells6 HT3.out;obtain⟨b0,b1,b2,b3,b4,b5,g0,g1,g2,g3,g4,g5⟩:=cells6 HN3.out;clear hr3 hk3))
   refine bodyPost_ret (v:=.agg #[.int .i64 t.f0,.int .i64 t.f1,.string t.f2,.slice A3 t.f3.length k3,.slice A4 t.f4.length k4,.slice A5 t.f5.length k5]) (dwhole_out (six_fin HN3.out (.int .i64 t.f0) (.int .i64 t.f1) (.string t.f2) (.slice A3 t.f3.length k3) (.slice A4 t.f4.length k4) (.slice A5 t.f5.length k5)).1) rfl ?_
   exact dwhole_fin HN3.out HK3.out HR3.out hpw.out HM3.out (by rw [World.size_alloc];exact Nat.lt_succ_self _) HG.out
 ·have q1:(e1==0)=false:=beq_eq_false_iff_ne.2 h0
  have HG:=ak (H1.out t s1 e1 a1 HZ.out h0)
  obtain⟨b0,b1,b2,b3,b4,b5,g0,g1,g2,g3,g4,g5⟩:=cells6 HN1.out
  clear h0
  go_wp2
  refine bodyPost_ret (v:=.agg #[.int .i64 t.f0,.int .i64 t.f1,.string t.f2,.slice A3 t.f3.length k3,.slice A4 t.f4.length k4,.slice A5 t.f5.length k5]) (dwhole_out (six_fin HN1.out (.int .i64 t.f0) (.int .i64 t.f1) (.string t.f2) (.slice A3 t.f3.length k3) (.slice A4 t.f4.length k4) (.slice A5 t.f5.length k5)).1) rfl ?_
  exact dwhole_fin HN1.out HK1.out HR1.out hpw.out HM.out (by rw [World.size_alloc];exact Nat.lt_succ_self _) HG.out
def wholeD(nb:ByteArray→Bool)(fr fa:List Cl→Bool)(rt:Tm→Int)(bs:List Int)(s:Nat):Except (Int×Int) (Tm×Nat):=wholeS nb (rgt fr fa false) (rgt fr fa true) rt bs s
theorem R_whole{PN:ByteArray→Prop}{PF:List Cl→Prop}{PT:Tm→Prop}{nb:ByteArray→Bool}{fr fa:List Cl→Bool}{rt:Tm→Int}(RP:ReadD PN PF nb fr fa)
  (HR:∀(t:Tm) (cs:List Value) (w:World),k49.K w t cs→PT t→Calls Tryz.prog 25 #[.agg cs.toArray,.int .i64 0,.int .i64 0] w fun e w'=>e=.returned (.int .i64 (rt t))∧Below w.heap.size w w')
  (w0:World) (p:Nat) (bs:List Int) (hT:Tab w0) (hpt:∀(s:Nat) (t:Tm) (s1:Nat),termD nb fr fa bs 200 s=.ok (t,s1)→PT t) (s:Nat) (a:Int) (w:World) (hb:Below w0.heap.size w0 w) (hr:DSt w0 w p bs s 0 a) :
  Calls Tryz.prog 36 #[.pointer (some ⟨p,0,none⟩)] w (DZ w0 w p bs (fun t s1 e1 a1=>Got (wholeD nb fr fa rt bs s) a t s1 e1 a1)):=by
 refine R_whole0 HR w0 p bs s 0 a w hb hr (fun t s1 e1 a1=>Got (termD nb fr fa bs 200 s) a t s1 e1 a1) _ (R_term RP w0 p bs hT 200 1 rfl s a _ (below_alloc hb _) (hr.below (below_alloc (Below.refl _ _) _))) (fun t s1 e1 a1 h h0=>?_) (fun t s1 a1 h=>?_)
 ·rcases h with h | ⟨_,h⟩
  ·exact absurd h.1 h0
  ·exact .inr ⟨h0,by rw [wholeD,wholeS,show termS nb (rgt fr fa false) (rgt fr fa true) bs 200 s=_ from h]⟩
 ·rcases h with⟨_,ha,h⟩ | h
  ·have hw:wholeD nb fr fa rt bs s=if rt t=0 then .ok (t,s1) else .error ((s:Int),61):=by rw [wholeD,wholeS,show termS nb (rgt fr fa false) (rgt fr fa true) bs 200 s=_ from h]
   exact⟨hpt s t s1 h,fun h0=>.inl ⟨rfl,ha,hw.trans (if_pos h0)⟩,fun h0=>.inr ⟨by decide,hw.trans (if_neg h0)⟩⟩
  ·exact absurd rfl h.1
theorem R_wholeE{PT:Tm→Prop}{rt:Tm→Int}
  (HR:∀(t:Tm) (cs:List Value) (w:World),k49.K w t cs→PT t→Calls Tryz.prog 25 #[.agg cs.toArray,.int .i64 0,.int .i64 0] w fun e w'=>e=.returned (.int .i64 (rt t))∧Below w.heap.size w w')
  (w0:World) (p:Nat) (bs:List Int) (s:Nat) (e a:Int) (he:e≠0) (w:World) (hb:Below w0.heap.size w0 w) (hr:DSt w0 w p bs s e a) :
  Calls Tryz.prog 36 #[.pointer (some ⟨p,0,none⟩)] w (DZ w0 w p bs (fun t s1 e1 a1=>e1=e∧a1=a)) :=
 R_whole0 HR w0 p bs s e a w hb hr (fun t s1 e1 a1=>e1=e∧a1=a) _ (R_termE w0 p bs s e a _ he (below_alloc hb _) (hr.below (below_alloc (Below.refl _ _) _))) (fun t s1 e1 a1 h _=>h) (fun t s1 a1 h=>absurd h.1.symm he)
def Res3(w:World)(g:Nat)(v:Value)(at_ e:Int):Prop :=
 w.heap[g]? = some (.cells #[v] 29 (0,0))∧w.heap[g+1]? = some (.cells #[.int .i64 at_] 3 (0,0))∧w.heap[g+2]? = some (.cells #[.int .i64 e] 26 (0,0))
theorem Res3.kept{w w1:World}{g:Nat}{v:Value}{at_ e:Int}{S:Nat→Prop}(h:Res3 w g v at_ e)(hk:Kept w w1 S)(hS:¬S g∧¬S (g+1)∧¬S (g+2)):Res3 w1 g v at_ e :=
 ⟨blk_kept h.1 hk hS.1,blk_kept h.2.1 hk hS.2.1,blk_kept h.2.2 hk hS.2.2⟩
theorem Res3.below{w w1:World}{g:Nat}{v:Value}{at_ e:Int}(h:Res3 w g v at_ e)(hb:Below w.heap.size w w1):Res3 w1 g v at_ e:=h.kept (Kept.of_below hb (fun _=>False)) ⟨id,id,id⟩
theorem blk_set{w:World}{k p j:Nat}{o:Obj}(h:w.heap[k]? = some o)(hk:k≠p)(u:Value):(w.setCell ⟨p,j,none⟩ u).heap[k]? = some o:=(Below.heap_setCell w ⟨p,j,none⟩ u k hk).trans h
theorem Res3.set0{w:World}{g:Nat}{v:Value}{at_ e:Int}(h:Res3 w g v at_ e)(u:Value):Res3 (w.setCell ⟨g,0,none⟩ u) g u at_ e:=⟨one_setCell h.1,blk_set h.2.1 (by omega) u,blk_set h.2.2 (by omega) u⟩
theorem Res3.set1{w:World}{g:Nat}{v:Value}{at_ e:Int}(h:Res3 w g v at_ e)(a:Int):Res3 (w.setCell ⟨g+1,0,none⟩ (.int .i64 a)) g v a e:=⟨blk_set h.1 (by omega) _,one_setCell h.2.1,blk_set h.2.2 (by omega) _⟩
theorem Res3.set2{w:World}{g:Nat}{v:Value}{at_ e:Int}(h:Res3 w g v at_ e)(c:Int):Res3 (w.setCell ⟨g+2,0,none⟩ (.int .i64 c)) g v at_ c:=⟨blk_set h.1 (by omega) _,blk_set h.2.1 (by omega) _,one_setCell h.2.2⟩
theorem assert_yes(W:World)(v:Value):(Instr.typeAssert (.iface 69 v) 20 69 true).run Tryz.prog W=.ok (.tuple #[v,.bool true]) W:=by kernel_rfl
set_option maxHeartbeats 1000000 in
theorem decode_idle(g:Nat)(w:World) :
  CallsD Tryz.prog 28 #[.pointer (some ⟨g,0,none⟩),.pointer (some ⟨g+1,0,none⟩),.pointer (some ⟨g+2,0,none⟩)] .returning w fun e u' w'=>e=.returned (.tuple #[])∧u'=.returning∧w'=w:=by
 refine callsD_of_wpS Tryz.func28 rfl fun c₀ cs hu=>?_
 rw [show(#[Value.pointer (some ⟨g,0,none⟩),Value.pointer (some ⟨g+1,0,none⟩),Value.pointer (some ⟨g+2,0,none⟩)]++Array.replicate (Tryz.f28.ntmps-(#[Value.pointer (some ⟨g,0,none⟩),Value.pointer (some ⟨g+1,0,none⟩),Value.pointer (some ⟨g+2,0,none⟩)]:Array Value).size) undef:Array Value)=#[.pointer (some ⟨g,0,none⟩),.pointer (some ⟨g+1,0,none⟩),.pointer (some ⟨g+2,0,none⟩),undef,undef,undef,undef,undef,undef,undef,undef,undef,undef,undef,undef,undef,undef,undef,undef] by rw [Tryz.ntmps28];rfl]
 apply wpS_seq
 apply wpS_region
 simp [wpOpsS,go_sem,recoverD,hu,Tryz.ntmps28,Exit.thenS]
 refine wpS_of_wp ?_
 go_wp2
 cases c₀
 simp_all [bodyPostS,results,Tryz.results28]
set_option maxHeartbeats 1000000 in
theorem decode_catch(g:Nat)(v:Value)(a0 e0 at_ c:Int)(w:World)(h:Res3 w g v a0 e0) :
  CallsD Tryz.prog 28 #[.pointer (some ⟨g,0,none⟩),.pointer (some ⟨g+1,0,none⟩),.pointer (some ⟨g+2,0,none⟩)] (.panicking [{ v:=.iface 69 (.agg #[.int .i64 at_,.int .i64 c]),recovered:=false }]) w fun e u' w' =>
   e=.returned (.tuple #[])∧u'=.panicking [{ v:=.iface 69 (.agg #[.int .i64 at_,.int .i64 c]),recovered:=true }]∧Res3 w' g (.slice none 0 0) at_ c∧Kept w w' (fun k=>g≤k∧k≤g+2)∧Below g w w':=by
 have hc0:=cell_of_one h.1
 have hc1:=cell_of_one h.2.1
 have hc2:=cell_of_one h.2.2
 have hf0:=free_of_one h.1
 have hf1:=free_of_one h.2.1
 have hf2:=free_of_one h.2.2
 have HR:=ak h
 clear h
 have hta:=assert_yes
 refine callsD_of_wpS Tryz.func28 rfl fun c₀ cs hu=>?_
 rw [show(#[Value.pointer (some ⟨g,0,none⟩),Value.pointer (some ⟨g+1,0,none⟩),Value.pointer (some ⟨g+2,0,none⟩)]++Array.replicate (Tryz.f28.ntmps-(#[Value.pointer (some ⟨g,0,none⟩),Value.pointer (some ⟨g+1,0,none⟩),Value.pointer (some ⟨g+2,0,none⟩)]:Array Value).size) undef:Array Value)=#[.pointer (some ⟨g,0,none⟩),.pointer (some ⟨g+1,0,none⟩),.pointer (some ⟨g+2,0,none⟩),undef,undef,undef,undef,undef,undef,undef,undef,undef,undef,undef,undef,undef,undef,undef,undef] by rw [Tryz.ntmps28];rfl]
 apply wpS_seq
 apply wpS_region
 simp [wpOpsS,go_sem,recoverD,hu,Tryz.ntmps28,Exit.thenS]
 refine wpS_of_wp ?_
 go_wp2
 have hR1:=(((HR.out.set0 (.slice none 0 0)).set1 0).set2 61).below (below_alloc (Below.refl _ _) (.cells #[.int .i64 at_,.int .i64 c] 69))
 have hK1:=((((Kept.refl w (fun k=>g≤k∧k≤g+2)).setCell (p:=⟨g,0,none⟩) (.inl ⟨Nat.le_refl _,Nat.le_add_right _ _⟩) (.slice none 0 0)).setCell (p:=⟨g+1,0,none⟩) (.inl ⟨Nat.le_add_right _ _,Nat.le_succ _⟩) (.int .i64 0)).setCell (p:=⟨g+2,0,none⟩) (.inl ⟨Nat.le_add_right _ _,Nat.le_refl _⟩) (.int .i64 61)).alloc (.cells #[.int .i64 at_,.int .i64 c] 69)
 have hgs:g≤(((w.setCell ⟨g,0,none⟩ (.slice none 0 0)).setCell ⟨g+1,0,none⟩ (.int .i64 0)).setCell ⟨g+2,0,none⟩ (.int .i64 61)).heap.size:=by
  have h0:=blk_lt HR.out.1
  simp only [World.size_setCell]
  omega
 have hL1:=((((Below.refl g w).setCell (p:=⟨g,0,none⟩) (Nat.le_refl _) (.slice none 0 0)).setCell (p:=⟨g+1,0,none⟩) (Nat.le_add_right _ _) (.int .i64 0)).setCell (p:=⟨g+2,0,none⟩) (Nat.le_add_right _ _) (.int .i64 61)).alloc hgs (.cells #[.int .i64 at_,.int .i64 c] 69)
 have hF:=heap_alloc_new (((w.setCell ⟨g,0,none⟩ (.slice none 0 0)).setCell ⟨g+1,0,none⟩ (.int .i64 0)).setCell ⟨g+2,0,none⟩ (.int .i64 61)) (.cells #[.int .i64 at_,.int .i64 c] 69)
 simp only [World.size_setCell] at hF
 have hN:¬(g≤w.heap.size∧w.heap.size≤g+2):=fun e=>by
  have h0:=blk_lt HR.out.1
  have h1:=blk_lt HR.out.2.2
  omega
 clear HR hc0 hc1 hc2 hf0 hf1 hf2
 clear hgs
 revert hR1 hK1 hF hL1
 generalize (((w.setCell ⟨g,0,none⟩ (.slice none 0 0)).setCell ⟨g+1,0,none⟩ (.int .i64 0)).setCell ⟨g+2,0,none⟩ (.int .i64 61)).alloc (.cells #[.int .i64 at_,.int .i64 c] 69)=W
 intro hR1 hK1 hL1 hF
 have HL:=ak hL1
 generalize w.heap.size=q at *
 have hc1:=cell_of_one hR1.2.1
 have hc2:=cell_of_one hR1.2.2
 have hf1:=free_of_one hR1.2.1
 have hf2:=free_of_one hR1.2.2
 have hq0:W.cell? ⟨q,0,none⟩=some (.int .i64 at_):=by simp [World.cell?,hF]
 have hq1:W.cell? ⟨q,1,none⟩=some (.int .i64 c):=by simp [World.cell?,hF]
 have HK:=ak hK1
 have HR:=ak hR1
 have hn1:¬q=g+1:=by omega
 have hn2:¬q=g+2:=by omega
 have hn3:¬g+1=q:=by omega
 have hn4:¬g+2=q:=by omega
 clear hR1 hK1 hF hN hL1
 go_region
 refine⟨rfl,_,rfl,.tuple #[], ?_,rfl,rfl,(((HR.out.set1 at_).set2 c).kept (w1:=(((W.setCell ⟨g+1,0,none⟩ (.int .i64 at_)).setCell ⟨g+2,0,none⟩ (.int .i64 c)).drew)) ((Kept.refl _ (fun _=>False)).drew) ⟨id,id,id⟩),((HK.out.setCell (p:=⟨g+1,0,none⟩) (.inl ⟨Nat.le_add_right _ _,Nat.le_succ _⟩) _).setCell (p:=⟨g+2,0,none⟩) (.inl ⟨Nat.le_add_right _ _,Nat.le_refl _⟩) _).drew,((HL.out.setCell (p:=⟨g+1,0,none⟩) (Nat.le_add_right _ _) _).setCell (p:=⟨g+2,0,none⟩) (Nat.le_add_right _ _) _).drew⟩
 simp [results,Tryz.results28]
theorem blk_puty{w:World}{b ty:Nat}{cs:Array Value}(h:w.heap[b]? = some (.cells cs ty (0,0)))(i:Nat)(u:Value):(w.setCell ⟨b,i,none⟩ u).heap[b]? = some (.cells (cs.setIfInBounds i u) ty (0,0)):=by
 have hlt:=lt_of_block h
 have h':w.heap[b]=.cells cs ty (0,0):=by simpa [Array.getElem?_eq_getElem hlt] using h
 show(w.heap.modify b _)[b]? = _
 rw [Array.getElem?_eq_getElem (by simpa using hlt),Array.getElem_modify_self,h']
 rfl
theorem put_first{wx:World}{b t:Nat}{z0 z1 z2 z3 z4 z5 z6 z7 z8 z9 z10 z11 z12:Value}(h:wx.heap[b]? = some (.cells #[z0,z1,z2,z3,z4,z5,z6,z7,z8,z9,z10,z11,z12] t (0,0)))(y0 y1 y2 y3 y4 y5:Value) :
  ((((((wx.setCell ⟨b,1,none⟩ y0).setCell ⟨b,2,none⟩ y1).setCell ⟨b,3,none⟩ y2).setCell ⟨b,4,none⟩ y3).setCell ⟨b,5,none⟩ y4).setCell ⟨b,6,none⟩ y5).heap[b]? = some (.cells #[z0,y0,y1,y2,y3,y4,y5,z7,z8,z9,z10,z11,z12] t (0,0))∧Kept wx ((((((wx.setCell ⟨b,1,none⟩ y0).setCell ⟨b,2,none⟩ y1).setCell ⟨b,3,none⟩ y2).setCell ⟨b,4,none⟩ y3).setCell ⟨b,5,none⟩ y4).setCell ⟨b,6,none⟩ y5) (fun k=>k=b) ∧
  ∀w0:World,Below w0.heap.size w0 wx→w0.heap.size≤b→Below w0.heap.size w0 ((((((wx.setCell ⟨b,1,none⟩ y0).setCell ⟨b,2,none⟩ y1).setCell ⟨b,3,none⟩ y2).setCell ⟨b,4,none⟩ y3).setCell ⟨b,5,none⟩ y4).setCell ⟨b,6,none⟩ y5) :=
 ⟨by
  have h1:=(blk_puty (blk_puty (blk_puty (blk_puty (blk_puty (blk_puty h 1 y0) 2 y1) 3 y2) 4 y3) 5 y4) 6 y5)
  simp only [List.setIfInBounds_toArray,List.set_cons_zero,List.set_cons_succ] at h1
  exact h1,(((((((Kept.refl wx (fun k=>k=b)).setCell (p:=⟨b,1,none⟩) (.inl rfl) y0).setCell (p:=⟨b,2,none⟩) (.inl rfl) y1).setCell (p:=⟨b,3,none⟩) (.inl rfl) y2).setCell (p:=⟨b,4,none⟩) (.inl rfl) y3).setCell (p:=⟨b,5,none⟩) (.inl rfl) y4).setCell (p:=⟨b,6,none⟩) (.inl rfl) y5),fun w0 hbe hb=>((((((hbe.setCell (p:=⟨b,1,none⟩) hb y0).setCell (p:=⟨b,2,none⟩) hb y1).setCell (p:=⟨b,3,none⟩) hb y2).setCell (p:=⟨b,4,none⟩) hb y3).setCell (p:=⟨b,5,none⟩) hb y4).setCell (p:=⟨b,6,none⟩) hb y5)⟩
theorem put_second{wx:World}{b t:Nat}{z0 z1 z2 z3 z4 z5 z6 z7 z8 z9 z10 z11 z12:Value}(h:wx.heap[b]? = some (.cells #[z0,z1,z2,z3,z4,z5,z6,z7,z8,z9,z10,z11,z12] t (0,0)))(y0 y1 y2 y3 y4 y5:Value) :
  ((((((wx.setCell ⟨b,7,none⟩ y0).setCell ⟨b,8,none⟩ y1).setCell ⟨b,9,none⟩ y2).setCell ⟨b,10,none⟩ y3).setCell ⟨b,11,none⟩ y4).setCell ⟨b,12,none⟩ y5).heap[b]? = some (.cells #[z0,z1,z2,z3,z4,z5,z6,y0,y1,y2,y3,y4,y5] t (0,0))∧Kept wx ((((((wx.setCell ⟨b,7,none⟩ y0).setCell ⟨b,8,none⟩ y1).setCell ⟨b,9,none⟩ y2).setCell ⟨b,10,none⟩ y3).setCell ⟨b,11,none⟩ y4).setCell ⟨b,12,none⟩ y5) (fun k=>k=b) ∧
  ∀w0:World,Below w0.heap.size w0 wx→w0.heap.size≤b→Below w0.heap.size w0 ((((((wx.setCell ⟨b,7,none⟩ y0).setCell ⟨b,8,none⟩ y1).setCell ⟨b,9,none⟩ y2).setCell ⟨b,10,none⟩ y3).setCell ⟨b,11,none⟩ y4).setCell ⟨b,12,none⟩ y5) :=
 ⟨by
  have h1:=(blk_puty (blk_puty (blk_puty (blk_puty (blk_puty (blk_puty h 7 y0) 8 y1) 9 y2) 10 y3) 11 y4) 12 y5)
  simp only [List.setIfInBounds_toArray,List.set_cons_zero,List.set_cons_succ] at h1
  exact h1,(((((((Kept.refl wx (fun k=>k=b)).setCell (p:=⟨b,7,none⟩) (.inl rfl) y0).setCell (p:=⟨b,8,none⟩) (.inl rfl) y1).setCell (p:=⟨b,9,none⟩) (.inl rfl) y2).setCell (p:=⟨b,10,none⟩) (.inl rfl) y3).setCell (p:=⟨b,11,none⟩) (.inl rfl) y4).setCell (p:=⟨b,12,none⟩) (.inl rfl) y5),fun w0 hbe hb=>((((((hbe.setCell (p:=⟨b,7,none⟩) hb y0).setCell (p:=⟨b,8,none⟩) hb y1).setCell (p:=⟨b,9,none⟩) hb y2).setCell (p:=⟨b,10,none⟩) hb y3).setCell (p:=⟨b,11,none⟩) hb y4).setCell (p:=⟨b,12,none⟩) hb y5)⟩
theorem put_all{wx:World}{b t:Nat}{z0 z1 z2 z3 z4 z5 z6 z7 z8 z9 z10 z11 z12:Value}(h:wx.heap[b]? = some (.cells #[z0,z1,z2,z3,z4,z5,z6,z7,z8,z9,z10,z11,z12] t (0,0)))(y0 y1 y2 y3 y4 y5 y6 y7 y8 y9 y10 y11 y12:Value) :
  (((((((((((((wx.setCell ⟨b,0,none⟩ y0).setCell ⟨b,1,none⟩ y1).setCell ⟨b,2,none⟩ y2).setCell ⟨b,3,none⟩ y3).setCell ⟨b,4,none⟩ y4).setCell ⟨b,5,none⟩ y5).setCell ⟨b,6,none⟩ y6).setCell ⟨b,7,none⟩ y7).setCell ⟨b,8,none⟩ y8).setCell ⟨b,9,none⟩ y9).setCell ⟨b,10,none⟩ y10).setCell ⟨b,11,none⟩ y11).setCell ⟨b,12,none⟩ y12).heap[b]? = some (.cells #[y0,y1,y2,y3,y4,y5,y6,y7,y8,y9,y10,y11,y12] t (0,0))∧Kept wx (((((((((((((wx.setCell ⟨b,0,none⟩ y0).setCell ⟨b,1,none⟩ y1).setCell ⟨b,2,none⟩ y2).setCell ⟨b,3,none⟩ y3).setCell ⟨b,4,none⟩ y4).setCell ⟨b,5,none⟩ y5).setCell ⟨b,6,none⟩ y6).setCell ⟨b,7,none⟩ y7).setCell ⟨b,8,none⟩ y8).setCell ⟨b,9,none⟩ y9).setCell ⟨b,10,none⟩ y10).setCell ⟨b,11,none⟩ y11).setCell ⟨b,12,none⟩ y12) (fun k=>k=b) ∧
  ∀w0:World,Below w0.heap.size w0 wx→w0.heap.size≤b→Below w0.heap.size w0 (((((((((((((wx.setCell ⟨b,0,none⟩ y0).setCell ⟨b,1,none⟩ y1).setCell ⟨b,2,none⟩ y2).setCell ⟨b,3,none⟩ y3).setCell ⟨b,4,none⟩ y4).setCell ⟨b,5,none⟩ y5).setCell ⟨b,6,none⟩ y6).setCell ⟨b,7,none⟩ y7).setCell ⟨b,8,none⟩ y8).setCell ⟨b,9,none⟩ y9).setCell ⟨b,10,none⟩ y10).setCell ⟨b,11,none⟩ y11).setCell ⟨b,12,none⟩ y12) :=
 ⟨by
  have h1:=(blk_puty (blk_puty (blk_puty (blk_puty (blk_puty (blk_puty (blk_puty (blk_puty (blk_puty (blk_puty (blk_puty (blk_puty (blk_puty h 0 y0) 1 y1) 2 y2) 3 y3) 4 y4) 5 y5) 6 y6) 7 y7) 8 y8) 9 y9) 10 y10) 11 y11) 12 y12)
  simp only [List.setIfInBounds_toArray,List.set_cons_zero,List.set_cons_succ] at h1
  exact h1,((((((((((((((Kept.refl wx (fun k=>k=b)).setCell (p:=⟨b,0,none⟩) (.inl rfl) y0).setCell (p:=⟨b,1,none⟩) (.inl rfl) y1).setCell (p:=⟨b,2,none⟩) (.inl rfl) y2).setCell (p:=⟨b,3,none⟩) (.inl rfl) y3).setCell (p:=⟨b,4,none⟩) (.inl rfl) y4).setCell (p:=⟨b,5,none⟩) (.inl rfl) y5).setCell (p:=⟨b,6,none⟩) (.inl rfl) y6).setCell (p:=⟨b,7,none⟩) (.inl rfl) y7).setCell (p:=⟨b,8,none⟩) (.inl rfl) y8).setCell (p:=⟨b,9,none⟩) (.inl rfl) y9).setCell (p:=⟨b,10,none⟩) (.inl rfl) y10).setCell (p:=⟨b,11,none⟩) (.inl rfl) y11).setCell (p:=⟨b,12,none⟩) (.inl rfl) y12),fun w0 hbe hb=>(((((((((((((hbe.setCell (p:=⟨b,0,none⟩) hb y0).setCell (p:=⟨b,1,none⟩) hb y1).setCell (p:=⟨b,2,none⟩) hb y2).setCell (p:=⟨b,3,none⟩) hb y3).setCell (p:=⟨b,4,none⟩) hb y4).setCell (p:=⟨b,5,none⟩) hb y5).setCell (p:=⟨b,6,none⟩) hb y6).setCell (p:=⟨b,7,none⟩) hb y7).setCell (p:=⟨b,8,none⟩) hb y8).setCell (p:=⟨b,9,none⟩) hb y9).setCell (p:=⟨b,10,none⟩) hb y10).setCell (p:=⟨b,11,none⟩) hb y11).setCell (p:=⟨b,12,none⟩) hb y12)⟩
theorem MSt.kept{w w1:World}{b:Nat}{seen:List ByteArray}{S:Nat→Prop}(h:MSt w b seen)(hk:Kept w w1 S)(hb:¬S b):MSt w1 b seen:=by
 obtain⟨D,⟨es,clock,hh,r⟩,hD⟩:=h
 exact⟨D,⟨es,clock,blk_kept hh hk hb,r⟩,hD⟩
theorem MSt.upd{w:World}{b:Nat}{seen:List ByteArray}(h:MSt w b seen)(s:ByteArray)(hs:s.size≤2000000)(hl:seen.length≤10000000000) :
  ∃w',(Instr.mapUpdate 74 (.map (some b)) (.string s) (.bool true)).run Tryz.prog w=.ok () w'∧MSt w' b (s :: seen)∧w.grownBy w' (some b):=by
 obtain⟨D,ho,hD⟩:=h
 have hIM:=ho.isMap
 obtain⟨w',hrun,h1,h2⟩:=ho.update (Maps.string_keyed Tryz.underlying9) Tryz.underlying74 (by simp only [maxLen];omega) (WideMaps.keyOf_string_mk (s:=s) Tryz.underlying9 (by simp only [maxLen];omega)) (plainElem_bool Tryz.underlying4 true)
 refine⟨w',hrun,⟨_,h1,fun q=>?_⟩,h2⟩
 by_cases e:q=s
 ·subst e
  rw [Maps.atKey_put_same (k:=.string q.data.toList) hIM trivial,memB_cons,BEq.rfl,Bool.true_or]
 ·have hne:(s.data.toList==q.data.toList)=false:=by
   rw [beq_eq_false_iff_ne]
   exact fun h=>e (WideShapes.bytes_inj h.symm)
  rw [Maps.atKey_put_other (fun h=>e (WideShapes.bytes_inj (Lit.string.inj h))),hD q,memB_cons,hne,Bool.false_or]
def entS(nb:ByteArray→Bool)(fr fa:List Cl→Bool)(rt:Tm→Int)(bs:List Int)(seen:List ByteArray)(s:Nat):Except (Int×Int) (En×Nat) :=
 match textS nb bs s with
 | .error e=>.error e
 | .ok (x,s1)=>if memB x seen=true then .error ((s:Int),61) else match wholeS nb fr fa rt bs s1 with
  | .error e=>.error e
  | .ok (t1,s2)=>match wholeS nb fr fa rt bs s2 with
   | .error e=>.error e
   | .ok (t2,s3)=>.ok (⟨x,t1,t2⟩,s3)
def enV(base:Nat)(x:En)(w:World)(v:Value):Prop:=∃cs:List Value,v=.agg cs.toArray∧k59.M w base (fun _=>True) x cs
def EPost(w0 w:World)(p m:Nat)(bs:List Int)(seen:List ByteArray)(base:Nat)(r:Except (Int×Int) (En×Nat))(e:Ending)(w':World):Prop :=
 Below w0.heap.size w0 w'∧Kept w w' (fun k=>k=p∨k=m)∧match r with
  | .ok (x,s)=>RSt w0 w' p bs s m∧MSt w' m (x.f0 :: seen)∧∃v,e=.returned v∧enV base x w' v
  | .error (a,c)=>e=refuse a c
theorem EPost.no{w0 w w':World}{p m base:Nat}{bs:List Int}{seen:List ByteArray}{r:Except (Int×Int) (En×Nat)}{a c:Int}(hr:r=.error (a,c))(hb:Below w0.heap.size w0 w')(hk:Kept w w' (fun k=>k=p∨k=m)):EPost w0 w p m bs seen base r (refuse a c) w':=by
 subst hr
 exact⟨hb,hk,rfl⟩
theorem EPost.err{w0 w w':World}{p m base:Nat}{bs:List Int}{seen:List ByteArray}{r:Except (Int×Int) (En×Nat)}{y:Int×Int}(hr:r=.error y)(hb:Below w0.heap.size w0 w')(hk:Kept w w' (fun k=>k=p∨k=m)):EPost w0 w p m bs seen base r (refuse y.1 y.2) w':=EPost.no hr hb hk
theorem ent_out{w:World}{b:Nat}{z0 z1 z2 z3 z4 z5 z6 z7 z8 z9 z10 z11 z12 x0 x1:Value}{ts:List Value}(h:w.heap[b]? = some (.cells #[z0,z1,z2,z3,z4,z5,z6,z7,z8,z9,z10,z11,z12] 59 (0,0))) :
  (results Tryz.f32 ⟨x0 :: x1 :: .pointer (some ⟨b,0,none⟩) :: ts⟩).run Tryz.prog w=.ok (.agg #[z0,z1,z2,z3,z4,z5,z6,z7,z8,z9,z10,z11,z12]) w:=by
 have c0:w.cell? ⟨b,0,none⟩=some z0:=(blk_cell h 0).trans rfl
 have c1:w.cell? ⟨b,1,none⟩=some z1:=(blk_cell h 1).trans rfl
 have c2:w.cell? ⟨b,2,none⟩=some z2:=(blk_cell h 2).trans rfl
 have c3:w.cell? ⟨b,3,none⟩=some z3:=(blk_cell h 3).trans rfl
 have c4:w.cell? ⟨b,4,none⟩=some z4:=(blk_cell h 4).trans rfl
 have c5:w.cell? ⟨b,5,none⟩=some z5:=(blk_cell h 5).trans rfl
 have c6:w.cell? ⟨b,6,none⟩=some z6:=(blk_cell h 6).trans rfl
 have c7:w.cell? ⟨b,7,none⟩=some z7:=(blk_cell h 7).trans rfl
 have c8:w.cell? ⟨b,8,none⟩=some z8:=(blk_cell h 8).trans rfl
 have c9:w.cell? ⟨b,9,none⟩=some z9:=(blk_cell h 9).trans rfl
 have c10:w.cell? ⟨b,10,none⟩=some z10:=(blk_cell h 10).trans rfl
 have c11:w.cell? ⟨b,11,none⟩=some z11:=(blk_cell h 11).trans rfl
 have c12:w.cell? ⟨b,12,none⟩=some z12:=(blk_cell h 12).trans rfl
 simp [results,Tryz.results32,go_sem,c0,c1,c2,c3,c4,c5,c6,c7,c8,c9,c10,c11,c12]
set_option maxHeartbeats 4000000 in
theorem reader_entry{PN:ByteArray→Prop}{PF:List Cl→Prop}{PT:Tm→Prop}{nb:ByteArray→Bool}{fr fa:List Cl→Bool}{rt:Tm→Int}(RP:ReadP PN PF nb fr fa)
  (HR:∀(t:Tm) (cs:List Value) (w:World),k49.K w t cs→PT t→Calls Tryz.prog 39 #[.agg cs.toArray,.int .i64 0,.int .i64 0] w fun e w'=>e=.returned (.int .i64 (rt t))∧Below w.heap.size w w')
  (w0:World) (p m:Nat) (bs:List Int) (seen:List ByteArray) (hT:Tab w0) (hpt:∀(s:Nat) (t:Tm) (s1:Nat),termS nb fr fa bs 200 s=.ok (t,s1)→PT t) (hbl:bs.length≤1000000) (hsl:seen.length≤10000000000) (s:Nat) (w:World) (hb:Below w0.heap.size w0 w) (hr:RSt w0 w p bs s m) (hm:MSt w m seen) (hm0:w0.heap.size≤m) (hpm:p≠m) :
  Calls Tryz.prog 32 #[.pointer (some ⟨p,0,none⟩)] w (EPost w0 w p m bs seen w.heap.size (entS nb fr fa rt bs seen s)):=by
 obtain⟨A,c,hv,hc,hC0⟩:=hr.row
 have hv0:=blk_alloc hv (.cells #[.string ⟨#[]⟩,.int .i64 0,.int .i64 0,.string ⟨#[]⟩,.slice none 0 0,.slice none 0 0,.slice none 0 0,.int .i64 0,.int .i64 0,.string ⟨#[]⟩,.slice none 0 0,.slice none 0 0,.slice none 0 0] 59)
 obtain⟨c0,c1,c2,f0,f1,f2⟩:=cells3 hv0
 have hpw:Aside0 (p<w.heap.size):=⟨hr.lt⟩
 have hmw:Aside0 (m<w.heap.size):=⟨hm.lt⟩
 have hw0p:Aside0 (w0.heap.size≤w.heap.size):=⟨hb.size⟩
 have HK0:=ak ((Kept.refl w (fun k=>k=p∨k=m)).alloc (.cells #[.string ⟨#[]⟩,.int .i64 0,.int .i64 0,.string ⟨#[]⟩,.slice none 0 0,.slice none 0 0,.slice none 0 0,.int .i64 0,.int .i64 0,.string ⟨#[]⟩,.slice none 0 0,.slice none 0 0,.slice none 0 0] 59))
 have HN0:=ak (blk_new w (.cells #[.string ⟨#[]⟩,.int .i64 0,.int .i64 0,.string ⟨#[]⟩,.slice none 0 0,.slice none 0 0,.slice none 0 0,.int .i64 0,.int .i64 0,.string ⟨#[]⟩,.slice none 0 0,.slice none 0 0,.slice none 0 0] 59))
 have HM0:=ak (hm.below (below_alloc (Below.refl _ _) (.cells #[.string ⟨#[]⟩,.int .i64 0,.int .i64 0,.string ⟨#[]⟩,.slice none 0 0,.slice none 0 0,.slice none 0 0,.int .i64 0,.int .i64 0,.string ⟨#[]⟩,.slice none 0 0,.slice none 0 0,.slice none 0 0] 59)))
 have HPM:=ak hpm
 have HGM:=ak hm0
 have hct:=reader_text RP.named w0 p bs s m _ hT (fun s hs=>RP.pn s (by omega)) (below_alloc hb (.cells #[.string ⟨#[]⟩,.int .i64 0,.int .i64 0,.string ⟨#[]⟩,.slice none 0 0,.slice none 0 0,.slice none 0 0,.int .i64 0,.int .i64 0,.string ⟨#[]⟩,.slice none 0 0,.slice none 0 0,.slice none 0 0] 59)) (hr.below (below_alloc (Below.refl _ _) (.cells #[.string ⟨#[]⟩,.int .i64 0,.int .i64 0,.string ⟨#[]⟩,.slice none 0 0,.slice none 0 0,.slice none 0 0,.int .i64 0,.int .i64 0,.string ⟨#[]⟩,.slice none 0 0,.slice none 0 0,.slice none 0 0] 59)))
 have HRR:=ak HR
 clear hr hb hv hv0 hc hC0 HR hm hpm hm0
 rcases hq:textS nb bs s with y | ⟨x,s1⟩
 ·have hcE:=RPost.er_ hq hct
  have HE:Aside0 (entS nb fr fa rt bs seen s=.error y):=⟨by rw [entS,hq]⟩
  clear hct hq
  go_enter Tryz.func32,Tryz.ntmps32
  go_wp2_with (go_at_call 48;refine hcE.mono ?_;rintro e w1 ⟨rfl,hb1,hk1⟩)
  rename_i hq9
  cases hq9
  simp only [bodyPost]
  exact⟨trivial,EPost.err HE.out hb1 (HK0.out.then_ hk1 (fun _ h=>.inl (.inl h)))⟩
 ·have hcE:=RPost.ok_ hq hct
  have hxs:x.size≤1000000:=by
   have h9:=textS_size hq
   omega
  have HX:Aside0 (entS nb fr fa rt bs seen s=if memB x seen=true then .error ((s:Int),61) else(match wholeS nb fr fa rt bs s1 with | .error e=>.error e | .ok (t1,s2)=>match wholeS nb fr fa rt bs s2 with | .error e=>.error e | .ok (t2,s3)=>.ok (⟨x,t1,t2⟩,s3))):=⟨by rw [entS,hq]⟩
  clear hct hq
  go_enter Tryz.func32,Tryz.ntmps32
  go_upto_region 3 with(go_at_call 48;refine hcE.mono ?_;rintro e w1 ⟨hb1,hk1,hr1,v,rfl,rfl⟩;have HB1:=ak (below_alloc hb1 (.cells #[.string x,.int .i64 0,.int .i64 0,.string ⟨#[]⟩,.slice none 0 0,.slice none 0 0,.slice none 0 0,.int .i64 0,.int .i64 0,.string ⟨#[]⟩,.slice none 0 0,.slice none 0 0,.slice none 0 0] 59));have HK1:=ak ((HK0.out.then_ hk1 (fun _ h=>.inl (.inl h))).alloc (.cells #[.string x,.int .i64 0,.int .i64 0,.string ⟨#[]⟩,.slice none 0 0,.slice none 0 0,.slice none 0 0,.int .i64 0,.int .i64 0,.string ⟨#[]⟩,.slice none 0 0,.slice none 0 0,.slice none 0 0] 59));have HR1:=ak (hr1.below (below_alloc (Below.refl _ _) (.cells #[.string x,.int .i64 0,.int .i64 0,.string ⟨#[]⟩,.slice none 0 0,.slice none 0 0,.slice none 0 0,.int .i64 0,.int .i64 0,.string ⟨#[]⟩,.slice none 0 0,.slice none 0 0,.slice none 0 0] 59)));have HN1:=ak (blk_alloc (blk_kept HN0.out hk1 (by have:=hpw.out;omega)) (.cells #[.string x,.int .i64 0,.int .i64 0,.string ⟨#[]⟩,.slice none 0 0,.slice none 0 0,.slice none 0 0,.int .i64 0,.int .i64 0,.string ⟨#[]⟩,.slice none 0 0,.slice none 0 0,.slice none 0 0] 59));have HE1:=ak (blk_new w1 (.cells #[.string x,.int .i64 0,.int .i64 0,.string ⟨#[]⟩,.slice none 0 0,.slice none 0 0,.slice none 0 0,.int .i64 0,.int .i64 0,.string ⟨#[]⟩,.slice none 0 0,.slice none 0 0,.slice none 0 0] 59));have HM1:=ak ((HM0.out.kept hk1 (fun h=>HPM.out h.symm)).below (below_alloc (Below.refl _ _) (.cells #[.string x,.int .i64 0,.int .i64 0,.string ⟨#[]⟩,.slice none 0 0,.slice none 0 0,.slice none 0 0,.int .i64 0,.int .i64 0,.string ⟨#[]⟩,.slice none 0 0,.slice none 0 0,.slice none 0 0] 59)));have HS1:Aside0 (w.heap.size<w1.heap.size):=⟨by have:=hk1.1;simp at this;omega⟩;clear hb1 hk1 hr1 hcE)
  clear c0 c1 c2 f0 f1 f2 HM0 HK0 HN0
  generalize hb4:w1.heap.size=b4 at *
  clear hb4
  generalize w1.alloc (.cells #[.string x,.int .i64 0,.int .i64 0,.string ⟨#[]⟩,.slice none 0 0,.slice none 0 0,.slice none 0 0,.int .i64 0,.int .i64 0,.string ⟨#[]⟩,.slice none 0 0,.slice none 0 0,.slice none 0 0] 59)=W1 at *
  obtain⟨A,c,hv,hc,hC0⟩:=HR1.out.row
  obtain⟨c0,c1,c2,f0,f1,f2⟩:=cells3 hv
  have e0:=(blk_cell HE1.out 0).trans (rfl:_=some (Value.string x))
  have hrun:∀j,(Instr.lookup 74 (.map (some m)) (.string x) false).run Tryz.prog (W1.drewN j)=.ok (.bool (memB x seen)) (W1.drewN j):=fun j=>(HM1.out.below (pw_below_drewN (Below.refl _ _) j)).run x hxs
  clear hv hC0
  by_cases hmem:memB x seen=true
  ·have HE:Aside0 (entS nb fr fa rt bs seen s=.error ((s:Int),61)):=⟨by rw [HX.out,if_pos hmem]⟩
   rw [hmem] at hrun
   clear hmem HX
   go_quiet (fail)
   have HB2:=ak (pw_below_drewN HB1.out nq)
   have HK2:=ak (HK1.out.drewN nq)
   go_wp2_with ((with_reducible refine(source_fail _ _ _ _).mono ?_);rintro e w2 ⟨rfl,rfl⟩)
   rename_i hq9
   cases hq9
   simp only [bodyPost]
   exact⟨trivial,EPost.no HE.out HB2.out HK2.out⟩
  ·have hmem':memB x seen=false:=by simpa using hmem
   have HX2:Aside0 (entS nb fr fa rt bs seen s=(match wholeS nb fr fa rt bs s1 with | .error e=>.error e | .ok (t1,s2)=>match wholeS nb fr fa rt bs s2 with | .error e=>.error e | .ok (t2,s3)=>.ok (⟨x,t1,t2⟩,s3))):=⟨by rw [HX.out,if_neg hmem]⟩
   rw [hmem'] at hrun
   clear hmem hmem' HX
   go_quiet (fail)
   have hr2:=HR1.out.below (w1:=W1.drewN nq) (pw_below_drewN (Below.refl _ _) nq)
   have hb2:=pw_below_drewN HB1.out nq
   have hk2:=HK1.out.drewN nq
   have hm2:=HM1.out.below (w1:=W1.drewN nq) (pw_below_drewN (Below.refl _ _) nq)
   have hn2:(W1.drewN nq).heap[w.heap.size]? = some (.cells #[.string ⟨#[]⟩,.int .i64 0,.int .i64 0,.string ⟨#[]⟩,.slice none 0 0,.slice none 0 0,.slice none 0 0,.int .i64 0,.int .i64 0,.string ⟨#[]⟩,.slice none 0 0,.slice none 0 0,.slice none 0 0] 59 (0,0)):=HN1.out
   have he2:(W1.drewN nq).heap[b4]? = some (.cells #[.string x,.int .i64 0,.int .i64 0,.string ⟨#[]⟩,.slice none 0 0,.slice none 0 0,.slice none 0 0,.int .i64 0,.int .i64 0,.string ⟨#[]⟩,.slice none 0 0,.slice none 0 0,.slice none 0 0] 59 (0,0)):=HE1.out
   clear c0 c1 c2 f0 f1 f2 e0 hrun HR1 HB1 HK1 HM1 HN1 HE1
   revert hr2 hb2 hk2 hm2 hn2 he2
   generalize W1.drewN nq=W2
   intro hr2 hb2 hk2 hm2 hn2 he2
   go_wp2
   obtain⟨W3,hup,hm3,hg3⟩:=(hm2.below (w1:=W2.drew) (below_drew (Below.refl _ _))).upd x (by omega) (by omega)
   obtain⟨A,c,hv,hc,hC0⟩:=hr2.row
   have HB2:=ak hb2
   have HR2:=ak hr2
   have HK2:=ak hk2
   have hak:Kept W2 W3 (fun k=>k=m):=⟨hg3.size,fun i hi hn=>hg3.block i hi (fun he=>hn (Option.some.inj he))⟩
   have HAK:=ak hak
   have HM3:=ak hm3
   have HR3:=ak (hr2.kept hak HPM.out)
   have HB3:=ak (below_mapset (below_drew hb2) HGM.out hg3)
   have HK3:=ak (hk2.then_ hak (fun k h=>.inl (.inr h)))
   have HN3:=ak (blk_kept hn2 hak (by have:=hmw.out;omega))
   have HE3:=ak (blk_kept he2 hak (by have:=hmw.out;have:=HS1.out;omega))
   obtain⟨c0,c1,c2,f0,f1,f2⟩:=cells3 hv
   have e0:=(blk_cell he2 0).trans (rfl:_=some (Value.string x))
   have HS3:Aside0 (b4<W3.heap.size):=⟨blk_lt HE3.out⟩
   clear hv hC0 hb2 hk2 hm2 hm3 hr2 hg3 hak hn2 he2
   refine start_ (n:=7) (S:=fun w'=>w'.cell? ⟨p,2,none⟩=some (.map (some m))∧w'.cell? ⟨b4,0,none⟩=some (.string x)) (ds:=[6]) #[false,false,false,false,false,false,false] (by kernel_rfl) rfl rfl ⟨show W2.drew.cell? ⟨p,2,none⟩=_ from c2,show W2.drew.cell? ⟨b4,0,none⟩=_ from e0⟩ (fun hHeld=>?_)
   refine pu_ 0 25 ?_
   refine pu_ 1 26 ?_
   refine pu_ 2 27 ?_
   refine ta_ 3 28 ?_
   refine pu_ 4 29 ?_
   refine ta_ 5 30 ?_
   refine last_ (i:=6) (N:=none) #[true,true,true,true,true,true,true] rfl rfl (by kernel_rfl) (by decide) (fun K hK=>?_)
   refine skip_ (w1:=W3) (by rfl) rfl (by go_simp) ?_
   refine hK.out _ _ ?_
   clear hK K
   refine done_ (by kernel_rfl) ?_
   clear e0 c0 c1 c2 f0 f1 f2 hup
   have hcw:=reader_whole RP HRR.out w0 p m bs hT hpt s1 W3 HB3.out HR3.out
   rcases hq1:wholeS nb fr fa rt bs s1 with y | ⟨t1,s2⟩
   ·have hcE:=RPost.er_ hq1 hcw
    have HE:Aside0 (entS nb fr fa rt bs seen s=.error y):=⟨by rw [HX2.out,hq1]⟩
    clear hcw hq1 HX2
    go_wp2_with (go_at_call 49;refine hcE.mono ?_;rintro e w4 ⟨rfl,hb4,hk4⟩)
    rename_i hq9
    cases hq9
    simp only [bodyPost]
    exact⟨trivial,EPost.err HE.out hb4 (HK3.out.then_ hk4 (fun _ h=>.inl (.inl h)))⟩
   ·have hcE:=RPost.ok_ hq1 hcw
    have HX3:Aside0 (entS nb fr fa rt bs seen s=(match wholeS nb fr fa rt bs s2 with | .error e=>.error e | .ok (t2,s3)=>.ok (⟨x,t1,t2⟩,s3))):=⟨by rw [HX2.out,hq1]⟩
    clear hcw hq1 HX2
    go_upto_region 7 with(go_at_call 49;refine hcE.mono ?_;rintro e w4 ⟨hb4,hk4,hr4,v,rfl,cs,rfl,hM⟩;obtain⟨P3,px3,P4,px4,P5,px5,rfl⟩:=tm_cells hM;have HB4:=ak hb4;have HK4:=ak (HK3.out.then_ hk4 (fun _ h=>.inl (.inl h)));have HR4:=ak hr4;have HP4:=ak hM;have HN4:=ak (blk_kept HN3.out hk4 (by have:=hpw.out;omega));have HE4:=ak (blk_kept HE3.out hk4 (by have:=hpw.out;have:=HS1.out;omega));have HM4:=ak (HM3.out.kept hk4 (fun h=>HPM.out h.symm));have HS4:Aside0 (W3.heap.size≤w4.heap.size):=⟨hk4.1⟩;have d0:=(blk_cell HE4.out 0).trans (rfl:_=some (Value.string x));have d1:=(blk_cell HE4.out 1).trans (rfl:_=some (Value.int .i64 0));have d2:=(blk_cell HE4.out 2).trans (rfl:_=some (Value.int .i64 0));have d3:=(blk_cell HE4.out 3).trans (rfl:_=some (Value.string ⟨#[]⟩));have d4:=(blk_cell HE4.out 4).trans (rfl:_=some (Value.slice none 0 0));have d5:=(blk_cell HE4.out 5).trans (rfl:_=some (Value.slice none 0 0));have d6:=(blk_cell HE4.out 6).trans (rfl:_=some (Value.slice none 0 0));have d7:=(blk_cell HE4.out 7).trans (rfl:_=some (Value.int .i64 0));have d8:=(blk_cell HE4.out 8).trans (rfl:_=some (Value.int .i64 0));have d9:=(blk_cell HE4.out 9).trans (rfl:_=some (Value.string ⟨#[]⟩));have d10:=(blk_cell HE4.out 10).trans (rfl:_=some (Value.slice none 0 0));have d11:=(blk_cell HE4.out 11).trans (rfl:_=some (Value.slice none 0 0));have d12:=(blk_cell HE4.out 12).trans (rfl:_=some (Value.slice none 0 0));have g0:=blk_frozen HE4.out 0;have g1:=blk_frozen HE4.out 1;have g2:=blk_frozen HE4.out 2;have g3:=blk_frozen HE4.out 3;have g4:=blk_frozen HE4.out 4;have g5:=blk_frozen HE4.out 5;have g6:=blk_frozen HE4.out 6;have g7:=blk_frozen HE4.out 7;have g8:=blk_frozen HE4.out 8;have g9:=blk_frozen HE4.out 9;have g10:=blk_frozen HE4.out 10;have g11:=blk_frozen HE4.out 11;have g12:=blk_frozen HE4.out 12;clear hb4 hk4 hr4 hM hcE)
    have F:=put_first HE4.out (.int .i64 t1.f0) (.int .i64 t1.f1) (.string t1.f2) (.slice P3 t1.f3.length px3) (.slice P4 t1.f4.length px4) (.slice P5 t1.f5.length px5)
    clear d0 d1 d2 d3 d4 d5 d6 d7 d8 d9 d10 d11 d12 g0 g1 g2 g3 g4 g5 g6 g7 g8 g9 g10 g11 g12
    revert F
    generalize (World.setCell _ ⟨b4,6,none⟩ _)=W5
    rintro⟨F1,F2,F3⟩
    have HB5:=ak (F3 w0 HB4.out (by have:=hw0p.out;have:=HS1.out;omega))
    have HK5:=ak (HK4.out.then_ F2 (fun k hk=>.inr (by have:=HS1.out;omega)))
    have HR5:=ak (HR4.out.kept F2 (by have:=hpw.out;have:=HS1.out;omega))
    have HN5:=ak (blk_kept HN4.out F2 (by have:=HS1.out;omega))
    have HE5:=ak F1
    have HM5:=ak (HM4.out.kept F2 (by have:=hmw.out;have:=HS1.out;omega))
    have HP5:=ak (M_stay HP4.out F2 (fun k hk=>by have:=HS3.out;omega))
    have HS5:Aside0 (W3.heap.size≤W5.heap.size):=⟨Nat.le_trans HS4.out F2.1⟩
    clear F1 F2 F3 HB4 HK4 HR4 HN4 HE4 HM4 HP4 HS4
    have hcw:=reader_whole RP HRR.out w0 p m bs hT hpt s2 W5 HB5.out HR5.out
    rcases hq2:wholeS nb fr fa rt bs s2 with y | ⟨t2,s3⟩
    ·have hcE:=RPost.er_ hq2 hcw
     have HE:Aside0 (entS nb fr fa rt bs seen s=.error y):=⟨by rw [HX3.out,hq2]⟩
     clear hcw hq2 HX3
     go_wp2_with (go_at_call 49;refine hcE.mono ?_;rintro e w6 ⟨rfl,hb6,hk6⟩)
     rename_i hq9
     cases hq9
     simp only [bodyPost]
     exact⟨trivial,EPost.err HE.out hb6 (HK5.out.then_ hk6 (fun _ h=>.inl (.inl h)))⟩
    ·have hcE:=RPost.ok_ hq2 hcw
     have HX4:Aside0 (entS nb fr fa rt bs seen s=.ok (⟨x,t1,t2⟩,s3)):=⟨by rw [HX3.out,hq2]⟩
     clear hcw hq2 HX3
     go_upto_region 8 with(go_at_call 49;refine hcE.mono ?_;rintro e w6 ⟨hb6,hk6,hr6,v,rfl,cs,rfl,hM⟩;obtain⟨Q3,qx3,Q4,qx4,Q5,qx5,rfl⟩:=tm_cells hM;have HB6:=ak hb6;have HK6:=ak (HK5.out.then_ hk6 (fun _ h=>.inl (.inl h)));have HR6:=ak hr6;have HQ6:=ak hM;have HP6:=ak (M_stay HP5.out hk6 (fun k hk=>by have:=hpw.out;have:=HS3.out;have:=HS1.out;omega));have HN6:=ak (blk_kept HN5.out hk6 (by have:=hpw.out;omega));have HE6:=ak (blk_kept HE5.out hk6 (by have:=hpw.out;have:=HS1.out;omega));have HM6:=ak (HM5.out.kept hk6 (fun h=>HPM.out h.symm));have d0:=(blk_cell HE6.out 0).trans (rfl:_=some (Value.string x));have d1:=(blk_cell HE6.out 1).trans (rfl:_=some (Value.int .i64 t1.f0));have d2:=(blk_cell HE6.out 2).trans (rfl:_=some (Value.int .i64 t1.f1));have d3:=(blk_cell HE6.out 3).trans (rfl:_=some (Value.string t1.f2));have d4:=(blk_cell HE6.out 4).trans (rfl:_=some (Value.slice P3 t1.f3.length px3));have d5:=(blk_cell HE6.out 5).trans (rfl:_=some (Value.slice P4 t1.f4.length px4));have d6:=(blk_cell HE6.out 6).trans (rfl:_=some (Value.slice P5 t1.f5.length px5));have d7:=(blk_cell HE6.out 7).trans (rfl:_=some (Value.int .i64 0));have d8:=(blk_cell HE6.out 8).trans (rfl:_=some (Value.int .i64 0));have d9:=(blk_cell HE6.out 9).trans (rfl:_=some (Value.string ⟨#[]⟩));have d10:=(blk_cell HE6.out 10).trans (rfl:_=some (Value.slice none 0 0));have d11:=(blk_cell HE6.out 11).trans (rfl:_=some (Value.slice none 0 0));have d12:=(blk_cell HE6.out 12).trans (rfl:_=some (Value.slice none 0 0));have g0:=blk_frozen HE6.out 0;have g1:=blk_frozen HE6.out 1;have g2:=blk_frozen HE6.out 2;have g3:=blk_frozen HE6.out 3;have g4:=blk_frozen HE6.out 4;have g5:=blk_frozen HE6.out 5;have g6:=blk_frozen HE6.out 6;have g7:=blk_frozen HE6.out 7;have g8:=blk_frozen HE6.out 8;have g9:=blk_frozen HE6.out 9;have g10:=blk_frozen HE6.out 10;have g11:=blk_frozen HE6.out 11;have g12:=blk_frozen HE6.out 12;clear hb6 hk6 hr6 hM hcE)
     have F:=put_second HE6.out (.int .i64 t2.f0) (.int .i64 t2.f1) (.string t2.f2) (.slice Q3 t2.f3.length qx3) (.slice Q4 t2.f4.length qx4) (.slice Q5 t2.f5.length qx5)
     clear d0 d1 d2 d3 d4 d5 d6 d7 d8 d9 d10 d11 d12 g0 g1 g2 g3 g4 g5 g6 g7 g8 g9 g10 g11 g12
     revert F
     generalize (World.setCell _ ⟨b4,12,none⟩ _)=W7
     rintro⟨F1,F2,F3⟩
     have HB7:=ak (F3 w0 HB6.out (by have:=hw0p.out;have:=HS1.out;omega))
     have HK7:=ak (HK6.out.then_ F2 (fun k hk=>.inr (by have:=HS1.out;omega)))
     have HR7:=ak (HR6.out.kept F2 (by have:=hpw.out;have:=HS1.out;omega))
     have HN7:=ak (blk_kept HN6.out F2 (by have:=HS1.out;omega))
     have HE7:=ak F1
     have HM7:=ak (HM6.out.kept F2 (by have:=hmw.out;have:=HS1.out;omega))
     have HP7:=ak (M_stay HP6.out F2 (fun k hk=>by have:=HS3.out;omega))
     have HQ7:=ak (M_stay HQ6.out F2 (fun k hk=>by have:=HS3.out;have:=HS5.out;omega))
     clear F1 F2 F3 HB6 HK6 HR6 HN6 HE6 HM6 HP6 HQ6
     have d0:=(blk_cell HE7.out 0).trans (rfl:_=some (Value.string x))
     have d1:=(blk_cell HE7.out 1).trans (rfl:_=some (Value.int .i64 t1.f0))
     have d2:=(blk_cell HE7.out 2).trans (rfl:_=some (Value.int .i64 t1.f1))
     have d3:=(blk_cell HE7.out 3).trans (rfl:_=some (Value.string t1.f2))
     have d4:=(blk_cell HE7.out 4).trans (rfl:_=some (Value.slice P3 t1.f3.length px3))
     have d5:=(blk_cell HE7.out 5).trans (rfl:_=some (Value.slice P4 t1.f4.length px4))
     have d6:=(blk_cell HE7.out 6).trans (rfl:_=some (Value.slice P5 t1.f5.length px5))
     have d7:=(blk_cell HE7.out 7).trans (rfl:_=some (Value.int .i64 t2.f0))
     have d8:=(blk_cell HE7.out 8).trans (rfl:_=some (Value.int .i64 t2.f1))
     have d9:=(blk_cell HE7.out 9).trans (rfl:_=some (Value.string t2.f2))
     have d10:=(blk_cell HE7.out 10).trans (rfl:_=some (Value.slice Q3 t2.f3.length qx3))
     have d11:=(blk_cell HE7.out 11).trans (rfl:_=some (Value.slice Q4 t2.f4.length qx4))
     have d12:=(blk_cell HE7.out 12).trans (rfl:_=some (Value.slice Q5 t2.f5.length qx5))
     have z0:=(blk_cell HN7.out 0).trans (rfl:_=some (Value.string ⟨#[]⟩))
     have z1:=(blk_cell HN7.out 1).trans (rfl:_=some (Value.int .i64 0))
     have z2:=(blk_cell HN7.out 2).trans (rfl:_=some (Value.int .i64 0))
     have z3:=(blk_cell HN7.out 3).trans (rfl:_=some (Value.string ⟨#[]⟩))
     have z4:=(blk_cell HN7.out 4).trans (rfl:_=some (Value.slice none 0 0))
     have z5:=(blk_cell HN7.out 5).trans (rfl:_=some (Value.slice none 0 0))
     have z6:=(blk_cell HN7.out 6).trans (rfl:_=some (Value.slice none 0 0))
     have z7:=(blk_cell HN7.out 7).trans (rfl:_=some (Value.int .i64 0))
     have z8:=(blk_cell HN7.out 8).trans (rfl:_=some (Value.int .i64 0))
     have z9:=(blk_cell HN7.out 9).trans (rfl:_=some (Value.string ⟨#[]⟩))
     have z10:=(blk_cell HN7.out 10).trans (rfl:_=some (Value.slice none 0 0))
     have z11:=(blk_cell HN7.out 11).trans (rfl:_=some (Value.slice none 0 0))
     have z12:=(blk_cell HN7.out 12).trans (rfl:_=some (Value.slice none 0 0))
     have g0:=blk_frozen HN7.out 0
     have g1:=blk_frozen HN7.out 1
     have g2:=blk_frozen HN7.out 2
     have g3:=blk_frozen HN7.out 3
     have g4:=blk_frozen HN7.out 4
     have g5:=blk_frozen HN7.out 5
     have g6:=blk_frozen HN7.out 6
     have g7:=blk_frozen HN7.out 7
     have g8:=blk_frozen HN7.out 8
     have g9:=blk_frozen HN7.out 9
     have g10:=blk_frozen HN7.out 10
     have g11:=blk_frozen HN7.out 11
     have g12:=blk_frozen HN7.out 12
     go_wp2
     have F:=put_all HN7.out (.string x) (.int .i64 t1.f0) (.int .i64 t1.f1) (.string t1.f2) (.slice P3 t1.f3.length px3) (.slice P4 t1.f4.length px4) (.slice P5 t1.f5.length px5) (.int .i64 t2.f0) (.int .i64 t2.f1) (.string t2.f2) (.slice Q3 t2.f3.length qx3) (.slice Q4 t2.f4.length qx4) (.slice Q5 t2.f5.length qx5)
     clear d0 d1 d2 d3 d4 d5 d6 d7 d8 d9 d10 d11 d12 g0 g1 g2 g3 g4 g5 g6 g7 g8 g9 g10 g11 g12 z0 z1 z2 z3 z4 z5 z6 z7 z8 z9 z10 z11 z12
     revert F
     generalize (World.setCell _ ⟨w.heap.size,12,none⟩ _)=W8
     rintro⟨F1,F2,F3⟩
     refine bodyPost_ret (v:=.agg #[.string x,.int .i64 t1.f0,.int .i64 t1.f1,.string t1.f2,.slice P3 t1.f3.length px3,.slice P4 t1.f4.length px4,.slice P5 t1.f5.length px5,.int .i64 t2.f0,.int .i64 t2.f1,.string t2.f2,.slice Q3 t2.f3.length qx3,.slice Q4 t2.f4.length qx4,.slice Q5 t2.f5.length qx5]) (ent_out F1) rfl ?_
     rw [HX4.out]
     refine⟨F3 w0 HB7.out hw0p.out,HK7.out.then_ F2 (fun k hk=>.inr (by omega)),HR7.out.kept F2 (by have:=hpw.out;omega),HM7.out.kept F2 (by have:=hmw.out;omega),_,rfl,_,rfl, ?_⟩
     have q1:=k49.M_lower (base':=w.heap.size) (by have:=HS3.out;have:=HS1.out;omega) (M_stay HP7.out F2 (fun k hk=>by have:=HS3.out;have:=HS1.out;omega))
     have q2:=k49.M_lower (base':=w.heap.size) (by have:=HS3.out;have:=HS1.out;have:=HS5.out;omega) (M_stay HQ7.out F2 (fun k hk=>by have:=HS3.out;have:=HS1.out;have:=HS5.out;omega))
     exact⟨[.string x],_,rfl,rfl,_,_,rfl,q1,q2⟩
end Go.Proofs.YtahdjajdaggmjaaGreatDoor.XPd
end
