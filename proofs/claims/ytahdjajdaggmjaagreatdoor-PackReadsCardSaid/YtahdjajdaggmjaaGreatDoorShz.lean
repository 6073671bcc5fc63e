/-
PLAIN LAW: sets of dimensions as sums of powers of two.
-/
import Derived.Test.YtahdjajdaggmjaaGreatDoorFp
set_option maxRecDepth 100000
section
namespace Go.Proofs.YtahdjajdaggmjaaGreatDoor.H
def sumPow:List Nat→Nat
 | []=>0
 | a :: l=>2 ^ a+sumPow l
def dimsN(n:Nat):List Nat:=(List.range 24).filter fun i=>n.testBit i
theorem mem_dimsN{n i:Nat}:i∈dimsN n↔i<24∧n.testBit i=true:=by simp [dimsN]
theorem dimsN_nodup(n:Nat):(dimsN n).Nodup:=List.Pairwise.filter _ List.nodup_range
theorem dimsN_len(n:Nat):(dimsN n).length≤24:=by
 have:=List.length_filter_le (fun i=>n.testBit i) (List.range 24)
 rwa [List.length_range] at this
theorem add_or{a y:Nat}(h:y.testBit a=false):2 ^ a+y=2 ^ a ||| y:=by
 let w:=max a y+2
 have hp:∀n,n<2 ^ n:=fun n=>Nat.lt_two_pow_self
 have h1:2 ^ a<2 ^ (w-1):=Nat.pow_lt_pow_right (by omega) (by omega)
 have h2:y<2 ^ (w-1):=Nat.lt_of_lt_of_le (hp y) (Nat.pow_le_pow_right (by omega) (by omega))
 have h3:2 ^ w=2 ^ (w-1) * 2:=by rw [←Nat.pow_succ];congr 1
 have e:=BitVec.add_eq_or_of_and_eq_zero (BitVec.ofNat w (2 ^ a)) (BitVec.ofNat w y) (by
  apply BitVec.eq_of_toNat_eq
  rw [BitVec.toNat_and,BitVec.toNat_ofNat,BitVec.toNat_ofNat,Nat.mod_eq_of_lt (by omega),Nat.mod_eq_of_lt (by omega)]
  show 2 ^ a &&& y=0 % 2 ^ w
  rw [Nat.zero_mod]
  apply Nat.eq_of_testBit_eq
  intro i
  rw [Nat.testBit_and,Nat.testBit_two_pow,Nat.zero_testBit]
  by_cases hi:a=i
  ·subst hi;rw [h];simp
  ·simp [hi])
 have e2:=congrArg BitVec.toNat e
 rw [BitVec.toNat_or,BitVec.toNat_add,BitVec.toNat_ofNat,BitVec.toNat_ofNat,Nat.mod_eq_of_lt (show 2 ^ a<2 ^ w by omega),Nat.mod_eq_of_lt (show y<2 ^ w by omega),Nat.mod_eq_of_lt (by omega)] at e2
 exact e2
theorem sumPow_testBit:∀ {l:List Nat},l.Nodup→∀j,(sumPow l).testBit j=decide (j∈l)
 | [],_,j=>by simp [sumPow]
 | a :: l,h,j=>by
  have hc:=List.nodup_cons.1 h
  unfold sumPow
  rw [add_or (by rw [sumPow_testBit hc.2];simp [hc.1]),Nat.testBit_or,Nat.testBit_two_pow,sumPow_testBit hc.2]
  by_cases e:a=j
  ·subst e;simp
  ·have:¬j=a:=fun h=>e h.symm
   simp [e,this]
theorem sumPow_le:∀ {l:List Nat} (b:Nat),(∀x∈l,x≤b)→sumPow l≤l.length * 2 ^ b
 | [],b,_=>by simp [sumPow]
 | a :: l,b,h=>by
  have h1:=sumPow_le (l:=l) b fun x hx=>h x (List.mem_cons_of_mem _ hx)
  have h2:2 ^ a≤2 ^ b:=Nat.pow_le_pow_right (by omega) (h a (List.mem_cons_self ..))
  unfold sumPow
  rw [List.length_cons,Nat.succ_mul]
  omega
theorem sumPow_append:∀(a b:List Nat),sumPow (a++b)=sumPow a+sumPow b
 | [],b=>by simp [sumPow]
 | x :: a,b=>by
  show 2 ^ x+sumPow (a++b)=2 ^ x+sumPow a+sumPow b
  rw [sumPow_append a b]
  omega
theorem sumPow_dimsN(n:Nat):sumPow (dimsN n)=n % 16777216:=by
 apply Nat.eq_of_testBit_eq
 intro i
 rw [sumPow_testBit (dimsN_nodup n),show(16777216:Nat)=2 ^ 24 from rfl,Nat.testBit_mod_two_pow]
 rw [Bool.eq_iff_iff]
 simp [mem_dimsN]
theorem range_asc(n:Nat):(List.range n).Pairwise (· < ·):=List.pairwise_lt_range
theorem dimsN_asc(n:Nat):(dimsN n).Pairwise (· < ·):=(range_asc 24).filter _
theorem testBit_high{n i:Nat}(h:n<16777216)(hi:24≤i):n.testBit i=false :=
 Nat.testBit_lt_two_pow (Nat.lt_of_lt_of_le (show n<2 ^ 24 from h) (Nat.pow_le_pow_right (by omega) hi))
end Go.Proofs.YtahdjajdaggmjaaGreatDoor.H
end
section
set_option linter.unusedVariables false
set_option linter.unusedSimpArgs false
namespace Go.Proofs.YtahdjajdaggmjaaGreatDoor.XPd
open Go.RowKit Go.Proofs.YtahdjajdaggmjaaGreatDoorW.PrintWords Go.Proofs.YtahdjajdaggmjaaGreatDoorW.PrintLast Go.Proofs.YtahdjajdaggmjaaGreatDoorW.PrintMore
structure EncQ(PN:ByteArray→Prop)(PT:Tm→Prop)(PS:List Int→Prop)(nb:ByteArray→Bool)(rt:Tm→Int)(sl:List Int→List Int):Prop where
 named:∀(s:ByteArray) (w:World),Tab w→PN s→Calls Tryz.prog 38 #[.string s] w fun e w'=>e=.returned (.bool (nb s))∧Below w.heap.size w w'
 right:∀(t:Tm) (cs:List Value) (w:World),k49.K w t cs→PT t→Calls Tryz.prog 39 #[.agg cs.toArray,.int .i64 0,.int .i64 0] w fun e w'=>e=.returned (.int .i64 (rt t))∧Below w.heap.size w w'
 parts:∀(a:Int) (w:World),Calls Tryz.prog 41 #[.int .i64 a] w fun e w'=>e=.returned (.int .i64 (partsI a))∧Below w.heap.size w w'
 sealed_:∀(u:Value) (l:List Int) (w0 w:World),Below w0.heap.size w0 w→Kd.R (Kd.int .u8) 5 w w0.heap.size (fun _=>True) u l→PS l →
  Calls Tryz.prog 22 #[u] w fun e w'=>∃v,e=.returned v∧Kd.R (Kd.int .u8) 5 w' w0.heap.size (fun _=>True) v (sl l)∧Below w0.heap.size w0 w'
set_option maxHeartbeats 1000000 in
theorem pa_wrong0(A:Option Addr)(cap:Nat)(w:World):Calls Tryz.prog 18 #[.slice A 0 cap] w fun e w'=>e=.returned (.int .i64 0)∧Below w.heap.size w w':=by
 have hmm:=@run_makeMap Tryz.prog
 have HB0:=ak (below_alloc (Below.refl w.heap.size w) (.map #[] 0))
 go_enter Tryz.func18,Tryz.ntmps18
 go_wp2
 go_loopg [11] 1 (fun kq v11 wx=>v11=.int .i64 0∧Aside0 (Below w.heap.size w wx))
 case atStart=>exact⟨rfl,HB0⟩
 case round =>
  clear HB0
  obtain⟨rfl,HB⟩:=hrel
  go_wp2
  go_loopg [31] 1 (fun kq v31 wx=>v31=.int .i64 0∧Aside0 (Below w.heap.size w wx))
  case atStart=>exact⟨rfl,HB⟩
  case round =>
   clear HB
   obtain⟨rfl,HB⟩:=hrel
   go_wp2
   go_ret
   exact⟨rfl,HB.out⟩
set_option maxHeartbeats 4000000 in
theorem pa_Encode1{PN:ByteArray→Prop}{PT:Tm→Prop}{PS:List Int→Prop}{nb:ByteArray→Bool}{rt:Tm→Int}{sl:List Int→List Int}(EP:EncQ PN PT PS nb rt sl)(A:Option Addr)(cap:Nat)(w:World)(hps:PS [72,67,1,0]) :
  Calls Tryz.prog 8 #[.slice A 0 cap] w fun e w'=>∃v:Value,e=.returned (.tuple #[v,.int .i64 0])∧Kd.R (Kd.int .u8) 5 w' w.heap.size (fun _=>True) v (sl [72,67,1,0])∧Below w.heap.size w w':=by
 have hcw:=pa_wrong0 A cap w
 have HE:=ak EP
 have HPS:=ak hps
 clear EP hps
 go_enter Tryz.func8,Tryz.ntmps8
 have hcn:Aside0 (∀w1,Below w.heap.size w w1→WSt w.heap.size ((w1.alloc (.cells #[.int .u8 72,.int .u8 67,.int .u8 1] 5)).alloc (.cells #[.slice (some ⟨w1.heap.size,0,none⟩) 3 3] 56)) (w1.heap.size+1) [72,67,1]∧Below w.heap.size w ((w1.alloc (.cells #[.int .u8 72,.int .u8 67,.int .u8 1] 5)).alloc (.cells #[.slice (some ⟨w1.heap.size,0,none⟩) 3 3] 56))):=⟨fun w1 hb=>by
  have h0:=own_lit w1 w.heap.size 5 .u8 [72,67,1] hb.size (by decide)
  have h1:Kd.R (Kd.int .u8) 5 (w1.alloc (.cells #[.int .u8 72,.int .u8 67,.int .u8 1] 5)) w.heap.size (fun _=>True) (.slice (some ⟨w1.heap.size,0,none⟩) 3 3) [72,67,1]:=Kd.R_of_own h0 (fun _ _=>trivial)
  have h2:=blk_new (w1.alloc (.cells #[.int .u8 72,.int .u8 67,.int .u8 1] 5)) (.cells #[.slice (some ⟨w1.heap.size,0,none⟩) 3 3] 56)
  rw [World.size_alloc] at h2
  have hs:=hb.size
  exact⟨⟨by omega,_,h2,Kd.R_alloc h1 _⟩,(hb.alloc hb.size _).alloc (by simp;omega) _⟩⟩
 go_wp2_with (first
  | (go_at_call 18;refine hcw.mono ?_;rintro e w1 ⟨rfl,hb1⟩;have h9:=hcn.out w1 hb1;have hcm:=writer_number w _ 0 [72,67,1] _ (by omega) h9.2 h9.1 (by decide);clear hb1 hcw h9)
  | (go_at_call 19;refine hcm.mono ?_;rintro e w2 ⟨rfl,hb2,hs2,_⟩;have HB2:=ak hb2;have HS2:=ak hs2;clear hb2 hs2 hcm))
 clear hcn
 generalize hp:w1.heap.size+1=p at *
 clear hp
 go_loopg [23] 1 (fun kq v23 wx=>v23=.int .i64 0∧Aside0 (Below w.heap.size w wx)∧Aside0 (WSt w.heap.size wx p ([72,67,1]++numL 0)))
 case atStart=>exact⟨rfl,HB2,HS2⟩
 case round =>
  clear HB2 HS2
  obtain⟨rfl,HB,HS⟩:=hrel
  obtain⟨_,A4w,n4w,c4w,hv4,hr4⟩:=HS.out.open_
  rw [show [72,67,1]++numL 0=([72,67,1,0]:List Int) by rw [numL_lt (by decide)];rfl] at hr4
  have hn4:n4w=4:=(Kd.R_reads' hr4).1
  subst hn4
  have hcc4:=cell_of_one hv4
  have hcs:=HE.out.sealed_ _ _ w wr HB.out (Kd.R_mono hr4 (fun _ _=>trivial)) HPS.out
  clear hv4 hr4 HS
  go_wp2_with (go_at_call 22;refine hcs.mono ?_;rintro e w5 ⟨v5,rfl,hr5,hb5⟩;have HR5:=ak hr5;have HB5:=ak hb5;clear hr5 hb5 hcs)
  go_ret2
  exact⟨v5,rfl,HR5.out,HB5.out⟩
def upA(n k:Nat):Array Bool:=(List.replicate k true++List.replicate (n-k) false).toArray
section
variable {fr fa:List Cl→Bool}{wi:List Cl→Int→Bool}{nm:ByteArray→Bool}
structure AllOk(fr fa:List Cl→Bool)(wi:List Cl→Int→Bool)(nm:ByteArray→Bool)(t:Tm)(v d:Int):Prop where
 dims:d≤24
 kids:kidsI t.f0=(t.f4.length:Int)
 parts:partsI t.f0=0→t.f5.length=0
 v1:t.f0=1→0≤t.f1∧(v<0∨t.f1<v)
 v0:t.f0≠1→t.f1=0
 n2:t.f0=2→nm t.f2=true
 n0:t.f0≠2→t.f2.size=0
 r1:t.f0=13∨t.f0=21∨t.f0=26→fr t.f3=true
 r2:t.f0=14→fa t.f3=true
 r0:¬rowI t.f0→t.f3.length=0
 low:wi t.f3 d=true
 ks:allL fr fa wi nm t.f0 t.f4 0 v d=true
 bs:∀b∈t.f5,ownR fa wi t.f0 d b=true∧allBr fr fa wi nm t.f0 b v d=true
theorem allBs_iff(kind v d:Int):∀l:List Br,allBs fr fa wi nm kind l v d=true↔∀b∈l,allBr fr fa wi nm kind b v d=true
 | []=>by rw [allBs];simp
 | b :: r=>by
  rw [allBs,Bool.and_eq_true,allBs_iff kind v d r]
  simp
theorem allBr_eq(kind v d:Int)(b:Br):allBr fr fa wi nm kind b v d=allP fr fa wi nm b.f1 v (d+moreI kind):=by
 cases b
 rw [allBr]
theorem nil_of_len{α:Type}{l:List α}(h:l.length=0):l=[]:=List.eq_nil_of_length_eq_zero h
theorem allT_iff(hwi:∀d,wi [] d=true)(t:Tm)(v d:Int):allT fr fa wi nm t v d=true↔AllOk fr fa wi nm t v d:=by
 rw [allT_eq,Bool.and_eq_true,Bool.and_eq_true,Bool.and_eq_true,decide_eq_true_eq,allBs_iff]
 have hpk:∀k:Int,k=1∨k=2∨rowI k→partsI k=0:=by
  intro k hk
  have:k=1∨k=2∨k=13∨k=21∨k=26∨k=14:=hk
  rcases this with e | e | e | e | e | e<;>subst e<;>rfl
 constructor
 ·rintro⟨⟨hd,ho⟩,hk,hb⟩
  rw [ownB] at ho
  by_cases hbad:ownBad t
  ·rw [if_pos hbad] at ho
   exact absurd ho Bool.false_ne_true
  rw [if_neg hbad] at ho
  unfold ownBad at hbad
  have hkids:kidsI t.f0=(t.f4.length:Int):=Decidable.byContradiction fun h=>hbad (.inl h)
  have hv0:t.f0≠1→t.f1=0:=fun h=>Decidable.byContradiction fun h2=>hbad (.inr (.inl ⟨h,h2⟩))
  have hn0:t.f0≠2→t.f2.size=0:=fun h=>Decidable.byContradiction fun h2=>hbad (.inr (.inr (.inl ⟨h,h2⟩)))
  have hp:partsI t.f0=0→t.f5.length=0:=fun h=>Decidable.byContradiction fun h2=>hbad (.inr (.inr (.inr ⟨h,by omega⟩)))
  have hno:partsI t.f0=0→∀b∈t.f5,ownR fa wi t.f0 d b=true∧allBr fr fa wi nm t.f0 b v d=true:=fun h b hb'=>by rw [nil_of_len (hp h)] at hb';exact absurd hb' (by simp)
  by_cases k1:t.f0=1
  ·rw [if_pos k1,Bool.and_eq_true,Bool.and_eq_true,decide_eq_true_eq,decide_eq_true_eq,Bool.or_eq_true,decide_eq_true_eq,decide_eq_true_eq] at ho
   exact⟨hd,hkids,hp,fun _=>⟨ho.1.2,ho.2⟩,hv0,fun h=>by omega,hn0,fun h=>by omega,fun h=>by omega,fun _=>ho.1.1,by rw [nil_of_len ho.1.1];exact hwi d,hk,hno (hpk _ (.inl k1))⟩
  rw [if_neg k1] at ho
  by_cases k2:t.f0=2
  ·rw [if_pos k2,Bool.and_eq_true,decide_eq_true_eq] at ho
   exact⟨hd,hkids,hp,fun h=>by omega,hv0,fun _=>ho.2,hn0,fun h=>by omega,fun h=>by omega,fun _=>ho.1,by rw [nil_of_len ho.1];exact hwi d,hk,hno (hpk _ (.inr (.inl k2)))⟩
  rw [if_neg k2] at ho
  by_cases k3:t.f0=13∨t.f0=21∨t.f0=26
  ·rw [if_pos k3,Bool.and_eq_true] at ho
   have hr:rowI t.f0:=by unfold rowI;omega
   exact⟨hd,hkids,hp,fun h=>by omega,hv0,fun h=>by omega,hn0,fun _=>ho.1,fun h=>by omega,fun h=>absurd hr h,ho.2,hk,hno (hpk _ (.inr (.inr hr)))⟩
  rw [if_neg k3] at ho
  by_cases k4:t.f0=14
  ·rw [if_pos k4,Bool.and_eq_true] at ho
   have hr:rowI t.f0:=by unfold rowI;omega
   exact⟨hd,hkids,hp,fun h=>by omega,hv0,fun h=>by omega,hn0,fun h=>by omega,fun _=>ho.1,fun h=>absurd hr h,ho.2,hk,hno (hpk _ (.inr (.inr hr)))⟩
  rw [if_neg k4,Bool.and_eq_true,List.all_eq_true,decide_eq_true_eq] at ho
  exact⟨hd,hkids,hp,fun h=>by omega,hv0,fun h=>by omega,hn0,fun h=>by omega,fun h=>by omega,fun _=>ho.2,by rw [nil_of_len ho.2];exact hwi d,hk,fun b hb'=>⟨ho.1 b hb',hb b hb'⟩⟩
 ·intro h
  refine⟨⟨h.dims, ?_⟩,h.ks,fun b hb=>(h.bs b hb).2⟩
  have hbad:¬ownBad t:=by
   rintro(hb | ⟨hb,hb2⟩ | ⟨hb,hb2⟩ | ⟨hb,hb2⟩)
   ·exact hb h.kids
   ·exact hb2 (h.v0 hb)
   ·exact hb2 (h.n0 hb)
   ·have:=h.parts hb
    omega
  rw [ownB,if_neg hbad]
  by_cases k1:t.f0=1
  ·have hr:¬rowI t.f0:=by unfold rowI;omega
   rw [if_pos k1,Bool.and_eq_true,Bool.and_eq_true,decide_eq_true_eq,decide_eq_true_eq,Bool.or_eq_true,decide_eq_true_eq,decide_eq_true_eq]
   exact⟨⟨h.r0 hr,(h.v1 k1).1⟩,(h.v1 k1).2⟩
  rw [if_neg k1]
  by_cases k2:t.f0=2
  ·have hr:¬rowI t.f0:=by unfold rowI;omega
   rw [if_pos k2,Bool.and_eq_true,decide_eq_true_eq]
   exact⟨h.r0 hr,h.n2 k2⟩
  rw [if_neg k2]
  by_cases k3:t.f0=13∨t.f0=21∨t.f0=26
  ·rw [if_pos k3,Bool.and_eq_true]
   exact⟨h.r1 k3,h.low⟩
  rw [if_neg k3]
  by_cases k4:t.f0=14
  ·rw [if_pos k4,Bool.and_eq_true]
   exact⟨h.r2 k4,h.low⟩
  have hr:¬rowI t.f0:=by unfold rowI;omega
  rw [if_neg k4,Bool.and_eq_true,List.all_eq_true,decide_eq_true_eq]
  exact⟨fun b hb=>(h.bs b hb).1,h.r0 hr⟩
structure RAllP(PF:List Cl→Prop)(PN:ByteArray→Prop)(fr fa:List Cl→Bool)(wi:List Cl→Int→Bool)(nm:ByteArray→Bool):Prop where
 kids:∀(a:Int) (w:World),Calls Tryz.prog 63 #[.int .i64 a] w fun e w'=>e=.returned (.int .i64 (kidsI a))∧Below w.heap.size w w'
 parts:∀(a:Int) (w:World),Calls Tryz.prog 47 #[.int .i64 a] w fun e w'=>e=.returned (.int .i64 (partsI a))∧Below w.heap.size w w'
 more:∀(a:Int) (w:World),Calls Tryz.prog 69 #[.int .i64 a] w fun e w'=>e=.returned (.int .i64 (moreI a))∧Below w.heap.size w w'
 binds:∀(a i:Int) (w:World),Calls Tryz.prog 68 #[.int .i64 a,.int .i64 i] w fun e w'=>e=.returned (.tuple #[.int .i64 (bindsI a i).1,.int .i64 (bindsI a i).2])∧Below w.heap.size w w'
 fright:∀(A:Option Addr) (c:Nat) (l:List Cl) (w:World),Kd.C k113 w A l.length l→l.length≤c→PF l→Calls Tryz.prog 65 #[.slice A l.length c] w fun e w'=>e=.returned (.bool (fr l))∧Below w.heap.size w w'
 faright:∀(A:Option Addr) (c:Nat) (l:List Cl) (w:World),Kd.C k113 w A l.length l→l.length≤c→PF l→Calls Tryz.prog 66 #[.slice A l.length c] w fun e w'=>e=.returned (.bool (fa l))∧Below w.heap.size w w'
 low:∀(A:Option Addr) (c:Nat) (l:List Cl) (d:Int) (w:World),Kd.C k113 w A l.length l→l.length≤c→PF l→0≤d→d≤1000→Calls Tryz.prog 67 #[.slice A l.length c,.int .i64 d] w fun e w'=>e=.returned (.bool (wi l d))∧Below w.heap.size w w'
 name:∀(s:ByteArray) (w:World),PN s→Calls Tryz.prog 64 #[.string s] w fun e w'=>e=.returned (.bool (nm s))∧Below w.heap.size w w'
 nil:∀d,wi [] d=true
set_option maxHeartbeats 8000000 in
theorem ref10_All{PF:List Cl→Prop}{PN:ByteArray→Prop}(RP:RAllP PF PN fr fa wi nm):∀(N:Nat) (t:Tm) (vars dims:Int) (cs:List Value) (w:World),sizeT t≤N→okS PF PN t→0≤vars→vars+N≤1000000000→0≤dims→dims≤25→k49.K w t cs →
  Calls Tryz.prog 44 #[.agg cs.toArray,.int .i64 vars,.int .i64 dims,.bool true] w fun e w'=>e=.returned (.bool (allT fr fa wi nm t vars dims))∧Below w.heap.size w w':=by
 intro N
 induction N with
 | zero=>intro t vars dims cs w h;have:=sizeT_pos t;omega
 | succ N ih =>
 intro t vars dims cs w hN ho h0 h1 h2 h3 hK
 have HIH:=ak ih
 have HO:=ak ho
 have HP:=ak RP
 have HNo:Aside0 (¬AllOk fr fa wi nm t vars dims→allT fr fa wi nm t vars dims=false):=⟨fun h=>Bool.eq_false_iff.2 (fun h2=>h ((allT_iff RP.nil t vars dims).1 h2))⟩
 have HYes:Aside0 (AllOk fr fa wi nm t vars dims→allT fr fa wi nm t vars dims=true):=⟨(allT_iff RP.nil t vars dims).2⟩
 obtain⟨A3,c3,A4,c4,A5,c5,rfl,l3,g3,l4,g4,l5,g5⟩:=k49_open hK
 have HG3:=ak g3
 have HL3:=ak l3
 have HG4:=ak g4
 have HG5:=ak g5
 have hm4:t.f4.length≤9223372036854775807:=Kd.C_max g4
 have hm5:t.f5.length≤9223372036854775807:=Kd.C_max g5
 have HB0:=ak (below_alloc (Below.refl w.heap.size w) (.cells #[.int .i64 t.f0,.int .i64 t.f1,.string t.f2,.slice A3 t.f3.length c3,.slice A4 t.f4.length c4,.slice A5 t.f5.length c5] 49))
 have HT0:=ak (blk_new w (.cells #[.int .i64 t.f0,.int .i64 t.f1,.string t.f2,.slice A3 t.f3.length c3,.slice A4 t.f4.length c4,.slice A5 t.f5.length c5] 49))
 clear RP ih ho g3 g4 g5 l3 l4 l5 hK
 go_enter Tryz.func44,Tryz.ntmps44
 go_upto_region 1 with fail
 generalize hbt:w.heap.size=bt at *
 generalize hW0:w.alloc (.cells #[.int .i64 t.f0,.int .i64 t.f1,.string t.f2,.slice A3 t.f3.length c3,.slice A4 t.f4.length c4,.slice A5 t.f5.length c5] 49)=W0 at *
 clear hW0
 rw [←hbt] at HB0
 go_cut [40] from 15 to 40 (fun v wx=>∃bb:Bool,v=.bool bb∧Aside0 (bb=true→¬AllOk fr fa wi nm t vars dims)∧Aside0 (bb=false→kidsI t.f0=(t.f4.length:Int)∧(partsI t.f0=0→t.f5.length=0)∧dims≤24)∧Aside0 (Below w.heap.size w wx)∧Aside0 (wx.heap[bt]? = some (.cells #[.int .i64 t.f0,.int .i64 t.f1,.string t.f2,.slice A3 t.f3.length c3,.slice A4 t.f4.length c4,.slice A5 t.f5.length c5] 49 (0,0))))
 case first =>
  have hz0:=(blk_cell HT0.out 0).trans (rfl:_=some (Value.int .i64 t.f0))
  have hz4:=(blk_cell HT0.out 4).trans (rfl:_=some (Value.slice A4 t.f4.length c4))
  have hz5:=(blk_cell HT0.out 5).trans (rfl:_=some (Value.slice A5 t.f5.length c5))
  by_cases q1:dims≤24
  ·have b1:decide (24<dims)=false:=decide_eq_false (by omega)
   by_cases q2:kidsI t.f0=(t.f4.length:Int)
   ·have b2:(kidsI t.f0 != (t.f4.length:Int))=false:=by simp [q2]
    have HQ2:=ak q2
    clear q2
    by_cases q3:t.f5.length=0
    ·have b3:decide ((0:Int)<(t.f5.length:Int))=false:=decide_eq_false (by omega)
     have b4:decide (0<t.f5.length)=false:=decide_eq_false (by omega)
     have HQ3:=ak q3
     clear q3
     refine start_ (n:=26) (S:=fun w'=>w'.cell? ⟨bt,0,none⟩=some (.int .i64 t.f0)∧w'.cell? ⟨bt,4,none⟩=some (.slice A4 t.f4.length c4)∧w'.cell? ⟨bt,5,none⟩=some (.slice A5 t.f5.length c5)) (ds:=[]) (upA 26 0) (by kernel_rfl) rfl (by kernel_rfl) ⟨hz0,hz4,hz5⟩ (fun hHeld=>?_)
     have HBD:=ak (below_drew HB0.out)
     have HTD:Aside0 (W0.drew.heap[bt]? = some (.cells #[.int .i64 t.f0,.int .i64 t.f1,.string t.f2,.slice A3 t.f3.length c3,.slice A4 t.f4.length c4,.slice A5 t.f5.length c5] 49 (0,0))):=HT0
     clear hz0 hz4 hz5 HB0 HT0
     generalize W0.drew=W1 at *
     refine pu_ 0 15 ?_
     refine pu_ 1 16 ?_
     refine pu_ 2 17 ?_
     refine pu_ 3 18 ?_
     refine pu_ 4 19 ?_
     refine pu_ 5 20 ?_
     refine pu_ 6 21 ?_
     refine ta_ 7 22 ?_
     refine pu_ 9 24 ?_
     refine ta_ 10 25 ?_
     refine pu_ 11 26 ?_
     refine on_ 8 (some 23) fun K hK=>?_
     refine goes_ Tryz.func63 (by kernel_rfl) rfl #[.int .i64 t.f0] (by rfl) rfl rfl (by (try simp only [List.map_toArray,List.map_cons,List.map_nil]);first | done | rfl) ?_
     with_reducible refine(HP.out.kids t.f0 _).mono ?_
     rintro e w2 ⟨rfl,hb2⟩
     refine⟨_,rfl, ?_⟩
     have HB2:=ak (below_step HBD.out hb2)
     have HT2:=ak (blk_below HTD.out hb2)
     have s0:=pw_cell_below hb2 hHeld.1
     have s1:=pw_cell_below hb2 hHeld.2.1
     have s2:=pw_cell_below hb2 hHeld.2.2
     clear hb2
     have hHeld_:=hHeld
     refine hK.out _ _ ⟨s0,s1,s2⟩ (fun hHeld=>?_)
     clear hK K hHeld_
     refine no_ 23 ?_
     refine pu_ 12 27 ?_
     refine pu_ 13 28 ?_
     refine pu_ 14 29 ?_
     refine pu_ 15 30 ?_
     refine ta_ 16 31 ?_
     refine pu_ 17 32 ?_
     refine pu_ 18 33 ?_
     refine pu_ 19 34 ?_
     refine po_ 20 35 ?_
     refine po_ 21 36 ?_
     refine po_ 22 37 ?_
     refine po_ 23 38 ?_
     refine pu_ 24 39 ?_
     refine pu_ 25 40 ?_
     refine done_ (by kernel_rfl) ?_
     go_wp2
     go_meet
     exact⟨false,rfl,⟨fun h=>absurd h Bool.false_ne_true⟩,⟨fun h=>⟨HQ2.out,fun _=>HQ3.out,q1⟩⟩,HB2,HT2⟩
    ·have b3:decide ((0:Int)<(t.f5.length:Int))=true:=decide_eq_true (by omega)
     have b4:decide (0<t.f5.length)=true:=decide_eq_true (by omega)
     by_cases q4:partsI t.f0=0
     ·have b5:(partsI t.f0==0)=true:=by simp [q4]
      have HQ4:Aside0 (¬AllOk fr fa wi nm t vars dims):=⟨fun h=>q3 (h.parts q4)⟩
      clear q3 q4
      refine start_ (n:=26) (S:=fun w'=>w'.cell? ⟨bt,0,none⟩=some (.int .i64 t.f0)∧w'.cell? ⟨bt,4,none⟩=some (.slice A4 t.f4.length c4)∧w'.cell? ⟨bt,5,none⟩=some (.slice A5 t.f5.length c5)) (ds:=[]) (upA 26 0) (by kernel_rfl) rfl (by kernel_rfl) ⟨hz0,hz4,hz5⟩ (fun hHeld=>?_)
      have HBD:=ak (below_drew HB0.out)
      have HTD:Aside0 (W0.drew.heap[bt]? = some (.cells #[.int .i64 t.f0,.int .i64 t.f1,.string t.f2,.slice A3 t.f3.length c3,.slice A4 t.f4.length c4,.slice A5 t.f5.length c5] 49 (0,0))):=HT0
      clear hz0 hz4 hz5 HB0 HT0
      generalize W0.drew=W1 at *
      refine pu_ 0 15 ?_
      refine pu_ 1 16 ?_
      refine pu_ 2 17 ?_
      refine pu_ 3 18 ?_
      refine pu_ 4 19 ?_
      refine pu_ 5 20 ?_
      refine pu_ 6 21 ?_
      refine ta_ 7 22 ?_
      refine pu_ 9 24 ?_
      refine ta_ 10 25 ?_
      refine pu_ 11 26 ?_
      refine on_ 8 (some 23) fun K hK=>?_
      refine goes_ Tryz.func63 (by kernel_rfl) rfl #[.int .i64 t.f0] (by rfl) rfl rfl (by (try simp only [List.map_toArray,List.map_cons,List.map_nil]);first | done | rfl) ?_
      with_reducible refine(HP.out.kids t.f0 _).mono ?_
      rintro e w2 ⟨rfl,hb2⟩
      refine⟨_,rfl, ?_⟩
      have HB2:=ak (below_step HBD.out hb2)
      have HT2:=ak (blk_below HTD.out hb2)
      have s0:=pw_cell_below hb2 hHeld.1
      have s1:=pw_cell_below hb2 hHeld.2.1
      have s2:=pw_cell_below hb2 hHeld.2.2
      clear hb2
      have hHeld_:=hHeld
      refine hK.out _ _ ⟨s0,s1,s2⟩ (fun hHeld=>?_)
      clear hK K hHeld_
      refine no_ 23 ?_
      refine pu_ 12 27 ?_
      refine pu_ 13 28 ?_
      refine pu_ 14 29 ?_
      refine pu_ 15 30 ?_
      refine ta_ 16 31 ?_
      refine pu_ 17 32 ?_
      refine pu_ 18 33 ?_
      refine pu_ 19 34 ?_
      refine pu_ 20 35 ?_
      refine ta_ 21 36 ?_
      refine on_ 22 (some 37) fun K hK=>?_
      refine goes_ Tryz.func47 (by kernel_rfl) rfl #[.int .i64 t.f0] (by rfl) rfl rfl (by (try simp only [List.map_toArray,List.map_cons,List.map_nil]);first | done | rfl) ?_
      with_reducible refine(HP.out.parts t.f0 _).mono ?_
      rintro e w3 ⟨rfl,hb3⟩
      refine⟨_,rfl, ?_⟩
      have HB3:=ak (below_step HB2.out hb3)
      have HT3:=ak (blk_below HT2.out hb3)
      have s0:=pw_cell_below hb3 hHeld.1
      have s1:=pw_cell_below hb3 hHeld.2.1
      have s2:=pw_cell_below hb3 hHeld.2.2
      clear hb3
      have hHeld_:=hHeld
      refine hK.out _ _ ⟨s0,s1,s2⟩ (fun hHeld=>?_)
      clear hK K hHeld_
      refine no_ 37 ?_
      refine pu_ 23 38 ?_
      refine pu_ 24 39 ?_
      refine pu_ 25 40 ?_
      refine done_ (by kernel_rfl) ?_
      go_wp2
      go_meet
      exact⟨true,rfl,⟨fun h=>HQ4.out⟩,⟨fun h=>absurd h.symm Bool.false_ne_true⟩,HB3,HT3⟩
     ·have b5:(partsI t.f0==0)=false:=by simp [q4]
      have HQ4:=ak q4
      clear q3 q4
      refine start_ (n:=26) (S:=fun w'=>w'.cell? ⟨bt,0,none⟩=some (.int .i64 t.f0)∧w'.cell? ⟨bt,4,none⟩=some (.slice A4 t.f4.length c4)∧w'.cell? ⟨bt,5,none⟩=some (.slice A5 t.f5.length c5)) (ds:=[]) (upA 26 0) (by kernel_rfl) rfl (by kernel_rfl) ⟨hz0,hz4,hz5⟩ (fun hHeld=>?_)
      have HBD:=ak (below_drew HB0.out)
      have HTD:Aside0 (W0.drew.heap[bt]? = some (.cells #[.int .i64 t.f0,.int .i64 t.f1,.string t.f2,.slice A3 t.f3.length c3,.slice A4 t.f4.length c4,.slice A5 t.f5.length c5] 49 (0,0))):=HT0
      clear hz0 hz4 hz5 HB0 HT0
      generalize W0.drew=W1 at *
      refine pu_ 0 15 ?_
      refine pu_ 1 16 ?_
      refine pu_ 2 17 ?_
      refine pu_ 3 18 ?_
      refine pu_ 4 19 ?_
      refine pu_ 5 20 ?_
      refine pu_ 6 21 ?_
      refine ta_ 7 22 ?_
      refine pu_ 9 24 ?_
      refine ta_ 10 25 ?_
      refine pu_ 11 26 ?_
      refine on_ 8 (some 23) fun K hK=>?_
      refine goes_ Tryz.func63 (by kernel_rfl) rfl #[.int .i64 t.f0] (by rfl) rfl rfl (by (try simp only [List.map_toArray,List.map_cons,List.map_nil]);first | done | rfl) ?_
      with_reducible refine(HP.out.kids t.f0 _).mono ?_
      rintro e w2 ⟨rfl,hb2⟩
      refine⟨_,rfl, ?_⟩
      have HB2:=ak (below_step HBD.out hb2)
      have HT2:=ak (blk_below HTD.out hb2)
      have s0:=pw_cell_below hb2 hHeld.1
      have s1:=pw_cell_below hb2 hHeld.2.1
      have s2:=pw_cell_below hb2 hHeld.2.2
      clear hb2
      have hHeld_:=hHeld
      refine hK.out _ _ ⟨s0,s1,s2⟩ (fun hHeld=>?_)
      clear hK K hHeld_
      refine no_ 23 ?_
      refine pu_ 12 27 ?_
      refine pu_ 13 28 ?_
      refine pu_ 14 29 ?_
      refine pu_ 15 30 ?_
      refine ta_ 16 31 ?_
      refine pu_ 17 32 ?_
      refine pu_ 18 33 ?_
      refine pu_ 19 34 ?_
      refine pu_ 20 35 ?_
      refine ta_ 21 36 ?_
      refine on_ 22 (some 37) fun K hK=>?_
      refine goes_ Tryz.func47 (by kernel_rfl) rfl #[.int .i64 t.f0] (by rfl) rfl rfl (by (try simp only [List.map_toArray,List.map_cons,List.map_nil]);first | done | rfl) ?_
      with_reducible refine(HP.out.parts t.f0 _).mono ?_
      rintro e w3 ⟨rfl,hb3⟩
      refine⟨_,rfl, ?_⟩
      have HB3:=ak (below_step HB2.out hb3)
      have HT3:=ak (blk_below HT2.out hb3)
      have s0:=pw_cell_below hb3 hHeld.1
      have s1:=pw_cell_below hb3 hHeld.2.1
      have s2:=pw_cell_below hb3 hHeld.2.2
      clear hb3
      have hHeld_:=hHeld
      refine hK.out _ _ ⟨s0,s1,s2⟩ (fun hHeld=>?_)
      clear hK K hHeld_
      refine no_ 37 ?_
      refine pu_ 23 38 ?_
      refine pu_ 24 39 ?_
      refine pu_ 25 40 ?_
      refine done_ (by kernel_rfl) ?_
      go_wp2
      go_meet
      exact⟨false,rfl,⟨fun h=>absurd h Bool.false_ne_true⟩,⟨fun h=>⟨HQ2.out,fun h=>absurd h HQ4.out,q1⟩⟩,HB3,HT3⟩
   ·have b2:(kidsI t.f0 != (t.f4.length:Int))=true:=by simp [q2]
    have HQ2:Aside0 (¬AllOk fr fa wi nm t vars dims):=⟨fun h=>q2 h.kids⟩
    clear q2
    refine start_ (n:=26) (S:=fun w'=>w'.cell? ⟨bt,0,none⟩=some (.int .i64 t.f0)∧w'.cell? ⟨bt,4,none⟩=some (.slice A4 t.f4.length c4)∧w'.cell? ⟨bt,5,none⟩=some (.slice A5 t.f5.length c5)) (ds:=[]) (upA 26 0) (by kernel_rfl) rfl (by kernel_rfl) ⟨hz0,hz4,hz5⟩ (fun hHeld=>?_)
    have HBD:=ak (below_drew HB0.out)
    have HTD:Aside0 (W0.drew.heap[bt]? = some (.cells #[.int .i64 t.f0,.int .i64 t.f1,.string t.f2,.slice A3 t.f3.length c3,.slice A4 t.f4.length c4,.slice A5 t.f5.length c5] 49 (0,0))):=HT0
    clear hz0 hz4 hz5 HB0 HT0
    generalize W0.drew=W1 at *
    refine pu_ 0 15 ?_
    refine pu_ 1 16 ?_
    refine pu_ 2 17 ?_
    refine pu_ 3 18 ?_
    refine pu_ 4 19 ?_
    refine pu_ 5 20 ?_
    refine pu_ 6 21 ?_
    refine ta_ 7 22 ?_
    refine pu_ 9 24 ?_
    refine ta_ 10 25 ?_
    refine pu_ 11 26 ?_
    refine on_ 8 (some 23) fun K hK=>?_
    refine goes_ Tryz.func63 (by kernel_rfl) rfl #[.int .i64 t.f0] (by rfl) rfl rfl (by (try simp only [List.map_toArray,List.map_cons,List.map_nil]);first | done | rfl) ?_
    with_reducible refine(HP.out.kids t.f0 _).mono ?_
    rintro e w2 ⟨rfl,hb2⟩
    refine⟨_,rfl, ?_⟩
    have HB2:=ak (below_step HBD.out hb2)
    have HT2:=ak (blk_below HTD.out hb2)
    have s0:=pw_cell_below hb2 hHeld.1
    have s1:=pw_cell_below hb2 hHeld.2.1
    have s2:=pw_cell_below hb2 hHeld.2.2
    clear hb2
    have hHeld_:=hHeld
    refine hK.out _ _ ⟨s0,s1,s2⟩ (fun hHeld=>?_)
    clear hK K hHeld_
    refine no_ 23 ?_
    refine pu_ 12 27 ?_
    refine pu_ 13 28 ?_
    refine pu_ 14 29 ?_
    refine po_ 15 30 ?_
    refine po_ 16 31 ?_
    refine po_ 17 32 ?_
    refine po_ 18 33 ?_
    refine po_ 19 34 ?_
    refine po_ 20 35 ?_
    refine po_ 21 36 ?_
    refine po_ 22 37 ?_
    refine po_ 23 38 ?_
    refine po_ 24 39 ?_
    refine pu_ 25 40 ?_
    refine done_ (by kernel_rfl) ?_
    go_wp2
    go_meet
    exact⟨true,rfl,⟨fun h=>HQ2.out⟩,⟨fun h=>absurd h.symm Bool.false_ne_true⟩,HB2,HT2⟩
  ·have b1:decide (24<dims)=true:=decide_eq_true (by omega)
   have HQ1:Aside0 (¬AllOk fr fa wi nm t vars dims):=⟨fun h=>q1 h.dims⟩
   clear q1
   refine start_ (n:=26) (S:=fun w'=>w'.cell? ⟨bt,0,none⟩=some (.int .i64 t.f0)∧w'.cell? ⟨bt,4,none⟩=some (.slice A4 t.f4.length c4)∧w'.cell? ⟨bt,5,none⟩=some (.slice A5 t.f5.length c5)) (ds:=[]) (upA 26 0) (by kernel_rfl) rfl (by kernel_rfl) ⟨hz0,hz4,hz5⟩ (fun hHeld=>?_)
   have HBD:=ak (below_drew HB0.out)
   have HTD:Aside0 (W0.drew.heap[bt]? = some (.cells #[.int .i64 t.f0,.int .i64 t.f1,.string t.f2,.slice A3 t.f3.length c3,.slice A4 t.f4.length c4,.slice A5 t.f5.length c5] 49 (0,0))):=HT0
   clear hz0 hz4 hz5 HB0 HT0
   generalize W0.drew=W1 at *
   refine pu_ 0 15 ?_
   refine pu_ 1 16 ?_
   refine pu_ 2 17 ?_
   refine pu_ 3 18 ?_
   refine pu_ 4 19 ?_
   refine pu_ 5 20 ?_
   refine po_ 6 21 ?_
   refine po_ 7 22 ?_
   refine po_ 8 23 ?_
   refine po_ 9 24 ?_
   refine po_ 10 25 ?_
   refine po_ 11 26 ?_
   refine po_ 12 27 ?_
   refine pu_ 13 28 ?_
   refine pu_ 14 29 ?_
   refine po_ 15 30 ?_
   refine po_ 16 31 ?_
   refine po_ 17 32 ?_
   refine po_ 18 33 ?_
   refine po_ 19 34 ?_
   refine po_ 20 35 ?_
   refine po_ 21 36 ?_
   refine po_ 22 37 ?_
   refine po_ 23 38 ?_
   refine po_ 24 39 ?_
   refine pu_ 25 40 ?_
   refine done_ (by kernel_rfl) ?_
   go_wp2
   go_meet
   exact⟨true,rfl,⟨fun h=>HQ1.out⟩,⟨fun h=>absurd h.symm Bool.false_ne_true⟩,HBD,HTD⟩
 case rest =>
  clear HB0 HT0
  obtain⟨bb,rfl,HY,HN,HB,HT⟩:=hcut
  cases bb
  rotate_left
  ·have HQ:Aside0 (allT fr fa wi nm t vars dims=false):=⟨HNo.out (HY.out rfl)⟩
   clear HY HN
   go_wp2
   go_ret
   exact⟨by rw [HQ.out];rfl,HB.out⟩
  ·obtain⟨q1,q2,q3⟩:=HN.out rfl
   have HQ1:=ak q1
   have HQ2:=ak q2
   clear HY HN q1 q2
   have hz0:=(blk_cell HT.out 0).trans (rfl:_=some (Value.int .i64 t.f0))
   have hz1:=(blk_cell HT.out 1).trans (rfl:_=some (Value.int .i64 t.f1))
   have hv0:decide (vars<0)=false:=decide_eq_false (by omega)
   have hv1:decide ((0:Int)≤vars)=true:=decide_eq_true h0
   go_upto_if 43 with fail
   go_cut [] from 44 to 59 (fun wx=>Aside0 ((t.f0=1→0≤t.f1∧(vars<0∨t.f1<vars))∧(t.f0≠1→t.f1=0))∧Aside0 (Below w.heap.size w wx)∧Aside0 (wx.heap[bt]? = some (.cells #[.int .i64 t.f0,.int .i64 t.f1,.string t.f2,.slice A3 t.f3.length c3,.slice A4 t.f4.length c4,.slice A5 t.f5.length c5] 49 (0,0))))
   case first =>
    by_cases k1:t.f0=1
    ·have b1:(t.f0==1)=true:=by simp [k1]
     by_cases k2:0≤t.f1
     ·have b2:decide (t.f1<0)=false:=decide_eq_false (by omega)
      by_cases k3:t.f1<vars
      ·have b3:decide (vars≤t.f1)=false:=decide_eq_false (by omega)
       have HG:Aside0 ((t.f0=1→0≤t.f1∧(vars<0∨t.f1<vars))∧(t.f0≠1→t.f1=0)):=⟨fun _=>⟨k2,.inr k3⟩,fun h=>absurd k1 h⟩
       clear k1 k2 k3
       go_wp2
       go_meet
       exact⟨HG,HB,HT⟩
      ·have b3:decide (vars≤t.f1)=true:=decide_eq_true (by omega)
       have HQ:Aside0 (allT fr fa wi nm t vars dims=false):=⟨HNo.out fun h=>by have:=h.v1 k1;omega⟩
       clear k1 k2 k3
       go_wp2
       go_ret
       exact⟨by rw [HQ.out];rfl,HB.out⟩
     ·have b2:decide (t.f1<0)=true:=decide_eq_true (by omega)
      have HQ:Aside0 (allT fr fa wi nm t vars dims=false):=⟨HNo.out fun h=>by have:=h.v1 k1;omega⟩
      clear k1 k2
      go_wp2
      go_ret
      exact⟨by rw [HQ.out];rfl,HB.out⟩
    ·have b1:(t.f0==1)=false:=by simp [k1]
     by_cases k2:t.f1=0
     ·have b2:(t.f1 != 0)=false:=by simp [k2]
      have HG:Aside0 ((t.f0=1→0≤t.f1∧(vars<0∨t.f1<vars))∧(t.f0≠1→t.f1=0)):=⟨fun h=>absurd h k1,fun _=>k2⟩
      clear k1 k2
      go_wp2
      go_meet
      exact⟨HG,HB,HT⟩
     ·have b2:(t.f1 != 0)=true:=by simp [k2]
      have HQ:Aside0 (allT fr fa wi nm t vars dims=false):=⟨HNo.out fun h=>k2 (h.v0 k1)⟩
      clear k1 k2
      go_wp2
      go_ret
      exact⟨by rw [HQ.out];rfl,HB.out⟩
   case rest =>
    clear HB HT hz0 hz1
    obtain⟨HG1,HB,HT⟩:=hcut
    have hz0:=(blk_cell HT.out 0).trans (rfl:_=some (Value.int .i64 t.f0))
    have hz2:=(blk_cell HT.out 2).trans (rfl:_=some (Value.string t.f2))
    have hcn:=HP.out.name t.f2 wc (okS_N HO.out).2.1
    go_upto_region 8 with fail
    go_cut [78] from 60 to 78 (fun v wx=>∃bb:Bool,v=.bool bb∧Aside0 (bb=true→¬AllOk fr fa wi nm t vars dims)∧Aside0 (bb=false→(t.f0=2→nm t.f2=true)∧(t.f0≠2→t.f2.size=0))∧Aside0 (Below w.heap.size w wx)∧Aside0 (wx.heap[bt]? = some (.cells #[.int .i64 t.f0,.int .i64 t.f1,.string t.f2,.slice A3 t.f3.length c3,.slice A4 t.f4.length c4,.slice A5 t.f5.length c5] 49 (0,0))))
    case first =>
     by_cases k2:t.f0=2
     ·have b1:(t.f0==2)=true:=by simp [k2]
      have b2:(t.f0 != 2)=false:=by simp [k2]
      cases hn:nm t.f2
      ·have HG:Aside0 (¬AllOk fr fa wi nm t vars dims):=⟨fun h=>by have:=h.n2 k2;rw [hn] at this;exact absurd this Bool.false_ne_true⟩
       rw [hn] at hcn
       clear hn k2
       go_wp2_with (go_at_call 64;refine hcn.mono ?_;rintro e w2 ⟨rfl,hb2⟩;have HB2:=ak (below_step HB.out hb2);have HT2:=ak (blk_below HT.out hb2);clear hb2 hcn)
       go_meet
       exact⟨true,rfl,⟨fun _=>HG.out⟩,⟨fun h=>absurd h.symm Bool.false_ne_true⟩,HB2,HT2⟩
      ·have HG:Aside0 ((t.f0=2→nm t.f2=true)∧(t.f0≠2→t.f2.size=0)):=⟨fun _=>hn,fun h=>absurd k2 h⟩
       rw [hn] at hcn
       clear hn k2
       go_wp2_with (go_at_call 64;refine hcn.mono ?_;rintro e w2 ⟨rfl,hb2⟩;have HB2:=ak (below_step HB.out hb2);have HT2:=ak (blk_below HT.out hb2);have hz0:=(blk_cell HT2.out 0).trans (rfl:_=some (Value.int .i64 t.f0));clear hb2 hcn)
       go_meet
       exact⟨false,rfl,⟨fun h=>absurd h Bool.false_ne_true⟩,⟨fun _=>HG.out⟩,HB2,HT2⟩
     ·have b1:(t.f0==2)=false:=by simp [k2]
      have b2:(t.f0 != 2)=true:=by simp [k2]
      by_cases k3:t.f2.size=0
      ·have b3:=str_no k3
       have HG:Aside0 ((t.f0=2→nm t.f2=true)∧(t.f0≠2→t.f2.size=0)):=⟨fun h=>absurd h k2,fun _=>k3⟩
       clear k2 k3 hcn
       go_wp2
       go_meet
       exact⟨false,rfl,⟨fun h=>absurd h Bool.false_ne_true⟩,⟨fun _=>HG.out⟩,HB,HT⟩
      ·have b3:=str_yes k3
       have HG:Aside0 (¬AllOk fr fa wi nm t vars dims):=⟨fun h=>k3 (h.n0 k2)⟩
       clear k2 k3 hcn
       go_wp2
       go_meet
       exact⟨true,rfl,⟨fun _=>HG.out⟩,⟨fun h=>absurd h.symm Bool.false_ne_true⟩,HB,HT⟩
    case rest =>
     clear HB HT hz0 hz2 hcn
     obtain⟨bb,rfl,HY,HN,HB,HT⟩:=hcut
     cases bb
     rotate_left
     ·have HQ:Aside0 (allT fr fa wi nm t vars dims=false):=⟨HNo.out (HY.out rfl)⟩
      clear HY HN
      go_wp2
      go_ret
      exact⟨by rw [HQ.out];rfl,HB.out⟩
     ·have HG2:=ak (HN.out rfl)
      clear HY HN
      have hz0:=(blk_cell HT.out 0).trans (rfl:_=some (Value.int .i64 t.f0))
      go_upto_block 0 with fail
      go_cut [] from 81 to 98 (fun wx=>Aside0 ((t.f0=13∨t.f0=21∨t.f0=26→fr t.f3=true)∧(t.f0=14→fa t.f3=true)∧(¬rowI t.f0→t.f3.length=0))∧Aside0 (Below w.heap.size w wx)∧Aside0 (wx.heap[bt]? = some (.cells #[.int .i64 t.f0,.int .i64 t.f1,.string t.f2,.slice A3 t.f3.length c3,.slice A4 t.f4.length c4,.slice A5 t.f5.length c5] 49 (0,0))))
      case first =>
       have hz3:=(blk_cell HT.out 3).trans (rfl:_=some (Value.slice A3 t.f3.length c3))
       by_cases k3:t.f0=13∨t.f0=21∨t.f0=26
       ·have hbs:(t.f0==13)=true∨(t.f0==13)=false∧(t.f0==21)=true∨(t.f0==13)=false∧(t.f0==21)=false∧(t.f0==26)=true:=by
         rcases k3 with e | e | e<;>simp [e]
        have hc:=HP.out.fright A3 c3 t.f3 wc (Kd.C_below HG3.out HB.out) HL3.out (okS_N HO.out).1
        cases hf:fr t.f3
        ·have HQ:Aside0 (allT fr fa wi nm t vars dims=false):=⟨HNo.out fun h=>by have:=h.r1 k3;rw [hf] at this;exact absurd this Bool.false_ne_true⟩
         rw [hf] at hc
         clear hf k3
         rcases hbs with b3 | ⟨b3,b4⟩ | ⟨b3,b4,b5⟩
         all_goals
          go_wp2_with (go_at_call 65;refine hc.mono ?_;rintro e w2 ⟨rfl,hb2⟩;have HB2:=ak (below_step HB.out hb2);clear hb2 hc)
          go_ret
          exact⟨by rw [HQ.out];rfl,HB2.out⟩
        ·have HG:Aside0 ((t.f0=13∨t.f0=21∨t.f0=26→fr t.f3=true)∧(t.f0=14→fa t.f3=true)∧(¬rowI t.f0→t.f3.length=0)):=⟨fun _=>hf,fun h=>by omega,fun h=>absurd (by unfold rowI;omega) h⟩
         rw [hf] at hc
         clear hf k3
         rcases hbs with b3 | ⟨b3,b4⟩ | ⟨b3,b4,b5⟩
         all_goals
          go_wp2_with (go_at_call 65;refine hc.mono ?_;rintro e w2 ⟨rfl,hb2⟩;have HB2:=ak (below_step HB.out hb2);have HT2:=ak (blk_below HT.out hb2);clear hb2 hc)
          go_meet
          exact⟨HG,HB2,HT2⟩
       ·have b3:(t.f0==13)=false:=by simp;omega
        have b4:(t.f0==21)=false:=by simp;omega
        have b5:(t.f0==26)=false:=by simp;omega
        by_cases k4:t.f0=14
        ·have b6:(t.f0==14)=true:=by simp [k4]
         have hc:=HP.out.faright A3 c3 t.f3 wc (Kd.C_below HG3.out HB.out) HL3.out (okS_N HO.out).1
         cases hf:fa t.f3
         ·have HQ:Aside0 (allT fr fa wi nm t vars dims=false):=⟨HNo.out fun h=>by have:=h.r2 k4;rw [hf] at this;exact absurd this Bool.false_ne_true⟩
          rw [hf] at hc
          clear hf k3 k4
          go_wp2_with (go_at_call 66;refine hc.mono ?_;rintro e w2 ⟨rfl,hb2⟩;have HB2:=ak (below_step HB.out hb2);clear hb2 hc)
          go_ret
          exact⟨by rw [HQ.out];rfl,HB2.out⟩
         ·have HG:Aside0 ((t.f0=13∨t.f0=21∨t.f0=26→fr t.f3=true)∧(t.f0=14→fa t.f3=true)∧(¬rowI t.f0→t.f3.length=0)):=⟨fun h=>by omega,fun _=>hf,fun h=>absurd (by unfold rowI;omega) h⟩
          rw [hf] at hc
          clear hf k3 k4
          go_wp2_with (go_at_call 66;refine hc.mono ?_;rintro e w2 ⟨rfl,hb2⟩;have HB2:=ak (below_step HB.out hb2);have HT2:=ak (blk_below HT.out hb2);clear hb2 hc)
          go_meet
          exact⟨HG,HB2,HT2⟩
        ·have b6:(t.f0==14)=false:=by simp [k4]
         by_cases r1:t.f3.length=0
         ·have HG:Aside0 ((t.f0=13∨t.f0=21∨t.f0=26→fr t.f3=true)∧(t.f0=14→fa t.f3=true)∧(¬rowI t.f0→t.f3.length=0)):=⟨fun h=>absurd h k3,fun h=>absurd h k4,fun _=>r1⟩
          have b7:decide ((0:Int)<(t.f3.length:Int))=false:=decide_eq_false (by omega)
          have b8:decide (0<t.f3.length)=false:=decide_eq_false (by omega)
          clear k3 k4 r1
          go_wp2
          go_meet
          exact⟨HG,HB,HT⟩
         ·have HQ:Aside0 (allT fr fa wi nm t vars dims=false):=⟨HNo.out fun h=>r1 (h.r0 (by unfold rowI;omega))⟩
          have b7:decide ((0:Int)<(t.f3.length:Int))=true:=decide_eq_true (by omega)
          have b8:decide (0<t.f3.length)=true:=decide_eq_true (by omega)
          clear k3 k4 r1
          go_wp2
          go_ret
          exact⟨by rw [HQ.out];rfl,HB.out⟩
      case rest =>
       clear HB HT hz0
       obtain⟨HG3x,HB,HT⟩:=hcut
       have hz3:=(blk_cell HT.out 3).trans (rfl:_=some (Value.slice A3 t.f3.length c3))
       have hc:=HP.out.low A3 c3 t.f3 dims wc (Kd.C_below HG3.out HB.out) HL3.out (okS_N HO.out).1 h2 (by omega)
       cases hlo:wi t.f3 dims
       ·have HQ:Aside0 (allT fr fa wi nm t vars dims=false):=⟨HNo.out fun h=>by have:=h.low;rw [hlo] at this;exact absurd this Bool.false_ne_true⟩
        rw [hlo] at hc
        clear hlo
        go_wp2_with (go_at_call 67;refine hc.mono ?_;rintro e w2 ⟨rfl,hb2⟩;have HB2:=ak (below_step HB.out hb2);clear hb2 hc)
        go_ret
        exact⟨by rw [HQ.out];rfl,HB2.out⟩
       ·have HLO:=ak hlo
        rw [hlo] at hc
        clear hlo
        go_wp2_with (go_at_call 67;refine hc.mono ?_;rintro e w2 ⟨rfl,hb2⟩;have HB2:=ak (below_step HB.out hb2);have HT2:=ak (blk_below HT.out hb2);clear hb2 hc)
        clear HB HT hz3
        go_loopg [9] (t.f4.length+1) (fun kq v9 wx=>∃j:Nat,v9=.int .i64 (j:Int)∧j≤t.f4.length∧kq+j=t.f4.length+1∧Aside0 (allL fr fa wi nm t.f0 t.f4 0 vars dims=allL fr fa wi nm t.f0 (t.f4.drop j) j vars dims)∧Aside0 (Below w.heap.size w wx)∧Aside0 (wx.heap[bt]? = some (.cells #[.int .i64 t.f0,.int .i64 t.f1,.string t.f2,.slice A3 t.f3.length c3,.slice A4 t.f4.length c4,.slice A5 t.f5.length c5] 49 (0,0))))
        case atStart=>exact⟨0,rfl,Nat.zero_le _,rfl,⟨rfl⟩,HB2,HT2⟩
        case round =>
         clear HB2 HT2
         obtain⟨j,rfl,hj,hk,HE,HB,HT⟩:=hrel
         have hz4:=(blk_cell HT.out 4).trans (rfl:_=some (Value.slice A4 t.f4.length c4))
         by_cases hlt:j<t.f4.length
         ·have hd:decide ((j:Int)<(t.f4.length:Int))=true:=decide_eq_true (by omega)
          obtain⟨ad,A3k,c3k,A4k,c4k,A5k,c5k,e,g0,g1,g2,g3,g4,g5,hKk⟩:=at_tm HG4.out j hlt
          cases e
          have hmem:t.f4[j]∈t.f4:=List.getElem_mem _
          have hdr:=List.drop_eq_getElem_cons hlt
          obtain⟨k,hkk⟩:∃k,t.f4[j]=k:=⟨_,rfl⟩
          rw [hkk] at g0 g1 g2 g3 g4 g5 hKk hmem hdr
          have hE:=HE.out
          rw [hdr,allL] at hE
          have hcb:=HP.out.binds t.f0 (j:Int) wr
          have HVD:=ak (bindsI_01 t.f0 (j:Int))
          obtain⟨v,hv⟩:∃v,(bindsI t.f0 (j:Int)).1=v:=⟨_,rfl⟩
          obtain⟨d,hd2⟩:∃d,(bindsI t.f0 (j:Int)).2=d:=⟨_,rfl⟩
          rw [hv,hd2] at hE hcb HVD
          have HEE:=ak hE
          have HKK:=ak hKk
          have HS1:=ak (sizeT_kid hmem)
          have HS2:=ak (okSL_mem (okS_eq HO.out).2.2.1 hmem)
          have HX:Aside0 (∀w2,Below w.heap.size w w2→w2.cell? (ad.add (j * 6))=some (.int .i64 k.f0)∧w2.cell? ⟨(ad.add (j * 6)).block,(ad.add (j * 6)).off+1,none⟩=some (.int .i64 k.f1)∧w2.cell? ⟨(ad.add (j * 6)).block,(ad.add (j * 6)).off+2,none⟩=some (.string k.f2)∧w2.cell? ⟨(ad.add (j * 6)).block,(ad.add (j * 6)).off+3,none⟩=some (.slice A3k k.f3.length c3k)∧w2.cell? ⟨(ad.add (j * 6)).block,(ad.add (j * 6)).off+4,none⟩=some (.slice A4k k.f4.length c4k)∧w2.cell? ⟨(ad.add (j * 6)).block,(ad.add (j * 6)).off+5,none⟩=some (.slice A5k k.f5.length c5k)):=⟨fun w2 h=>⟨pw_cell_below h g0,pw_cell_below h g1,pw_cell_below h g2,pw_cell_below h g3,pw_cell_below h g4,pw_cell_below h g5⟩⟩
          have hz0:=(blk_cell HT.out 0).trans (rfl:_=some (Value.int .i64 t.f0))
          obtain⟨v0,v1,d0,d1⟩:=HVD.out
          clear hE HE hv hd2 hdr hkk hmem hKk g0 g1 g2 g3 g4 g5
          cases ha:allT fr fa wi nm k (vars+v) (dims+d)
          ·have HQ:Aside0 (allT fr fa wi nm t vars dims=false):=⟨HNo.out fun h=>by have:=h.ks;rw [HEE.out,ha] at this;exact absurd this Bool.false_ne_true⟩
           have HAA:=ak ha
           clear ha
           go_wp2_with (first
            | (go_at_call 68;refine hcb.mono ?_;rintro e w3 ⟨rfl,hb3⟩;have HB3:=ak (below_step HB.out hb3);have HT3:=ak (blk_below HT.out hb3);have hz4b:=(blk_cell HT3.out 4).trans (rfl:_=some (Value.slice (some ad) t.f4.length c4));obtain⟨g0,g1,g2,g3,g4,g5⟩:=HX.out w3 HB3.out;have hca:=HIH.out k (vars+v) (dims+d) _ w3 (by have:=HS1.out;omega) HS2.out (by omega) (by omega) (by omega) (by omega) (k49.K_below HB3.out HKK.out);rw [HAA.out] at hca;clear hcb hb3)
            | (go_at_call 44;refine hca.mono ?_;rintro e w4 ⟨rfl,hb4⟩;have HB4:=ak (below_step HB3.out hb4);clear hb4 hca))
           go_ret
           exact⟨by rw [HQ.out];rfl,HB4.out⟩
          ·have HE2:Aside0 (allL fr fa wi nm t.f0 t.f4 0 vars dims=allL fr fa wi nm t.f0 (t.f4.drop (j+1)) (j+1) vars dims):=⟨by rw [HEE.out,ha,Bool.true_and]⟩
           have HAA:=ak ha
           clear ha
           go_wp2_with (first
            | (go_at_call 68;refine hcb.mono ?_;rintro e w3 ⟨rfl,hb3⟩;have HB3:=ak (below_step HB.out hb3);have HT3:=ak (blk_below HT.out hb3);have hz4b:=(blk_cell HT3.out 4).trans (rfl:_=some (Value.slice (some ad) t.f4.length c4));obtain⟨g0,g1,g2,g3,g4,g5⟩:=HX.out w3 HB3.out;have hca:=HIH.out k (vars+v) (dims+d) _ w3 (by have:=HS1.out;omega) HS2.out (by omega) (by omega) (by omega) (by omega) (k49.K_below HB3.out HKK.out);rw [HAA.out] at hca;clear hcb hb3)
            | (go_at_call 44;refine hca.mono ?_;rintro e w4 ⟨rfl,hb4⟩;have HB4:=ak (below_step HB3.out hb4);have HT4:=ak (blk_below HT3.out hb4);clear hb4 hca))
           go_roundg (gk-1)
           case measure=>omega
           case rel=>exact⟨j+1,rfl,by omega,by omega,HE2,HB4,HT4⟩
         ·have hd:decide ((j:Int)<(t.f4.length:Int))=false:=decide_eq_false (by omega)
          have HKS:Aside0 (allL fr fa wi nm t.f0 t.f4 0 vars dims=true):=⟨by rw [HE.out,List.drop_eq_nil_of_le (by omega),allL]⟩
          clear HE
          have hz5:=(blk_cell HT.out 5).trans (rfl:_=some (Value.slice A5 t.f5.length c5))
          go_wp2
          obtain⟨go,rfl⟩:∃go,go=gk:=⟨_,rfl⟩
          obtain⟨wo,rfl⟩:∃wo:World,wo=wr:=⟨_,rfl⟩
          go_loopg [12] (t.f5.length+1) (fun kq v12 wx=>∃i:Nat,v12=.int .i64 (i:Int)∧i≤t.f5.length∧kq+i=t.f5.length+1∧Aside0 (∀b∈t.f5.take i,ownR fa wi t.f0 dims b=true∧allBr fr fa wi nm t.f0 b vars dims=true)∧Aside0 (Below w.heap.size w wx)∧Aside0 (wx.heap[bt]? = some (.cells #[.int .i64 t.f0,.int .i64 t.f1,.string t.f2,.slice A3 t.f3.length c3,.slice A4 t.f4.length c4,.slice A5 t.f5.length c5] 49 (0,0))))
          case atStart=>exact⟨0,rfl,Nat.zero_le _,rfl,⟨fun b hb=>absurd hb (by simp)⟩,HB,HT⟩
          case round =>
           clear HB HT hz5 hz4
           obtain⟨i,rfl,hi,hki,HA,HB,HT⟩:=hrel
           have hz5:=(blk_cell HT.out 5).trans (rfl:_=some (Value.slice A5 t.f5.length c5))
           by_cases hli:i<t.f5.length
           ·have hdi:decide ((i:Int)<(t.f5.length:Int))=true:=decide_eq_true (by omega)
            obtain⟨ad,A0b,c0b,A1b,c1b,e,g0,g1,l0,q0,l1,q1⟩:=at_br HG5.out i hli
            cases e
            have hmb:t.f5[i]∈t.f5:=List.getElem_mem _
            obtain⟨b,hbb⟩:∃b,t.f5[i]=b:=⟨_,rfl⟩
            have HTK:Aside0 (∀c∈t.f5.take (i+1),c∈t.f5.take i∨c=b):=⟨fun c hc=>by rw [List.take_succ_eq_append_getElem hli,hbb] at hc;simpa using hc⟩
            rw [hbb] at g0 g1 l0 q0 l1 q1 hmb
            replace g0:=pw_cell_below HB.out g0
            replace g1:=pw_cell_below HB.out g1
            have hmk1:b.f1.length≤9223372036854775807:=Kd.C_max q1
            have HMB:=ak hmb
            have HOB:=ak (okSR_eq (okSB_mem (okS_eq HO.out).2.2.2 hmb))
            have HG0:=ak q0
            have HL0:=ak l0
            have HG1:=ak q1
            clear hmb hbb q0 q1 l0 l1
            have HBA:=ak (HB.out.alloc HB.out.size (.cells #[.slice A0b b.f0.length c0b,.slice A1b b.f1.length c1b] 90))
            have HTA:=ak (blk_alloc HT.out (.cells #[.slice A0b b.f0.length c0b,.slice A1b b.f1.length c1b] 90))
            have HNA:=ak (blk_new wr (.cells #[.slice A0b b.f0.length c0b,.slice A1b b.f1.length c1b] 90))
            go_upto_region 35 with fail
            generalize hbr:wr.heap.size=bb at *
            generalize hWA:wr.alloc (.cells #[.slice A0b b.f0.length c0b,.slice A1b b.f1.length c1b] 90)=WA at *
            clear hWA hbr g0 g1 HB HT hz5
            go_cut [165] from 146 to 165 (fun v wx=>∃bb2:Bool,v=.bool bb2∧Aside0 (bb2=true→¬AllOk fr fa wi nm t vars dims)∧Aside0 (bb2=false→ownR fa wi t.f0 dims b=true)∧Aside0 (wx.heap[bb]? = some (.cells #[.slice A0b b.f0.length c0b,.slice A1b b.f1.length c1b] 90 (0,0)))∧Aside0 (Below w.heap.size w wx)∧Aside0 (wx.heap[bt]? = some (.cells #[.int .i64 t.f0,.int .i64 t.f1,.string t.f2,.slice A3 t.f3.length c3,.slice A4 t.f4.length c4,.slice (some ad) t.f5.length c5] 49 (0,0))))
            case first =>
             have hn0:=(blk_cell HNA.out 0).trans (rfl:_=some (Value.slice A0b b.f0.length c0b))
             have hn1:=(blk_cell HNA.out 1).trans (rfl:_=some (Value.slice A1b b.f1.length c1b))
             have hz0:=(blk_cell HTA.out 0).trans (rfl:_=some (Value.int .i64 t.f0))
             have hcf:=fun w1 h=>HP.out.faright A0b c0b b.f0 w1 (Kd.C_below HG0.out h) HL0.out HOB.out.1
             have hcl:=fun w1 h=>HP.out.low A0b c0b b.f0 dims w1 (Kd.C_below HG0.out h) HL0.out HOB.out.1 h2 (by omega)
             have HCF:=ak hcf
             have HCL:=ak hcl
             clear hcf hcl
             by_cases q1:(b.f1.length:Int)=partsI t.f0
             ·have b1:((b.f1.length:Int) != partsI t.f0)=false:=by simp [q1]
              cases hf:fa b.f0
              ·have HNOK:Aside0 (¬AllOk fr fa wi nm t vars dims):=⟨fun h=>by have:=(h.bs b HMB.out).1;rw [ownR,hf,Bool.and_false] at this;exact absurd this Bool.false_ne_true⟩
               have hcf:=HCF.out
               rw [hf] at hcf
               clear hf q1
               refine start_ (n:=20) (S:=fun w'=>w'.cell? ⟨bb,0,none⟩=some (.slice A0b b.f0.length c0b)∧w'.cell? ⟨bb,1,none⟩=some (.slice A1b b.f1.length c1b)∧w'.cell? ⟨bt,0,none⟩=some (.int .i64 t.f0)) (ds:=[]) (upA 20 0) (by kernel_rfl) rfl (by kernel_rfl) ⟨hn0,hn1,hz0⟩ (fun hHeld=>?_)
               have HB1:=ak (below_drew HBA.out)
               have HT1:=ak (blk_drew HTA.out)
               have HN1:=ak (blk_drew HNA.out)
               clear hn0 hn1 hz0 HBA HTA HNA
               generalize WA.drew=W1 at *
               refine pu_ 0 146 ?_
               refine ta_ 1 147 ?_
               refine pu_ 2 148 ?_
               refine pu_ 3 149 ?_
               refine ta_ 4 150 ?_
               refine on_ 5 (some 151) fun K hK=>?_
               refine goes_ Tryz.func47 (by kernel_rfl) rfl #[.int .i64 t.f0] (by rfl) rfl rfl (by (try simp only [List.map_toArray,List.map_cons,List.map_nil]);first | done | rfl) ?_
               with_reducible refine(HP.out.parts t.f0 _).mono ?_
               rintro e w2 ⟨rfl,hb2⟩
               refine⟨_,rfl, ?_⟩
               have HB2:=ak (below_step HB1.out hb2)
               have HT2:=ak (blk_below HT1.out hb2)
               have HN2:=ak (blk_below HN1.out hb2)
               have s0:=pw_cell_below hb2 hHeld.1
               have s1:=pw_cell_below hb2 hHeld.2.1
               have s2:=pw_cell_below hb2 hHeld.2.2
               clear hb2
               have hHeld_:=hHeld
               refine hK.out _ _ ⟨s0,s1,s2⟩ (fun hHeld=>?_)
               clear hK K hHeld_
               refine no_ 151 ?_
               refine pu_ 6 152 ?_
               refine pu_ 7 153 ?_
               refine pu_ 8 154 ?_
               refine ta_ 9 155 ?_
               refine on_ 10 (some 156) fun K hK=>?_
               refine goes_ Tryz.func66 (by kernel_rfl) rfl #[.slice A0b b.f0.length c0b] (by rfl) rfl rfl (by (try simp only [List.map_toArray,List.map_cons,List.map_nil]);first | done | rfl) ?_
               with_reducible refine(hcf _ HB2.out).mono ?_
               rintro e w3 ⟨rfl,hb3⟩
               refine⟨_,rfl, ?_⟩
               have HB3:=ak (below_step HB2.out hb3)
               have HT3:=ak (blk_below HT2.out hb3)
               have HN3:=ak (blk_below HN2.out hb3)
               have s0:=pw_cell_below hb3 hHeld.1
               have s1:=pw_cell_below hb3 hHeld.2.1
               have s2:=pw_cell_below hb3 hHeld.2.2
               clear hb3
               have hHeld_:=hHeld
               refine hK.out _ _ ⟨s0,s1,s2⟩ (fun hHeld=>?_)
               clear hK K hHeld_
               refine no_ 156 ?_
               refine pu_ 11 157 ?_
               refine pu_ 12 158 ?_
               refine pu_ 13 159 ?_
               refine po_ 14 160 ?_
               refine po_ 15 161 ?_
               refine po_ 16 162 ?_
               refine po_ 17 163 ?_
               refine po_ 18 164 ?_
               refine pu_ 19 165 ?_
               refine done_ (by kernel_rfl) ?_
               go_wp2
               go_meet
               exact⟨true,rfl,⟨fun h=>HNOK.out⟩,⟨fun h=>absurd h.symm Bool.false_ne_true⟩,HN3,HB3,HT3⟩
              ·cases hw:wi b.f0 dims
               ·have HNOK:Aside0 (¬AllOk fr fa wi nm t vars dims):=⟨fun h=>by have:=(h.bs b HMB.out).1;rw [ownR,hw,Bool.and_false] at this;exact absurd this Bool.false_ne_true⟩
                have hcf:=HCF.out
                have hcl:=HCL.out
                rw [hf] at hcf
                rw [hw] at hcl
                clear hf q1 hw
                refine start_ (n:=20) (S:=fun w'=>w'.cell? ⟨bb,0,none⟩=some (.slice A0b b.f0.length c0b)∧w'.cell? ⟨bb,1,none⟩=some (.slice A1b b.f1.length c1b)∧w'.cell? ⟨bt,0,none⟩=some (.int .i64 t.f0)) (ds:=[]) (upA 20 0) (by kernel_rfl) rfl (by kernel_rfl) ⟨hn0,hn1,hz0⟩ (fun hHeld=>?_)
                have HB1:=ak (below_drew HBA.out)
                have HT1:=ak (blk_drew HTA.out)
                have HN1:=ak (blk_drew HNA.out)
                clear hn0 hn1 hz0 HBA HTA HNA
                generalize WA.drew=W1 at *
                refine pu_ 0 146 ?_
                refine ta_ 1 147 ?_
                refine pu_ 2 148 ?_
                refine pu_ 3 149 ?_
                refine ta_ 4 150 ?_
                refine on_ 5 (some 151) fun K hK=>?_
                refine goes_ Tryz.func47 (by kernel_rfl) rfl #[.int .i64 t.f0] (by rfl) rfl rfl (by (try simp only [List.map_toArray,List.map_cons,List.map_nil]);first | done | rfl) ?_
                with_reducible refine(HP.out.parts t.f0 _).mono ?_
                rintro e w2 ⟨rfl,hb2⟩
                refine⟨_,rfl, ?_⟩
                have HB2:=ak (below_step HB1.out hb2)
                have HT2:=ak (blk_below HT1.out hb2)
                have HN2:=ak (blk_below HN1.out hb2)
                have s0:=pw_cell_below hb2 hHeld.1
                have s1:=pw_cell_below hb2 hHeld.2.1
                have s2:=pw_cell_below hb2 hHeld.2.2
                clear hb2
                have hHeld_:=hHeld
                refine hK.out _ _ ⟨s0,s1,s2⟩ (fun hHeld=>?_)
                clear hK K hHeld_
                refine no_ 151 ?_
                refine pu_ 6 152 ?_
                refine pu_ 7 153 ?_
                refine pu_ 8 154 ?_
                refine ta_ 9 155 ?_
                refine on_ 10 (some 156) fun K hK=>?_
                refine goes_ Tryz.func66 (by kernel_rfl) rfl #[.slice A0b b.f0.length c0b] (by rfl) rfl rfl (by (try simp only [List.map_toArray,List.map_cons,List.map_nil]);first | done | rfl) ?_
                with_reducible refine(hcf _ HB2.out).mono ?_
                rintro e w3 ⟨rfl,hb3⟩
                refine⟨_,rfl, ?_⟩
                have HB3:=ak (below_step HB2.out hb3)
                have HT3:=ak (blk_below HT2.out hb3)
                have HN3:=ak (blk_below HN2.out hb3)
                have s0:=pw_cell_below hb3 hHeld.1
                have s1:=pw_cell_below hb3 hHeld.2.1
                have s2:=pw_cell_below hb3 hHeld.2.2
                clear hb3
                have hHeld_:=hHeld
                refine hK.out _ _ ⟨s0,s1,s2⟩ (fun hHeld=>?_)
                clear hK K hHeld_
                refine no_ 156 ?_
                refine pu_ 11 157 ?_
                refine pu_ 12 158 ?_
                refine pu_ 13 159 ?_
                refine pu_ 14 160 ?_
                refine ta_ 15 161 ?_
                refine pu_ 16 162 ?_
                refine on_ 17 (some 163) fun K hK=>?_
                refine goes_ Tryz.func67 (by kernel_rfl) rfl #[.slice A0b b.f0.length c0b,.int .i64 dims] (by rfl) rfl rfl (by (try simp only [List.map_toArray,List.map_cons,List.map_nil]);first | done | rfl) ?_
                with_reducible refine(hcl _ HB3.out).mono ?_
                rintro e w4 ⟨rfl,hb4⟩
                refine⟨_,rfl, ?_⟩
                have HB4:=ak (below_step HB3.out hb4)
                have HT4:=ak (blk_below HT3.out hb4)
                have HN4:=ak (blk_below HN3.out hb4)
                have s0:=pw_cell_below hb4 hHeld.1
                have s1:=pw_cell_below hb4 hHeld.2.1
                have s2:=pw_cell_below hb4 hHeld.2.2
                clear hb4
                have hHeld_:=hHeld
                refine hK.out _ _ ⟨s0,s1,s2⟩ (fun hHeld=>?_)
                clear hK K hHeld_
                refine no_ 163 ?_
                refine pu_ 18 164 ?_
                refine pu_ 19 165 ?_
                refine done_ (by kernel_rfl) ?_
                go_wp2
                go_meet
                exact⟨true,rfl,⟨fun h=>HNOK.out⟩,⟨fun h=>absurd h.symm Bool.false_ne_true⟩,HN4,HB4,HT4⟩
               ·have HOK:Aside0 (ownR fa wi t.f0 dims b=true):=⟨by rw [ownR,decide_eq_true q1,hf,hw];rfl⟩
                have hcf:=HCF.out
                have hcl:=HCL.out
                rw [hf] at hcf
                rw [hw] at hcl
                clear hf q1 hw
                refine start_ (n:=20) (S:=fun w'=>w'.cell? ⟨bb,0,none⟩=some (.slice A0b b.f0.length c0b)∧w'.cell? ⟨bb,1,none⟩=some (.slice A1b b.f1.length c1b)∧w'.cell? ⟨bt,0,none⟩=some (.int .i64 t.f0)) (ds:=[]) (upA 20 0) (by kernel_rfl) rfl (by kernel_rfl) ⟨hn0,hn1,hz0⟩ (fun hHeld=>?_)
                have HB1:=ak (below_drew HBA.out)
                have HT1:=ak (blk_drew HTA.out)
                have HN1:=ak (blk_drew HNA.out)
                clear hn0 hn1 hz0 HBA HTA HNA
                generalize WA.drew=W1 at *
                refine pu_ 0 146 ?_
                refine ta_ 1 147 ?_
                refine pu_ 2 148 ?_
                refine pu_ 3 149 ?_
                refine ta_ 4 150 ?_
                refine on_ 5 (some 151) fun K hK=>?_
                refine goes_ Tryz.func47 (by kernel_rfl) rfl #[.int .i64 t.f0] (by rfl) rfl rfl (by (try simp only [List.map_toArray,List.map_cons,List.map_nil]);first | done | rfl) ?_
                with_reducible refine(HP.out.parts t.f0 _).mono ?_
                rintro e w2 ⟨rfl,hb2⟩
                refine⟨_,rfl, ?_⟩
                have HB2:=ak (below_step HB1.out hb2)
                have HT2:=ak (blk_below HT1.out hb2)
                have HN2:=ak (blk_below HN1.out hb2)
                have s0:=pw_cell_below hb2 hHeld.1
                have s1:=pw_cell_below hb2 hHeld.2.1
                have s2:=pw_cell_below hb2 hHeld.2.2
                clear hb2
                have hHeld_:=hHeld
                refine hK.out _ _ ⟨s0,s1,s2⟩ (fun hHeld=>?_)
                clear hK K hHeld_
                refine no_ 151 ?_
                refine pu_ 6 152 ?_
                refine pu_ 7 153 ?_
                refine pu_ 8 154 ?_
                refine ta_ 9 155 ?_
                refine on_ 10 (some 156) fun K hK=>?_
                refine goes_ Tryz.func66 (by kernel_rfl) rfl #[.slice A0b b.f0.length c0b] (by rfl) rfl rfl (by (try simp only [List.map_toArray,List.map_cons,List.map_nil]);first | done | rfl) ?_
                with_reducible refine(hcf _ HB2.out).mono ?_
                rintro e w3 ⟨rfl,hb3⟩
                refine⟨_,rfl, ?_⟩
                have HB3:=ak (below_step HB2.out hb3)
                have HT3:=ak (blk_below HT2.out hb3)
                have HN3:=ak (blk_below HN2.out hb3)
                have s0:=pw_cell_below hb3 hHeld.1
                have s1:=pw_cell_below hb3 hHeld.2.1
                have s2:=pw_cell_below hb3 hHeld.2.2
                clear hb3
                have hHeld_:=hHeld
                refine hK.out _ _ ⟨s0,s1,s2⟩ (fun hHeld=>?_)
                clear hK K hHeld_
                refine no_ 156 ?_
                refine pu_ 11 157 ?_
                refine pu_ 12 158 ?_
                refine pu_ 13 159 ?_
                refine pu_ 14 160 ?_
                refine ta_ 15 161 ?_
                refine pu_ 16 162 ?_
                refine on_ 17 (some 163) fun K hK=>?_
                refine goes_ Tryz.func67 (by kernel_rfl) rfl #[.slice A0b b.f0.length c0b,.int .i64 dims] (by rfl) rfl rfl (by (try simp only [List.map_toArray,List.map_cons,List.map_nil]);first | done | rfl) ?_
                with_reducible refine(hcl _ HB3.out).mono ?_
                rintro e w4 ⟨rfl,hb4⟩
                refine⟨_,rfl, ?_⟩
                have HB4:=ak (below_step HB3.out hb4)
                have HT4:=ak (blk_below HT3.out hb4)
                have HN4:=ak (blk_below HN3.out hb4)
                have s0:=pw_cell_below hb4 hHeld.1
                have s1:=pw_cell_below hb4 hHeld.2.1
                have s2:=pw_cell_below hb4 hHeld.2.2
                clear hb4
                have hHeld_:=hHeld
                refine hK.out _ _ ⟨s0,s1,s2⟩ (fun hHeld=>?_)
                clear hK K hHeld_
                refine no_ 163 ?_
                refine pu_ 18 164 ?_
                refine pu_ 19 165 ?_
                refine done_ (by kernel_rfl) ?_
                go_wp2
                go_meet
                exact⟨false,rfl,⟨fun h=>absurd h Bool.false_ne_true⟩,⟨fun h=>HOK.out⟩,HN4,HB4,HT4⟩
             ·have b1:((b.f1.length:Int) != partsI t.f0)=true:=by simp [q1]
              have HNOK:Aside0 (¬AllOk fr fa wi nm t vars dims):=⟨fun h=>by have:=(h.bs b HMB.out).1;rw [ownR,decide_eq_false q1] at this;exact absurd this Bool.false_ne_true⟩
              clear q1
              refine start_ (n:=20) (S:=fun w'=>w'.cell? ⟨bb,0,none⟩=some (.slice A0b b.f0.length c0b)∧w'.cell? ⟨bb,1,none⟩=some (.slice A1b b.f1.length c1b)∧w'.cell? ⟨bt,0,none⟩=some (.int .i64 t.f0)) (ds:=[]) (upA 20 0) (by kernel_rfl) rfl (by kernel_rfl) ⟨hn0,hn1,hz0⟩ (fun hHeld=>?_)
              have HB1:=ak (below_drew HBA.out)
              have HT1:=ak (blk_drew HTA.out)
              have HN1:=ak (blk_drew HNA.out)
              clear hn0 hn1 hz0 HBA HTA HNA
              generalize WA.drew=W1 at *
              refine pu_ 0 146 ?_
              refine ta_ 1 147 ?_
              refine pu_ 2 148 ?_
              refine pu_ 3 149 ?_
              refine ta_ 4 150 ?_
              refine on_ 5 (some 151) fun K hK=>?_
              refine goes_ Tryz.func47 (by kernel_rfl) rfl #[.int .i64 t.f0] (by rfl) rfl rfl (by (try simp only [List.map_toArray,List.map_cons,List.map_nil]);first | done | rfl) ?_
              with_reducible refine(HP.out.parts t.f0 _).mono ?_
              rintro e w2 ⟨rfl,hb2⟩
              refine⟨_,rfl, ?_⟩
              have HB2:=ak (below_step HB1.out hb2)
              have HT2:=ak (blk_below HT1.out hb2)
              have HN2:=ak (blk_below HN1.out hb2)
              have s0:=pw_cell_below hb2 hHeld.1
              have s1:=pw_cell_below hb2 hHeld.2.1
              have s2:=pw_cell_below hb2 hHeld.2.2
              clear hb2
              have hHeld_:=hHeld
              refine hK.out _ _ ⟨s0,s1,s2⟩ (fun hHeld=>?_)
              clear hK K hHeld_
              refine no_ 151 ?_
              refine pu_ 6 152 ?_
              refine pu_ 7 153 ?_
              refine po_ 8 154 ?_
              refine po_ 9 155 ?_
              refine po_ 10 156 ?_
              refine po_ 11 157 ?_
              refine pu_ 12 158 ?_
              refine pu_ 13 159 ?_
              refine po_ 14 160 ?_
              refine po_ 15 161 ?_
              refine po_ 16 162 ?_
              refine po_ 17 163 ?_
              refine po_ 18 164 ?_
              refine pu_ 19 165 ?_
              refine done_ (by kernel_rfl) ?_
              go_wp2
              go_meet
              exact⟨true,rfl,⟨fun h=>HNOK.out⟩,⟨fun h=>absurd h.symm Bool.false_ne_true⟩,HN2,HB2,HT2⟩
            case rest =>
             clear HBA HTA HNA
             obtain⟨bb2,rfl,HY,HN,HNB,HB,HT⟩:=hcut
             cases bb2
             rotate_left
             ·have HQ:Aside0 (allT fr fa wi nm t vars dims=false):=⟨HNo.out (HY.out rfl)⟩
              clear HY HN
              go_wp2
              go_ret
              exact⟨by rw [HQ.out];rfl,HB.out⟩
             ·have HRB:=ak (HN.out rfl)
              clear HY HN
              have hn1:=(blk_cell HNB.out 1).trans (rfl:_=some (Value.slice A1b b.f1.length c1b))
              go_wp2
              obtain⟨gp,rfl⟩:∃gp,gp=gk:=⟨_,rfl⟩
              obtain⟨wp_,rfl⟩:∃wp_:World,wp_=wc:=⟨_,rfl⟩
              go_loopg [14] (b.f1.length+1) (fun kq v14 wx=>∃j:Nat,v14=.int .i64 (j:Int)∧j≤b.f1.length∧kq+j=b.f1.length+1∧Aside0 (allP fr fa wi nm b.f1 vars (dims+moreI t.f0)=allP fr fa wi nm (b.f1.drop j) vars (dims+moreI t.f0))∧Aside0 (wx.heap[bb]? = some (.cells #[.slice A0b b.f0.length c0b,.slice A1b b.f1.length c1b] 90 (0,0)))∧Aside0 (Below w.heap.size w wx)∧Aside0 (wx.heap[bt]? = some (.cells #[.int .i64 t.f0,.int .i64 t.f1,.string t.f2,.slice A3 t.f3.length c3,.slice A4 t.f4.length c4,.slice (some ad) t.f5.length c5] 49 (0,0))))
              case atStart=>exact⟨0,rfl,Nat.zero_le _,rfl,⟨rfl⟩,HNB,HB,HT⟩
              case round =>
               clear HNB HB HT hn1
               obtain⟨j,rfl,hj,hkj,HE,HNB,HB,HT⟩:=hrel
               have hn1:=(blk_cell HNB.out 1).trans (rfl:_=some (Value.slice A1b b.f1.length c1b))
               by_cases hlt:j<b.f1.length
               ·have hd:decide ((j:Int)<(b.f1.length:Int))=true:=decide_eq_true (by omega)
                obtain⟨ad3,A3k,c3k,A4k,c4k,A5k,c5k,e,g0,g1,g2,g3,g4,g5,hKk⟩:=at_tm HG1.out j hlt
                cases e
                have hmem:b.f1[j]∈b.f1:=List.getElem_mem _
                have hdr:=List.drop_eq_getElem_cons hlt
                obtain⟨k,hkk⟩:∃k,b.f1[j]=k:=⟨_,rfl⟩
                rw [hkk] at g0 g1 g2 g3 g4 g5 hKk hmem hdr
                have hE:=HE.out
                rw [hdr,allP] at hE
                have HEE:=ak hE
                have HMO:=ak (moreI_01 t.f0)
                have hca:∀w3,Below w.heap.size w w3→_:=fun w3 h=>HIH.out k vars (dims+moreI t.f0) _ w3 (by have:=sizeT_part HMB.out hmem;omega) (okSL_mem HOB.out.2 hmem) h0 (by omega) (by have:=HMO.out;omega) (by have:=HMO.out;omega) (k49.K_below h hKk)
                have hz0:=(blk_cell HT.out 0).trans (rfl:_=some (Value.int .i64 t.f0))
                replace g0:=pw_cell_below HB.out g0
                replace g1:=pw_cell_below HB.out g1
                replace g2:=pw_cell_below HB.out g2
                replace g3:=pw_cell_below HB.out g3
                replace g4:=pw_cell_below HB.out g4
                replace g5:=pw_cell_below HB.out g5
                have hp0:(0:Int)≤(j:Int):=by omega
                obtain⟨mo0,mo1⟩:=HMO.out
                have hwd:IntKind.i64.wrap (dims+moreI t.f0)=dims+moreI t.f0:=by rw [IntKind.wrap_i64];omega
                clear hE HE hdr hkk hmem hKk
                go_upto_region 40 with fail
                cases ha:allT fr fa wi nm k vars (dims+moreI t.f0)
                ·have HQ:Aside0 (allT fr fa wi nm t vars dims=false):=⟨HNo.out fun h=>by have:=(h.bs b HMB.out).2;rw [allBr_eq,HEE.out,ha] at this;exact absurd this Bool.false_ne_true⟩
                 rw [ha] at hca
                 clear ha
                 refine start_ (n:=14) (S:=fun w'=>w'.cell? ⟨bb,1,none⟩=some (.slice (some ad3) b.f1.length c1b)∧w'.cell? ⟨bt,0,none⟩=some (.int .i64 t.f0)∧w'.cell? (ad3.add (j * 6))=some (.int .i64 k.f0)∧w'.cell? ⟨(ad3.add (j * 6)).block,(ad3.add (j * 6)).off+1,none⟩=some (.int .i64 k.f1)∧w'.cell? ⟨(ad3.add (j * 6)).block,(ad3.add (j * 6)).off+2,none⟩=some (.string k.f2)∧w'.cell? ⟨(ad3.add (j * 6)).block,(ad3.add (j * 6)).off+3,none⟩=some (.slice A3k k.f3.length c3k)∧w'.cell? ⟨(ad3.add (j * 6)).block,(ad3.add (j * 6)).off+4,none⟩=some (.slice A4k k.f4.length c4k)∧w'.cell? ⟨(ad3.add (j * 6)).block,(ad3.add (j * 6)).off+5,none⟩=some (.slice A5k k.f5.length c5k)) (ds:=[]) (upA 14 0) (by kernel_rfl) rfl (by kernel_rfl) ⟨hn1,hz0,g0,g1,g2,g3,g4,g5⟩ (fun hHeld=>?_)
                 have HB1:=ak (below_drew HB.out)
                 have HT1:=ak (blk_drew HT.out)
                 have HN1:=ak (blk_drew HNB.out)
                 clear hn1 hz0 g0 g1 g2 g3 g4 g5 HB HT HNB
                 generalize wr.drew=W1 at *
                 refine pu_ 0 173 ?_
                 refine ta_ 1 174 ?_
                 refine pu_ 2 175 ?_
                 refine pu_ 3 176 ?_
                 refine ta_ 4 177 ?_
                 refine pu_ 5 178 ?_
                 refine pu_ 6 179 ?_
                 refine pu_ 7 180 ?_
                 refine ta_ 8 181 ?_
                 refine pu_ 11 184 ?_
                 refine on_ 9 (some 182) fun K hK=>?_
                 refine goes_ Tryz.func69 (by kernel_rfl) rfl #[.int .i64 t.f0] (by rfl) rfl rfl (by (try simp only [List.map_toArray,List.map_cons,List.map_nil]);first | done | rfl) ?_
                 with_reducible refine(HP.out.more t.f0 _).mono ?_
                 rintro e w2 ⟨rfl,hb2⟩
                 refine⟨_,rfl, ?_⟩
                 have HB2:=ak (below_step HB1.out hb2)
                 have HT2:=ak (blk_below HT1.out hb2)
                 have HN2:=ak (blk_below HN1.out hb2)
                 have s0:=pw_cell_below hb2 hHeld.1
                 have s1:=pw_cell_below hb2 hHeld.2.1
                 have s2:=pw_cell_below hb2 hHeld.2.2.1
                 have s3:=pw_cell_below hb2 hHeld.2.2.2.1
                 have s4:=pw_cell_below hb2 hHeld.2.2.2.2.1
                 have s5:=pw_cell_below hb2 hHeld.2.2.2.2.2.1
                 have s6:=pw_cell_below hb2 hHeld.2.2.2.2.2.2.1
                 have s7:=pw_cell_below hb2 hHeld.2.2.2.2.2.2.2
                 clear hb2
                 have hHeld_:=hHeld
                 refine hK.out _ _ ⟨s0,s1,s2,s3,s4,s5,s6,s7⟩ (fun hHeld=>?_)
                 clear hK K hHeld_
                 refine no_ 182 ?_
                 refine pu_ 10 183 ?_
                 refine on_ 12 (some 185) fun K hK=>?_
                 refine goes_ Tryz.func44 (by kernel_rfl) rfl #[.agg #[.int .i64 k.f0,.int .i64 k.f1,.string k.f2,.slice A3k k.f3.length c3k,.slice A4k k.f4.length c4k,.slice A5k k.f5.length c5k],.int .i64 vars,.int .i64 (dims+moreI t.f0),.bool true] (by rfl) rfl rfl (by (try simp only [List.map_toArray,List.map_cons,List.map_nil]);first | done | rfl) ?_
                 with_reducible refine(hca _ HB2.out).mono ?_
                 rintro e w3 ⟨rfl,hb3⟩
                 refine⟨_,rfl, ?_⟩
                 have HB3:=ak (below_step HB2.out hb3)
                 have HT3:=ak (blk_below HT2.out hb3)
                 have HN3:=ak (blk_below HN2.out hb3)
                 have s0:=pw_cell_below hb3 hHeld.1
                 have s1:=pw_cell_below hb3 hHeld.2.1
                 have s2:=pw_cell_below hb3 hHeld.2.2.1
                 have s3:=pw_cell_below hb3 hHeld.2.2.2.1
                 have s4:=pw_cell_below hb3 hHeld.2.2.2.2.1
                 have s5:=pw_cell_below hb3 hHeld.2.2.2.2.2.1
                 have s6:=pw_cell_below hb3 hHeld.2.2.2.2.2.2.1
                 have s7:=pw_cell_below hb3 hHeld.2.2.2.2.2.2.2
                 clear hb3
                 have hHeld_:=hHeld
                 refine hK.out _ _ ⟨s0,s1,s2,s3,s4,s5,s6,s7⟩ (fun hHeld=>?_)
                 clear hK K hHeld_
                 refine no_ 185 ?_
                 refine pu_ 13 186 ?_
                 refine done_ (by kernel_rfl) ?_
                 go_wp2
                 go_ret
                 exact⟨by rw [HQ.out];rfl,HB3.out⟩
                ·have HE2:Aside0 (allP fr fa wi nm b.f1 vars (dims+moreI t.f0)=allP fr fa wi nm (b.f1.drop (j+1)) vars (dims+moreI t.f0)):=⟨by rw [HEE.out,ha,Bool.true_and]⟩
                 rw [ha] at hca
                 clear ha
                 refine start_ (n:=14) (S:=fun w'=>w'.cell? ⟨bb,1,none⟩=some (.slice (some ad3) b.f1.length c1b)∧w'.cell? ⟨bt,0,none⟩=some (.int .i64 t.f0)∧w'.cell? (ad3.add (j * 6))=some (.int .i64 k.f0)∧w'.cell? ⟨(ad3.add (j * 6)).block,(ad3.add (j * 6)).off+1,none⟩=some (.int .i64 k.f1)∧w'.cell? ⟨(ad3.add (j * 6)).block,(ad3.add (j * 6)).off+2,none⟩=some (.string k.f2)∧w'.cell? ⟨(ad3.add (j * 6)).block,(ad3.add (j * 6)).off+3,none⟩=some (.slice A3k k.f3.length c3k)∧w'.cell? ⟨(ad3.add (j * 6)).block,(ad3.add (j * 6)).off+4,none⟩=some (.slice A4k k.f4.length c4k)∧w'.cell? ⟨(ad3.add (j * 6)).block,(ad3.add (j * 6)).off+5,none⟩=some (.slice A5k k.f5.length c5k)) (ds:=[]) (upA 14 0) (by kernel_rfl) rfl (by kernel_rfl) ⟨hn1,hz0,g0,g1,g2,g3,g4,g5⟩ (fun hHeld=>?_)
                 have HB1:=ak (below_drew HB.out)
                 have HT1:=ak (blk_drew HT.out)
                 have HN1:=ak (blk_drew HNB.out)
                 clear hn1 hz0 g0 g1 g2 g3 g4 g5 HB HT HNB
                 generalize wr.drew=W1 at *
                 refine pu_ 0 173 ?_
                 refine ta_ 1 174 ?_
                 refine pu_ 2 175 ?_
                 refine pu_ 3 176 ?_
                 refine ta_ 4 177 ?_
                 refine pu_ 5 178 ?_
                 refine pu_ 6 179 ?_
                 refine pu_ 7 180 ?_
                 refine ta_ 8 181 ?_
                 refine pu_ 11 184 ?_
                 refine on_ 9 (some 182) fun K hK=>?_
                 refine goes_ Tryz.func69 (by kernel_rfl) rfl #[.int .i64 t.f0] (by rfl) rfl rfl (by (try simp only [List.map_toArray,List.map_cons,List.map_nil]);first | done | rfl) ?_
                 with_reducible refine(HP.out.more t.f0 _).mono ?_
                 rintro e w2 ⟨rfl,hb2⟩
                 refine⟨_,rfl, ?_⟩
                 have HB2:=ak (below_step HB1.out hb2)
                 have HT2:=ak (blk_below HT1.out hb2)
                 have HN2:=ak (blk_below HN1.out hb2)
                 have s0:=pw_cell_below hb2 hHeld.1
                 have s1:=pw_cell_below hb2 hHeld.2.1
                 have s2:=pw_cell_below hb2 hHeld.2.2.1
                 have s3:=pw_cell_below hb2 hHeld.2.2.2.1
                 have s4:=pw_cell_below hb2 hHeld.2.2.2.2.1
                 have s5:=pw_cell_below hb2 hHeld.2.2.2.2.2.1
                 have s6:=pw_cell_below hb2 hHeld.2.2.2.2.2.2.1
                 have s7:=pw_cell_below hb2 hHeld.2.2.2.2.2.2.2
                 clear hb2
                 have hHeld_:=hHeld
                 refine hK.out _ _ ⟨s0,s1,s2,s3,s4,s5,s6,s7⟩ (fun hHeld=>?_)
                 clear hK K hHeld_
                 refine no_ 182 ?_
                 refine pu_ 10 183 ?_
                 refine on_ 12 (some 185) fun K hK=>?_
                 refine goes_ Tryz.func44 (by kernel_rfl) rfl #[.agg #[.int .i64 k.f0,.int .i64 k.f1,.string k.f2,.slice A3k k.f3.length c3k,.slice A4k k.f4.length c4k,.slice A5k k.f5.length c5k],.int .i64 vars,.int .i64 (dims+moreI t.f0),.bool true] (by rfl) rfl rfl (by (try simp only [List.map_toArray,List.map_cons,List.map_nil]);first | done | rfl) ?_
                 with_reducible refine(hca _ HB2.out).mono ?_
                 rintro e w3 ⟨rfl,hb3⟩
                 refine⟨_,rfl, ?_⟩
                 have HB3:=ak (below_step HB2.out hb3)
                 have HT3:=ak (blk_below HT2.out hb3)
                 have HN3:=ak (blk_below HN2.out hb3)
                 have s0:=pw_cell_below hb3 hHeld.1
                 have s1:=pw_cell_below hb3 hHeld.2.1
                 have s2:=pw_cell_below hb3 hHeld.2.2.1
                 have s3:=pw_cell_below hb3 hHeld.2.2.2.1
                 have s4:=pw_cell_below hb3 hHeld.2.2.2.2.1
                 have s5:=pw_cell_below hb3 hHeld.2.2.2.2.2.1
                 have s6:=pw_cell_below hb3 hHeld.2.2.2.2.2.2.1
                 have s7:=pw_cell_below hb3 hHeld.2.2.2.2.2.2.2
                 clear hb3
                 have hHeld_:=hHeld
                 refine hK.out _ _ ⟨s0,s1,s2,s3,s4,s5,s6,s7⟩ (fun hHeld=>?_)
                 clear hK K hHeld_
                 refine no_ 185 ?_
                 refine pu_ 13 186 ?_
                 refine done_ (by kernel_rfl) ?_
                 clear hwd
                 go_wp2
                 go_roundg (gk-1)
                 case measure=>omega
                 case rel=>exact⟨j+1,rfl,by omega,by omega,HE2,HN3,HB3,HT3⟩
               ·have hd:decide ((j:Int)<(b.f1.length:Int))=false:=decide_eq_false (by omega)
                have HBR:Aside0 (allBr fr fa wi nm t.f0 b vars dims=true):=⟨by
                 have h:=HE.out
                 rw [List.drop_eq_nil_of_le (by omega),allP] at h
                 rw [allBr_eq]
                 exact h⟩
                go_wp2
                go_roundg (gp-1)
                case measure=>omega
                case rel=>exact⟨i+1,rfl,by omega,by omega,⟨fun c hc=>(HTK.out c hc).elim (fun h=>HA.out c h) (fun h=>by rw [h];exact⟨HRB.out,HBR.out⟩)⟩,HB,HT⟩
           ·have hdi:decide ((i:Int)<(t.f5.length:Int))=false:=decide_eq_false (by omega)
            have HQ:Aside0 (allT fr fa wi nm t vars dims=true):=⟨HYes.out ⟨by omega,HQ1.out,HQ2.out,HG1.out.1,HG1.out.2,HG2.out.1,HG2.out.2,HG3x.out.1,HG3x.out.2.1,HG3x.out.2.2,HLO.out,HKS.out,fun b hb=>HA.out b (by rw [List.take_of_length_le (by omega)];exact hb)⟩⟩
            go_wp2
            go_ret
            exact⟨by rw [HQ.out];rfl,HB.out⟩
end
end Go.Proofs.YtahdjajdaggmjaaGreatDoor.XPd
end
section
namespace Go.Proofs.YtahdjajdaggmjaaGreatDoor
open Go.RowKit Go.Proofs.YtahdjajdaggmjaaGreatDoorW.PrintWords Go.Proofs.YtahdjajdaggmjaaGreatDoorW.PrintLast Go.Proofs.YtahdjajdaggmjaaGreatDoorW.PrintMore
def moreN(c:Nat):Option (Nat×Nat) :=
 if c<128 then some (0,0) else if 194≤c∧c≤223 then some (1,128) else if 224≤c∧c≤239 then some (2,2048) else if 240≤c∧c≤244 then some (3,65536) else none
def headTab:List Int:=[128,32,16,8]
def headArr:Array Value:=(headTab.map (Value.int .i64)).toArray
def tails:Nat→List UInt8→Nat→Option Nat
 | 0,_,r=>some r
 | _+1,[],_=>none
 | n+1,c :: t,r=>if c.toNat<128∨191<c.toNat then none else tails n t (r * 64+c.toNat-128)
def rCap:Nat→Nat
 | 1=>127
 | 2=>8191
 | 3=>524287
 | _=>33554431
theorem rCap_step{i r d:Nat}(h1:1≤i)(h3:i≤3)(hr:r≤rCap i)(hd:d≤63):r * 64+d≤rCap (i+1):=by
 match i,h1,h3 with
 | 1,_,_=>simp only [rCap] at hr ⊢;omega
 | 2,_,_=>simp only [rCap] at hr ⊢;omega
 | 3,_,_=>simp only [rCap] at hr ⊢;omega
theorem rCap_le{i r:Nat}(hr:r≤rCap i):r≤33554431:=by
 unfold rCap at hr
 split at hr<;>omega
theorem rCap_le3{i r:Nat}(h1:1≤i)(h3:i≤3)(hr:r≤rCap i):r≤524287:=by
 match i,h1,h3 with
 | 1,_,_=>simp only [rCap] at hr;omega
 | 2,_,_=>simp only [rCap] at hr;omega
 | 3,_,_=>simp only [rCap] at hr;omega
def utfN:Nat→List UInt8→Nat→Int
 | _,[],_=>-1
 | 0,_ :: _,_=>-1
 | k+1,c :: t,i=>match moreN c.toNat with
  | none=>(i:Int)
  | some (n,low)=>if t.length<n then(i:Int) else match tails n t (c.toNat % (headTab.getD n 0).toNat) with
   | none=>(i:Int)
   | some r=>if r<low∨1114111<r∨55296≤r∧r≤57343 then(i:Int) else utfN k (t.drop n) (i+n+1)
theorem utfN_fuel:∀(k m:Nat) (l:List UInt8) (i:Nat),l.length≤k→l.length≤m→utfN k l i=utfN m l i
 | _,_,[],_,_,_=>by simp only [utfN]
 | 0,_,_ :: _,_,h,_=>absurd h (by simp)
 | _+1,0,_ :: _,_,_,h=>absurd h (by simp)
 | k+1,m+1,c :: t,i,h,h'=>by
  simp only [utfN]
  cases moreN c.toNat with
  | none=>rfl
  | some p =>
   obtain⟨n,low⟩:=p
   dsimp only
   rw [List.length_cons] at h h'
   rw [utfN_fuel k m (t.drop n) _ (by rw [List.length_drop];omega) (by rw [List.length_drop];omega)]
theorem u8wrap(c:UInt8):IntKind.i64.wrap ((c.toNat:Nat):Int)=((c.toNat:Nat):Int):=by
 have:=c.toNat_lt
 rw [IntKind.wrap_i64]
 omega
theorem u8wrap'(c:UInt8):wrap64 ((c.toNat:Nat):Int)=((c.toNat:Nat):Int):=by
 have:=c.toNat_lt
 unfold wrap64
 omega
theorem moreN_le{c n low:Nat}(h:moreN c=some (n,low)):n≤3∧low≤65536:=by
 unfold moreN at h
 repeat' split at h
 all_goals first | cases h | skip
 all_goals omega
set_option maxHeartbeats 4000000 in
theorem ref06_Utf(HM:∀(c:UInt8) (w:World),Calls Tryz.prog 80 #[.int .u8 (c.toNat:Int)] w fun e w'=>e=.returned (match moreN c.toNat with | some (n,low)=>.tuple #[.int .i64 (n:Int),.int .i64 (low:Int)] | none=>.tuple #[.int .i64 (-1),.int .i64 0])∧Below w.heap.size w w')
  (s:ByteArray) (w:World) (hs:s.size≤1000000) :
  Calls Tryz.prog 56 #[.string s] w fun e w'=>e=.returned (.int .i64 (utfN s.size s.data.toList 0))∧Below w.heap.size w w':=by
 have HM':=Lib.hid HM
 clear HM
 go_enter Tryz.func56,Tryz.ntmps56
 go_wp2
 go_loopg [3] (s.size+1) (fun kq v3 w'=>∃j:Nat,v3=.int .i64 (j:Int)∧j≤s.size∧s.size<kq+j∧Hid (utfN s.size s.data.toList 0=utfN (s.size-j) (s.data.toList.drop j) j)∧Below w.heap.size w w')
 case atStart=>exact⟨0,rfl,by omega,by omega,Lib.hid rfl,Below.refl _ _⟩
 case round =>
  obtain⟨j,rfl,hj,hk,hR,hb⟩:=hrel
  have hsz:=hb.size
  have HB:=Lib.hid hb
  clear hb
  by_cases hlt:j<s.size
  ·have hd:=Lib.hid (drop_bt s j hlt)
   obtain⟨c,hc⟩:∃c:UInt8,s[j]=c:=⟨_,rfl⟩
   have HC:=Lib.hid hc
   have hx:((s[j]'hlt).toNat:Int)=(c.toNat:Int):=by rw [hc]
   have hst:s.size-j=(s.size-(j+1))+1:=by omega
   have hlen:Hid ((s.data.toList.drop (j+1)).length=s.size-(j+1)):=Lib.hid (by rw [List.length_drop,←Lib.size_eq])
   clear hc
   have HMc:=HM'.out c wr
   cases hm:moreN c.toNat with
   | none =>
    rw [hm] at HMc
    have hR':Hid (utfN s.size s.data.toList 0=j):=by
     refine Lib.hid ?_
     rw [hR.out,hd.out,HC.out,hst]
     simp only [utfN,hm]
    have Hm:=Lib.hid hm
    clear hR hm hst
    go_wp2_with (go_at_call 80;refine HMc.mono ?_;rintro e w2 ⟨rfl,hb2⟩;have HB2:=Lib.hid (below_then HB.out hsz hb2);clear hb2)
    go_ret
    exact⟨by rw [hR'.out];rfl,HB2.out⟩
   | some p =>
    obtain⟨n,low⟩:=p
    rw [hm] at HMc
    have hn3:=moreN_le hm
    have Hm:=Lib.hid hm
    clear hm
    by_cases hsh:s.size-(j+1)<n
    ·have hR':Hid (utfN s.size s.data.toList 0=j):=by
      refine Lib.hid ?_
      rw [hR.out,hd.out,HC.out,hst]
      simp only [utfN,Hm.out]
      rw [hlen.out,if_pos hsh]
     have ew:IntKind.i64.wrap ((j:Int)+(n:Int))=((j+n:Nat):Int):=by rw [IntKind.wrap_i64];omega
     have e1:decide (((s.size:Nat):Int)≤((j+n:Nat):Int))=true:=decide_eq_true (by omega)
     clear hR hst
     go_wp2_with (go_at_call 80;refine HMc.mono ?_;rintro e w2 ⟨rfl,hb2⟩;have HB2:=Lib.hid (below_then HB.out hsz hb2);clear hb2)
     go_ret
     exact⟨by rw [hR'.out];rfl,HB2.out⟩
    ·have ew:IntKind.i64.wrap ((j:Int)+(n:Int))=((j+n:Nat):Int):=by rw [IntKind.wrap_i64];omega
     have e1:decide (((s.size:Nat):Int)≤((j+n:Nat):Int))=false:=decide_eq_false (by omega)
     obtain⟨H,hH,hH0,hH1⟩:∃H:Nat,headTab.getD n 0=(H:Int)∧0<H∧H≤128:=by
      have h3:=hn3.1
      match n,h3 with
      | 0,_=>exact⟨128,rfl,by omega,by omega⟩
      | 1,_=>exact⟨32,rfl,by omega,by omega⟩
      | 2,_=>exact⟨16,rfl,by omega,by omega⟩
      | 3,_=>exact⟨8,rfl,by omega,by omega⟩
      | k+4,h=>exact absurd h (by omega)
     have hat:headArr[n]? = some (.int .i64 (H:Int)):=by
      unfold headArr
      rw [List.getElem?_toArray,List.getElem?_map,←hH,List.getD_eq_getElem?_getD,List.getElem?_eq_getElem (show n<headTab.length by show n<4;omega)]
      rfl
     have HH:=Lib.hid hH
     have hq0:((H:Int)==0)=false:=by rw [Bool.eq_false_iff];intro h;have:=eq_of_beq h;omega
     clear hH
     have Hat:=Lib.hid hat
     clear hat
     go_wp2_with (first
      | (go_at_call 80;refine HMc.mono ?_;rintro e w2 ⟨rfl,hb2⟩;have HB2:=Lib.hid (below_then HB.out hsz hb2);have hz2:=HB2.out.size;clear hb2)
      | (refine wpList_build_as rfl 129 _ rfl headArr (by kernel_rfl) ?_)
      | (refine wpList_store_new rfl 129 _ _ rfl headArr _ rfl rfl (by kernel_rfl) (by kernel_rfl) (by kernel_rfl) ?_))
     have hcell:(w2.alloc (.cells headArr 129)).cell? ⟨w2.heap.size,n,none⟩=some (.int .i64 (H:Int)):=by
      rw [cell_of_row _ _ n headArr _ (0,0) (heap_alloc_last w2 _),Hat.out]
     have HB3:Hid (Below w.heap.size w (w2.alloc (.cells headArr 129))):=Lib.hid (HB2.out.alloc hz2 _)
     generalize hhb:w2.heap.size=hb at *
     generalize w2.alloc (.cells headArr 129)=w3 at hcell HB3 ⊢
     clear hhb
     have HB4:Hid (Below w.heap.size w w3.drew):=Lib.hid (below_drew HB3.out)
     have hcl:c.toNat<256:=c.toNat_lt
     have hcw:=u8wrap' c
     have hn4:(n:Int)<4:=by have:=hn3.1;omega
     have hHn:¬H=0:=by omega
     have hwc:=u8wrap c
     refine start_ (n:=9) (S:=fun w'=>w'.cell? ⟨hb,n,none⟩=some (.int .i64 (H:Int))) (ds:=[]) #[false,false,false,false,false,false,false,false,false] (by kernel_rfl) rfl rfl hcell (fun hHeld=>?_)
     generalize w3.drew=w4 at *
     refine pu_ 0 37 ?_
     refine pu_ 1 38 ?_
     refine pu_ 2 39 ?_
     refine pu_ 3 40 ?_
     refine pu_ 4 41 ?_
     refine pu_ 5 42 ?_
     refine ta_ 6 43 ?_
     refine pu_ 7 44 ?_
     refine pu_ 8 7 ?_
     refine done_ (by kernel_rfl) ?_
     clear hcw hwc
     go_wp2
     obtain⟨go,rfl⟩:∃go,go=gk:=⟨_,rfl⟩
     go_loopg [7,8] (n+1) (fun kq v7 v8 w'=>∃i r:Nat,v7=.int .i64 (r:Int)∧v8=.int .i64 (i:Int)∧1≤i∧i≤n+1∧n+2=kq+i∧Hid (r≤rCap i)∧Hid (tails n (s.data.toList.drop (j+1)) (c.toNat % H)=tails (n+1-i) (s.data.toList.drop (j+i)) r)∧Below w.heap.size w w')
     case atStart =>
      have hm:c.toNat % H<H:=Nat.mod_lt _ hH0
      exact⟨1,c.toNat % H,by first | rfl | (rw [hcw];rfl),rfl,by omega,by omega,by omega,Lib.hid (by show c.toNat % H≤127;omega),Lib.hid rfl,HB4.out⟩
     case round =>
      obtain⟨i,r,rfl,rfl,hi1,hi2,hki,hr0,hRi,hbi⟩:=hrel
      have hr1:=rCap_le hr0.out
      have HBi:=Lib.hid hbi
      clear hbi
      by_cases hin:i≤n
      ·have hdi:=Lib.hid (drop_bt s (j+i) (by omega))
       obtain⟨d,hdd⟩:∃d:UInt8,s[j+i]=d:=⟨_,rfl⟩
       have HD:=Lib.hid hdd
       have hxi:((s[j+i]'(by omega)).toNat:Int)=(d.toNat:Int):=by rw [hdd]
       have hdl:d.toNat<256:=d.toNat_lt
       have hst2:n+1-i=(n+1-(i+1))+1:=by omega
       have hr3:=rCap_le3 hi1 (by omega) hr0.out
       clear hdd
       by_cases hbad:d.toNat<128∨191<d.toNat
       ·have hR':Hid (utfN s.size s.data.toList 0=j):=by
         refine Lib.hid ?_
         rw [hR.out,hd.out,HC.out,hst]
         simp only [utfN,Hm.out]
         rw [hlen.out,if_neg hsh,HH.out,Int.toNat_natCast,hRi.out,hdi.out,HD.out,hst2]
         simp only [tails,if_pos hbad]
        clear hRi hst2
        rcases hbad with hb1 | hb1
        ·have hb2:decide (((d.toNat:Nat):Int)<128)=true:=decide_eq_true (by omega)
         go_wp2
         go_ret
         exact⟨by rw [hR'.out];rfl,HBi.out⟩
        ·have hb2:decide (((d.toNat:Nat):Int)<128)=false:=decide_eq_false (by omega)
         have hb3:decide (191<((d.toNat:Nat):Int))=true:=decide_eq_true (by omega)
         go_wp2
         go_ret
         exact⟨by rw [hR'.out];rfl,HBi.out⟩
       ·have hR2:Hid (tails n (s.data.toList.drop (j+1)) (c.toNat % H)=tails (n+1-(i+1)) (s.data.toList.drop (j+(i+1))) (r * 64+d.toNat-128)):=by
         refine Lib.hid ?_
         rw [hRi.out,hdi.out,HD.out,hst2]
         simp only [tails,if_neg hbad]
         rfl
        have hb2:decide (((d.toNat:Nat):Int)<128)=false:=decide_eq_false (by omega)
        have hb3:decide (191<((d.toNat:Nat):Int))=false:=decide_eq_false (by omega)
        clear hRi hst2
        go_wp2
        go_roundg (gk-1)
        case measure=>omega
        case rel=>exact⟨i+1,r * 64+d.toNat-128,by first | rfl | exact congrArg (Value.int .i64) (by omega) | go_num,by first | rfl | exact congrArg (Value.int .i64) (by omega) | go_num,by omega,by omega,by omega,Lib.hid (by have:=rCap_step hi1 (by omega) hr0.out (d:=d.toNat-128) (by omega);rwa [show r * 64+d.toNat-128=r * 64+(d.toNat-128) by omega]),hR2,HBi.out⟩
      ·have hti:Hid (tails n (s.data.toList.drop (j+1)) (c.toNat % H)=some r):=by
        refine Lib.hid ?_
        rw [hRi.out,show n+1-i=0 by omega]
        rfl
       have hbase:Hid (utfN s.size s.data.toList 0=if r<low∨1114111<r∨55296≤r∧r≤57343 then(j:Int) else utfN (s.size-(j+n+1)) (s.data.toList.drop (j+n+1)) (j+n+1)):=by
        refine Lib.hid ?_
        rw [hR.out,hd.out,HC.out,hst]
        simp only [utfN,Hm.out]
        rw [hlen.out,if_neg hsh,HH.out,Int.toNat_natCast,hti.out]
        dsimp only
        split
        ·rfl
        ·rw [List.drop_drop,show j+1+n=j+n+1 by omega]
         exact utfN_fuel _ _ _ _ (by rw [List.length_drop,←Lib.size_eq];omega) (by rw [List.length_drop,←Lib.size_eq];omega)
       clear hRi hst hR
       by_cases hrr:r<low∨1114111<r∨55296≤r∧r≤57343
       ·have hR':Hid (utfN s.size s.data.toList 0=j):=Lib.hid (by rw [hbase.out,if_pos hrr])
        clear hbase
        have hbs:decide ((r:Int)<(low:Int))=true∨decide ((r:Int)<(low:Int))=false∧decide ((1114111:Int)<(r:Int))=true∨decide ((r:Int)<(low:Int))=false∧decide ((1114111:Int)<(r:Int))=false∧decide ((55296:Int)≤(r:Int))=true∧decide ((r:Int)≤57343)=true:=by
         by_cases k1:r<low
         ·exact .inl (decide_eq_true (by omega))
         ·by_cases k2:1114111<r
          ·exact .inr (.inl ⟨decide_eq_false (by omega),decide_eq_true (by omega)⟩)
          ·exact .inr (.inr ⟨decide_eq_false (by omega),decide_eq_false (by omega),decide_eq_true (by omega),decide_eq_true (by omega)⟩)
        rcases hbs with c1 | ⟨c1,c2⟩ | ⟨c1,c2,c3,c4⟩
        ·have m1:decide (r<low)=true:=decide_eq_true (by have:=of_decide_eq_true c1;omega)
         clear hrr
         go_wp2
         go_ret
         exact⟨by rw [hR'.out];rfl,HBi.out⟩
        ·have m1:decide (r<low)=false:=decide_eq_false (by have:=of_decide_eq_false c1;omega)
         clear hrr
         go_wp2
         go_ret
         exact⟨by rw [hR'.out];rfl,HBi.out⟩
        ·have m1:decide (r<low)=false:=decide_eq_false (by have:=of_decide_eq_false c1;omega)
         clear hrr
         go_wp2
         go_ret
         exact⟨by rw [hR'.out];rfl,HBi.out⟩
       ·have hR2:Hid (utfN s.size s.data.toList 0=utfN (s.size-(j+n+1)) (s.data.toList.drop (j+n+1)) (j+n+1)):=Lib.hid (by rw [hbase.out,if_neg hrr])
        clear hbase
        have c1:decide ((r:Int)<(low:Int))=false:=decide_eq_false (by omega)
        have m1:decide (r<low)=false:=decide_eq_false (by omega)
        have c2:decide ((1114111:Int)<(r:Int))=false:=decide_eq_false (by omega)
        by_cases k3:55296≤r
        ·have c3:decide ((55296:Int)≤(r:Int))=true:=decide_eq_true (by omega)
         have c4:decide ((r:Int)≤57343)=false:=decide_eq_false (by omega)
         clear hrr
         go_wp2
         go_roundg (go-1)
         case measure=>omega
         case rel=>exact⟨j+n+1,by first | rfl | exact congrArg (Value.int .i64) (by omega) | go_num,by omega,by omega,hR2,HBi.out⟩
        ·have c3:decide ((55296:Int)≤(r:Int))=false:=decide_eq_false (by omega)
         clear hrr
         go_wp2
         go_roundg (go-1)
         case measure=>omega
         case rel=>exact⟨j+n+1,by first | rfl | exact congrArg (Value.int .i64) (by omega) | go_num,by omega,by omega,hR2,HBi.out⟩
  ·go_wp2
   go_ret
   refine⟨?_,HB.out⟩
   rw [hR.out,drop_end s j (by omega)]
   unfold utfN
   rfl
end Go.Proofs.YtahdjajdaggmjaaGreatDoor
end
section
namespace Go.Proofs.YtahdjajdaggmjaaGreatDoor.XPd
noncomputable section
open Go.RowKit Go.Proofs.YtahdjajdaggmjaaGreatDoorW.PrintWords Go.Proofs.YtahdjajdaggmjaaGreatDoorW.PrintLast Go.Proofs.YtahdjajdaggmjaaGreatDoorW.PrintMore
attribute [local go_sem] max2_int min2_int max_two min_two max_three min_three max_four min_four
set_option linter.unusedVariables false
set_option linter.unusedSimpArgs false
theorem eqA113(d:Nat)(w:World)(x0 y0:Int)(x1 y1:Int) :
  (Op.equalIn (d+2) 113 (.agg #[.int .u32 x0,.int .u32 x1]) (.agg #[.int .u32 y0,.int .u32 y1])).run Tryz.prog w=.ok (x0==y0&&(x1==y1)) w:=by
 refine eqA_of Tryz.underlying113 (by kernel_rfl) ?_
 refine eqf_cons (by rfl) (by go_simp;rfl) (by go_simp;rfl) (by go_simp) ?_
 exact eqf_last (by rfl) (by go_simp;rfl) (by go_simp;rfl) (by go_simp)
end
end Go.Proofs.YtahdjajdaggmjaaGreatDoor.XPd
end
section
set_option linter.unusedVariables false
namespace Go.Proofs.YtahdjajdaggmjaaGreatDoorW.PrintWords
open Go Go.RowKit Go.Proofs.YtahdjajdaggmjaaGreatDoorW.PrintLast Go.Proofs.YtahdjajdaggmjaaGreatDoorW.PrintMore
theorem tB{p:Prop}(h:p:=by repeat (first | (with_reducible first | exact HB.out | apply below_alloc | apply pw_below_drewN | apply below_drew1) | exact HB.out)):p:=h
theorem tBs{p q:Prop}(x:Aside0 q)(h:Aside0 q→p:=by intro x_;repeat (first | (with_reducible first | exact HB.out | apply below_alloc | apply pw_below_drewN | apply below_drew1 | refine below_set ?_ x_.out) | exact HB.out)):p:=h x
theorem tKe{p:Prop}(h:p:=by repeat (first | (with_reducible first | exact HK.out | apply Kept.alloc | apply Kept.drewN | apply Kept.drew) | exact HK.out)):p:=h
theorem tR{p q:Prop}(x:Aside0 q)(h:Aside0 q→p:=by intro x_;(with_reducible repeat (first | apply Kd.R_alloc | apply Kd.R_drewN | apply Kd.R_drew));exact x_.out):p:=h x
theorem tRm{p q:Prop}(x:Aside0 q)(h:Aside0 q→p:=by intro x_;(with_reducible repeat (first | apply Kd.R_alloc | apply Kd.R_drewN | apply Kd.R_drew));exact Kd.R_mono x_.out (fun _ hk=>hk.2)):p:=h x
theorem tN{p q:Prop}(x:Aside0 q)(h:Aside0 q→p:=by intro x_;(with_reducible repeat (first | apply Kd.N_alloc | apply Kd.N_drewN | apply Kd.N_drew));exact x_.out):p:=h x
theorem tK{p q:Prop}(x:Aside0 q)(h:Aside0 q→p:=by intro x_;(with_reducible repeat (first | refine blk_drewN ?_ _ | refine blk_drew ?_ | refine blk_alloc ?_ _));exact x_.out):p:=h x
theorem tA{p:Prop}[Decidable p](h:decide p=true:=by first | (with_reducible assumption) | assumption):p:=of_decide_eq_true h
theorem tM{p:Prop}(h:p:=by (try simp only [List.map_toArray,List.map_cons,List.map_nil]);first | done | rfl | (simp only [List.length_drop,List.length_take];rfl)):p:=h
theorem tS{p:Prop}(h:p:=by first | rfl | (simp;done) | (simp [*];done)):p:=h
theorem tD{p:Prop}(h:p:=by repeat (first | exact Drawn0.refl _ | apply Drawn0.step)):p:=h
theorem tE{p:Prop}(h:p:=by first | rfl | (simp [errW_none,errW_some]<;>rfl) | (simp [*,errW_none,errW_some]<;>rfl)):p:=h
theorem tZ{p:Prop}(h:p:=by first | rfl | (simp;done) | (simp [*];done) | (generalize ByteArray.toList _=z_;cases z_<;>rfl)):p:=h
theorem tc{w w1:World}{a:Addr}{v:Value}(hb:Aside0 (Below w.heap.size w w1))(h:w.cell? a=some v):w1.cell? a=some v:=(hb.out.cell (World.block_lt_of_cell? w _ h)).trans h
theorem tCb{p q r:Prop}(x:Aside0 q)(y:Aside0 r)(h:Aside0 q→Aside0 r→p:=by intro x_ y_;repeat (first | exact(Kd.C_below x_.out y_.out) | (with_reducible refine Kd.C_alloc ?_ _) | (with_reducible refine Kd.C_drewN ?_ _) | (with_reducible refine Kd.C_drew ?_))):p:=h x y
theorem tCr{p q:Prop}(x:Aside0 q)(h:Aside0 q→p:=by intro x_;repeat (first | exact(Kd.R_reads' x_.out).2.2 | (with_reducible refine Kd.C_alloc ?_ _) | (with_reducible refine Kd.C_drewN ?_ _) | (with_reducible refine Kd.C_drew ?_))):p:=h x
theorem tMo{p:Prop}(h:p:=by repeat' first | (with_reducible exact ih0 ..) | (with_reducible exact ih1 ..) | (with_reducible exact ih2 ..) | (with_reducible exact ih3 ..) | (with_reducible exact ih4 ..) | (with_reducible exact ih5 ..) | (with_reducible exact ih6 ..) | (with_reducible exact ih7 ..) | (with_reducible exact m0_ ..) | (with_reducible exact m1_ ..) | (with_reducible exact m2_ ..) | (with_reducible exact m3_ ..) | (with_reducible exact m4_ ..) | (with_reducible exact m5_ ..) | (with_reducible exact LeO.refl _) | (with_reducible exact LeO.none _) | (with_reducible refine LeO.ite ?_ ?_) | (with_reducible refine LeO.bind ?_ (fun _=>?_)) | exact ih0 .. | exact ih1 .. | exact ih2 .. | exact ih3 .. | exact ih4 .. | exact ih5 .. | exact ih6 .. | exact ih7 .. | exact m0_ .. | exact m1_ .. | exact m2_ .. | exact m3_ .. | exact m4_ .. | exact m5_ .. | exact LeO.none _ | refine LeO.ite ?_ ?_ | refine LeO.bind ?_ (fun _=>?_)):p:=h
section
variable {α β:Type}{c:Prop}[Decidable c]{A B r:Option α}{z:α}
theorem iC(H:(if c then A else B)=r):(c∧A=r)∨(¬c∧B=r):=by
 by_cases h:c
 ·exact .inl ⟨h,by rwa [if_pos h] at H⟩
 ·exact .inr ⟨h,by rwa [if_neg h] at H⟩
theorem niC(H:(if c then A else none)=some z):c∧A=some z:=by
 rcases iC H with h | ⟨_,h⟩
 ·exact h
 ·exact nomatch h
theorem iDkk(H:(if c then A else B)=r):(c∧decide c=true∧A=r)∨(¬c∧decide c=false∧B=r):=(iC H).imp (fun h=>⟨h.1,decide_eq_true h.1,h.2⟩) (fun h=>⟨h.1,decide_eq_false h.1,h.2⟩)
theorem iD(H:(if c then A else B)=r):(decide c=true∧A=r)∨(decide c=false∧B=r):=(iDkk H).imp (fun h=>h.2) (fun h=>h.2)
theorem niD(H:(if c then A else none)=some z):decide c=true∧A=some z:=⟨decide_eq_true (niC H).1,(niC H).2⟩
theorem niT(H:(if c then A else none)=some z):c=True∧decide c=true∧A=some z:=⟨eq_true (niC H).1,niD H⟩
theorem iB{b:Bool}(H:(if b=true then A else B)=r):(b=true∧A=r)∨(b=false∧B=r):=(iC H).imp id (fun h=>⟨Bool.eq_false_iff.mpr h.1,h.2⟩)
theorem iX{x:Option β}{f:β→Option α}(H:x.bind f=some z):∃a,Aside0 (x=some a)∧f a=some z:=by
 obtain⟨a,h1,h2⟩:=Option.bind_eq_some_iff.mp H
 exact⟨a,⟨h1⟩,h2⟩
end
section
variable {α γ:Type}{A B r:Option α}{z:α}{x y:γ}
theorem iGkk[LE γ][Decidable (y≤x)](H:(if x≥y then A else B)=r):(x≥y∧decide (y≤x)=true∧A=r)∨(¬x≥y∧decide (y≤x)=false∧B=r):=iDkk H
theorem iG[LE γ][Decidable (y≤x)](H:(if x≥y then A else B)=r):(decide (y≤x)=true∧A=r)∨(decide (y≤x)=false∧B=r):=iD H
theorem iHkk[LT γ][Decidable (y<x)](H:(if x > y then A else B)=r):(x > y∧decide (y<x)=true∧A=r)∨(¬x > y∧decide (y<x)=false∧B=r):=iDkk H
theorem iH[LT γ][Decidable (y<x)](H:(if x > y then A else B)=r):(decide (y<x)=true∧A=r)∨(decide (y<x)=false∧B=r):=iD H
theorem iEk[BEq γ][LawfulBEq γ][Decidable (x=y)](H:(if x=y then A else B)=r):(x=y∧(x==y)=true∧(x != y)=false∧A=r)∨(¬x=y∧(x==y)=false∧(x != y)=true∧B=r):=(iC H).imp (fun h=>⟨h.1,beq_iff_eq.mpr h.1,bne_eq_false_iff_eq.mpr h.1,h.2⟩) (fun h=>⟨h.1,beq_eq_false_iff_ne.mpr h.1,bne_iff_ne.mpr h.1,h.2⟩)
theorem iE[BEq γ][LawfulBEq γ][Decidable (x=y)](H:(if x=y then A else B)=r):((x==y)=true∧(x != y)=false∧A=r)∨(¬x=y∧(x==y)=false∧(x != y)=true∧B=r):=(iEk H).imp (fun h=>h.2) id
end
theorem tY{p q r:Prop}(e:q)(H:r)(h:q→r→p:=by intro hy_ H;first | (rw [hy_];with_reducible exact H) | (have H2_:=(Option.bind_some _ _).symm.trans H;rw [hy_];with_reducible exact H2_) | (have H2_:=(Option.bind_some _ _).symm.trans H;with_reducible exact H2_) | with_reducible exact H | (rw [hy_];exact H) | exact H):p:=h e H
theorem cz2{w:World}{g:Nat}{t:TypeId}{a0 a1:Value}(h:w.heap[g]? = some (.cells #[a0,a1] t (0,0))):w.cell? ⟨g,0,none⟩=some a0∧w.cell? ⟨g,1,none⟩=some a1∧w.frozen? ⟨g,0,none⟩=false∧w.frozen? ⟨g,1,none⟩=false:=⟨blk_cell h 0,blk_cell h 1,blk_frozen h 0,blk_frozen h 1⟩
theorem cz3{w:World}{g:Nat}{t:TypeId}{a0 a1 a2:Value}(h:w.heap[g]? = some (.cells #[a0,a1,a2] t (0,0))):w.cell? ⟨g,0,none⟩=some a0∧w.cell? ⟨g,1,none⟩=some a1∧w.cell? ⟨g,2,none⟩=some a2∧w.frozen? ⟨g,0,none⟩=false∧w.frozen? ⟨g,1,none⟩=false∧w.frozen? ⟨g,2,none⟩=false:=⟨blk_cell h 0,blk_cell h 1,blk_cell h 2,blk_frozen h 0,blk_frozen h 1,blk_frozen h 2⟩
theorem cz6{w:World}{g:Nat}{t:TypeId}{a0 a1 a2 a3 a4 a5:Value}(h:w.heap[g]? = some (.cells #[a0,a1,a2,a3,a4,a5] t (0,0))):w.cell? ⟨g,0,none⟩=some a0∧w.cell? ⟨g,1,none⟩=some a1∧w.cell? ⟨g,2,none⟩=some a2∧w.cell? ⟨g,3,none⟩=some a3∧w.cell? ⟨g,4,none⟩=some a4∧w.cell? ⟨g,5,none⟩=some a5∧w.frozen? ⟨g,0,none⟩=false∧w.frozen? ⟨g,1,none⟩=false∧w.frozen? ⟨g,2,none⟩=false∧w.frozen? ⟨g,3,none⟩=false∧w.frozen? ⟨g,4,none⟩=false∧w.frozen? ⟨g,5,none⟩=false:=⟨blk_cell h 0,blk_cell h 1,blk_cell h 2,blk_cell h 3,blk_cell h 4,blk_cell h 5,blk_frozen h 0,blk_frozen h 1,blk_frozen h 2,blk_frozen h 3,blk_frozen h 4,blk_frozen h 5⟩
theorem cz13{w:World}{g:Nat}{t:TypeId}{a0 a1 a2 a3 a4 a5 a6 a7 a8 a9 a10 a11 a12:Value}(h:w.heap[g]? = some (.cells #[a0,a1,a2,a3,a4,a5,a6,a7,a8,a9,a10,a11,a12] t (0,0))):w.cell? ⟨g,0,none⟩=some a0∧w.cell? ⟨g,1,none⟩=some a1∧w.cell? ⟨g,2,none⟩=some a2∧w.cell? ⟨g,3,none⟩=some a3∧w.cell? ⟨g,4,none⟩=some a4∧w.cell? ⟨g,5,none⟩=some a5∧w.cell? ⟨g,6,none⟩=some a6∧w.cell? ⟨g,7,none⟩=some a7∧w.cell? ⟨g,8,none⟩=some a8∧w.cell? ⟨g,9,none⟩=some a9∧w.cell? ⟨g,10,none⟩=some a10∧w.cell? ⟨g,11,none⟩=some a11∧w.cell? ⟨g,12,none⟩=some a12∧w.frozen? ⟨g,0,none⟩=false∧w.frozen? ⟨g,1,none⟩=false∧w.frozen? ⟨g,2,none⟩=false∧w.frozen? ⟨g,3,none⟩=false∧w.frozen? ⟨g,4,none⟩=false∧w.frozen? ⟨g,5,none⟩=false∧w.frozen? ⟨g,6,none⟩=false∧w.frozen? ⟨g,7,none⟩=false∧w.frozen? ⟨g,8,none⟩=false∧w.frozen? ⟨g,9,none⟩=false∧w.frozen? ⟨g,10,none⟩=false∧w.frozen? ⟨g,11,none⟩=false∧w.frozen? ⟨g,12,none⟩=false:=⟨blk_cell h 0,blk_cell h 1,blk_cell h 2,blk_cell h 3,blk_cell h 4,blk_cell h 5,blk_cell h 6,blk_cell h 7,blk_cell h 8,blk_cell h 9,blk_cell h 10,blk_cell h 11,blk_cell h 12,blk_frozen h 0,blk_frozen h 1,blk_frozen h 2,blk_frozen h 3,blk_frozen h 4,blk_frozen h 5,blk_frozen h 6,blk_frozen h 7,blk_frozen h 8,blk_frozen h 9,blk_frozen h 10,blk_frozen h 11,blk_frozen h 12⟩
theorem slI{w:World}{a:Addr}{A A':Option Addr}{n n' c c':Nat}(h:w.cell? a=some (.slice A n c))(h':w.cell? a=some (.slice A' n' c')):A=A'∧c=c':=by
 have e:=Option.some.inj (h.symm.trans h')
 injection e with e1 e2 e3
 exact⟨e1,e3⟩
theorem tV{p q:Prop}(x:Aside0 q)(h:Aside0 q→p:=by intro x_;(with_reducible repeat (first | apply Kd.V_alloc | apply Kd.V_drewN | apply Kd.V_drew));exact x_.out):p:=h x
theorem tC{p q:Prop}(x:Aside0 q)(h:Aside0 q→p:=by intro x_;repeat (first | (with_reducible exact x_.out) | (with_reducible refine Kd.C_alloc ?_ _) | (with_reducible refine Kd.C_drewN ?_ _) | (with_reducible refine Kd.C_drew ?_) | exact x_.out)):p:=h x
theorem tG{p:Prop}(h:p:=by rw [hg];exact(below_size tB)):p:=h
section
variable {P:Program}{ops:Array Oper}{Q:Exit→Act→World→Prop}{rest:List Oper}{oi:Oper}{a:Act}{w:World}{aS:Array Operand}{ts:Array TypeId}
theorem gd_(N:Tmp)(_h:oi.dst=some N)(h:wpList P ops Q (oi :: rest) a w):wpList P ops Q (oi :: rest) a w:=h
theorem gf_(f:FuncId)(_h:oi.op=.call { callee:=.value (.func f),args:=aS,argTypes:=ts })(h:wpList P ops Q (oi :: rest) a w):wpList P ops Q (oi :: rest) a w:=h
theorem gC_(N:Option Tmp){f:FuncId}{fn:Func}(hf:P.funcs[f]? = some fn)(args:Array Value)(h:Calls P f args w fun e w'=>∃v,e=.returned v∧wpList P ops Q rest (a.put N v) w')
  (H_:oi.op=.call { callee:=.value (.func f),args:=aS,argTypes:=ts }∧oi.dst=N∧oi.guard=none∧(fn.name == "runtime.NumGoroutine")=false∧fn.body.isSome=true∧aS.map a.eval=args:=by (refine⟨?_, ?_⟩;(with_reducible rfl);refine⟨rfl,rfl,by kernel_rfl,rfl, ?_⟩;exact tM)):wpList P ops Q (oi :: rest) a w:=goesL_ N H_.2.1 H_.2.2.1 hf H_.2.2.2.1 H_.2.2.2.2.1 args H_.1 H_.2.2.2.2.2 h
theorem boxE(N:Tmp)(cs:Array Value)(t:TypeId)(h:∀g,g=w.heap.size→∀w1,w1.heap[g]? = some (.cells cs t (0,0))→Below w.heap.size w w1→wpList P ops Q rest (a.put oi.dst (.pointer (some ⟨g,0,none⟩))) w1)
  (H_:oi.dst=some N∧oi.guard=none∧(execOp a.eval oi).run P w=.ok (.value (.pointer (some ⟨w.heap.size,0,none⟩))) (w.alloc (.cells cs t (0,0))):=by (refine⟨?_, ?_, ?_⟩;(with_reducible rfl);rfl;first | (go_simp;done) | (go_simp;rfl))):wpList P ops Q (oi :: rest) a w:=box_event H_.2.1 H_.1 H_.2.2 h
end
theorem blk_putE{w:World}{g i:Nat}{t:TypeId}{cs:Array Value}{v:Value}(h:w.heap[g]? = some (.cells cs t (0,0))):(w.setCell ⟨g,i,none⟩ v).heap[g]? = some (.cells (cs.setIfInBounds i v) t (0,0)):=blk_put h i v rfl
theorem tPt{q:Prop}{W:World}{g:Nat}{t:TypeId}{cs cs':Array Value}(x:Aside0 q)(h:Aside0 q→W.heap[g]? = some (.cells cs t (0,0)):=by intro x_;(repeat (first | (with_reducible apply blk_putE) | (with_reducible refine blk_drewN ?_ _) | (with_reducible refine blk_drew ?_) | (with_reducible refine blk_alloc ?_ _)));exact x_.out)(he:cs=cs':=by first | (simp only [List.setIfInBounds_toArray,List.set_cons_zero,List.set_cons_succ];done) | rfl):W.heap[g]? = some (.cells cs' t (0,0)):=he▸h x
section
variable {α:Type}{d:Kd α}{t:TypeId}{w W:World}{base:Nat}{ok:Nat→Prop}{v:Value}{xs:List α}
theorem tNf(x:d.N t w base ok v xs)(h:d.N t w base ok v xs→d.N t W base ok v xs:=by intro x_;(repeat (first | (with_reducible refine Kd.N_alloc ?_ _) | (with_reducible refine Kd.N_drewN ?_ _) | (with_reducible refine Kd.N_drew ?_) | refine Kd.N_far ?_ (fun _ hk=>hk.2) _));exact x_):d.N t W base ok v xs:=h x
theorem tVf(x:d.V t w base ok v xs)(h:d.V t w base ok v xs→d.V t W base ok v xs:=by intro x_;(repeat (first | (with_reducible refine Kd.V_alloc ?_ _) | (with_reducible refine Kd.V_drewN ?_ _) | (with_reducible refine Kd.V_drew ?_) | refine Kd.V_far ?_ (fun _ hk=>hk.2) _));exact x_):d.V t W base ok v xs:=h x
theorem tRf(x:d.R t w base ok v xs)(h:d.R t w base ok v xs→d.R t W base ok v xs:=by intro x_;(repeat (first | (with_reducible refine Kd.R_alloc ?_ _) | (with_reducible refine Kd.R_drewN ?_ _) | (with_reducible refine Kd.R_drew ?_) | refine Kd.R_far ?_ (fun _ hk=>hk.2) _));exact x_):d.R t W base ok v xs:=h x
end
theorem zz0{p:Prop}(h_:p:=by go_wp2;go_ret;exact⟨tS,tD⟩):p:=h_
theorem zz1{p:Prop}(h_:p:=by obtain rfl:=Option.some.inj H;go_wp2;go_ret;exact⟨tS,tD⟩):p:=h_
theorem zz2{p:Prop}(h_:p:=by have H':=ak H;clear H;go_wp2;go_meet;(case rel=>exact⟨_,(false),tS,H',⟨by have:=HK1.out;first | omega | exact Nat.le_refl _⟩,tD⟩)):p:=h_
theorem zz3{p:Prop}(h_:p:=by have H':=ak H;clear H;go_wp2;go_roundg kj4;(case measure=>have:=HK1.out;have:=HJ4.out;omega);(case rel=>exact⟨(wrap64 (x3_1+1)),tS,H',⟨by have:=HK1.out;have:=HJ4.out;omega⟩,tD⟩)):p:=h_
theorem zz4{p:Prop}(h_:p:=by obtain rfl:=Option.some.inj H;go_wp2;(repeat (go_quiet (fail);try go_wp2));go_ret;exact⟨tS,tD⟩):p:=h_
theorem zz5{p:Prop}(h_:p:=by have H':=ak H;clear H;go_wp2;go_meet;(case rel=>exact⟨_,(false),tS,H',⟨by first | omega | exact Nat.le_refl _⟩,tD⟩)):p:=h_
theorem zz6{p:Prop}(h_:p:=by have H':=ak H;clear H;go_wp2;go_meet;(case rel=>exact⟨_,((a0==7)),tS,H',⟨by first | omega | exact Nat.le_refl _⟩,tD⟩)):p:=h_
theorem zz7{p:Prop}(h_:p:=by simp only [Option.some.injEq,Prod.mk.injEq] at H;obtain⟨rfl,rfl⟩:=H;go_wp2;go_ret2;exact⟨tS,tD⟩):p:=h_
theorem zz8{p:Prop}(h_:p:=by have H':=ak H;clear H;go_wp2;go_meet;(case rel=>exact⟨_,(false),tS,H',⟨by have:=HJ2.out;first | omega | exact Nat.le_refl _⟩,tD⟩)):p:=h_
theorem zz9{p:Prop}(h_:p:=by have H':=ak H;clear H;go_wp2;go_meet;(case rel=>exact⟨_,(true),tS,H',⟨by have:=HJ2.out;first | omega | exact Nat.le_refl _⟩,tD⟩)):p:=h_
theorem zz10{p:Prop}(h_:p:=by have H':=ak H;clear H;go_wp2;go_meet;(case rel=>exact⟨_,(true),tS,H',⟨by first | omega | exact Nat.le_refl _⟩,⟨tK BK263⟩,⟨tBs GE263⟩⟩)):p:=h_
theorem zz11{p:Prop}(h_:p:=by go_wp2;go_ret3;exact⟨_,tE,by first | exact Kd.R_nil _ _ _ _ _ | exact Kd.N_nil _ _ _ _ _ | exact Kd.V_nil _ _ _ _ _ | exact Kd.Q_nil _ _ _ _ _ | exact Kd.S_nil _ _ _ _ _,tB⟩):p:=h_
theorem zz12{p:Prop}(h_:p:=by have H':=ak H;clear H;go_wp2;go_meet;(case rel=>exact⟨_,H',⟨by have:=HJ3.out;first | omega | exact Nat.le_refl _⟩,tD⟩)):p:=h_
theorem zz13{p:Prop}(h_:p:=by have H':=ak H;clear H;have p5:0≤(x8_1:Int):=tA;have q5:x8_1<(a0.size:Int):=tA;have hx5:=bt_at a0 x8_1;replace p5:=eq_true p5;replace q5:=eq_true q5;go_wp2;go_roundg k1;(case measure=>have:=HK1.out;omega);(case rel=>exact⟨(wrap64 (x8_1+1)),tZ,H',⟨by have:=HK1.out;omega⟩,tD⟩)):p:=h_
theorem zz14{p:Prop}(h_:p:=by obtain rfl:=Option.some.inj H;have p5:0≤(x8_1:Int):=tA;have q5:x8_1<(a0.size:Int):=tA;have hx5:=bt_at a0 x8_1;replace p5:=eq_true p5;replace q5:=eq_true q5;go_wp2;go_ret;exact⟨tZ,tD⟩):p:=h_
theorem zz15{p:Prop}(h_:p:=by have H':=ak H;clear H;go_wp2;go_meet;(case rel=>exact⟨_,(true),tS,H',⟨by first | omega | exact Nat.le_refl _⟩,⟨tK BK158⟩,⟨tBs GE158⟩⟩)):p:=h_
theorem zz16{p:Prop}(h_:p:=by have H':=ak H;clear H;go_wp2;(repeat (go_quiet (fail);try go_wp2));go_meet;(case rel=>exact⟨_,H',⟨by first | omega | exact Nat.le_refl _⟩,tD⟩)):p:=h_
theorem zz17{p:Prop}(h_:p:=by obtain rfl:=Option.some.inj H;go_wp2;(repeat (go_quiet (fail);try go_wp2));go_ret;exact⟨tZ,tD⟩):p:=h_
theorem zz18{p:Prop}(h_:p:=by have H':=ak H;clear H;have p13:0≤(x7_1:Int):=tA;have q13:x7_1<(a0.size:Int):=tA;have hx13:=bt_at a0 x7_1;replace p13:=eq_true p13;replace q13:=eq_true q13;go_wp2;go_meet;(case rel=>exact⟨_,(false),tS,H',⟨by have:=HK1.out;first | omega | exact Nat.le_refl _⟩,⟨tR HO_6⟩,⟨tB⟩⟩)):p:=h_
end Go.Proofs.YtahdjajdaggmjaaGreatDoorW.PrintWords
end
