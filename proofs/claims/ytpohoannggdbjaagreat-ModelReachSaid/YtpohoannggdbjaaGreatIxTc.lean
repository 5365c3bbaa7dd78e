/- Ours: IxR; IxTc. -/
import Derived.Test.YtpohoannggdbjaaGreatMA
import Derived.Test.YtpohoannggdbjaaGreatIxA
import Derived.Test.YtpohoannggdbjaaGreatRef07
import Derived.Test.YtpohoannggdbjaaGreatIxTs
import Derived.Test.YtpohoannggdbjaaGreatIxTd
set_option maxRecDepth 100000
set_option maxHeartbeats 200000000
namespace Go.Proofs.YtpohoannggdbjaaGreat
open Lib (hid)
open Go.RowKit
section
def AJ(P R:Nat)(c:Nat × Int):Bool:=decide ((c.1=1∨c.1=2)∧0≤c.2∧c.2<R∨c.1=3∧0≤c.2∧c.2<P)
def Cc(S P R o n r:Nat)(l:List (Nat × Int)):Bool:=decide (o<2 ^ S) && decide (n ||| r<2 ^ P) && decide (l.length≤8) && l.all (AJ P R)
theorem Nq{S P R o n r:Nat}{l:List (Nat × Int)}(h:¬ o<2 ^ S):Cc S P R o n r l=false:=by simp[Cc,h]
theorem Nr{S P R o n r:Nat}{l:List (Nat × Int)}(h:¬ n ||| r<2 ^ P):Cc S P R o n r l=false:=by simp[Cc,h]
theorem Ns{S P R o n r:Nat}{l:List (Nat × Int)}(h:¬ l.length≤8):Cc S P R o n r l=false:=by simp[Cc,h]
theorem CL{S P R o n r:Nat}{l:List (Nat × Int)}{k:Nat}{c:Nat × Int}(hk:l[k]?=some c)(h:AJ P R c=false):Cc S P R o n r l=false:=by
 have:l.all (AJ P R)=false:=by
  rw[List.all_eq_false];exact⟨c,Wf hk,by simp[h]⟩
 simp[Cc,this]
theorem ON{S P R o n r:Nat}{l:List (Nat × Int)}(h1:o<2 ^ S)(h2:n ||| r<2 ^ P)(h3:l.length≤8)(h4:∀(k:Nat) (c:Nat × Int),l[k]?=some c→AJ P R c=true):Cc S P R o n r l=true:=by
 have:l.all (AJ P R)=true:=by
  rw[Wm];intro c hc;obtain⟨k,hk⟩:=List.getElem?_of_mem hc;exact h4 k c hk
 simp[Cc,h1,h2,h3,this]
theorem Ks(W o T:Nat)(ho:o<2 ^ W)(hT:T≤W):(o &&& (2 ^ W - (2 ^ T - 1+1))=0)↔o<2 ^ T:=by
 have hx:2 ^ T - 1<2 ^ W:=by
  have:=Nat.pow_le_pow_right (n:=2) (by omega) hT;have:=WP T;omega
 have hM:∀ i,(2 ^ W - (2 ^ T - 1+1)).testBit i=(decide (i<W) && !decide (i<T)):=fun i=>by
  rw[Nat.testBit_two_pow_sub_succ hx,Nat.testBit_two_pow_sub_one]
 constructor
 ·intro h;refine Nat.lt_pow_two_of_testBit _ fun i hi=>?_
  rcases Nat.lt_or_ge i W with h1 | h1
  ·have h2:=congrArg (·.testBit i) h;simp only[Nat.testBit_and,hM,Nat.zero_testBit] at h2;simpa [h1,show¬ i<T by omega] using h2
  ·exact Nat.testBit_lt_two_pow (Wv ho (Nat.pow_le_pow_right (by omega) h1))
 ·intro h;refine Nat.eq_of_testBit_eq fun i=>?_
  rw[Nat.testBit_and,hM,Nat.zero_testBit];rcases Nat.lt_or_ge i T with h1 | h1
  ·simp[h1]
  ·rw[Nat.testBit_lt_two_pow (Wv h (Nat.pow_le_pow_right (by omega) h1))];rfl
theorem Lm(o T:Nat)(ho:o<18446744073709551616)(hT:T≤64):(bits .andNot .u64 (o:Int) ((pw T - 1:Nat):Int) != 0) = !decide (o<2 ^ T):=by
 have hp:=Du T;have hle:pw T≤18446744073709551616:=by
  have:=Nat.pow_le_pow_right (n:=2) (by omega) hT;simpa [pw] using this
 rw[u64_andNot_nat _ _ ho (by omega)];have h:=Ks 64 o T ho hT;rw[show 18446744073709551615 - (pw T - 1)=2 ^ 64 - (2 ^ T - 1+1) by simp only[pw];omega];rw[Ww];simp only[WJ,Bool.not_eq_true',decide_eq_false_iff_not];rw[← h];omega
theorem GW(o T:Nat)(ho:o<4294967296)(hT:T≤32):(bits .andNot .u32 (o:Int) ((pw T - 1:Nat):Int) != 0) = !decide (o<2 ^ T):=by
 have hp:=Du T;have hle:pw T≤4294967296:=by
  have:=Nat.pow_le_pow_right (n:=2) (by omega) hT;simpa [pw] using this
 rw[u32_andNot_nat _ _ ho (by omega)];have h:=Ks 32 o T ho hT;rw[show 4294967295 - (pw T - 1)=2 ^ 32 - (2 ^ T - 1+1) by simp only[pw];omega];rw[Ww];simp only[WJ,Bool.not_eq_true',decide_eq_false_iff_not];rw[← h];omega
theorem Ir(n r P:Nat):n ||| r<2 ^ P↔n<2 ^ P∧r<2 ^ P:=
 ⟨fun h=>⟨Wr Nat.left_le_or h,Wr Nat.right_le_or h⟩,fun h=>Nat.or_lt_two_pow h.1 h.2⟩
theorem Fa{S P R o n r:Nat}{l:List (Nat × Int)}(h:¬ n<2 ^ P∨¬ r<2 ^ P):Cc S P R o n r l=false:=by
 refine Nr fun h2=>?_
 have:=(Ir n r P).1 h2;rcases h with h | h
 ·exact h this.1
 ·exact h this.2
attribute [local irreducible] Cc AJ pw
theorem Dl(s p g q:Nat)(a1 a2 a3 a4:Option Addr)(cs cp cg cq:Nat)(o n r:Nat)(a:Option Addr)(l:List (Nat × Int))(len cap:Nat)(w:World)(hl:l.length=len)(hll:len≤1000)(hs:s≤1000)(hp:p≤1000)(hq:q≤1000)
 (hc:CZ w a l) (ho:o<18446744073709551616) (hn:n<4294967296) (hr:r<4294967296) :
 Calls Tryz.prog 73 #[.agg #[.slice a1 s cs,.slice a2 p cp,.slice a3 g cg,.slice a4 q cq],.agg #[.int .u64 (o:Int),.int .u32 (n:Int),.int .u32 (r:Int),.slice a len cap]] w
  fun e w'=>e = .returned (.bool (Cc (min s 64) (min p 32) (min q 64) o n r l))∧Below w.heap.size w w':=by
 obtain⟨S,hS,hS2⟩:∃ S:Nat,S=min s 64∧S≤64:=⟨_,rfl,by omega⟩;obtain⟨P,hP,hP2⟩:∃ P:Nat,P=min p 32∧P≤32:=⟨_,rfl,by omega⟩;obtain⟨R,hR,hR2⟩:∃ R:Nat,R=min q 64∧R≤64:=⟨_,rfl,by omega⟩;rw[← hS,← hP,← hR];have HP3:Hid (min (p:Int) 32=(P:Int)):=hid (by omega);have HR3:Hid (min (q:Int) 64=(R:Int)):=hid (by omega);have HS3:Hid ((S:Int)=max 0 (min (s:Int) 64)):=hid (by omega);have HP4:Hid ((P:Int)=max 0 (min (P:Int) 64)):=hid (by omega);have HO:=hid (Lm o S ho hS2);have HN:=hid (GW n P hn hP2);have HR:=hid (GW r P hr hP2);have HC:Hid (((pw P - 1:Nat):Int) % 4294967296=((pw P - 1:Nat):Int)):=hid (by
  have h1:pw P≤4294967296:=by
   have:=Nat.pow_le_pow_right (n:=2) (by omega) hP2;rw[Pu];simpa using this
  have h2:=Du P;omega)
 clear hS hP hR ho hn hr;have HL:=hid hl;clear hl;by_cases h1:o<2 ^ S
 ·have hq1:(bits .andNot .u64 (o:Int) ((pw S - 1:Nat):Int) != 0)=false:=(by rw[HO.o,Wk h1];rfl);have H1:=hid h1;clear h1;go_enter Tryz.func73,Tryz.ntmps73;go_wp2_with fail;go_quiet ((go_at_call 72;exact Calls.quiet_of_same ((DS _ S _ HS3.o).mono fun e w' ⟨h1,h2⟩=>⟨h1,h2.symm⟩)));clear hq1;by_cases h3:len≤8
  ·have hp3:=HP3.o;go_wp2_with fail;refine(DS _ P _ HP4.o).mono ?_;rintro e w' ⟨rfl,rfl⟩;have hcc:=HC.o;have hq2:=HN.o;have hq3:=HR.o;clear hp3;by_cases h4:n<2 ^ P
   ·rw[Wk h4] at hq2;by_cases h5:r<2 ^ P
    ·rw[Wk h5] at hq3;have H4:=hid h4;have H5:=hid h5;clear h4 h5;go_wp2_with fail;have hb01:Below w.heap.size w (((w.alloc (Obj.cells #[Value.slice a1 s cs,Value.slice a2 p cp,Value.slice a3 g cg,Value.slice a4 q cq] 27)).alloc (Obj.cells #[Value.int IntKind.u64 ↑o,Value.int IntKind.u32 ↑n,Value.int IntKind.u32 ↑r,Value.slice a len cap] 35)).drewN nq):=below_drewN (Cb _ _ _) _;have hbk:=Ql w (Obj.cells #[Value.slice a1 s cs,Value.slice a2 p cp,Value.slice a3 g cg,Value.slice a4 q cq] 27) (Obj.cells #[Value.int IntKind.u64 ↑o,Value.int IntKind.u32 ↑n,Value.int IntKind.u32 ↑r,Value.slice a len cap] 35) nq;obtain⟨W1,hW1⟩:=X0 (((w.alloc (Obj.cells #[Value.slice a1 s cs,Value.slice a2 p cp,Value.slice a3 g cg,Value.slice a4 q cq] 27)).alloc (Obj.cells #[Value.int IntKind.u64 ↑o,Value.int IntKind.u32 ↑n,Value.int IntKind.u32 ↑r,Value.slice a len cap] 35)).drewN nq);rw[← hW1] at hb01 hbk ⊢;clear hW1;obtain⟨kA,kB⟩:=hbk;clear hq2 hq3 hcc;go_loopw [6] (fun i wr=>∃ k:Nat,k≤len∧i = .int .i64 k∧(∀(j:Nat) (c:Nat × Int),j<k→l[j]?=some c→AJ P R c=true)∧Below W1.heap.size W1 wr) (fun i _=>len - (intOf i).toNat)
     case atStart=>exact⟨0,by omega,rfl,fun j c h=>by omega,VU _ _⟩
     case round=>
      obtain⟨k,hk,rfl,hall,hB⟩:=hrel;have HA:=hid hall;have hB0:=L7 hb01 hb01.size hB;have kA:=A5 hB kA;have kB:=A5 hB kB;have eA1:=A4 kA 1 _ rfl;have eA3:=A4 kA 3 _ rfl;have eB3:=A4 kB 3 _ rfl;have xA:=World.block_lt_of_cell? _ _ eA1;have xB:=World.block_lt_of_cell? _ _ eB3;clear hall kA kB;by_cases hlt:k<len
      ·obtain⟨b,off,c,m,rfl,g1,l1,i1,c1,c2⟩:=(hc.below hB0).at (i:=k) (by rw[HL.o];exact hlt);have G1:=hid g1;clear g1;have d1:(0:Int)≤k:=(by omega);have x1:=World.block_lt_of_cell? _ _ c1;have hnext:AJ P R (c,m)=true→Hid (∀(j:Nat) (c:Nat × Int),j<k+1→l[j]?=some c→AJ P R c=true):=fun h=>hid (fun j c' hj hc'=>by
        by_cases hjk:j=k
        ·subst hjk;rw[G1.o] at hc';cases hc';exact h
        ·exact HA.o j c' (by omega) hc')
       have HX:=hid hnext;clear hnext;by_cases e1:c=1
       ·have q3:((c:Int) == 3)=false:=(by simp;omega);have q4:¬ (c:Int)<1:=(by omega);have q5:¬ (3:Int)<(c:Int):=(by omega);by_cases b1:0≤m
        ·by_cases b2:m<R
         ·have HR:=HX.o (by unfold AJ;exact Wk (by omega));have hr3:=HR3.o;clear e1;go_wp2_with fail;go_roundw
          case rel=>exact⟨k+1,by omega,by go_num,HR.o,hB.alloc hB.size _⟩
          case measure=>simp[intOf];omega
         ·have HR:Hid (AJ P R (c,m)=false):=hid (by unfold AJ;exact Wg (by omega));have hr3:=HR3.o;clear e1;go_wp2_with fail;go_ret;exact⟨BW (CL G1.o HR.o).symm,hB0.alloc hB0.size _⟩
        ·have HR:Hid (AJ P R (c,m)=false):=hid (by unfold AJ;exact Wg (by omega));have hr3:=HR3.o;clear e1;go_wp2_with fail;go_ret;exact⟨BW (CL G1.o HR.o).symm,hB0.alloc hB0.size _⟩
       ·by_cases e2:c=2
        ·have q3:((c:Int) == 3)=false:=(by simp;omega);have q4:¬ (c:Int)<1:=(by omega);have q5:¬ (3:Int)<(c:Int):=(by omega);by_cases b1:0≤m
         ·by_cases b2:m<R
          ·have HR:=HX.o (by unfold AJ;exact Wk (by omega));have hr3:=HR3.o;clear e1 e2;go_wp2_with fail;go_roundw
           case rel=>exact⟨k+1,by omega,by go_num,HR.o,hB.alloc hB.size _⟩
           case measure=>simp[intOf];omega
          ·have HR:Hid (AJ P R (c,m)=false):=hid (by unfold AJ;exact Wg (by omega));have hr3:=HR3.o;clear e1 e2;go_wp2_with fail;go_ret;exact⟨BW (CL G1.o HR.o).symm,hB0.alloc hB0.size _⟩
         ·have HR:Hid (AJ P R (c,m)=false):=hid (by unfold AJ;exact Wg (by omega));have hr3:=HR3.o;clear e1 e2;go_wp2_with fail;go_ret;exact⟨BW (CL G1.o HR.o).symm,hB0.alloc hB0.size _⟩
        ·by_cases e3:c=3
         ·have q3:((c:Int) == 3)=true:=(by simp;omega);have q4:¬ (c:Int)<1:=(by omega);have q5:¬ (3:Int)<(c:Int):=(by omega);by_cases b1:0≤m
          ·by_cases b2:m<P
           ·have HR:=HX.o (by unfold AJ;exact Wk (by omega));have hr3:=HR3.o;have hp3:=HP3.o;clear e1 e2 e3;go_wp2_with fail;go_roundw
            case rel=>exact⟨k+1,by omega,by go_num,HR.o,hB.alloc hB.size _⟩
            case measure=>simp[intOf];omega
           ·have HR:Hid (AJ P R (c,m)=false):=hid (by unfold AJ;exact Wg (by omega));have hr3:=HR3.o;have hp3:=HP3.o;clear e1 e2 e3;go_wp2_with fail;go_ret;exact⟨BW (CL G1.o HR.o).symm,hB0.alloc hB0.size _⟩
          ·have HR:Hid (AJ P R (c,m)=false):=hid (by unfold AJ;exact Wg (by omega));have hr3:=HR3.o;have hp3:=HP3.o;clear e1 e2 e3;go_wp2_with fail;go_ret;exact⟨BW (CL G1.o HR.o).symm,hB0.alloc hB0.size _⟩
         ·by_cases e4:c<1
          ·have HR:Hid (AJ P R (c,m)=false):=hid (by unfold AJ;exact Wg (by omega));have q3:((c:Int) == 3)=false:=(by simp;omega);have q4:(c:Int)<1:=(by omega);have hr3:=HR3.o;clear e1 e2 e3 e4;go_wp2_with fail;go_ret;exact⟨BW (CL G1.o HR.o).symm,hB0.alloc hB0.size _⟩
          ·have HR:Hid (AJ P R (c,m)=false):=hid (by unfold AJ;exact Wg (by omega));have q3:((c:Int) == 3)=false:=(by simp;omega);have q4:¬ (c:Int)<1:=(by omega);have q5:(3:Int)<(c:Int):=(by omega);have hr3:=HR3.o;clear e1 e2 e3 e4;go_wp2_with fail;go_ret;exact⟨BW (CL G1.o HR.o).symm,hB0.alloc hB0.size _⟩
      ·obtain rfl:k=len:=(by omega);go_wp2_with fail;go_ret;exact⟨BW (ON H1.o ((Ir n r P).2 ⟨H4.o,H5.o⟩) (by rw[HL.o];exact h3) (fun j c hj=>HA.o j c (by rw[← HL.o];exact(We.1 hj).1) hj)).symm,hB0⟩
    ·rw[Wg h5] at hq3;have H5:=hid h5;clear h4 h5;go_wp2_with fail;go_ret;exact⟨BW (Fa (.inr H5.o)).symm,below_drewN (Cb _ _ _) _⟩
   ·rw[Wg h4] at hq2;have H4:=hid h4;clear h4 hq3;go_wp2_with fail;go_ret;exact⟨BW (Fa (.inl H4.o)).symm,below_drewN (Cb _ _ _) _⟩
  ·go_wp2_with fail;go_ret;exact⟨BW (Ns (by rw[HL.o];exact h3)).symm,below_drewN (Cb _ _ _) _⟩
 ·have hq1:(bits .andNot .u64 (o:Int) ((pw S - 1:Nat):Int) != 0)=true:=(by rw[HO.o,Wg h1];rfl);have H1:=hid h1;clear h1;go_enter Tryz.func73,Tryz.ntmps73;go_wp2_with fail;go_quiet ((go_at_call 72;exact Calls.quiet_of_same ((DS _ S _ HS3.o).mono fun e w' ⟨h1,h2⟩=>⟨h1,h2.symm⟩)));go_wp2_with fail;go_ret;exact⟨BW (Nq H1.o).symm,below_drewN (Cb _ _ _) _⟩
end
section
theorem Mz{l:List (Int × Bool)}{k:Nat}{j:Nat}{B:Bool}(h:l[k]?=some ((j:Int),B))(p:Nat):CB (l.take (k+1)) p=if B then Ab (CB (l.take k) p) j else Aw (CB (l.take k) p) j:=by
 unfold CB;rw[Wp,h,List.foldl_append];show(if B=true then Ab _ ((j:Int).toNat) else Aw _ ((j:Int).toNat))=_;rw[Int.toNat_natCast]
theorem Sq{p j:Nat}(hp:p<4294967296)(hj:j≤31):Ab (Aw p j) j=Ab p j:=by
 rw[By,By,← G6 p j (by omega) (by omega)];have hpw:pw j<18446744073709551616:=Nat.lt_trans (Ec hj) (by decide);refine Nat.eq_of_testBit_eq fun i=>?_
 rw[Nat.testBit_or,Nat.testBit_or,Nat.testBit_and];by_cases h:i<64
 ·rw[Jo hpw h];cases (pw j).testBit i<;>simp
 ·have h1:p.testBit i=false:=Nat.testBit_lt_two_pow (Wv hp (Nat.pow_le_pow_right (n:=2) (i:=32) (by omega) (by omega)));rw[h1];simp
theorem Jd{S P R kd:Nat}{nn:Int}:Cc S P R 0 0 0 [(kd,nn)]=AJ P R (kd,nn):=by
 unfold Cc;have h1:(0:Nat)<2 ^ S:=WP S;have h2:(0:Nat) ||| 0<2 ^ P:=WP P
 rw[Wk h1,Wk h2,List.all_cons,List.all_nil];simp
theorem QC{L:AL}{s:St}{oc kd:Nat}{nn:Int}(h:AJ L.po.l.length L.rt.l.length (kd,nn)=false):D6 (AW L) s oc (kd,nn)=s:=by
 unfold AJ at h;have h:=of_decide_eq_false h;dsimp only at h;unfold D6 Bo;by_cases h0:nn<0
 ·rw[if_pos h0]
 ·rw[if_neg h0];by_cases h3:kd=3
  ·rw[if_pos h3,DO,if_neg (by omega)]
  ·rw[if_neg h3];cases hx:(AW L).rw[nn.toNat]? with
   | none=>rfl
   | some x=>
     have hl:nn.toNat<L.rt.l.length:=by
      have:=(We.1 hx).1;rw[D5] at this;exact this
     dsimp only;rw[if_neg (by omega),if_neg (by omega)]
theorem QF{L:AL}{s:St}{oc n:Nat}{x:Rt}(hx:L.rt.l[n]?=some x):D6 (AW L) s oc (1,(n:Int))=BQ (AW L) s oc n (CY L n x):=by
 unfold D6 Bo;dsimp only;rw[if_neg (by omega),if_neg (by omega),Int.toNat_natCast,DN hx];rfl
theorem QD{L:AL}{s:St}{oc n:Nat}{x:Rt}(hx:L.rt.l[n]?=some x):D6 (AW L) s oc (2,(n:Int))=BB s oc n (CY L n x):=by
 unfold D6 Bo;dsimp only;rw[if_neg (by omega),if_neg (by omega),Int.toNat_natCast,DN hx];rfl
theorem QE{L:AL}{s:St}{oc n:Nat}(hn:n<L.po.l.length):D6 (AW L) s oc (3,(n:Int))=BP (AW L) s oc n:=by
 unfold D6 Bo;dsimp only;rw[if_neg (by omega),if_pos rfl,Int.toNat_natCast,DO,if_pos hn]
theorem U2(T:Tb)(s:St)(oc n:Nat)(x:Rw):BQ T s oc n x=if B9 T s oc n x then { s with lk:=Ab s.lk n,pt:=CB x.nd s.pt } else s:=rfl
theorem T9(s:St)(oc n:Nat)(x:Rw):BB s oc n x=if AU s n then { s with ca:=Ab s.ca n,tm:=if Aa oc x.ah.toNat then BZ s.tm n 20 else BZ s.tm n 0 } else s:=rfl
theorem TI(T:Tb)(s:St)(oc p:Nat):BP T s oc p=if Bd T s oc p then { s with pt:=Bh s.pt p } else s:=rfl
theorem RF(T:Tb)(s:St)(oc p:Nat):Bd T s oc p=(!Aa oc (T.li.getD p 0).toNat && !BG T s p T.rw.length):=rfl
theorem TX(L:AL)(i:Nat)(x:Rt):(CY L i x).ah=Bt L x.sg:=rfl
theorem US(l:List (Int × Bool))(h:∀ n∈l,0≤n.1∧n.1≤31):∀ p,p<4294967296→CB l p<4294967296:=by
 induction l with
 | nil=>intro p hp;exact hp
 | cons a l ih=>
   intro p hp;unfold CB;rw[Wi];refine ih (fun n hn=>h n (WS _ hn)) _ ?_;have ha:=h a WM;split
   ·rw[By];exact Nat.or_lt_two_pow (n:=32) hp (Nat.pow_lt_pow_right (by omega) (by omega))
   ·exact Wr (Dx _ _) hp
attribute [local irreducible] Sl.v Aa pw Ab Aw C8 Af BC CD Bi Bg B9 CB BQ AU Bp BB BG Bh Bd BP Bo BL BF BN AI AY AV Be Bw Bq C4 Mc.tb BZ AX Ap B5
attribute [local irreducible] AW CY Bt BO Rt.tr Rt.nd AC C9 At
attribute [local irreducible] E9
theorem Tj(L:AL)(s:St)(oc no re:Nat)(ia:Option Addr)(il ic:Nat)(kd:Nat)(nn:Int)(w:World)(hL:AO w L)(hc:(Ap L).1=0)(hs:s.ok)(ho:oc<18446744073709551616)(hkd:kd≤255)(h1 : -9223372036854775808≤nn)(h2:nn≤9223372036854775807)(hr:AJ L.po.l.length L.rt.l.length (kd,nn)=false) :
 Calls Tryz.prog 42 #[.agg #[L.se.v,L.po.v,L.sg.v,L.rt.v],.agg (Af s).toArray,.agg #[.int .u64 (oc:Int),.int .u32 (no:Int),.int .u32 (re:Int),.slice ia il ic],.agg #[.int .u8 (kd:Int),.int .i64 nn]] w fun e w'=>e = .returned (.agg (Af (D6 (AW L) s oc (kd,nn))).toArray)∧Below w.heap.size w w':=by
 have HBR:=hid hr;have HMAY:Hid (AX L=true):=hid (B6 hc);have HS4:Hid (L.rt.l.length≤64):=hid (AE (B6 hc)).2.2.2;have HCK:=hid hc;have HS2:Hid (L.po.l.length≤32):=hid (AE (B6 hc)).2.1;have HS1:Hid (L.se.l.length≤64):=hid (AE (B6 hc)).1;have HSO:=hid hs;have HOC:=hid ho;obtain⟨n1,hn1⟩:=WY L.se.l.length;obtain⟨n2,hn2⟩:=WY L.po.l.length;obtain⟨n3,hn3⟩:=WY L.sg.l.length;obtain⟨n4,hn4⟩:=WY L.rt.l.length;have HLW:=hid hL;have HN1:=hid hn1;have HN2:=hid hn2;have HN3:=hid hn3;have HN4:=hid hn4;have KR:Hid (∀(V:World) (g:Nat),V.heap[g]?=some (.cells #[.int .u8 (kd:Int),.int .i64 nn] 31)→Calls Tryz.prog 73 #[.agg #[.slice L.se.a n1 L.se.c,.slice L.po.a n2 L.po.c,.slice L.sg.a n3 L.sg.c,.slice L.rt.a n4 L.rt.c],.agg #[.int .u64 0,.int .u32 0,.int .u32 0,.slice (some ⟨g,0,none⟩) 1 1]] V fun e w'=>e = .returned (.bool false)∧Below V.heap.size V w'):=hid (fun V g hg=>by
  have h:=Dl n1 n2 n3 n4 L.se.a L.po.a L.sg.a L.rt.a L.se.c L.po.c L.sg.c L.rt.c 0 0 0 (some ⟨g,0,none⟩) [(kd,nn)] 1 1 V rfl (by omega) (by rw[← hn1];have:=HS1.o;omega) (by rw[← hn2];have:=HS2.o;omega) (by rw[← hn4];have:=HS4.o;omega) (Et hg (by omega) h1 h2) (by omega) (by omega) (by omega);rw[Jd,show min n2 32=L.po.l.length by have:=HS2.o;omega,show min n4 64=L.rt.l.length by have:=HS4.o;omega,HBR.o] at h;exact h)
 rw[hn4] at HS4;rw[Ak hn1,Ak hn2,Ak hn3,Ak hn4];have HROWL:Hid (As 6 Qj w L.rt.a L.rt.l):=hid hL.rt.row;clear hn1 hn2 hn3 hn4 hL hc hs ho hkd h1 h2;go_enter Tryz.func42,Tryz.ntmps42;go_upto_region 1 with fail
 rw[Bz];refine Ao (os:=[.cells #[.slice L.se.a n1 L.se.c,.slice L.po.a n2 L.po.c,.slice L.sg.a n3 L.sg.c,.slice L.rt.a n4 L.rt.c] 27,.cells (Af s).toArray 65,.cells #[.int .u64 (oc:Int),.int .u32 (no:Int),.int .u32 (re:Int),.slice ia il ic] 35,.cells #[.int .u8 (kd:Int),.int .i64 nn] 31,.cells (Af zS).toArray 65]) (w0:=w) rfl ?_;intro W hat hbw;obtain⟨gl,hgl⟩:=X0 w.heap.size;have q0:=hat 0 _ rfl;obtain⟨gs,hgs⟩:=X0 (gl+1);have q1:=hat 1 _ rfl;obtain⟨gi,hgi⟩:=X0 (gs+1);have q2:=hat 2 _ rfl;obtain⟨gc,hgc⟩:=X0 (gi+1);have q3:=hat 3 _ rfl;obtain⟨gr,hgr⟩:=X0 (gc+1);have q4:=hat 4 _ rfl;rw[Wa,← hgl] at q0;rw[← hgl,← hgs] at q1;rw[← hgl,show gl+2=gi by omega] at q2;rw[← hgl,show gl+3=gc by omega] at q3;rw[← hgl,show gl+4=gr by omega] at q4;rw[← hgl,← hgs,← hgi,← hgc,← hgr];have HQl:=hid q0;have HQs:=hid q1;have HQi:=hid q2;have HQc:=hid q3;have HQr:=hid q4;have HB0:=hid hbw;have HG:Hid (w.heap.size≤gs∧gr≠gs∧gl≠gs∧gi≠gs∧gc≠gs):=hid (by omega);have HGR:Hid (w.heap.size≤gr):=hid (by omega);clear hat hbw q0 q1 q2 q3 q4 hgl hgs hgi hgc hgr;have l0:=A4 HQl.o 0 _ rfl;have l1:=A4 HQl.o 1 _ rfl;have l2:=A4 HQl.o 2 _ rfl;have l3:=A4 HQl.o 3 _ rfl;have m0:=A4 HQc.o 0 _ rfl;have m1:=A4 HQc.o 1 _ rfl;go_wp2_with fail;have hbn:=Ac W (.cells #[.int .u8 (kd:Int),.int .i64 nn] 31);have hqn:=Al W (.cells #[.int .u8 (kd:Int),.int .i64 nn] 31) (VU _ _);refine(KR.o _ _ hqn).mono ?_;rintro e w1 ⟨rfl,hb1⟩;have HBW1:=hid (A6 hbn hb1);have HB1:=hid (A6 HB0.o HBW1.o);have HL1:=hid (A5 HBW1.o HQl.o);have HS1':=hid (A5 HBW1.o HQs.o);have HI1:=hid (A5 HBW1.o HQi.o);have HC1:=hid (A5 HBW1.o HQc.o);have HR1:=hid (A5 HBW1.o HQr.o);clear hbn hqn hb1 l0 l1 l2 l3 m0 m1 KR;go_upto_region 2 with fail
 have HLD:=hid (Au HS1'.o);obtain⟨hst,hq9,ho9⟩:=AH (s':=s) HR1.o;have HST:=hid hst;have HQ9:=hid hq9;have HB9:Hid (Below w.heap.size w (w1.setCells gr 0 (Af s))):=hid (Ai.below HB1.o HGR.o HB1.o.size ho9);clear hst hq9 ho9;go_wp2_with (first
  | ((with_reducible refine Ah (op:=⟨some 17,_,_,_,_,_⟩) rfl 65 _ rfl _ _ ?_ HLD.o ?_);(· rfl))
  | ((with_reducible refine Ag (op:=⟨none,.store 65 _ _,_,_,_,_⟩) rfl 65 _ _ rfl _ _ ?_ ?_ _ HST.o ?_);(· rfl);(· rfl)))
 (try simp only[Exit.inBlock,Exit.then])
 refine bodyPost_ret (results_cell_row (g:=gr) rfl _ _ 65 (Af s).toArray (0,0) _ rfl HQ9.o Tryz.underlying65 rfl (by rw[Wn,AS];exact Bf)) rfl ?_;exact⟨by rw[QC HBR.o],HB9.o⟩
end
end Go.Proofs.YtpohoannggdbjaaGreat
