/- Layer 28: ModelOwn. -/
import Derived.Test.YtpohoannggdbjaaGreatRef07
import Derived.Test.YtpohoannggdbjaaGreatMoT
import Derived.Test.YtpohoannggdbjaaGreatMoS
set_option maxRecDepth 100000
set_option maxHeartbeats 200000000
namespace Go.Proofs.YtpohoannggdbjaaGreat
open Lib (hid)
open Go.RowKit
def Vw(z:Nat):List Value:=[.int .u8 (z:Int)]
theorem Kf:(Tryz.prog.info? 35).map (fun i=>(i.zero,i.size,i.bytes))=some (some (.agg #[.int .u64 0,.int .u32 0,.int .u32 0,.slice none 0 0]),4,40):=by kernel_rfl
theorem PK{w:World}{g:Nat}{x:Iv}{t:TypeId}{fr:Nat × Nat}(h:w.heap[g]?=some (.cells #[.int .u64 (x.oc:Int),.int .u32 (x.no:Int),.int .u32 (x.re:Int),.slice x.a x.len x.cap] t fr)):C1 w (some ⟨g,0,none⟩) 1 (DV x):=F1 h rfl (by intro u hu;unfold DV at hu;simp at hu;rcases hu with rfl | rfl | rfl | rfl<;>rfl)
theorem MO{w:World}{g:Nat}{b:Bool}{p q:Int}{t:TypeId}{fr:Nat × Nat}(h:w.heap[g]?=some (.cells #[.bool b,.int .u64 p,.int .u32 q] t fr)):C1 w (some ⟨g,0,none⟩) 1 [.bool b,.int .u64 p,.int .u32 q]:=F1 h rfl (by intro u hu;simp at hu;rcases hu with rfl | rfl | rfl<;>rfl)
theorem Sf(P:Nat)(h:P≤400):wrap64 (((P+1:Nat):Int) - 1)=(P:Int):=by unfold wrap64;omega
theorem RS(L:AL)(X:List Iv)(Z:List Nat)(n:Nat)(w:World)(hL:AO w L)(hxo:∀ x∈X,Ci w x∧x.len≤100000)(h4:(AF X Z n).length≤400):∃(N:Nat) (er:Int),N≤400∧(er=0→N=(AF X Z n).length)∧(Ap L).1=er∧(∀ V a cc,Below w.heap.size w V→As 4 DV V a (AF X Z n)→Calls Tryz.prog 7 #[.agg #[L.se.v,L.po.v,L.sg.v,L.rt.v],.slice a (AF X Z n).length cc] V fun e w'=>Ib L (AF X Z n) N w' e er∧Below V.heap.size V w'):=by
 obtain⟨c,hc⟩:=WY ((Ap L).1);by_cases h0:c=0
 ·subst h0;refine⟨(AF X Z n).length,0,h4,fun _=>rfl,hc,fun V a cc hV hr=>?_⟩;refine(JB L a _ cc (AF X Z n) V (hL.below hV) hr rfl (fun x hx=>⟨(hxo x (EH n x hx)).1.below hV,(hxo x (EH n x hx)).2⟩) h4 hc).mono ?_;rintro e w' ⟨gS,gO,rfl,h1,h2,hb⟩;exact⟨⟨_,_,_,_,rfl,CR (fun j=>AS _) h1 rfl,CR (EA _ _) h2 rfl⟩,hb⟩
 ·refine⟨0,c,by omega,fun h=>absurd h h0,hc,fun V a cc hV hr=>?_⟩;refine(LF L a _ cc V (hL.below hV) c hc h0).mono ?_;rintro e w' ⟨rfl,hb⟩;exact⟨⟨_,_,_,_,rfl,D4,D4⟩,hb⟩
theorem Mi(l:List Iv)(x:Iv):(l ++ [x]).flatMap DV=l.flatMap DV ++ DV x:=by rw[WA,WI,WO,Wt]
theorem JE(T:Tb)(X:List Iv)(Z:List Nat)(n i:Nat):(List.range (i+1)).flatMap (fun j=>Cx (Dw T X Z n j))=(List.range i).flatMap (fun j=>Cx (Dw T X Z n j)) ++ Cx (Dw T X Z n i):=by rw[List.range_succ,WA,WI,WO,Wt]
attribute [local irreducible] Sl.v Aa pw Ab Aw C8 Af BC CD Bi Bg B9 CB BQ AU Bp BB BG Bh Bd BP Bo BL BF BN AI AY AV Be Bw Bq C4 Mc.tb BZ AX Ap B5
attribute [local irreducible] Bs BV C6 BS Ay AN
attribute [local irreducible] AW CY Bt BO zS FL BX FN FM D8 BH Df C3 I8 DC Ek F4 AF Dw MM DL H2 GZ Jt
theorem TT(z k:Nat){b:Bool}(h:(z % 3 == k)=b):((z:Int) % 3 !=(k:Int)) = !b:=by
 rw[← h,Ww];simp only[WJ,ne_eq,Bool.not_eq_true',beq_eq_false_iff_ne];omega
theorem PB(z k:Nat){b:Bool}(h:(z % 3 == k)=b):((z:Int) % 3 ==(k:Int))=b:=by
 rw[← h,Ww];simp only[WH];omega
theorem Kj(L:AL)(ra:Option Addr)(n rc:Nat)(ka:Option Addr)(kn kc:Nat)(X:List Iv)(Z:List Nat)(w:World)(hL:AO w L)(hX:B7 4 DV w ⟨ra,rc,X⟩)(hxn:X.length=n)(hxo:∀ x∈X,Ci w x)(hZ:As 1 Vw w ka Z)(hzn:Z.length=kn)(hzo:∀ z∈Z,z<256)(h11:n≤10)(hpos:(Ap L).1=0→0<(AF X Z n).length) :
 Calls Tryz.prog 9 #[.agg #[L.se.v,L.po.v,L.sg.v,L.rt.v],.slice ra n rc,.slice ka kn kc] w fun e w'=>e = .returned (.bool true)∧Below w.heap.size w w':=by
 obtain⟨n1,hn1⟩:=WY L.se.l.length;obtain⟨n2,hn2⟩:=WY L.po.l.length;obtain⟨n3,hn3⟩:=WY L.sg.l.length;obtain⟨n4,hn4⟩:=WY L.rt.l.length;obtain⟨b1,hb1⟩:=WY (Df L X 12);have KF:Hid (∀ V,Below w.heap.size w V→Calls Tryz.prog 11 #[.agg #[L.se.v,L.po.v,L.sg.v,L.rt.v],.slice ra n rc,.int .i64 12] V fun e w'=>e = .returned (.bool b1)∧Below V.heap.size V w'):=hid (fun V hV=>J8 L ra n rc 12 X b1 V (hL.below hV) (hX.row.below hV) hxn (by omega) hb1);cases b1 with
 | false=>
   rw[Ak hn1,Ak hn2,Ak hn3,Ak hn4] at KF ⊢;clear hn1 hn2 hn3 hn4 hL hb1 hX hxn hxo hZ hzn hzo h11;go_enter Tryz.func9,Tryz.ntmps9;go_upto_region 1 with fail
   refine Ao (os:=[.cells #[.slice L.se.a n1 L.se.c,.slice L.po.a n2 L.po.c,.slice L.sg.a n3 L.sg.c,.slice L.rt.a n4 L.rt.c] 27]) (w0:=w) rfl ?_;intro W hat hbw;obtain⟨gl,hgl⟩:=X0 w.heap.size;have q0:=hat 0 _ rfl;rw[Wa,← hgl] at q0;rw[← hgl];have HQl:=hid q0;have HB0:=hid hbw;clear hat hbw q0 hgl;have l0:=A4 HQl.o 0 _ rfl;have l1:=A4 HQl.o 1 _ rfl;have l2:=A4 HQl.o 2 _ rfl;have l3:=A4 HQl.o 3 _ rfl;go_wp2_with fail;refine(KF.o _ HB0.o).mono ?_;rintro e w1 ⟨rfl,hb⟩;have HB1:=hid (A6 HB0.o hb);have HL1:=hid (A5 hb HQl.o);clear hb l0 l1 l2 l3;go_wp2_with fail;refine(BI _).mono ?_;rintro e wz ⟨rfl,hbz⟩;have HBE:=hid (A6 HB1.o hbz);clear hbz;go_wp2_with fail;go_ret;exact⟨rfl,HBE.o⟩
 | true=>
   have hfew:=J9 hb1;have hxo2:∀ x∈X,Ci w x∧x.len≤100000:=fun x hx=>⟨hxo x hx,by have:=hfew.2 x hx;omega⟩
   have HXR:=hid hX.row;have HXN:=hid hxn;have HXO:=hid hxo2;have HZR:=hid hZ;have HZN:=hid hzn;have HZO:=hid hzo;have HN11:=hid h11;obtain⟨N,er,hN4,hNm,her,hkr⟩:=RS L X Z n w hL hxo2 (by have:=EG X Z n;omega);have KRN:=hid hkr;have HNM:=hid hNm;have HN4:=hid hN4;have KEX:Hid (∀ V ya yc k (Y:List Sh) b,Below w.heap.size w V→As 3 Cx V ya Y→Y.length=k→BH L X Y=b→Calls Tryz.prog 15 #[.agg #[L.se.v,L.po.v,L.sg.v,L.rt.v],.slice ra n rc,.slice ya k yc] V fun e w'=>e = .returned (.bool b)∧Below V.heap.size V w'):=hid (fun V ya yc k Y b hV hy hk hb=>CK L ra n rc ya k yc X Y b V (hL.below hV) (hX.row.below hV) hxn (fun x hx=>⟨(hxo2 x hx).1.below hV,(hxo2 x hx).2⟩) hy hk (by omega) hb);have KRE:Hid (er=0→∀ V ya yc (Y:List Sh),Below w.heap.size w V→As 3 Cx V ya Y→Y.length=n→Calls Tryz.prog 12 #[.agg #[L.se.v,L.po.v,L.sg.v,L.rt.v],.slice ra n rc,.slice ya n yc] V fun e w'=>∃ va vc ss,e = .returned (.tuple #[.slice va ss.length vc,.int .i64 0])∧AP ss (AN (AW L) X Y n)∧As 68 Af w' va ss∧ss.length≤100000∧Below V.heap.size V w'):=hid (fun h0 V ya yc Y hV hy hk=>(Fe L ra n rc ya yc X Y V (hL.below hV) (hX.row.below hV) hxn (fun x hx=>⟨(hxo2 x hx).1.below hV,(hxo2 x hx).2⟩) hy hk (by omega) (her.trans h0)).mono (fun e w' ⟨v,ss,h1,h2,h3,h4,h5⟩=>by
    obtain⟨va,vc,hv,hrow⟩:=CJ AS rfl h3;refine⟨va,vc,ss,by rw[h1,hv],h2,hrow.row,?_,h4⟩;have hs:AP ss (Ek (AW L) X Y n (2 ^ n)):=h2.trans (GD (by omega) (by omega)).symm;rw[Ka h5 (Eu (AW L) X Y n (2 ^ n)) hs];exact Wd (Gn _ _ _ _ _) (Wd (H3 (by omega)) (by decide))))
   have HE0:Hid (er≠0→BH L X (List.replicate n RO)=false):=hid (fun h=>J7 (by rw[her];exact h));have HEY:Hid (er=0→BH L X (MM (AW L) X Z n)=true):=hid (fun h=>Pm (her.trans h) hxn);have HPOS:Hid (er=0→0<(AF X Z n).length):=hid (fun h=>hpos (her.trans h));have HTHR:Hid (∀ ss,AP ss (AN (AW L) X (MM (AW L) X Z n) n)→ss.any (fun t=>C4 t (BX (AW L) (AF X Z n) (AF X Z n).length))=true):=hid (fun ss h=>NM hxn h);obtain⟨T,hT⟩:=WY (AW L);unfold Ib at KRN;rw[hT] at KRN KRE HEY HTHR;clear hN4 hNm her hkr hpos hT;rw[Ak hn1,Ak hn2,Ak hn3,Ak hn4] at KF KRN KEX KRE ⊢;clear hn1 hn2 hn3 hn4 hL hb1 hX hxn hxo hZ hzn hzo h11 hfew hxo2;go_enter Tryz.func9,Tryz.ntmps9;go_upto_region 1 with fail
   refine Ao (os:=[.cells #[.slice L.se.a n1 L.se.c,.slice L.po.a n2 L.po.c,.slice L.sg.a n3 L.sg.c,.slice L.rt.a n4 L.rt.c] 27]) (w0:=w) rfl ?_;intro W hat hbw;obtain⟨gl,hgl⟩:=X0 w.heap.size;have q0:=hat 0 _ rfl;rw[Wa,← hgl] at q0;rw[← hgl];have HQl:=hid q0;have HB0:=hid hbw;clear hat hbw q0 hgl;have l0:=A4 HQl.o 0 _ rfl;have l1:=A4 HQl.o 1 _ rfl;have l2:=A4 HQl.o 2 _ rfl;have l3:=A4 HQl.o 3 _ rfl;go_wp2_with fail;refine(KF.o _ HB0.o).mono ?_;rintro e w1 ⟨rfl,hb⟩;have HB1:=hid (A6 HB0.o hb);have HL1:=hid (A5 hb HQl.o);clear hb l0 l1 l2 l3;obtain⟨lo,hlo⟩:=X0 w1.heap.size;have HLO:Hid (lo≤w1.heap.size):=hid (by omega);have HLO1:Hid (w1.heap.size≤lo):=hid (by omega);obtain⟨iI,hi,hz0,hz1,hz2⟩:=info_parts Kf;have HII:=hid (And.intro hi (And.intro hz0 (And.intro hz1 hz2)));clear hi hz0 hz1 hz2 hlo;go_upto_region 5 with fail
   go_loopg [7,8] n (fun g sv v wr=>∃ i:Nat,i+g=n∧v = .int .i64 (i:Int)∧wr.ownsRow lo 35 4 sv (AF X Z i).length ((AF X Z i).flatMap DV)∧Below w1.heap.size w1 wr)
   case atStart=>exact⟨0,by omega,rfl,by rw[G3];exact Wz _ _ _ _,VU _ _⟩
   case round=>
    obtain⟨i,hi,rfl,hown,hbw⟩:=hrel;obtain⟨sv,rfl⟩:=X0 u7;have HI:=hid hi;have HOWN:=hid hown;have HB:=hid hbw;clear hi hown hbw;by_cases hlt:i<n
    ·skip
     have d1:(0:Int)≤i:=(by omega);have d2:(i:Int)<n:=(by omega);have e1:=B8 hlt (Wd HN11.o (by decide));have HLT:=hid hlt;obtain⟨x,hxi⟩:∃ x,X[i]?=some x:=⟨_,Wb (by rw[HXN.o];exact hlt)⟩;have HXI:=hid hxi;have HXO1:=hid (HXO.o x (Wf hxi));rcases HXR.o with hnil | ⟨rb,ro,hra,hc⟩
     ·rw[hnil] at hxi;cases hxi
     have hbo:=A6 HB1.o HB.o;have z0:=VY hbo (hc i _ hxi 0 _ rfl);have z1:=VY hbo (hc i _ hxi 1 _ rfl);have z2:=VY hbo (hc i _ hxi 2 _ rfl);have z3:=VY hbo (hc i _ hxi 3 _ rfl);rw[Wa] at z0;have HZX:=hid (And.intro z0 (And.intro z1 (And.intro z2 z3)));obtain⟨K,hK⟩:=WY (AF X Z i);obtain⟨M,hM⟩:=WY K.length;have HML:Hid (M<1000):=hid (by have h:=EG X Z i;rw[hK,hM] at h;have:=HN11.o;omega);have hown:=HOWN.o;rw[hK,hM] at hown;have HOWN:=hid hown;have HKL:=hid hK;have HKM:=hid hM;obtain⟨A,hA⟩:=WY ra;have HAA:=hid hA;rw[hA] at hra ⊢;subst hra;clear hlt hxi hc hbo z0 z1 z2 z3 hK hM hown hA;cases hz:Z[i]? with
     | none=>
       have hkn:¬ i<kn:=(by have h:=List.getElem?_eq_none_iff.1 hz;rw[HZN.o] at h;omega);have hk1:(kn:Int)≤(i:Int):=(by omega);have hk2:decide (kn≤i)=true:=Wk (by omega);have HKP:=hid (Is hz);clear hz hkn;go_upto_region 8 with fail
       clear hk1 hk2;have hal:=Al wr (.cells #[.int .u64 (x.oc:Int),.int .u32 (x.no:Int),.int .u32 (x.re:Int),.slice x.a x.len x.cap] 35) (VU _ _);obtain⟨WB,hWB⟩:=X0 (wr.alloc (.cells #[.int .u64 (x.oc:Int),.int .u32 (x.no:Int),.int .u32 (x.re:Int),.slice x.a x.len x.cap] 35));have HBB:Hid (Below wr.heap.size wr WB):=hid (by rw[hWB];exact Ac _ _);rw[← hWB] at hal;have HWB:=hid hWB;have HSRC:=hid (PK hal);have HOWB:=hid (WX.own (X:=fun _=>False) (WX.of_below HBB.o) HOWN.o (fun _ _ h=>h));have HLSB:Hid (lo≤WB.heap.size):=hid (Wd HLO.o (Wd HB.o.size HBB.o.size));clear hal hWB;have z0:=HZX.o.1;have z1:=HZX.o.2.1;have z2:=HZX.o.2.2.1;have z3:=HZX.o.2.2.2;go_upto_region 6 with (at_builtin;rw[← HWB.o];refine Bn rfl _ _ 36 rfl lo 35 iI (.agg #[.int .u64 0,.int .u32 0,.int .u32 0,.slice none 0 0]) 4 40 Tryz.underlying36 HII.o.1 HII.o.2.1 HII.o.2.2.1 HII.o.2.2.2 rfl (by decide) sv M (K.flatMap DV) rfl HOWB.o (some ⟨wr.heap.size,0,none⟩) 1 1 (DV x) rfl (FQ x) HSRC.o (by have:=HML.o;unfold maxLen;omega) (by have:=HML.o;omega) HLSB.o ?_;intro v9 W9 hown9 hg9 hn9;rw[← Mi] at hown9;have HOW9:=hid hown9;have HG9:=hid hg9;clear hown9 hg9 hn9)
       clear z0 z1 z2 z3;have HB9:Hid (Below w1.heap.size w1 W9):=hid (Below.grown (A6 HB.o HBB.o) HG9.o (Wd HB.o.size HBB.o.size) (fun b hb=>by have h1:=(HOWB.o.lt b hb).1;have h2:=HLO1.o;omega));have HSY:Hid (AF X Z (i+1)=K ++ [x]):=hid (by rw[DZ HXI.o HKP.o,HKL.o]);go_wp2_with fail;rw[← HAA.o];go_roundg (n - (i+1))
       case rel=>exact⟨i+1,AA HI.o HLT.o,by go_num,by rw[HSY.o,Wh,HKM.o];exact HOW9.o,HB9.o⟩
       case measure=>exact Az HI.o HLT.o
     | some z=>
       have hkn:i<kn:=(by have h:=(We.1 hz).1;rw[HZN.o] at h;exact h);have hk1:¬ (kn:Int)≤(i:Int):=(by omega);have hk2:decide (kn≤i)=false:=Wg (by omega);have hk3:(i:Int)<(kn:Int):=(by omega);have HZ8:=hid (HZO.o z (Wf hz));rcases HZR.o with hnil | ⟨kb,ko,hka,hkc⟩
       ·rw[hnil] at hz;cases hz
       have k0:=VY (A6 HB1.o HB.o) (hkc i _ hz 0 _ rfl);rw[Wa,Nat.mul_one] at k0;have HKP:=hid (It hz);obtain⟨KA,hKA⟩:=WY ka;have HKA:=hid hKA;rw[hKA] at hka ⊢;subst hka;obtain⟨bt,hbt⟩:=WY (z % 3 == 2);have HBT:=hid hbt;have hrm:((z:Int) % 3 != 2) = !bt:=TT z 2 hbt;clear hz hkn hkc hKA hbt;cases bt with
       | false=>
         have hrm:((z:Int) % 3 != 2)=true:=hrm;go_upto_region 8 with fail
         clear hk1 hk2 hk3 k0 hrm;have hal:=Al wr (.cells #[.int .u64 (x.oc:Int),.int .u32 (x.no:Int),.int .u32 (x.re:Int),.slice x.a x.len x.cap] 35) (VU _ _);obtain⟨WB,hWB⟩:=X0 (wr.alloc (.cells #[.int .u64 (x.oc:Int),.int .u32 (x.no:Int),.int .u32 (x.re:Int),.slice x.a x.len x.cap] 35));have HBB:Hid (Below wr.heap.size wr WB):=hid (by rw[hWB];exact Ac _ _);rw[← hWB] at hal;have HWB:=hid hWB;have HSRC:=hid (PK hal);have HOWB:=hid (WX.own (X:=fun _=>False) (WX.of_below HBB.o) HOWN.o (fun _ _ h=>h));have HLSB:Hid (lo≤WB.heap.size):=hid (Wd HLO.o (Wd HB.o.size HBB.o.size));clear hal hWB;have z0:=HZX.o.1;have z1:=HZX.o.2.1;have z2:=HZX.o.2.2.1;have z3:=HZX.o.2.2.2;go_upto_region 6 with (at_builtin;rw[← HWB.o];refine Bn rfl _ _ 36 rfl lo 35 iI (.agg #[.int .u64 0,.int .u32 0,.int .u32 0,.slice none 0 0]) 4 40 Tryz.underlying36 HII.o.1 HII.o.2.1 HII.o.2.2.1 HII.o.2.2.2 rfl (by decide) sv M (K.flatMap DV) rfl HOWB.o (some ⟨wr.heap.size,0,none⟩) 1 1 (DV x) rfl (FQ x) HSRC.o (by have:=HML.o;unfold maxLen;omega) (by have:=HML.o;omega) HLSB.o ?_;intro v9 W9 hown9 hg9 hn9;rw[← Mi] at hown9;have HOW9:=hid hown9;have HG9:=hid hg9;clear hown9 hg9 hn9)
         clear z0 z1 z2 z3;have HB9:Hid (Below w1.heap.size w1 W9):=hid (Below.grown (A6 HB.o HBB.o) HG9.o (Wd HB.o.size HBB.o.size) (fun b hb=>by have h1:=(HOWB.o.lt b hb).1;have h2:=HLO1.o;omega));have HSY:Hid (AF X Z (i+1)=K ++ [x]):=hid (by rw[DZ HXI.o (by rw[HKP.o,HBT.o];rfl),HKL.o]);go_wp2_with fail;rw[← HAA.o,← HKA.o];go_roundg (n - (i+1))
         case rel=>exact⟨i+1,AA HI.o HLT.o,by go_num,by rw[HSY.o,Wh,HKM.o];exact HOW9.o,HB9.o⟩
         case measure=>exact Az HI.o HLT.o
       | true=>
         have hrm:((z:Int) % 3 != 2)=false:=hrm;go_upto_region 6 with fail
         clear hk1 hk2 hk3 k0 hrm;have HSY:Hid (AF X Z (i+1)=K):=hid (by rw[JG (by rw[HKP.o,HBT.o];rfl),HKL.o]);go_wp2_with fail;rw[← HAA.o,← HKA.o];go_roundg (n - (i+1))
         case rel=>exact⟨i+1,AA HI.o HLT.o,by go_num,by rw[HSY.o,HKM.o];exact HOWN.o,HB.o⟩
         case measure=>exact Az HI.o HLT.o
    ·have d2:¬ ((i:Int)<(n:Int)):=(by omega);have hin:n=i:=(by have:=HI.o;omega);subst hin;clear hlt;obtain⟨a7,c7,hsv,hs7⟩:=CJ FQ (rfl:(AF X Z n).length=_) HOWN.o;subst hsv;have HRS:=hid hs7.row;have HBr:=hid (A6 HB1.o HB.o);have HLr:=hid (A5 HB.o HL1.o);clear hs7;have l0:=A4 HLr.o 0 _ rfl;have l1:=A4 HLr.o 1 _ rfl;have l2:=A4 HLr.o 2 _ rfl;have l3:=A4 HLr.o 3 _ rfl;go_wp2_with fail;refine(KRN.o _ _ _ HBr.o HRS.o).mono ?_;rintro e w3 ⟨⟨sa,ca,oa,cb,rfl,h1,h2⟩,hb⟩;have HB3:=hid (A6 HBr.o hb);have HL3:=hid (A5 hb HLr.o);have HR1:=hid h1;have HR2:=hid h2;clear hb h1 h2 l0 l1 l2 l3 d2;by_cases h0:er=0
     ·skip
      subst h0;have hNm:=HNM.o rfl;have hp:=HPOS.o rfl;rw[← hNm] at hp;have HMN:Hid ((AF X Z n).length=N):=hid hNm.symm;obtain⟨S,hS⟩:=WY (BX T (AF X Z n) (AF X Z n).length);have hthr:=HTHR.o;rw[hS] at hthr;have HTHR:=hid hthr;rw[← hNm] at hS ⊢;obtain⟨P,hP⟩:∃ P,N=P+1:=⟨N - 1,by omega⟩;have HNP:=hid hP;rcases HR1.o with hnil | ⟨sb,so,hsa,hsc⟩
      ·exact absurd hnil (Ch hp)
      subst hsa;have HC1:Hid (∀ j v,(Af S)[j]?=some v→w3.cell? ⟨sb,so+P*68+j,none⟩=some v):=hid (fun j v hv=>hsc P P (CQ (by omega)) j v (by rw[← hS,hP] at hv;exact hv));have hNN:((N:Int) !=(N:Int))=false:=(by simp);have dn:(0:Int)<(N:Int):=(by omega);have dnb:decide (0<N)=true:=Wk hp;have HPB:Hid (P≤400):=hid (by have:=HN4.o;omega);have ha:=Al w3 (.cells (Af zS).toArray 65) (VU _ _);have hk:=Ac w3 (.cells (Af zS).toArray 65);obtain⟨hst,hq9,ho9⟩:=AH (s':=zS) ha;have HST:=hid hst;have HG0:=hid hq9;have HB40:Hid (Below w3.heap.size w3 ((w3.alloc (.cells (Af zS).toArray 65)).setCells w3.heap.size 0 (Af zS))):=hid (Ai.below hk (Wc _) hk.size ho9);obtain⟨V4,hV4⟩:∃ V',V'=(w3.alloc (.cells (Af zS).toArray 65)).setCells w3.heap.size 0 (Af zS):=⟨_,rfl⟩;rw[← hV4] at HST HG0 HB40;clear ha hk hst hq9 ho9 hV4 hS hNm hp hsc hthr hP;go_upto_region 15 with (first
       | rw[Bz]
       | ((with_reducible refine CG (op:=⟨some 73,_,_,_,_,_⟩) rfl 65 rfl _ E7 ?_))
       | ((with_reducible refine Ag (op:=⟨none,.store 65 _ _,_,_,_,_⟩) rfl 65 _ _ rfl _ _ ?_ ?_ _ HST.o ?_);(· rfl);(· rfl)))
      (try simp only[Act.put])
      obtain⟨gs,hgs⟩:=X0 w3.heap.size;have HGS1:Hid (w3.heap.size≤gs):=hid (by omega);rw[← hgs] at HG0 ⊢;clear hgs HST hNN;go_upto_region 16 with fail
      clear dn dnb;have HLD:Hid ((Instr.loadAt 65 (.pointer (some ⟨sb,so+P*68,none⟩))).run Tryz.prog V4 = .ok (.agg (Af S).toArray) V4):=hid (Ey (fun j v hv=>VY HB40.o (HC1.o j v hv)));obtain⟨hst,hq9,ho9⟩:=AH (s':=S) HG0.o;have HST:=hid hst;have HG5:=hid hq9;have HB45:Hid (Below w3.heap.size w3 (V4.setCells gs 0 (Af S))):=hid (Ai.below HB40.o HGS1.o HB40.o.size ho9);obtain⟨w5,hw5⟩:∃ V',V'=V4.setCells gs 0 (Af S):=⟨_,rfl⟩;rw[← hw5] at HST HG5 HB45;clear hst hq9 ho9 hw5;have s1:wrap64 ((N:Int) - 1)=(P:Int):=(by rw[HNP.o];exact Sf P HPB.o);have s2:(0:Int)≤(P:Int):=(by omega);have s3:(P:Int)<(N:Int):=(by have:=HNP.o;omega);go_upto_region 17 with (first
       | ((with_reducible refine Ah (op:=⟨some 82,_,_,_,_,_⟩) rfl 65 _ rfl _ _ ?_ HLD.o ?_);(· rfl))
       | ((with_reducible refine Ag (op:=⟨none,.store 65 _ _,_,_,_,_⟩) rfl 65 _ _ rfl _ _ ?_ ?_ _ HST.o ?_);(· rfl);(· rfl)))
      (try simp only[Act.put])
      clear s1 s2 s3 HST HLD;have HB35:=hid HB45.o;have HB5:=hid (A6 HB3.o HB45.o);have HL5:=hid (A5 HB45.o HL3.o);obtain⟨lo2,hlo2⟩:=X0 w5.heap.size;have HLO2:Hid (lo2≤w5.heap.size):=hid (by omega);have HLO3:Hid (w5.heap.size≤lo2):=hid (by omega);obtain⟨iH,hi,hz0,hz1,hz2⟩:=info_parts GS;have HIH:=hid (And.intro hi (And.intro hz0 (And.intro hz1 hz2)));clear hi hz0 hz1 hz2 hlo2;go_upto_region 20 with fail
      go_loopg [13,14,15] n (fun g sv v14 v15 wr=>∃ i:Nat,i+g=n∧v15 = .int .i64 (i:Int)∧wr.ownsRow lo2 46 3 sv i ((List.range i).flatMap (fun j=>Cx (Dw T X Z n j)))∧v14 = .int .i64 ((AF X Z i).length:Int)∧Below w5.heap.size w5 wr)
      case atStart=>exact⟨0,by omega,rfl,Wz _ _ _ _,by rw[G3];rfl,VU _ _⟩
      case round=>
       obtain⟨i,hi,rfl,hown,rfl,hbw⟩:=hrel;obtain⟨sv,rfl⟩:=X0 u13;have HI:=hid hi;have HOWN:=hid hown;have HB:=hid hbw;clear hi hown hbw;by_cases hlt:i<n
       ·skip
        have d1:(0:Int)≤i:=(by omega);have d2:(i:Int)<n:=(by omega);have e1:=B8 hlt (Wd HN11.o (by decide));have HLT:=hid hlt;obtain⟨x,hxi⟩:∃ x,X[i]?=some x:=⟨_,Wb (by rw[HXN.o];exact hlt)⟩;have HXI:=hid hxi;clear hlt hxi;cases hz:Z[i]? with
        | none=>
          have hkn:¬ i<kn:=(by have h:=List.getElem?_eq_none_iff.1 hz;rw[HZN.o] at h;omega);have hk1:¬ (i:Int)<(kn:Int):=(by omega);have hk2:decide (i<kn)=false:=Wg hkn;have HKP:=hid (Is hz);have HST:=hid (NK hz);clear hz hkn;have hat:=JF HLT.o HXI.o HKP.o;obtain⟨q,hq⟩:=WY ((AF X Z i).length);have hqN:q<N:=(by have h:=(We.1 hat).1;rw[hq,HMN.o] at h;exact h);have hq10:q<1000:=(by have:=EG X Z i;rw[hq] at this;have:=HN11.o;have:=HLT.o;omega);have HQ:=hid hq;obtain⟨OP,PT,hol,hye⟩:∃ P Q:Int,D8 T (AF X Z n) q=[.int .u64 P,.int .u32 Q]∧Cx (Dw T X Z n i)=[.bool (H2 Z i),.int .u64 P,.int .u32 Q]:=⟨_,_,Js T (AF X Z n) q,by rw[LH HKP.o,hq];rfl⟩;have HSY:Hid ((AF X Z (i+1)).length=q+1):=hid (by rw[DZ HXI.o HKP.o,Wh,hq];rfl);rcases HR2.o with hnil | ⟨ob,oo,hoa,hoc⟩
          ·exact absurd hnil (Ch hqN)
          have HOW:Hid (∀ V,Below w5.heap.size w5 V→V.cell? ⟨ob,oo+q*2,none⟩=some (.int .u64 OP)∧V.cell? ⟨ob,oo+q*2+1,none⟩=some (.int .u32 PT)):=hid (fun V hV=>by
           have a0:=VY (A6 HB35.o hV) (hoc q q (CQ hqN) 0 (.int .u64 OP) (by rw[hol];rfl));have a1:=VY (A6 HB35.o hV) (hoc q q (CQ hqN) 1 (.int .u32 PT) (by rw[hol];rfl));rw[Wa] at a0;exact⟨a0,a1⟩)
          obtain⟨OA,hOA⟩:=WY oa;have HOA:=hid hOA;rw[hOA] at hoa ⊢;subst hoa;have HO:=hid (HOW.o _ HB.o);have o0:=HO.o.1;have o1:=HO.o.2;have e2:=B8 (show q<N from hqN) (Wd HN4.o (by decide));have q1:(0:Int)≤q:=(by omega);have q2:(q:Int)<(N:Int):=(by omega);rw[hq];clear hat hol hoc hOA hq hqN hq10;have HSRX:Hid (∀ V g,V.heap[g]?=some (.cells #[.bool false,.int .u64 OP,.int .u32 PT] 46)→C1 V (some ⟨g,0,none⟩) 1 (Cx (Dw T X Z n i))):=hid (fun V g h=>by rw[hye,HST.o];exact MO h);clear hye;go_upto_region 24 with fail
          refine wp_region_held_drew (S:=fun w'=>w'.cell? ⟨ob,oo+q*2,none⟩=some (.int .u64 OP)∧w'.cell? ⟨ob,oo+q*2+1,none⟩=some (.int .u32 PT)) (by kernel_rfl) ⟨o0,o1⟩ (fun hH=>?_);refine X2 0 105 sv rfl (Or.inl ⟨by rfl,fun w hS=>by obtain⟨u0,u1⟩:=hS;go_simp⟩) hH ?_
          (try simp only[Act.put,VW,VX,VV])
          refine X2 1 106 (.int .i64 (i:Int)) rfl (Or.inl ⟨by rfl,fun w hS=>by obtain⟨u0,u1⟩:=hS;go_simp⟩) hH ?_
          (try simp only[Act.put,VW,VX,VV])
          refine X2 2 107 (.slice ka kn kc) rfl (Or.inl ⟨by rfl,fun w hS=>by obtain⟨u0,u1⟩:=hS;go_simp⟩) hH ?_
          (try simp only[Act.put,VW,VX,VV])
          refine X2 3 108 (.int .i64 (kn:Int)) rfl (Or.inl ⟨by rfl,fun w hS=>by obtain⟨u0,u1⟩:=hS;go_simp⟩) hH ?_
          (try simp only[Act.put,VW,VX,VV])
          refine X2 4 109 (.bool false) rfl (Or.inl ⟨by rfl,fun w hS=>by obtain⟨u0,u1⟩:=hS;go_simp⟩) hH ?_
          (try simp only[Act.put,VW,VX,VV])
          refine X2 5 110 (.bool false) rfl (Or.inl ⟨by rfl,fun w hS=>by obtain⟨u0,u1⟩:=hS;go_simp⟩) hH ?_
          (try simp only[Act.put,VW,VX,VV])
          refine X2 6 111 undef rfl (Or.inr ⟨by kernel_rfl,rfl⟩) hH ?_
          (try simp only[Act.put,VW,VX,VV])
          refine X2 7 112 undef rfl (Or.inr ⟨by kernel_rfl,rfl⟩) hH ?_
          (try simp only[Act.put,VW,VX,VV])
          refine X2 8 113 undef rfl (Or.inr ⟨by kernel_rfl,rfl⟩) hH ?_
          (try simp only[Act.put,VW,VX,VV])
          refine X2 9 114 undef rfl (Or.inr ⟨by kernel_rfl,rfl⟩) hH ?_
          (try simp only[Act.put,VW,VX,VV])
          refine X2 10 115 undef rfl (Or.inr ⟨by kernel_rfl,rfl⟩) hH ?_
          (try simp only[Act.put,VW,VX,VV])
          refine X2 11 116 undef rfl (Or.inr ⟨by kernel_rfl,rfl⟩) hH ?_
          (try simp only[Act.put,VW,VX,VV])
          refine X2 12 117 (.bool false) rfl (Or.inl ⟨by rfl,fun w hS=>by obtain⟨u0,u1⟩:=hS;go_simp⟩) hH ?_
          (try simp only[Act.put,VW,VX,VV])
          refine X2 13 118 (.slice (some ⟨ob,oo,none⟩) N cb) rfl (Or.inl ⟨by rfl,fun w hS=>by obtain⟨u0,u1⟩:=hS;go_simp⟩) hH ?_
          (try simp only[Act.put,VW,VX,VV])
          refine X2 14 119 (.int .i64 (q:Int)) rfl (Or.inl ⟨by rfl,fun w hS=>by obtain⟨u0,u1⟩:=hS;go_simp⟩) hH ?_
          (try simp only[Act.put,VW,VX,VV])
          refine X2 15 120 (.pointer (some ⟨ob,oo+q*2,none⟩)) rfl (Or.inl ⟨by rfl,fun w hS=>by obtain⟨u0,u1⟩:=hS;go_simp⟩) hH ?_
          (try simp only[Act.put,VW,VX,VV])
          refine X2 16 121 (.agg #[.int .u64 OP,.int .u32 PT]) rfl (Or.inl ⟨by rfl,fun w hS=>by obtain⟨u0,u1⟩:=hS;go_simp⟩) hH ?_
          (try simp only[Act.put,VW,VX,VV])
          refine X2 17 122 (.agg #[.bool false,.int .u64 OP,.int .u32 PT]) rfl (Or.inl ⟨by rfl,fun w hS=>by obtain⟨u0,u1⟩:=hS;go_simp⟩) hH ?_
          (try simp only[Act.put,VW,VX,VV])
          refine wpAnyH_ready (rs:=[18]) (by kernel_rfl) (by simp) (AllReadyH.cons (o:=⟨some 123,_,_,_,_,_⟩) rfl (fun K hK=>?_) AllReadyH.nil);go_simp;refine Bc ?_;intro WB hWB;have hal:WB.heap[wr.heap.size]?=some (.cells #[.bool false,.int .u64 OP,.int .u32 PT] 46):=(by rw[hWB];exact Al wr.drew _ (VU _ _));have HBB:Hid (Below wr.heap.size wr WB):=hid (by rw[hWB];exact A6 ((VU _ _).drew) (Ac wr.drew _));have HSRX:=hid (HSRX.o _ _ hal);have HOWB:=hid (WX.own (X:=fun _=>False) (WX.of_below HBB.o) HOWN.o (fun _ _ h=>h));have HLSB:Hid (lo2≤WB.heap.size):=hid (Wd HLO2.o (Wd HB.o.size HBB.o.size));clear hWB hal;refine hK.o _ _ ⟨VY (HBB.o) HO.o.1,VY (HBB.o) HO.o.2⟩ (fun hH=>?_);clear hK K
          (try simp only[Act.put,VW,VX,VV])
          refine wpAnyH_ready (rs:=[19]) (by kernel_rfl) (by simp) (AllReadyH.cons (o:=⟨some 124,_,_,_,_,_⟩) rfl (fun K hK=>?_) AllReadyH.nil);refine Cr (.tmp 105) (.tmp 123) 42 rfl lo2 46 iH (.agg #[.bool false,.int .u64 0,.int .u32 0]) 3 24 Tryz.underlying42 HIH.o.1 HIH.o.2.1 HIH.o.2.2.1 HIH.o.2.2.2 rfl (by decide) sv i ((List.range i).flatMap (fun j=>Cx (Dw T X Z n j))) rfl HOWB.o (some ⟨wr.heap.size,0,none⟩) 1 1 (Cx (Dw T X Z n i)) rfl rfl HSRX.o (by have:=HN11.o;have:=HLT.o;unfold maxLen;omega) (by have:=HN11.o;have:=HLT.o;omega) HLSB.o ?_;intro v9 W9 hown9 hg9 hn9;rw[← JE] at hown9;have HOW9:=hid hown9;have HG9:=hid hg9;clear hown9 hg9 hn9;have HB9:Hid (Below w5.heap.size w5 W9):=hid (Below.grown (A6 HB.o HBB.o) HG9.o (Wd HB.o.size HBB.o.size) (fun b hb=>by have h1:=(HOWB.o.lt b hb).1;have h2:=HLO3.o;omega));have HBR9:Hid (Below w.heap.size w W9):=hid (A6 HB5.o HB9.o);refine hK.o _ _ ⟨(HOW.o _ HB9.o).1,(HOW.o _ HB9.o).2⟩ (fun hH=>?_);clear hK K
          (try simp only[Act.put,VW,VX,VV])
          refine wpAnyH_ready (rs:=[20]) (by kernel_rfl) (by simp) (AllReadyH.cons (o:=⟨some 13,_,_,_,_,_⟩) rfl (fun K hK=>?_) AllReadyH.nil);go_simp;refine hK.o _ _ ⟨(HOW.o _ HB9.o).1,(HOW.o _ HB9.o).2⟩ (fun hH=>?_);clear hK K
          (try simp only[Act.put,VW,VX,VV])
          refine wpAnyH_done (by kernel_rfl) ?_ _;clear o0 o1 hk1 hk2 q1 q2 d1 d2;go_wp2_with fail;rw[← HOA.o];go_roundg (n - (i+1))
          case rel=>exact⟨i+1,AA HI.o HLT.o,by go_num,HOW9.o,by rw[HSY.o];go_num,HB9.o⟩
          case measure=>exact Az HI.o HLT.o
        | some z=>
          have hkn:i<kn:=(by have h:=(We.1 hz).1;rw[HZN.o] at h;exact h);have hk1:(i:Int)<(kn:Int):=(by omega);have hk2:decide (i<kn)=true:=Wk hkn;rcases HZR.o with hnil | ⟨kb,ko,hka,hkc⟩
          ·rw[hnil] at hz;cases hz
          have HKW:Hid (∀ V,Below w.heap.size w V→V.cell? ⟨kb,ko+i,none⟩=some (.int .u8 (z:Int))):=hid (fun V hV=>by
           have k0:=VY hV (hkc i _ hz 0 _ rfl);rw[Wa,Nat.mul_one] at k0;exact k0)
          have HK0:=hid (HKW.o _ (A6 HB5.o HB.o));have k0:=HK0.o;obtain⟨KA,hKA⟩:=WY ka;have HKA:=hid hKA;rw[hKA] at hka ⊢;subst hka;obtain⟨b2,hb2⟩:=WY (z % 3 == 2);obtain⟨b3,hb3⟩:=WY (z % 3 == 1);have hr2:((z:Int) % 3 == 2)=b2:=PB z 2 hb2;have hr3:((z:Int) % 3 == 1)=b3:=PB z 1 hb3;have HKQ:Hid (DL Z i = !b2):=hid (by rw[It hz,hb2]);have HST:Hid (H2 Z i=b3):=hid (by rw[NL hz,hb3]);clear hz hkn hkc hKA hb2 hb3;cases b2 with
          | true=>
            clear hr3;go_upto_region 23 with fail
            clear k0 hk1 hk2 hr2;have HYE:Hid (Dw T X Z n i=⟨true,0,0⟩):=hid (SV HKQ.o);have hal:=Al wr (.cells #[.bool true,.int .u64 0,.int .u32 0] 46) (VU _ _);obtain⟨WB,hWB⟩:=X0 (wr.alloc (.cells #[.bool true,.int .u64 0,.int .u32 0] 46));have HBB:Hid (Below wr.heap.size wr WB):=hid (by rw[hWB];exact Ac _ _);rw[← hWB] at hal;have HWB:=hid hWB;have HSRC:Hid (C1 WB (some ⟨wr.heap.size,0,none⟩) 1 (Cx ⟨true,0,0⟩)):=hid (JH (y:=⟨true,0,0⟩) hal);have HOWB:=hid (WX.own (X:=fun _=>False) (WX.of_below HBB.o) HOWN.o (fun _ _ h=>h));have HLSB:Hid (lo2≤WB.heap.size):=hid (Wd HLO2.o (Wd HB.o.size HBB.o.size));clear hal hWB;go_upto_region 21 with (at_builtin;rw[← HWB.o];refine Bn rfl _ _ 42 rfl lo2 46 iH (.agg #[.bool false,.int .u64 0,.int .u32 0]) 3 24 Tryz.underlying42 HIH.o.1 HIH.o.2.1 HIH.o.2.2.1 HIH.o.2.2.2 rfl (by decide) sv i ((List.range i).flatMap (fun j=>Cx (Dw T X Z n j))) rfl HOWB.o (some ⟨wr.heap.size,0,none⟩) 1 1 (Cx ⟨true,0,0⟩) rfl rfl HSRC.o (by have:=HN11.o;have:=HLT.o;unfold maxLen;omega) (by have:=HN11.o;have:=HLT.o;omega) HLSB.o ?_;intro v9 W9 hown9 hg9 hn9;rw[← HYE.o,← JE] at hown9;have HOW9:=hid hown9;have HG9:=hid hg9;clear hown9 hg9 hn9)
            have HB9:Hid (Below w5.heap.size w5 W9):=hid (Below.grown (A6 HB.o HBB.o) HG9.o (Wd HB.o.size HBB.o.size) (fun b hb=>by have h1:=(HOWB.o.lt b hb).1;have h2:=HLO3.o;omega));have HSY:Hid ((AF X Z (i+1)).length=(AF X Z i).length):=hid (by rw[JG HKQ.o]);go_wp2_with fail;rw[← HKA.o];go_roundg (n - (i+1))
            case rel=>exact⟨i+1,AA HI.o HLT.o,by go_num,HOW9.o,by rw[HSY.o],HB9.o⟩
            case measure=>exact Az HI.o HLT.o
          | false=>
            have HKP:Hid (DL Z i=true):=HKQ;have hat:=JF HLT.o HXI.o HKP.o;obtain⟨q,hq⟩:=WY ((AF X Z i).length);have hqN:q<N:=(by have h:=(We.1 hat).1;rw[hq,HMN.o] at h;exact h);have hq10:q<1000:=(by have:=EG X Z i;rw[hq] at this;have:=HN11.o;have:=HLT.o;omega);have HQ:=hid hq;obtain⟨OP,PT,hol,hye⟩:∃ P Q:Int,D8 T (AF X Z n) q=[.int .u64 P,.int .u32 Q]∧Cx (Dw T X Z n i)=[.bool (H2 Z i),.int .u64 P,.int .u32 Q]:=⟨_,_,Js T (AF X Z n) q,by rw[LH HKP.o,hq];rfl⟩;have HSY:Hid ((AF X Z (i+1)).length=q+1):=hid (by rw[DZ HXI.o HKP.o,Wh,hq];rfl);rcases HR2.o with hnil | ⟨ob,oo,hoa,hoc⟩
            ·exact absurd hnil (Ch hqN)
            have HOW:Hid (∀ V,Below w5.heap.size w5 V→V.cell? ⟨ob,oo+q*2,none⟩=some (.int .u64 OP)∧V.cell? ⟨ob,oo+q*2+1,none⟩=some (.int .u32 PT)):=hid (fun V hV=>by
             have a0:=VY (A6 HB35.o hV) (hoc q q (CQ hqN) 0 (.int .u64 OP) (by rw[hol];rfl));have a1:=VY (A6 HB35.o hV) (hoc q q (CQ hqN) 1 (.int .u32 PT) (by rw[hol];rfl));rw[Wa] at a0;exact⟨a0,a1⟩)
            obtain⟨OA,hOA⟩:=WY oa;have HOA:=hid hOA;rw[hOA] at hoa ⊢;subst hoa;have HO:=hid (HOW.o _ HB.o);have o0:=HO.o.1;have o1:=HO.o.2;have e2:=B8 (show q<N from hqN) (Wd HN4.o (by decide));have q1:(0:Int)≤q:=(by omega);have q2:(q:Int)<(N:Int):=(by omega);rw[hq];clear hat hol hoc hOA hq hqN hq10;have HSRX:Hid (∀ V g,V.heap[g]?=some (.cells #[.bool b3,.int .u64 OP,.int .u32 PT] 46)→C1 V (some ⟨g,0,none⟩) 1 (Cx (Dw T X Z n i))):=hid (fun V g h=>by rw[hye,HST.o];exact MO h);clear hye;go_upto_region 24 with fail
            have ht3:(z:Int).tmod 3=(z:Int) % 3:=Int.tmod_eq_emod_of_nonneg (by omega);clear hr2;refine wp_region_held_drew (S:=fun w'=>w'.cell? ⟨kb,ko+i,none⟩=some (.int .u8 (z:Int))∧w'.cell? ⟨ob,oo+q*2,none⟩=some (.int .u64 OP)∧w'.cell? ⟨ob,oo+q*2+1,none⟩=some (.int .u32 PT)) (by kernel_rfl) ⟨k0,o0,o1⟩ (fun hH=>?_);refine X2 0 105 sv rfl (Or.inl ⟨by rfl,fun w hS=>by obtain⟨u0,u1,u2⟩:=hS;go_simp⟩) hH ?_
            (try simp only[Act.put,VW,VX,VV])
            refine X2 1 106 (.int .i64 (i:Int)) rfl (Or.inl ⟨by rfl,fun w hS=>by obtain⟨u0,u1,u2⟩:=hS;go_simp⟩) hH ?_
            (try simp only[Act.put,VW,VX,VV])
            refine X2 2 107 (.slice (some ⟨kb,ko,none⟩) kn kc) rfl (Or.inl ⟨by rfl,fun w hS=>by obtain⟨u0,u1,u2⟩:=hS;go_simp⟩) hH ?_
            (try simp only[Act.put,VW,VX,VV])
            refine X2 3 108 (.int .i64 (kn:Int)) rfl (Or.inl ⟨by rfl,fun w hS=>by obtain⟨u0,u1,u2⟩:=hS;go_simp⟩) hH ?_
            (try simp only[Act.put,VW,VX,VV])
            refine X2 4 109 (.bool true) rfl (Or.inl ⟨by rfl,fun w hS=>by obtain⟨u0,u1,u2⟩:=hS;go_simp⟩) hH ?_
            (try simp only[Act.put,VW,VX,VV])
            refine X2 5 110 (.bool true) rfl (Or.inl ⟨by rfl,fun w hS=>by obtain⟨u0,u1,u2⟩:=hS;go_simp⟩) hH ?_
            (try simp only[Act.put,VW,VX,VV])
            refine X2 6 111 (.slice (some ⟨kb,ko,none⟩) kn kc) rfl (Or.inl ⟨by rfl,fun w hS=>by obtain⟨u0,u1,u2⟩:=hS;go_simp⟩) hH ?_
            (try simp only[Act.put,VW,VX,VV])
            refine X2 7 112 (.int .i64 (i:Int)) rfl (Or.inl ⟨by rfl,fun w hS=>by obtain⟨u0,u1,u2⟩:=hS;go_simp⟩) hH ?_
            (try simp only[Act.put,VW,VX,VV])
            refine X2 8 113 (.pointer (some ⟨kb,ko+i,none⟩)) rfl (Or.inl ⟨by rfl,fun w hS=>by obtain⟨u0,u1,u2⟩:=hS;go_simp⟩) hH ?_
            (try simp only[Act.put,VW,VX,VV])
            refine X2 9 114 (.int .u8 (z:Int)) rfl (Or.inl ⟨by rfl,fun w hS=>by obtain⟨u0,u1,u2⟩:=hS;go_simp⟩) hH ?_
            (try simp only[Act.put,VW,VX,VV])
            refine X2 10 115 (.int .u8 ((z:Int) % 3)) rfl (Or.inl ⟨by rfl,fun w hS=>by obtain⟨u0,u1,u2⟩:=hS;go_simp⟩) hH ?_
            (try simp only[Act.put,VW,VX,VV])
            refine X2 11 116 (.bool b3) rfl (Or.inl ⟨by rfl,fun w hS=>by obtain⟨u0,u1,u2⟩:=hS;go_simp⟩) hH ?_
            (try simp only[Act.put,VW,VX,VV])
            refine X2 12 117 (.bool b3) rfl (Or.inl ⟨by rfl,fun w hS=>by obtain⟨u0,u1,u2⟩:=hS;go_simp⟩) hH ?_
            (try simp only[Act.put,VW,VX,VV])
            refine X2 13 118 (.slice (some ⟨ob,oo,none⟩) N cb) rfl (Or.inl ⟨by rfl,fun w hS=>by obtain⟨u0,u1,u2⟩:=hS;go_simp⟩) hH ?_
            (try simp only[Act.put,VW,VX,VV])
            refine X2 14 119 (.int .i64 (q:Int)) rfl (Or.inl ⟨by rfl,fun w hS=>by obtain⟨u0,u1,u2⟩:=hS;go_simp⟩) hH ?_
            (try simp only[Act.put,VW,VX,VV])
            refine X2 15 120 (.pointer (some ⟨ob,oo+q*2,none⟩)) rfl (Or.inl ⟨by rfl,fun w hS=>by obtain⟨u0,u1,u2⟩:=hS;go_simp⟩) hH ?_
            (try simp only[Act.put,VW,VX,VV])
            refine X2 16 121 (.agg #[.int .u64 OP,.int .u32 PT]) rfl (Or.inl ⟨by rfl,fun w hS=>by obtain⟨u0,u1,u2⟩:=hS;go_simp⟩) hH ?_
            (try simp only[Act.put,VW,VX,VV])
            refine X2 17 122 (.agg #[.bool b3,.int .u64 OP,.int .u32 PT]) rfl (Or.inl ⟨by rfl,fun w hS=>by obtain⟨u0,u1,u2⟩:=hS;go_simp⟩) hH ?_
            (try simp only[Act.put,VW,VX,VV])
            refine wpAnyH_ready (rs:=[18]) (by kernel_rfl) (by simp) (AllReadyH.cons (o:=⟨some 123,_,_,_,_,_⟩) rfl (fun K hK=>?_) AllReadyH.nil);go_simp;refine Bc ?_;intro WB hWB;have hal:WB.heap[wr.heap.size]?=some (.cells #[.bool b3,.int .u64 OP,.int .u32 PT] 46):=(by rw[hWB];exact Al wr.drew _ (VU _ _));have HBB:Hid (Below wr.heap.size wr WB):=hid (by rw[hWB];exact A6 ((VU _ _).drew) (Ac wr.drew _));have HSRX:=hid (HSRX.o _ _ hal);have HOWB:=hid (WX.own (X:=fun _=>False) (WX.of_below HBB.o) HOWN.o (fun _ _ h=>h));have HLSB:Hid (lo2≤WB.heap.size):=hid (Wd HLO2.o (Wd HB.o.size HBB.o.size));clear hWB hal;refine hK.o _ _ ⟨VY (HBB.o) HK0.o,VY (HBB.o) HO.o.1,VY (HBB.o) HO.o.2⟩ (fun hH=>?_);clear hK K
            (try simp only[Act.put,VW,VX,VV])
            refine wpAnyH_ready (rs:=[19]) (by kernel_rfl) (by simp) (AllReadyH.cons (o:=⟨some 124,_,_,_,_,_⟩) rfl (fun K hK=>?_) AllReadyH.nil);refine Cr (.tmp 105) (.tmp 123) 42 rfl lo2 46 iH (.agg #[.bool false,.int .u64 0,.int .u32 0]) 3 24 Tryz.underlying42 HIH.o.1 HIH.o.2.1 HIH.o.2.2.1 HIH.o.2.2.2 rfl (by decide) sv i ((List.range i).flatMap (fun j=>Cx (Dw T X Z n j))) rfl HOWB.o (some ⟨wr.heap.size,0,none⟩) 1 1 (Cx (Dw T X Z n i)) rfl rfl HSRX.o (by have:=HN11.o;have:=HLT.o;unfold maxLen;omega) (by have:=HN11.o;have:=HLT.o;omega) HLSB.o ?_;intro v9 W9 hown9 hg9 hn9;rw[← JE] at hown9;have HOW9:=hid hown9;have HG9:=hid hg9;clear hown9 hg9 hn9;have HB9:Hid (Below w5.heap.size w5 W9):=hid (Below.grown (A6 HB.o HBB.o) HG9.o (Wd HB.o.size HBB.o.size) (fun b hb=>by have h1:=(HOWB.o.lt b hb).1;have h2:=HLO3.o;omega));have HBR9:Hid (Below w.heap.size w W9):=hid (A6 HB5.o HB9.o);refine hK.o _ _ ⟨HKW.o _ HBR9.o,(HOW.o _ HB9.o).1,(HOW.o _ HB9.o).2⟩ (fun hH=>?_);clear hK K
            (try simp only[Act.put,VW,VX,VV])
            refine wpAnyH_ready (rs:=[20]) (by kernel_rfl) (by simp) (AllReadyH.cons (o:=⟨some 13,_,_,_,_,_⟩) rfl (fun K hK=>?_) AllReadyH.nil);go_simp;refine hK.o _ _ ⟨HKW.o _ HBR9.o,(HOW.o _ HB9.o).1,(HOW.o _ HB9.o).2⟩ (fun hH=>?_);clear hK K
            (try simp only[Act.put,VW,VX,VV])
            refine wpAnyH_done (by kernel_rfl) ?_ _;clear k0 o0 o1 hk1 hk2 hr3 ht3 q1 q2 d1 d2;go_wp2_with fail;rw[← HOA.o,← HKA.o];go_roundg (n - (i+1))
            case rel=>exact⟨i+1,AA HI.o HLT.o,by go_num,HOW9.o,by rw[HSY.o];go_num,HB9.o⟩
            case measure=>exact Az HI.o HLT.o
       ·have d2:¬ ((i:Int)<(n:Int)):=(by omega);have hin:n=i:=(by have:=HI.o;omega);subst hin;clear hlt;obtain⟨ya,yc,hyv,hys⟩:=CJ (f:=fun j=>Cx (Dw T X Z n j)) (fun _=>rfl) List.length_range HOWN.o;subst hyv;have HYS:Hid (As 3 Cx wr ya (MM T X Z n)):=hid (by
         have h:=hys.row;unfold MM;rcases h with h | ⟨b,off,h1,h2⟩
         ·exact .inl (by rw[show List.range n=[] from h];rfl)
         ·refine .inr ⟨b,off,h1,fun i c hi j v hv=>?_⟩;rw[List.getElem?_map] at hi;cases hr:(List.range n)[i]? with
          | none=>rw[hr] at hi;cases hi
          | some k=>
            rw[hr] at hi;cases hi;exact h2 i k hr j v hv)
        have HLr:=hid (A5 HB.o HL5.o);have HGSr:=hid (A5 HB.o HG5.o);have HBr:=hid (A6 HB5.o HB.o);clear hys;have l0:=A4 HLr.o 0 _ rfl;have l1:=A4 HLr.o 1 _ rfl;have l2:=A4 HLr.o 2 _ rfl;have l3:=A4 HLr.o 3 _ rfl;go_wp2_with fail;refine(KRE.o (by first | trivial | rfl) _ ya yc _ HBr.o HYS.o (JD T X Z n)).mono ?_;rintro e w7 hx;obtain⟨va,vc,ss,rfl,hsame,hrow,hss,hb⟩:=hx;have HB7:=hid (A6 HBr.o hb);have HL7:=hid (A5 hb HLr.o);have HGS7:=hid (A5 hb HGSr.o);have HYS7:=hid (HYS.o.below hb);have HRA:=hid hrow;have HTH:=hid (HTHR.o ss hsame);obtain⟨M,hM⟩:=WY ss.length;have HSM:=hid hM;have HML:Hid (M≤100000):=hid (hM ▸ hss);rw[hM];clear hb l0 l1 l2 l3 hsame hrow hss hM;go_upto_region 29 with fail
        go_loopg [17,18] M (fun g v17 v18 wr=>∃ j:Nat,j+g=M∧v17 = .bool ((ss.take j).any (fun t=>C4 t S))∧v18 = .int .i64 (j:Int)∧Below w7.heap.size w7 wr)
        case atStart=>exact⟨0,by omega,by first | trivial | rfl,rfl,VU _ _⟩
        case round=>
         obtain⟨j,hj,rfl,rfl,hbw⟩:=hrel;have HI:=hid hj;have HB:=hid hbw;have HGSr:=hid (A5 hbw HGS7.o);clear hj hbw;by_cases hlt:j<M
         ·skip
          have d1:(0:Int)≤j:=(by omega);have d2:(j:Int)<M:=(by omega);have e1:=B8 hlt (Wd HML.o (by decide));have HLT:=hid hlt;obtain⟨t,htj⟩:∃ t,ss[j]?=some t:=⟨_,Wb (by rw[HSM.o];exact hlt)⟩;have HTJ:=hid htj;rcases HRA.o with hnil | ⟨ab,ao,haa,hca⟩
          ·rw[hnil] at htj;cases htj
          subst haa;have HCA:=hid hca;obtain⟨bt,hbt⟩:=WY (C4 t S);have heq:=fun w=>(J6 t S w).trans (by rw[hbt])
          obtain⟨th,hth⟩:=WY ((ss.take j).any (fun u=>C4 u S));have HNX:Hid ((ss.take (j+1)).any (fun u=>C4 u S)=(th || bt)):=hid (by rw[F7 htj,hth,hbt]);rw[hth];clear hlt htj hca hbt hth;cases th with
          | true=>
            clear heq;go_upto_region 31 with fail
            go_quiet (fail);have HB7:=hid (below_drewN HB.o nq);clear d1 d2;go_wp2_with fail;go_roundg (M - (j+1))
            case rel=>exact⟨j+1,AA HI.o HLT.o,by rw[HNX.o];rfl,by go_num,HB7.o⟩
            case measure=>exact Az HI.o HLT.o
          | false=>
            go_upto_region 31 with fail
            refine Ad (by kernel_rfl) ?_ ?_
            ·kernel_rfl
            repeat first
             | go_big_quiet_skip
             | (go_big_quiet_want
                with_reducible refine Ae (o:=⟨some 145,_,_,_,_,_⟩) 65 _ rfl _ _ ?_ (fun w' hw'=>E8 (EX HCA.o (A6 HB.o hw')) HTJ.o) ?_
                ·rfl
                simp only[Act.put,VW,VX,VV];go_big_quiet_on)
             | (go_big_quiet_want
                with_reducible refine Ae (o:=⟨some 146,_,_,_,_,_⟩) 65 _ rfl _ _ ?_ (fun w' hw'=>Au (A5 hw' HGSr.o)) ?_
                ·rfl
                simp only[Act.put,VW,VX,VV];go_big_quiet_on)
             | (go_big_quiet_want;go_big_quiet_op;go_big_quiet_on)
             | (with_reducible apply wpQuiet_step
                intro K hK;go_simp;first
                 | (refine hK _ ?_;clear hK K)
                 | (apply Exists.intro
                    refine⟨fun w' hw'=>?_,hK _ ?_⟩
                    ·
                     (first
                      | (skip
                         go_simp;first | done | with_reducible exact rfl | with_reducible exact⟨rfl,rfl⟩))
                    clear hK K))
            refine wpQuiet_nil ?_;intro w7 hw7;have HB7:=hid (A6 HB.o hw7);clear hw7;clear heq d1 d2;go_wp2_with fail;go_roundg (M - (j+1))
            case rel=>exact⟨j+1,AA HI.o HLT.o,by rw[HNX.o];rfl,by go_num,HB7.o⟩
            case measure=>exact Az HI.o HLT.o
         ·have d2:¬ ((j:Int)<(M:Int)):=(by omega);have HTT:Hid ((ss.take j).any (fun t=>C4 t S)=true):=hid (by
           have hjm:j=ss.length:=(by have:=HI.o;have:=HSM.o;omega);rw[hjm,List.take_length];exact HTH.o)
          have HBZ:=hid (A6 HB7.o HB.o);have HLz:=hid (A5 HB.o HL7.o);have HYz:=hid (HYS7.o.below HB.o);rw[HTT.o];clear hlt;have l0:=A4 HLz.o 0 _ rfl;have l1:=A4 HLz.o 1 _ rfl;have l2:=A4 HLz.o 2 _ rfl;have l3:=A4 HLz.o 3 _ rfl;go_wp2_with fail;refine(KEX.o _ _ _ _ _ true HBZ.o HYz.o (JD T X Z n) (HEY.o (by first | rfl | trivial))).mono ?_;rintro e wf ⟨rfl,hb⟩;have HBF:=hid (A6 HBZ.o hb);clear hb l0 l1 l2 l3 d2;go_wp2_with fail;refine(BI _).mono ?_;rintro e wz ⟨rfl,hbz⟩;have HBE:=hid (A6 HBF.o hbz);clear hbz;go_wp2_with fail;go_ret;exact⟨rfl,HBE.o⟩
     ·skip
      have cn:(er != 0)=true:=(by rw[WJ];exact h0);have HS:Hid (∀ w',Below w3.heap.size w3 w'→(w'.cell? ⟨gl,0,none⟩=some (.slice L.se.a n1 L.se.c)∧w'.cell? ⟨gl,1,none⟩=some (.slice L.po.a n2 L.po.c)∧w'.cell? ⟨gl,2,none⟩=some (.slice L.sg.a n3 L.sg.c)∧w'.cell? ⟨gl,3,none⟩=some (.slice L.rt.a n4 L.rt.c))):=hid (fun w' hw'=>⟨A4 (A5 hw' HL3.o) 0 _ rfl,A4 (A5 hw' HL3.o) 1 _ rfl,A4 (A5 hw' HL3.o) 2 _ rfl,A4 (A5 hw' HL3.o) 3 _ rfl⟩);have mk:=Mn n HN11.o;have M1:Hid (∀ V g,Below w3.heap.size w3 V→V.heap[g]?=some (.cells (Bu n 0).toArray 46)→Calls Tryz.prog 15 #[.agg #[.slice L.se.a n1 L.se.c,.slice L.po.a n2 L.po.c,.slice L.sg.a n3 L.sg.c,.slice L.rt.a n4 L.rt.c],.slice ra n rc,.slice (some ⟨g,0,none⟩) n n] V fun e w'=>e = .returned (.bool false)∧Below w3.heap.size w3 w'):=hid (fun V g hV hq=>(KEX.o V _ n n (List.replicate n RO) false (A6 HB3.o hV) (CR ML hq (by show Bu n 0=_;unfold Bu;rw[Nat.sub_zero];rfl)) List.length_replicate (HE0.o h0)).mono (fun _ _ h=>⟨h.1,A6 hV h.2⟩));have M9:Hid (∀ V,Below w3.heap.size w3 V→Calls Tryz.prog 10 #[] V fun e w'=>e = .returned (.bool true)∧Below w3.heap.size w3 w'):=hid (fun V hV=>(BI V).mono (fun _ _ h=>⟨h.1,A6 hV h.2⟩));have HB0':Below w3.heap.size w3 w3:=VU _ _;clear h0;go_upto_region 11 with fail
      clear cn;go_region_held3 (fun w'=>w'.cell? ⟨gl,0,none⟩=some (.slice L.se.a n1 L.se.c)∧w'.cell? ⟨gl,1,none⟩=some (.slice L.po.a n2 L.po.c)∧w'.cell? ⟨gl,2,none⟩=some (.slice L.sg.a n3 L.sg.c)∧w'.cell? ⟨gl,3,none⟩=some (.slice L.rt.a n4 L.rt.c)) (exact HS.o _ (by repeat first | assumption | with_reducible exact VU _ _ | with_reducible refine Below.drew ?_ | with_reducible refine A6 ?_ (Ac _ _)))
       (first
         | (with_reducible refine(M1.o _ _ (by repeat first | assumption | with_reducible exact VU _ _ | with_reducible refine Below.drew ?_ | with_reducible refine A6 ?_ (Ac _ _)) ?_).mono ?_
            ·first | exact Al _ _ (VU _ _) | exact Al w3 _ (VU _ _) | exact Al w3.drew _ (VU _ _)
            rintro e y1 ⟨rfl,hy1⟩)
         | ((with_reducible refine(M9.o _ (by repeat first | assumption | with_reducible exact VU _ _ | with_reducible refine Below.drew ?_ | with_reducible refine A6 ?_ (Ac _ _))).mono ?_);rintro e y1 ⟨rfl,hy1⟩))
      all_goals
       have HBY:=hid (A6 HB3.o hy1);clear hy1 HS mk;go_wp2_with fail;go_ret;exact⟨rfl,HBY.o⟩
end Go.Proofs.YtpohoannggdbjaaGreat
