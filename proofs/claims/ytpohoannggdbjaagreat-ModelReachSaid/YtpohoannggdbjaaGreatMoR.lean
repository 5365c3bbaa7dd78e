/- Layer 28: the document's Reach. -/
import Derived.Test.YtpohoannggdbjaaGreatMoQ
import Derived.Test.YtpohoannggdbjaaGreatMoE
set_option maxRecDepth 100000
set_option maxHeartbeats 200000000
namespace Go.Proofs.YtpohoannggdbjaaGreat
open Lib (hid)
open Go.RowKit
theorem JU(K:List St)(s:St):K.any (fun t=>C4 t s)=K.any (C4 s):=by
 congr 1
 funext t
 exact GI t s
theorem RP(n:Nat)(h:n≤11):IntKind.i64.wrap ((2:Int) ^ n)=((2 ^ n:Nat):Int):=by
 have hn:n=0∨n=1∨n=2∨n=3∨n=4∨n=5∨n=6∨n=7∨n=8∨n=9∨n=10∨n=11:=by omega
 rcases hn with rfl | rfl | rfl | rfl | rfl | rfl | rfl | rfl | rfl | rfl | rfl | rfl<;>rfl
theorem H3{n:Nat}(h:n≤11):2 ^ n≤2048:=Nat.pow_le_pow_right (n:=2) (by omega) h
theorem Tc{T:Tb}{X:List Iv}{Y:List Sh}{n i:Nat}{s:St}(h:DC T X Y i n=some s)(hb:(Ek T X Y n i).any (fun t=>C4 t s)=true):Ek T X Y n (i+1)=Ek T X Y n i:=by
 rw[Er h];unfold Bs;rw[JU] at hb;rw[if_pos hb]
theorem Qy{T:Tb}{X:List Iv}{Y:List Sh}{n i:Nat}{s:St}(h:DC T X Y i n=some s)(hb:(Ek T X Y n i).any (fun t=>C4 t s)=false):Ek T X Y n (i+1)=Ek T X Y n i ++ [s]:=by
 rw[Er h];unfold Bs;rw[JU] at hb;rw[if_neg (by rw[hb];decide)]
theorem Po{w:World}{lo:Nat}{e:TypeId}{v:Value}{m:Nat}{K:List St}{s:St}(hm:K.length=m)(h:w.ownsRow lo e 68 v (m+1) (K.flatMap Af ++ Af s)):w.ownsRow lo e 68 v (K ++ [s]).length ((K ++ [s]).flatMap Af):=by
 rw[Wh,hm,WA];rw[show[s].flatMap Af=Af s by rw[WI,WO,Wt]];exact h
attribute [local irreducible] Sl.v Aa pw Ab Aw C8 Af BC CD Bi Bg B9 CB BQ AU Bp BB BG Bh Bd BP Bo BL BF BN AI AY AV Be Bw Bq C4 Mc.tb BZ AX Ap B5
attribute [local irreducible] Bs BV C6 BS Ay AN
attribute [local irreducible] AW CY Bt BO zS FL BX FN FM D8 DC Ek
theorem NO(L:AL)(ra:Option Addr)(n rc:Nat)(sa:Option Addr)(k sc:Nat)(w:World)(hL:AO w L)(c dd:Int)(hc:(Ap L).1=c)(hdd:(Ap L).2=dd)(h0:¬ c=0) :
 Calls Tryz.prog 13 #[.agg #[L.se.v,L.po.v,L.sg.v,L.rt.v],.slice ra n rc,.slice sa k sc] w fun e w'=>e = .returned (.tuple #[.slice none 0 0,.int .i64 c])∧Below w.heap.size w w':=by
 have KC:Hid (∀ V,Below w.heap.size w V→Calls Tryz.prog 24 #[.agg #[L.se.v,L.po.v,L.sg.v,L.rt.v]] V fun e w'=>e = .returned (.tuple #[.int .i64 c,.int .i64 dd])∧Below V.heap.size V w'):=hid (fun V hV=>hc ▸ hdd ▸ Dq L V (hL.below hV));have cn:(c != 0)=true:=by rw[WJ];exact h0
 clear hc hdd h0;obtain⟨n1,hn1⟩:=WY L.se.l.length;obtain⟨n2,hn2⟩:=WY L.po.l.length;obtain⟨n3,hn3⟩:=WY L.sg.l.length;obtain⟨n4,hn4⟩:=WY L.rt.l.length;rw[Ak hn1,Ak hn2,Ak hn3,Ak hn4] at KC ⊢;clear hn1 hn2 hn3 hn4 hL;go_enter Tryz.func13,Tryz.ntmps13;go_upto_region 1 with fail
 refine Ao (os:=[.cells #[.slice L.se.a n1 L.se.c,.slice L.po.a n2 L.po.c,.slice L.sg.a n3 L.sg.c,.slice L.rt.a n4 L.rt.c] 27]) (w0:=w) rfl ?_;intro W hat hbw;obtain⟨gl,hgl⟩:=X0 w.heap.size;have q0:=hat 0 _ rfl;rw[Wa,← hgl] at q0;rw[← hgl];have HQl:=hid q0;have HB0:=hid hbw;clear hat hbw q0 hgl;have l0:=A4 HQl.o 0 _ rfl;have l1:=A4 HQl.o 1 _ rfl;have l2:=A4 HQl.o 2 _ rfl;have l3:=A4 HQl.o 3 _ rfl;go_wp2_with fail;refine(KC.o _ HB0.o).mono ?_;rintro e w1 ⟨rfl,hb1⟩;have HB1:=hid (A6 HB0.o hb1);clear hb1 l0 l1 l2 l3;go_wp2_with fail;go_ret2;exact⟨rfl,HB1.o⟩
theorem Ly(L:AL)(ra:Option Addr)(n rc:Nat)(sa:Option Addr)(k sc:Nat)(w:World)(hL:AO w L)(dd:Int)(hc:(Ap L).1=0)(hdd:(Ap L).2=dd)(hnk:¬ n=k) :
 Calls Tryz.prog 13 #[.agg #[L.se.v,L.po.v,L.sg.v,L.rt.v],.slice ra n rc,.slice sa k sc] w fun e w'=>e = .returned (.tuple #[.slice none 0 0,.int .i64 2])∧Below w.heap.size w w':=by
 have KC:Hid (∀ V,Below w.heap.size w V→Calls Tryz.prog 24 #[.agg #[L.se.v,L.po.v,L.sg.v,L.rt.v]] V fun e w'=>e = .returned (.tuple #[.int .i64 0,.int .i64 dd])∧Below V.heap.size V w'):=hid (fun V hV=>hc ▸ hdd ▸ Dq L V (hL.below hV));have d:((n:Int) !=(k:Int))=true:=by rw[WJ];omega
 clear hc hdd hnk;obtain⟨n1,hn1⟩:=WY L.se.l.length;obtain⟨n2,hn2⟩:=WY L.po.l.length;obtain⟨n3,hn3⟩:=WY L.sg.l.length;obtain⟨n4,hn4⟩:=WY L.rt.l.length;rw[Ak hn1,Ak hn2,Ak hn3,Ak hn4] at KC ⊢;clear hn1 hn2 hn3 hn4 hL;go_enter Tryz.func13,Tryz.ntmps13;go_upto_region 1 with fail
 refine Ao (os:=[.cells #[.slice L.se.a n1 L.se.c,.slice L.po.a n2 L.po.c,.slice L.sg.a n3 L.sg.c,.slice L.rt.a n4 L.rt.c] 27]) (w0:=w) rfl ?_;intro W hat hbw;obtain⟨gl,hgl⟩:=X0 w.heap.size;have q0:=hat 0 _ rfl;rw[Wa,← hgl] at q0;rw[← hgl];have HQl:=hid q0;have HB0:=hid hbw;clear hat hbw q0 hgl;have l0:=A4 HQl.o 0 _ rfl;have l1:=A4 HQl.o 1 _ rfl;have l2:=A4 HQl.o 2 _ rfl;have l3:=A4 HQl.o 3 _ rfl;go_wp2_with fail;refine(KC.o _ HB0.o).mono ?_;rintro e w1 ⟨rfl,hb1⟩;have HB1:=hid (A6 HB0.o hb1);clear hb1 l0 l1 l2 l3;go_wp2_with fail;go_ret2;exact⟨rfl,HB1.o⟩
theorem NN(L:AL)(ra:Option Addr)(n rc:Nat)(sa:Option Addr)(sc:Nat)(X:List Iv)(Y:List Sh)(w:World)(hL:AO w L)(hX:As 4 DV w ra X)(hxn:X.length=n)(hxo:∀ x∈X,Ci w x∧x.len≤100000)(hY:As 3 Cx w sa Y)(hyn:Y.length=n)(h11:n≤11)(dd:Int)(hc:(Ap L).1=0)(hdd:(Ap L).2=dd) :
 Calls Tryz.prog 13 #[.agg #[L.se.v,L.po.v,L.sg.v,L.rt.v],.slice ra n rc,.slice sa n sc] w fun e w'=>∃ v,e = .returned (.tuple #[v,.int .i64 0])∧w'.ownsRow w.heap.size 65 68 v (Ek (AW L) X Y n (2 ^ n)).length ((Ek (AW L) X Y n (2 ^ n)).flatMap Af)∧Below w.heap.size w w':=by
 have KC:Hid (∀ V,Below w.heap.size w V→Calls Tryz.prog 24 #[.agg #[L.se.v,L.po.v,L.sg.v,L.rt.v]] V fun e w'=>e = .returned (.tuple #[.int .i64 0,.int .i64 dd])∧Below V.heap.size V w'):=hid (fun V hV=>hc ▸ hdd ▸ Dq L V (hL.below hV));have KCH:Hid (∀(b:Nat) (R:Option St),DC (AW L) X Y b n=R→b<4096→∀ V,Below w.heap.size w V→Calls Tryz.prog 25 #[.agg #[L.se.v,L.po.v,L.sg.v,L.rt.v],.slice ra n rc,.slice sa n sc,.int .i64 (b:Int)] V fun e w'=>∃ s:St,e = .returned (.tuple #[.agg (Af s).toArray,.bool R.isSome])∧(∀ t,R=some t→t=s)∧s.ok∧Below V.heap.size V w'):=hid (fun b R hR hb V hV=>Ls L ra n rc sa sc b X Y V (hL.below hV) (hX.below hV) hxn (fun x hx=>⟨(hxo x hx).1.below hV,(hxo x hx).2⟩) (hY.below hV) hyn h11 hb hc R hR);obtain⟨T,hT⟩:=WY (AW L);rw[hT] at KCH ⊢;obtain⟨M,hM⟩:=WY (2 ^ n);have hsh:=RP n h11;have hm0:=H3 h11;rw[hM] at hsh hm0 ⊢;have HML:Hid (M≤2048∧n≤11):=hid ⟨hm0,h11⟩;have HSH:=hid hsh;have e64:(n:Int)<64:=by omega
 have m1:min n 64=n:=by omega
 have m2:¬ (64:Int)≤(n:Int):=by omega
 have m3:(0:Int)≤(n:Int):=by omega
 clear hc hdd hX hxn hxo hY hyn h11 hT hM hm0;obtain⟨n1,hn1⟩:=WY L.se.l.length;obtain⟨n2,hn2⟩:=WY L.po.l.length;obtain⟨n3,hn3⟩:=WY L.sg.l.length;obtain⟨n4,hn4⟩:=WY L.rt.l.length;rw[Ak hn1,Ak hn2,Ak hn3,Ak hn4] at KC KCH ⊢;clear hn1 hn2 hn3 hn4 hL;go_enter Tryz.func13,Tryz.ntmps13;go_upto_region 1 with fail
 refine Ao (os:=[.cells #[.slice L.se.a n1 L.se.c,.slice L.po.a n2 L.po.c,.slice L.sg.a n3 L.sg.c,.slice L.rt.a n4 L.rt.c] 27]) (w0:=w) rfl ?_;intro W hat hbw;obtain⟨gl,hgl⟩:=X0 w.heap.size;have q0:=hat 0 _ rfl;rw[Wa,← hgl] at q0;rw[← hgl];have HQl:=hid q0;have HB0:=hid hbw;clear hat hbw q0 hgl;have l0:=A4 HQl.o 0 _ rfl;have l1:=A4 HQl.o 1 _ rfl;have l2:=A4 HQl.o 2 _ rfl;have l3:=A4 HQl.o 3 _ rfl;go_wp2_with fail;refine(KC.o _ HB0.o).mono ?_;rintro e w1 ⟨rfl,hb1⟩;have HB1:=hid (A6 HB0.o hb1);have HL1:=hid (A5 hb1 HQl.o);clear hb1 l0 l1 l2 l3;obtain⟨lo,hlo⟩:=X0 w1.heap.size;have HLO:Hid (lo≤w1.heap.size):=hid (by omega);have HLO1:Hid (w1.heap.size≤lo):=hid (by omega);have HLOW:Hid (w.heap.size≤lo):=hid (by have:=HB1.o.size;omega);obtain⟨iS,hi,hz0,hz1,hz2⟩:=info_parts Ew;have HIS:=hid (And.intro hi (And.intro hz0 (And.intro hz1 hz2)));clear hi hz0 hz1 hz2 hlo;go_upto_region 8 with fail
 go_loopg [10,11] M (fun g ov v wr=>∃ i:Nat,i+g=M∧v = .int .i64 (i:Int)∧wr.ownsRow lo 65 68 ov (Ek T X Y n i).length ((Ek T X Y n i).flatMap Af)∧Below w1.heap.size w1 wr)
 case atStart=>exact⟨0,by omega,rfl,by rw[Og];exact Wz _ _ _ _,VU _ _⟩
 case round=>
  obtain⟨i,hi,rfl,hown,hbw⟩:=hrel;obtain⟨ov,rfl⟩:=X0 u10;have HI:=hid hi;have HOWN:=hid hown;have HB:=hid hbw;clear hi hown hbw;by_cases hlt:i<M
  ·skip
   have d1:(0:Int)≤i:=(by omega);have d2:(i:Int)<M:=(by omega);have e1:=B8 hlt (Wd HML.o.1 (by decide));have HLT:=hid hlt;have HLr:=hid (A5 HB.o HL1.o);obtain⟨R,hR⟩:=WY (DC T X Y i n);have KCHi:=hid (KCH.o i R hR (by have:=HML.o.1;omega) _ (A6 HB1.o HB.o));have HR:=hid hR;clear hlt hR;have l0:=A4 HLr.o 0 _ rfl;have l1:=A4 HLr.o 1 _ rfl;have l2:=A4 HLr.o 2 _ rfl;have l3:=A4 HLr.o 3 _ rfl;go_wp2_with fail;refine KCHi.o.mono ?_;rintro e w3 ⟨s,rfl,hts,hso,hb3⟩;have HTS:=hid hts;have HB3:=hid (A6 HB.o hb3);have HBW3:=hid hb3;clear hts hso hb3 l0 l1 l2 l3 KCHi e1;obtain⟨hst,hq,hbb⟩:=IV w3 s;obtain⟨w5,hw5⟩:=X0 ((w3.alloc (.cells (Af zS).toArray 65)).setCells w3.heap.size 0 (Af s));rw[← hw5] at hst hq hbb;obtain⟨gS,hgS⟩:=X0 w3.heap.size;rw[← hgS] at hq;have HST:=hid hst;have HQS:=hid hq;have HBW5:=hid (A6 HBW3.o hbb);have HB5:=hid (A6 HB.o HBW5.o);have HOW5:=hid (WX.own (X:=fun _=>False) (WX.of_below HBW5.o) HOWN.o (fun _ _ h=>h));have HSV:Hid (∀ b,ov.ownBlock=some b→b<gS):=hid (fun b hb=>by have h1:=(HOWN.o.lt b hb).2;have h2:=HBW3.o.size;omega);clear hst hq hbb hw5;go_upto_region 11 with (first
    | rw[Bz]
    | ((with_reducible refine Ag (op:=⟨none,.store 65 _ _,_,_,_,_⟩) rfl 65 _ _ rfl _ _ ?_ ?_ _ HST.o ?_);(· rfl);(· rfl)))
   (try simp only[Act.put])
   rw[← hgS];clear hgS HST;have e1:=B8 HLT.o (Wd HML.o.1 (by decide));cases R with
   | none=>
     go_wp2_with fail;clear d1 d2;go_roundg (M - (i+1))
     case rel=>exact⟨i+1,AA HI.o HLT.o,by go_num,by rw[Fm HR.o];exact HOW5.o,HB5.o⟩
     case measure=>exact Az HI.o HLT.o
   | some t=>
     obtain rfl:t=s:=HTS.o t rfl;obtain⟨ya,yc,hov,hys⟩:=CJ AS (rfl:(Ek T X Y n i).length=_) HOW5.o;obtain⟨K,hK⟩:=WY (Ek T X Y n i);obtain⟨m,hm⟩:=WY K.length;obtain⟨b1,hb1⟩:=WY (K.any (fun u=>C4 u t));have HKL:Hid (Ek T X Y n i=K):=hid hK;have HKM:=hid hm;have hml:m≤i:=(by rw[← hm,← hK];exact Gn T X Y n i);have HML2:Hid (m<2048):=hid (by have:=HML.o.1;have:=HLT.o;omega);have how:=HOW5.o;have hsv:=HSV.o;rw[hov] at how hsv ⊢;rw[hK] at hov hys how;rw[hK,hm] at ⊢;rw[hm] at how;have HOWK:=hid how;have HSVK:=hid hsv;have KIN:=hid (RY b1 ya m yc K t w5 hys.row hm (by have:=HML2.o;omega) hb1);have HBB:=hid hb1;clear how hsv hov hys hK hm hb1 hml HSV HOW5 HOWN;have HLDq:=hid (Au HQS.o);go_wp2_with ((with_reducible refine EN (op:=⟨some 45,_,_,_,_,_⟩) ?_ 65 _ rfl _ _ ?_ HLDq.o ?_);(· rfl);(· rfl));refine KIN.o.mono ?_;rintro e w7 ⟨rfl,hb7⟩;have HB7:=hid (A6 HB5.o hb7);have HOW7:=hid (WX.own (X:=fun _=>False) (WX.of_below hb7) HOWK.o (fun _ _ h=>h));have HQS7:=hid (A5 hb7 HQS.o);clear hb7 HLDq;cases b1 with
     | true=>
       go_wp2_with fail;clear d1 d2;go_roundg (M - (i+1))
       case rel=>exact⟨i+1,AA HI.o HLT.o,by go_num,by rw[Tc HR.o (by rw[HKL.o];exact HBB.o),HKL.o,HKM.o];exact HOW7.o,HB7.o⟩
       case measure=>exact Az HI.o HLT.o
     | false=>
       have HLD:=hid (Au HQS7.o);have HBU:=hid (Ee t w7);have hal:=Al w7 (.cells (Af t).toArray 65) (VU _ _);obtain⟨WB,hWB⟩:=X0 (w7.alloc (.cells (Af t).toArray 65));have HBB7:Hid (Below w7.heap.size w7 WB):=hid (by rw[hWB];exact Ac _ _);rw[← hWB] at hal;have HWB:=hid hWB;have HSRC:=hid (PL hal);have HOWB:=hid (WX.own (X:=fun _=>False) (WX.of_below HBB7.o) HOW7.o (fun _ _ h=>h));have HLSB:Hid (lo≤WB.heap.size):=hid (Wd HLO.o (Wd HB7.o.size HBB7.o.size));clear hal hWB;go_upto_region 9 with (first
     | ((with_reducible refine Ah (op:=⟨some 50,_,_,_,_,_⟩) rfl 65 _ rfl _ _ ?_ HLD.o ?_);(· rfl))
     | ((with_reducible refine FI (op:=⟨some 51,_,_,_,_,_⟩) rfl 37 _ rfl _ _ ?_ _ HBU.o ?_);(· rfl))
     | (at_builtin;rw[← HWB.o];refine Bn rfl _ _ 37 rfl lo 65 iS (.agg (Af zS).toArray) 68 96 Tryz.underlying37 HIS.o.1 HIS.o.2.1 HIS.o.2.2.1 HIS.o.2.2.2 (by rw[Value.cells,Wn,AS]) (by decide) (.slice ya m yc) m (K.flatMap Af) rfl HOWB.o (some ⟨w7.heap.size,0,none⟩) 1 1 (Af t) rfl (AS t) HSRC.o (by have:=HML2.o;unfold maxLen;omega) (by have:=HML2.o;omega) HLSB.o ?_;intro v9 W9 hown9 hg9 hn9;have HOWS9:=hid (Po HKM.o hown9);have HG9:=hid hg9;clear hown9 hg9 hn9))
       have HB9:Hid (Below w1.heap.size w1 W9):=hid (Below.grown (A6 HB7.o HBB7.o) HG9.o (Wd HB7.o.size HBB7.o.size) (fun b hb=>by have h1:=(HOWB.o.lt b hb).1;have h2:=HLO1.o;omega));go_wp2_with fail;clear d1 d2;go_roundg (M - (i+1))
       case rel=>exact⟨i+1,AA HI.o HLT.o,by go_num,by rw[Qy HR.o (by rw[HKL.o];exact HBB.o),HKL.o];exact HOWS9.o,HB9.o⟩
       case measure=>exact Az HI.o HLT.o
  ·have d2:¬ ((i:Int)<(M:Int)):=(by omega);obtain rfl:i=M:=(by have:=HI.o;omega);have HF:=hid (EB HLOW.o HOWN.o);clear hlt;go_wp2_with fail;go_ret2;exact⟨_,rfl,HF.o,A6 HB1.o HB.o⟩
end Go.Proofs.YtpohoannggdbjaaGreat
