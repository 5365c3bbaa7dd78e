/- Layer 28: ModelReach. -/
import Derived.Test.YtpohoannggdbjaaGreatMoR
import Derived.Test.YtpohoannggdbjaaGreatMoJ
import Derived.Test.YtpohoannggdbjaaGreatMoN
import Derived.Test.YtpohoannggdbjaaGreatMC
set_option maxRecDepth 100000
set_option maxHeartbeats 200000000
namespace Go.Proofs.YtpohoannggdbjaaGreat
open Lib (hid)
open Go.RowKit
theorem Ky{L:AL}{X:List Iv}{Y:List Sh}{n:Nat}(hc:(Ap L).1=0)(hx:X.length=n)(hy:Y.length=n):BH L X Y=decide (0<(Ek (AW L) X Y n (2 ^ n)).length):=by
 rw[DD hc (by rw[hx,hy]),hx,← Hn (GD (T:=AW L) (X:=X) (Y:=Y) (n:=n) (by omega) (by omega))];cases h:Ek (AW L) X Y n (2 ^ n) with
 | nil=>rfl
 | cons a l=>rfl
theorem Lt(L:AL)(ra:Option Addr)(n rc:Nat)(sa:Option Addr)(k sc:Nat)(X:List Iv)(Y:List Sh)(w:World)(hL:AO w L)(hX:As 4 DV w ra X)(hxn:X.length=n)(hxo:∀ x∈X,Ci w x∧x.len≤100000)(hY:As 3 Cx w sa Y)(hyn:Y.length=k)(h11:n≤11) :
 ∃(K:List St) (r:Int),Gx K∧K.length≤2048∧(¬ r=0→K.length=0)∧BH L X Y=(decide (r=0) && decide (0<K.length))∧
 (∀ V,Below w.heap.size w V→Calls Tryz.prog 12 #[.agg #[L.se.v,L.po.v,L.sg.v,L.rt.v],.slice ra n rc,.slice sa k sc] V fun e w'=>∃ va vc ss,e = .returned (.tuple #[.slice va K.length vc,.int .i64 r])∧ss.length=K.length∧AP ss K∧As 68 Af w' va ss∧Below V.heap.size V w')∧
 (∀ V ya yc,Below w.heap.size w V→As 3 Cx V ya Y→Calls Tryz.prog 13 #[.agg #[L.se.v,L.po.v,L.sg.v,L.rt.v],.slice ra n rc,.slice ya k yc] V fun e w'=>∃ u,e = .returned (.tuple #[u,.int .i64 r])∧w'.ownsRow V.heap.size 65 68 u K.length (K.flatMap Af)∧Below V.heap.size V w'):=by
 obtain⟨c,hc⟩:=WY ((Ap L).1);by_cases h0:c=0
 ·subst h0;by_cases hnk:n=k
  ·subst hnk;refine⟨Ek (AW L) X Y n (2 ^ n),0,Eu _ _ _ _ _,Wd (Gn _ _ _ _ _) (H3 h11),fun h=>absurd rfl h,by rw[Ky hc hxn hyn];rfl,fun V hV=>?_,fun V ya yc hV hya=>?_⟩
   ·refine(Fe L ra n rc sa sc X Y V (hL.below hV) (hX.below hV) hxn (fun x hx=>⟨(hxo x hx).1.below hV,(hxo x hx).2⟩) (hY.below hV) hyn h11 hc).mono ?_;rintro e w' ⟨v,ss,rfl,hs,hown,hb,hea⟩;have hsame:AP ss (Ek (AW L) X Y n (2 ^ n)):=hs.trans (GD (by omega) (by omega)).symm;have hlen:=Ka hea (Eu (AW L) X Y n (2 ^ n)) hsame;obtain⟨va,vc,rfl,hrow⟩:=CJ AS rfl hown;exact⟨va,vc,ss,by rw[hlen],hlen,hsame,hrow.row,hb⟩
   ·exact NN L ra n rc ya yc X Y V (hL.below hV) (hX.below hV) hxn (fun x hx=>⟨(hxo x hx).1.below hV,(hxo x hx).2⟩) hya hyn h11 _ hc rfl
  ·refine⟨[],2,List.Pairwise.nil,by decide,fun _=>rfl,by rw[GL (by rw[hxn,hyn];exact hnk)];rfl,fun V hV=>?_,fun V ya yc hV hya=>?_⟩
   ·refine(Ix L ra n rc sa k sc V (hL.below hV) hc hnk).mono ?_;rintro e w' ⟨rfl,hb⟩;exact⟨none,0,[],rfl,rfl,AP.refl _,.inl rfl,hb⟩
   ·refine(Ly L ra n rc ya k yc V (hL.below hV) _ hc rfl hnk).mono ?_;rintro e w' ⟨rfl,hb⟩;exact⟨_,rfl,Wz _ _ _ _,hb⟩
 ·refine⟨[],c,List.Pairwise.nil,by decide,fun _=>rfl,by rw[J7 (by rw[hc];exact h0),Wg h0];rfl,fun V hV=>?_,fun V ya yc hV hya=>?_⟩
  ·refine(KG L ra n rc sa k sc V (hL.below hV) c hc h0).mono ?_;rintro e w' ⟨rfl,hb⟩;exact⟨none,0,[],rfl,rfl,AP.refl _,.inl rfl,hb⟩
  ·refine(NO L ra n rc ya k yc V (hL.below hV) c _ hc rfl h0).mono ?_;rintro e w' ⟨rfl,hb⟩;exact⟨_,rfl,Wz _ _ _ _,hb⟩
theorem Sa(c:Sh):(Cx c).length=3:=rfl
attribute [local irreducible] Sl.v Aa pw Ab Aw C8 Af BC CD Bi Bg B9 CB BQ AU Bp BB BG Bh Bd BP Bo BL BF BN AI AY AV Be Bw Bq C4 Mc.tb BZ AX Ap B5
attribute [local irreducible] Bs BV C6 BS Ay AN
attribute [local irreducible] AW CY Bt BO zS FL BX FN FM D8 BH Df C3 I8 DC Ek F4
theorem F9(L:AL)(ra:Option Addr)(n rc:Nat)(sa:Option Addr)(k sc:Nat)(X:List Iv)(Y:List Sh)(w:World)(hL:AO w L)(hX:B7 4 DV w ⟨ra,rc,X⟩)(hxn:X.length=n)(hxo:∀ x∈X,Ci w x)(hY:B7 3 Cx w ⟨sa,sc,Y⟩)(hyn:Y.length=k) :
 Calls Tryz.prog 4 #[.agg #[L.se.v,L.po.v,L.sg.v,L.rt.v],.slice ra n rc,.slice sa k sc] w fun e w'=>e = .returned (.bool true)∧Below w.heap.size w w':=by
 obtain⟨n1,hn1⟩:=WY L.se.l.length;obtain⟨n2,hn2⟩:=WY L.po.l.length;obtain⟨n3,hn3⟩:=WY L.sg.l.length;obtain⟨n4,hn4⟩:=WY L.rt.l.length;obtain⟨b1,hb1⟩:=WY (Df L X 9);have KF:Hid (∀ V,Below w.heap.size w V→Calls Tryz.prog 11 #[.agg #[L.se.v,L.po.v,L.sg.v,L.rt.v],.slice ra n rc,.int .i64 9] V fun e w'=>e = .returned (.bool b1)∧Below V.heap.size V w'):=hid (fun V hV=>J8 L ra n rc 9 X b1 V (hL.below hV) (hX.row.below hV) hxn (by omega) hb1);cases b1 with
 | false=>
   rw[Ak hn1,Ak hn2,Ak hn3,Ak hn4] at KF ⊢;clear hn1 hn2 hn3 hn4 hL hb1 hX hxn hxo hY hyn;go_enter Tryz.func4,Tryz.ntmps4;go_upto_region 1 with fail
   refine Ao (os:=[.cells #[.slice L.se.a n1 L.se.c,.slice L.po.a n2 L.po.c,.slice L.sg.a n3 L.sg.c,.slice L.rt.a n4 L.rt.c] 27]) (w0:=w) rfl ?_;intro W hat hbw;obtain⟨gl,hgl⟩:=X0 w.heap.size;have q0:=hat 0 _ rfl;rw[Wa,← hgl] at q0;rw[← hgl];have HQl:=hid q0;have HB0:=hid hbw;clear hat hbw q0 hgl;have l0:=A4 HQl.o 0 _ rfl;have l1:=A4 HQl.o 1 _ rfl;have l2:=A4 HQl.o 2 _ rfl;have l3:=A4 HQl.o 3 _ rfl;go_wp2_with fail;refine(KF.o _ HB0.o).mono ?_;rintro e w1 ⟨rfl,hb⟩;have HB1:=hid (A6 HB0.o hb);have HL1:=hid (A5 hb HQl.o);clear hb l0 l1 l2 l3;go_wp2_with fail;refine(BI _).mono ?_;rintro e wz ⟨rfl,hbz⟩;have HBE:=hid (A6 HB1.o hbz);clear hbz;go_wp2_with fail;go_ret;exact⟨rfl,HBE.o⟩
 | true=>
   by_cases hk:20<k
   ·have d:(20:Int)<(k:Int):=(by omega);rw[Ak hn1,Ak hn2,Ak hn3,Ak hn4] at KF ⊢;clear hn1 hn2 hn3 hn4 hL hb1 hX hxn hxo hY hyn hk;go_enter Tryz.func4,Tryz.ntmps4;go_upto_region 1 with fail
    refine Ao (os:=[.cells #[.slice L.se.a n1 L.se.c,.slice L.po.a n2 L.po.c,.slice L.sg.a n3 L.sg.c,.slice L.rt.a n4 L.rt.c] 27]) (w0:=w) rfl ?_;intro W hat hbw;obtain⟨gl,hgl⟩:=X0 w.heap.size;have q0:=hat 0 _ rfl;rw[Wa,← hgl] at q0;rw[← hgl];have HQl:=hid q0;have HB0:=hid hbw;clear hat hbw q0 hgl;have l0:=A4 HQl.o 0 _ rfl;have l1:=A4 HQl.o 1 _ rfl;have l2:=A4 HQl.o 2 _ rfl;have l3:=A4 HQl.o 3 _ rfl;go_wp2_with fail;refine(KF.o _ HB0.o).mono ?_;rintro e w1 ⟨rfl,hb⟩;have HB1:=hid (A6 HB0.o hb);have HL1:=hid (A5 hb HQl.o);clear hb l0 l1 l2 l3;go_wp2_with fail;refine(BI _).mono ?_;rintro e wz ⟨rfl,hbz⟩;have HBE:=hid (A6 HB1.o hbz);clear hbz;go_wp2_with fail;go_ret;exact⟨rfl,HBE.o⟩
   ·have d:¬ (20:Int)<(k:Int):=(by omega);have hfew:=J9 hb1;have hn9:n≤9:=(by omega);have hxo2:∀ x∈X,Ci w x∧x.len≤100000:=fun x hx=>⟨hxo x hx,by have:=hfew.2 x hx;omega⟩
    obtain⟨KS,er,hea,h20,hr0,hex,hk1,hk2⟩:=Lt L ra n rc sa k sc X Y w hL hX.row hxn hxo2 hY.row hyn (by omega);obtain⟨b2,hb2⟩:=WY (BH L X Y);have KE:Hid (∀ V,Below w.heap.size w V→Calls Tryz.prog 15 #[.agg #[L.se.v,L.po.v,L.sg.v,L.rt.v],.slice ra n rc,.slice sa k sc] V fun e w'=>e = .returned (.bool b2)∧Below V.heap.size V w'):=hid (fun V hV=>CK L ra n rc sa k sc X Y b2 V (hL.below hV) (hX.row.below hV) hxn (fun x hx=>⟨(hxo2 x hx).1.below hV,(hxo2 x hx).2⟩) (hY.row.below hV) hyn (by omega) hb2);have KRF:Hid (∀ V,Below w.heap.size w V→Calls Tryz.prog 14 #[.slice sa k sc] V fun e w'=>∃ ya yc,e = .returned (.slice ya k yc)∧As 3 Cx w' ya Y∧Below V.heap.size V w'):=hid (fun V hV=>(RZ sa k sc Y V (hY.row.below hV) hyn (by omega)).mono (fun _ _ ⟨v,h1,h2,h3⟩=>by
     obtain⟨ya,yc,hv,hs⟩:=CJ Sa hyn h2;exact⟨ya,yc,by rw[h1,hv],hs.row,h3⟩))
    rw[hb2] at hex;obtain⟨N,hN⟩:=WY KS.length;rw[hN] at h20 hr0 hex hk1 hk2;have KR:=hid hk1;have KD:=hid hk2;have HEA:=hid hea;have HN20:=hid h20;have HR0:=hid hr0;have HEX:=hid hex;have HKN:=hid hN;rw[Ak hn1,Ak hn2,Ak hn3,Ak hn4] at KF KE KR KD ⊢;clear hn1 hn2 hn3 hn4 hL hb1 hX hxn hxo hY hyn hk hfew hn9 hxo2 hb2 hk1 hk2 hea h20 hr0 hex hN;go_enter Tryz.func4,Tryz.ntmps4;go_upto_region 1 with fail
    refine Ao (os:=[.cells #[.slice L.se.a n1 L.se.c,.slice L.po.a n2 L.po.c,.slice L.sg.a n3 L.sg.c,.slice L.rt.a n4 L.rt.c] 27]) (w0:=w) rfl ?_;intro W hat hbw;obtain⟨gl,hgl⟩:=X0 w.heap.size;have q0:=hat 0 _ rfl;rw[Wa,← hgl] at q0;rw[← hgl];have HQl:=hid q0;have HB0:=hid hbw;clear hat hbw q0 hgl;have l0:=A4 HQl.o 0 _ rfl;have l1:=A4 HQl.o 1 _ rfl;have l2:=A4 HQl.o 2 _ rfl;have l3:=A4 HQl.o 3 _ rfl;go_wp2_with fail;refine(KF.o _ HB0.o).mono ?_;rintro e w1 ⟨rfl,hb⟩;have HB1:=hid (A6 HB0.o hb);have HL1:=hid (A5 hb HQl.o);clear hb l0 l1 l2 l3;have l0:=A4 HL1.o 0 _ rfl;have l1:=A4 HL1.o 1 _ rfl;have l2:=A4 HL1.o 2 _ rfl;have l3:=A4 HL1.o 3 _ rfl;go_wp2_with fail;refine(KR.o _ HB1.o).mono ?_;rintro e w3 ⟨va,vc,ss,rfl,hsl,hsame,hrow,hb⟩;have HB3:=hid (A6 HB1.o hb);have HL3:=hid (A5 hb HL1.o);have HRA:=hid hrow;have HSL:=hid hsl;have HSAME:=hid hsame;clear hb l0 l1 l2 l3 hsl hsame hrow d;go_upto_region 4 with fail
    refine Am (by kernel_rfl) [9] 12 [0,1,2,3,4,5,6,7,8] [32,33,34,35,36,31,37,38,9] #[true,true,true,true,true,true,true,true,true,false] 1 [(fun v _=>v = .agg #[.slice L.se.a n1 L.se.c,.slice L.po.a n2 L.po.c,.slice L.sg.a n3 L.sg.c,.slice L.rt.a n4 L.rt.c]),(fun v _=>v = .slice ra n rc),(fun v _=>v = .slice sa k sc),(fun v V=>∃ ya yc,v = .slice ya k yc∧As 3 Cx V ya Y),(fun v V=>∃ u,v = .tuple #[u,.int .i64 er]∧V.ownsRow w3.heap.size 65 68 u N (KS.flatMap Af)),(fun v V=>∃ u,v = .tuple #[u,.int .i64 er]∧V.ownsRow w3.heap.size 65 68 u N (KS.flatMap Af)),(fun u V=>V.ownsRow w3.heap.size 65 68 u N (KS.flatMap Af)),(fun v _=>v = .int .i64 er),(fun u V=>V.ownsRow w3.heap.size 65 68 u N (KS.flatMap Af)),(fun _ _=>True)] (by kernel_rfl) (by kernel_rfl) (by kernel_rfl) (by kernel_rfl) (by kernel_rfl) rfl (by kernel_rfl) rfl ?_ ?_ ?_
    ·exact⟨A8 _,A8 _,A8 _,(fun v W W2 h hb=>by obtain⟨ya,yc,h1,h2⟩:=h;exact⟨ya,yc,h1,h2.below hb⟩),(fun v W W2 h hb=>by obtain⟨u,h1,h2⟩:=h;exact⟨u,h1,WX.own (X:=fun _=>False) (WX.of_below hb) h2 (fun _ _ h=>h)⟩),(fun v W W2 h hb=>by obtain⟨u,h1,h2⟩:=h;exact⟨u,h1,WX.own (X:=fun _=>False) (WX.of_below hb) h2 (fun _ _ h=>h)⟩),(fun u W W2 h hb=>WX.own (X:=fun _=>False) (WX.of_below hb) h (fun _ _ h=>h)),A8 _,(fun u W W2 h hb=>WX.own (X:=fun _=>False) (WX.of_below hb) h (fun _ _ h=>h)),An,trivial⟩
    ·refine⟨?_,?_,?_,?_,?_,?_,?_,?_,?_,trivial⟩
     ·refine A7 (o:=⟨some 32,_,_,_,_,_⟩) rfl (fun r V hc hf hg hs hb hd=>?_);have x3:r (.tmp 3) = .pointer (some ⟨gl,0,none⟩):=hs 3 (by kernel_rfl);clear hs hd hg;have l0:=A4 (A5 hb HL3.o) 0 _ rfl;have l1:=A4 (A5 hb HL3.o) 1 _ rfl;have l2:=A4 (A5 hb HL3.o) 2 _ rfl;have l3:=A4 (A5 hb HL3.o) 3 _ rfl;go_simp;exact X1
     ·refine A7 (o:=⟨some 33,_,_,_,_,_⟩) rfl (fun r V hc hf hg hs hb hd=>?_);have x1:r (.tmp 1) = .slice ra n rc:=hs 1 (by kernel_rfl);clear hs hd hg;go_simp;exact X1
     ·refine A7 (o:=⟨some 34,_,_,_,_,_⟩) rfl (fun r V hc hf hg hs hb hd=>?_);have x2:r (.tmp 2) = .slice sa k sc:=hs 2 (by kernel_rfl);clear hs hd hg;go_simp;exact X1
     ·refine A7 (o:=⟨some 35,_,_,_,_,_⟩) rfl (fun r V hc hf hg hs hb hd=>?_);have h2:r (.tmp 34) = .slice sa k sc:=hd 2 34 rfl (by kernel_rfl);clear hs hd hg;go_simp;refine(KRF.o V (A6 HB3.o hb)).mono ?_;rintro e w' ⟨ya,yc,rfl,h3,hb3⟩;first | exact⟨_,rfl,hb3,ya,⟨yc,rfl⟩,h3⟩ | exact⟨_,rfl,hb3,ya,yc,rfl,h3⟩
     ·refine A7 (o:=⟨some 36,_,_,_,_,_⟩) rfl (fun r V hc hf hg hs hb hd=>?_);have h0:r (.tmp 32) = .agg #[.slice L.se.a n1 L.se.c,.slice L.po.a n2 L.po.c,.slice L.sg.a n3 L.sg.c,.slice L.rt.a n4 L.rt.c]:=hd 0 32 rfl (by kernel_rfl);have h1:r (.tmp 33) = .slice ra n rc:=hd 1 33 rfl (by kernel_rfl);have h3:(fun v V=>∃ ya yc,v = .slice ya k yc∧As 3 Cx V ya Y) (r (.tmp 35)) V:=hd 3 35 rfl (by kernel_rfl);clear hs hd hg;obtain⟨ya,yc,k3,hr3⟩:=h3;have HW3:=hid hb;have KDV:=hid (KD.o V ya yc (A6 HB3.o hb) hr3);clear hr3 hb;go_simp;refine KDV.o.mono ?_;rintro e w' ⟨u,rfl,h3,hb3⟩;exact⟨_,rfl,hb3,u,rfl,EB HW3.o.size h3⟩
     ·refine A7 (o:=⟨some 31,_,_,_,_,_⟩) rfl (fun r V hc hf hg hs hb hd=>?_);have h4:(fun v V=>∃ u,v = .tuple #[u,.int .i64 er]∧V.ownsRow w3.heap.size 65 68 u N (KS.flatMap Af)) (r (.tmp 36)) V:=hd 4 36 rfl (by kernel_rfl);clear hs hd hg;obtain⟨u,k4,ho⟩:=h4;have HO:=hid ho;clear ho;go_simp;exact⟨VU _ _,u,rfl,HO.o⟩
     ·refine A7 (o:=⟨some 37,_,_,_,_,_⟩) rfl (fun r V hc hf hg hs hb hd=>?_);have h5:(fun v V=>∃ u,v = .tuple #[u,.int .i64 er]∧V.ownsRow w3.heap.size 65 68 u N (KS.flatMap Af)) (r (.tmp 31)) V:=hd 5 31 rfl (by kernel_rfl);clear hs hd hg;obtain⟨u,k5,ho⟩:=h5;have HO:=hid ho;clear ho;go_simp;exact⟨VU _ _,HO.o⟩
     ·refine A7 (o:=⟨some 38,_,_,_,_,_⟩) rfl (fun r V hc hf hg hs hb hd=>?_);have h5:(fun v V=>∃ u,v = .tuple #[u,.int .i64 er]∧V.ownsRow w3.heap.size 65 68 u N (KS.flatMap Af)) (r (.tmp 31)) V:=hd 5 31 rfl (by kernel_rfl);clear hs hd hg;obtain⟨u,k5,ho⟩:=h5;clear ho;go_simp;exact X1
     ·refine A7 (o:=⟨some 9,_,_,_,_,_⟩) rfl (fun r V hc hf hg hs hb hd=>?_);have h6:(fun u V=>V.ownsRow w3.heap.size 65 68 u N (KS.flatMap Af)) (r (.tmp 37)) V:=hd 6 37 rfl (by kernel_rfl);clear hs hd hg;have HO:=hid h6;clear h6;go_simp;exact⟨VU _ _,HO.o⟩
    ·intro a V hb hx;have h0:a.eval (.tmp 32) = .agg #[.slice L.se.a n1 L.se.c,.slice L.po.a n2 L.po.c,.slice L.sg.a n3 L.sg.c,.slice L.rt.a n4 L.rt.c]:=hx 0 32 rfl rfl;have h1:a.eval (.tmp 33) = .slice ra n rc:=hx 1 33 rfl rfl;have h2:a.eval (.tmp 34) = .slice sa k sc:=hx 2 34 rfl rfl;have h3:(fun v V=>∃ ya yc,v = .slice ya k yc∧As 3 Cx V ya Y) (a.eval (.tmp 35)) V:=hx 3 35 rfl rfl;obtain⟨v35,e35⟩:=WY (a.eval (.tmp 35));rw[e35] at h3;have h4:(fun v V=>∃ u,v = .tuple #[u,.int .i64 er]∧V.ownsRow w3.heap.size 65 68 u N (KS.flatMap Af)) (a.eval (.tmp 36)) V:=hx 4 36 rfl rfl;obtain⟨v36,e36⟩:=WY (a.eval (.tmp 36));rw[e36] at h4;have h5:(fun v V=>∃ u,v = .tuple #[u,.int .i64 er]∧V.ownsRow w3.heap.size 65 68 u N (KS.flatMap Af)) (a.eval (.tmp 31)) V:=hx 5 31 rfl rfl;obtain⟨v31,e31⟩:=WY (a.eval (.tmp 31));rw[e31] at h5;have h6:(fun u V=>V.ownsRow w3.heap.size 65 68 u N (KS.flatMap Af)) (a.eval (.tmp 37)) V:=hx 6 37 rfl rfl;obtain⟨v37,e37⟩:=WY (a.eval (.tmp 37));rw[e37] at h6;have h7:a.eval (.tmp 38) = .int .i64 er:=hx 7 38 rfl rfl;have h8:(fun u V=>V.ownsRow w3.heap.size 65 68 u N (KS.flatMap Af)) (a.eval (.tmp 9)) V:=hx 8 9 rfl rfl;obtain⟨v9,e9⟩:=WY (a.eval (.tmp 9));rw[e9] at h8;unfold AD;simp only[Wi,Wj,h0,h1,h2,e35,e36,e31,e37,h7,e9,Act.put,VW,VX,VV];clear h0 h1 h2 e35 e36 e31 e37 h7 e9 hx;obtain⟨ya,yc,rfl,_⟩:=h3;obtain⟨u4,rfl,_⟩:=h4;obtain⟨u5,rfl,_⟩:=h5;obtain⟨b,cb,rfl,hsb⟩:=CJ AS HKN.o h8;have HRB:=hid hsb.row;have HB5:=hid (A6 HB3.o hb);have HL5:=hid (A5 hb HL3.o);have HRA5:=hid (HRA.o.below hb);clear h6 h8 hsb;refine wpAny_ready (rs:=[9]) (by kernel_rfl) (by simp) (AllReady.cons (o:=⟨some 10,_,_,_,_,_⟩) rfl (fun K hK=>?_) AllReady.nil);go_simp;refine hK _ _ ?_;clear hK K hb;refine wpAny_done (by kernel_rfl) ?_ _
     (try simp only[Act.put,VW,VX,VV])
     have hNN:((N:Int) !=(N:Int))=false:=(by simp);have hrr:(er != er)=false:=(by simp);by_cases h0:er=0
     ·subst h0;clear hrr;by_cases hN0:0<N
      ·have dn:(0:Int)<(N:Int):=(by omega);have hb2:b2=true:=(by rw[HEX.o,Wk hN0];rfl);subst hb2;have dnb:decide (0<N)=true:=Wk hN0;clear hN0;have l0:=A4 HL5.o 0 _ rfl;have l1:=A4 HL5.o 1 _ rfl;have l2:=A4 HL5.o 2 _ rfl;have l3:=A4 HL5.o 3 _ rfl;go_wp2_with fail;refine(KE.o _ HB5.o).mono ?_;rintro e w6 ⟨rfl,hb⟩;have HB6:=hid (A6 HB5.o hb);have HRA6:=hid (HRA5.o.below hb);have HRB6:=hid (HRB.o.below hb);clear hb l0 l1 l2 l3;go_upto_region 8 with fail
       go_loopg [11] N (fun g v wr=>∃ i:Nat,i+g=N∧v = .int .i64 (i:Int)∧Below w6.heap.size w6 wr)
       case atStart=>exact⟨0,by omega,rfl,VU _ _⟩
       case round=>
        obtain⟨i,hi,rfl,hbw⟩:=hrel;have HI:=hid hi;have HB:=hid hbw;have HBr:=hid (A6 HB6.o hbw);clear hi hbw;by_cases hlt:i<N
        ·have d1:(0:Int)≤i:=(by omega);have d2:(i:Int)<N:=(by omega);have e1:=B8 hlt (Wd HN20.o (by decide));have HLT:=hid hlt;obtain⟨s,hsi⟩:∃ s,ss[i]?=some s:=⟨_,Wb (by rw[HSL.o];exact hlt)⟩;have HSI:=hid hsi;rcases HRA6.o with hnil | ⟨ab,ao,haa,hca⟩
         ·rw[hnil] at hsi;cases hsi
         rcases HRB6.o with hnil | ⟨bb,bo,hbb,hcb⟩
         ·have:=HKN.o;rw[hnil] at this;simp at this;omega
         have HCA:=hid hca;have HCB:=hid hcb;subst haa;subst hbb;obtain⟨wo,rfl⟩:=X0 wr;have HBo:=hid HB.o;have HBor:=hid HBr.o;clear hlt hsi hca hcb;go_upto_region 12 with fail
         go_loopg [12,13] N (fun g v12 v13 wr=>∃ j:Nat,j+g=N∧v12 = .int .i64 (F4 s KS j:Int)∧v13 = .int .i64 (j:Int)∧Below wo.heap.size wo wr)
         case atStart=>exact⟨0,by omega,by rw[Oj];rfl,rfl,VU _ _⟩
         case round=>
          obtain⟨j,hj,rfl,rfl,hbw⟩:=hrel;have HJ:=hid hj;have HBq:=hid hbw;clear hj hbw;by_cases hlj:j<N
          ·skip
           have d3:(0:Int)≤j:=(by omega);have d4:(j:Int)<N:=(by omega);have e2:=B8 hlj (Wd HN20.o (by decide));have HLJ:=hid hlj;obtain⟨t,htj⟩:∃ t,KS[j]?=some t:=⟨_,Wb (by rw[HKN.o];exact hlj)⟩;have HTJ:=hid htj;obtain⟨bt,hbt⟩:=WY (C4 s t);have heq:=fun w=>(J6 s t w).trans (by rw[hbt])
           have hq:=Oi (s:=s) htj;rw[hbt] at hq;obtain⟨q,hqq⟩:=WY (F4 s KS j);rw[hqq] at hq ⊢;have e3:=B8 (show q<N by have:=Te s KS j;omega) (Wd HN20.o (by decide));have HQ:=hid hq;clear hlj htj hbt hq hqq;go_upto_region 14 with fail
           refine Ad (by kernel_rfl) ?_ ?_
           ·kernel_rfl
           repeat first
            | go_big_quiet_skip
            | (go_big_quiet_want
               with_reducible refine Ae (o:=⟨some 78,_,_,_,_,_⟩) 65 _ rfl _ _ ?_ (fun w' hw'=>E8 (EX HCA.o (A6 HBo.o (A6 HBq.o hw'))) HSI.o) ?_
               ·rfl
               simp only[Act.put,VW,VX,VV];go_big_quiet_on)
            | (go_big_quiet_want
               with_reducible refine Ae (o:=⟨some 82,_,_,_,_,_⟩) 65 _ rfl _ _ ?_ (fun w' hw'=>E8 (EX HCB.o (A6 HBo.o (A6 HBq.o hw'))) HTJ.o) ?_
               ·rfl
               simp only[Act.put,VW,VX,VV];go_big_quiet_on)
            | (go_big_quiet_want;go_big_quiet_op;go_big_quiet_on)
            | (with_reducible apply wpQuiet_step
               intro K hK;go_simp;first
                | (refine hK _ ?_;clear hK K)
                | (apply Exists.intro
                   refine⟨fun w' hw'=>?_,hK _ ?_⟩
                   ·
                    (first
                     | (skip
                        go_simp;first | done | with_reducible exact rfl | with_reducible exact⟨rfl,rfl⟩))
                   clear hK K))
           refine wpQuiet_nil ?_;intro w7 hw7;have HB7:=hid (A6 HBq.o hw7);clear hw7;clear heq d1 d2 d3 d4;cases bt with
           | true=>
             go_wp2_with fail;go_roundg (N - (j+1))
             case rel=>exact⟨j+1,AA HJ.o HLJ.o,by rw[show F4 s KS (j+1)=q+1 from HQ.o];go_num,by go_num,HB7.o⟩
             case measure=>exact Az HJ.o HLJ.o
           | false=>
             go_wp2_with fail;go_roundg (N - (j+1))
             case rel=>exact⟨j+1,AA HJ.o HLJ.o,by rw[show F4 s KS (j+1)=q from HQ.o],by go_num,HB7.o⟩
             case measure=>exact Az HJ.o HLJ.o
          ·have d4:¬ ((j:Int)<(N:Int)):=(by omega);have hne:(((F4 s KS j:Nat):Int) != 1)=false:=by
            rw[show j=KS.length by have:=HKN.o;have:=HJ.o;omega,Oh HEA.o HSAME.o HSI.o];rfl
           clear hlj;go_wp2_with fail;go_roundg (N - (i+1))
           case rel=>exact⟨i+1,AA HI.o HLT.o,by go_num,A6 HBo.o HBq.o⟩
           case measure=>exact Az HI.o HLT.o
        ·skip
         have d2:¬ ((i:Int)<(N:Int)):=(by omega);go_upto_region 18 with fail
         clear d2;go_wp2_with fail;refine(BI _).mono ?_;rintro e wz ⟨rfl,hbz⟩;have HBE:=hid (A6 HBr.o hbz);clear hbz;go_wp2_with fail;go_ret;exact⟨rfl,HBE.o⟩
      ·have dn:¬ (0:Int)<(N:Int):=(by omega);have hb2:b2=false:=(by rw[HEX.o,Wg hN0];rfl);subst hb2;have HN0:Hid (N=0):=hid (by omega);have dnb:decide (0<N)=false:=Wg hN0;clear hN0;have l0:=A4 HL5.o 0 _ rfl;have l1:=A4 HL5.o 1 _ rfl;have l2:=A4 HL5.o 2 _ rfl;have l3:=A4 HL5.o 3 _ rfl;go_wp2_with fail;refine(KE.o _ HB5.o).mono ?_;rintro e w6 ⟨rfl,hb⟩;have HB6:=hid (A6 HB5.o hb);have HRA6:=hid (HRA5.o.below hb);have HRB6:=hid (HRB.o.below hb);clear hb l0 l1 l2 l3;go_upto_region 8 with fail
       go_loopg [11] N (fun g v wr=>∃ i:Nat,i+g=N∧v = .int .i64 (i:Int)∧Below w6.heap.size w6 wr)
       case atStart=>exact⟨0,by omega,rfl,VU _ _⟩
       case round=>
        obtain⟨i,hi,rfl,hbw⟩:=hrel;have HI:=hid hi;have HB:=hid hbw;have HBr:=hid (A6 HB6.o hbw);clear hi hbw;have hz:=HN0.o;have d2:¬ ((i:Int)<(N:Int)):=(by omega);go_upto_region 18 with fail
        clear d2;go_wp2_with fail;refine(BI _).mono ?_;rintro e wz ⟨rfl,hbz⟩;have HBE:=hid (A6 HBr.o hbz);clear hbz;go_wp2_with fail;go_ret;exact⟨rfl,HBE.o⟩
     ·have hr1:(er == 0)=false:=(by rw[beq_eq_false_iff_ne];exact h0);have hr2:decide (er=0)=false:=Wg h0;have hb2:b2=false:=(by rw[HEX.o,hr2];rfl);subst hb2;have HN0:Hid (N=0):=hid (HR0.o h0);clear h0;have l0:=A4 HL5.o 0 _ rfl;have l1:=A4 HL5.o 1 _ rfl;have l2:=A4 HL5.o 2 _ rfl;have l3:=A4 HL5.o 3 _ rfl;go_wp2_with fail;refine(KE.o _ HB5.o).mono ?_;rintro e w6 ⟨rfl,hb⟩;have HB6:=hid (A6 HB5.o hb);have HRA6:=hid (HRA5.o.below hb);have HRB6:=hid (HRB.o.below hb);clear hb l0 l1 l2 l3;go_upto_region 8 with fail
      go_loopg [11] N (fun g v wr=>∃ i:Nat,i+g=N∧v = .int .i64 (i:Int)∧Below w6.heap.size w6 wr)
      case atStart=>exact⟨0,by omega,rfl,VU _ _⟩
      case round=>
       obtain⟨i,hi,rfl,hbw⟩:=hrel;have HI:=hid hi;have HB:=hid hbw;have HBr:=hid (A6 HB6.o hbw);clear hi hbw;have hz:=HN0.o;have d2:¬ ((i:Int)<(N:Int)):=(by omega);go_upto_region 18 with fail
       clear d2;go_wp2_with fail;refine(BI _).mono ?_;rintro e wz ⟨rfl,hbz⟩;have HBE:=hid (A6 HBr.o hbz);clear hbz;go_wp2_with fail;go_ret;exact⟨rfl,HBE.o⟩
theorem walk_ModelReach(v0:Array Value)(a1:Option Addr)(len1 cap1:Nat)(a2:Option Addr)(len2 cap2:Nat)(w:World)(_s0:v0.size=Tryz.prog.cellsOf 27)(w0:Rd Tryz.prog w 27 v0.toList)(w1:Rd Tryz.prog w 36 [.slice a1 len1 cap1])(w2:Rd Tryz.prog w 42 [.slice a2 len2 cap2]) :
 Calls Tryz.prog 4 #[.agg v0,.slice a1 len1 cap1,.slice a2 len2 cap2] w fun e w'=>e = .returned (.bool true)∧Below w.heap.size w w':=by
 obtain⟨L,hv,hL⟩:=TC w0;obtain rfl:v0 = #[L.se.v,L.po.v,L.sg.v,L.rt.v]:=by apply Array.toList_inj.1;rw[hv]
 obtain⟨⟨xa,xc,X⟩,hx,hX,hxo⟩:=Tw w1;obtain⟨⟨ya,yc,Y⟩,hy,hY,_⟩:=U5 w2;unfold Sl.v at hx hy;simp only[List.cons.injEq,Value.slice.injEq,and_true] at hx hy;obtain⟨rfl,rfl,rfl⟩:=hx;obtain⟨rfl,rfl,rfl⟩:=hy;exact F9 L a1 X.length cap1 a2 Y.length cap2 X Y w hL hX rfl hxo hY rfl
end Go.Proofs.YtpohoannggdbjaaGreat
