/- Ours: IxTd; IxR. -/
import Derived.Test.YtpohoannggdbjaaGreatIxT
import Derived.Test.YtpohoannggdbjaaGreatIxL
import Derived.Test.YtpohoannggdbjaaGreatMA
import Derived.Test.YtpohoannggdbjaaGreatIxA
import Derived.Test.YtpohoannggdbjaaGreatRef07
namespace Go.Proofs.YtpohoannggdbjaaGreat
open Lib (hid)
open Go.RowKit
set_option maxRecDepth 100000
theorem NQ(x y:Nat):Tryz.prog.built 65 [(0,.int .u64 (x:Int)),(4,.int .u32 (y:Int))]=some (Ai ⟨x,0,0,fun _=>0,y⟩).toArray:=by
 unfold Ai Cs;kernel_rfl
def MZ(N P k:Nat)(s:St):Nat→Nat:=fun n=>if n<k then (AD N P s).tm n else 0
def FQ(N P k:Nat)(s:St):St:=⟨s.lk &&& (pw N - 1),s.us &&& (s.lk &&& (pw N - 1)),s.ca &&& (s.lk &&& (pw N - 1)),MZ N P k s,s.pt &&& (pw P - 1)⟩
theorem Nc(N P:Nat)(s:St)(n:Nat):(AD N P s).tm n=if Aa (s.ca &&& (s.lk &&& (pw N - 1))) n then min (s.tm n) 20 else 0:=rfl
theorem Me{N P k k':Nat}{s:St}{f:Nat→Nat}(h:MZ N P k' s=f):FQ N P k' s={ FQ N P k s with tm:=f }:=by unfold FQ;rw[h]
theorem Mf(N P:Nat)(s:St):FQ N P 0 s=⟨s.lk &&& (pw N - 1),s.us &&& (s.lk &&& (pw N - 1)),s.ca &&& (s.lk &&& (pw N - 1)),fun _=>0,s.pt &&& (pw P - 1)⟩:=by
 have h:MZ N P 0 s=fun _=>0:=by funext n;unfold MZ;rw[if_neg (by omega)]
 unfold FQ;rw[h]
theorem QU{N P k:Nat}{s:St}(h:Aa (s.ca &&& (s.lk &&& (pw N - 1))) k=false):FQ N P (k+1) s=FQ N P k s:=by
 have e:MZ N P (k+1) s=MZ N P k s:=by
  funext n
  unfold MZ;by_cases h1:n<k
  ·rw[if_pos h1,if_pos (by omega)]
  ·rw[if_neg h1];by_cases h2:n=k
   ·subst h2;rw[if_pos (by omega),Nc,h];rfl
   ·rw[if_neg (by omega)]
 unfold FQ;rw[e]
theorem Qb(N P k:Nat)(s:St):(FQ N P k s).tm=MZ N P k s:=rfl
theorem OE{N P k:Nat}{s:St}(h:Aa (s.ca &&& (s.lk &&& (pw N - 1))) k=true):FQ N P (k+1) s={ FQ N P k s with tm:=BU (FQ N P k s).tm k (min (s.tm k) 20) }:=by
 refine Me ?_;rw[Qb]
 funext n
 unfold BU MZ;by_cases h2:n=k
 ·subst h2;rw[if_pos (by omega),if_pos rfl,Nc,h];rfl
 ·rw[if_neg h2];by_cases h1:n<k
  ·rw[if_pos (by omega),if_pos h1]
  ·rw[if_neg (by omega),if_neg h1]
theorem OS(N P:Nat)(s:St):FQ N P N s=AD N P s:=by
 have h:MZ N P N s=(AD N P s).tm:=by
  funext n
  unfold MZ;by_cases h1:n<N
  ·rw[if_pos h1]
  ·rw[if_neg h1,Nc];have:Aa (s.ca &&& (s.lk &&& (pw N - 1))) n=false:=by rw[AX,Nat.testBit_and,Eu];simp[h1]
   rw[this];rfl
 unfold FQ;rw[h];rfl
theorem Pg(N P k:Nat)(s:St):(FQ N P k s).ca=s.ca &&& (s.lk &&& (pw N - 1)):=rfl
theorem ON{n:Nat}(h:n≤64):pw n - 1<18446744073709551616:=by
 have:pw n≤2 ^ 64:=Nat.pow_le_pow_right (by omega) h;have h0:0<pw n:=D5 n;omega
theorem KE{n:Nat}(h:n≤32):pw n - 1<4294967296:=by
 have:pw n≤2 ^ 32:=Nat.pow_le_pow_right (by omega) h;have h0:0<pw n:=D5 n;omega
attribute [local irreducible] Sl.v Aa pw Ab Ax C4 Ai BG Cs Bi Bf B7 Cr BO AT Bk Bw BD Bh Bg BQ Bj BI BC BM AD AS AR Bc BB Bq CT Mc.tb BU AQ Aq AW
attribute [local irreducible] B6 CQ Bs BN Rt.tr Rt.nd Aw BS As
attribute [local irreducible] DB
attribute [local irreducible] FQ
set_option maxHeartbeats 16000000 in
theorem Mv(L:AM)(s:St)(w:World)(hL:B5 w L)(hc:(Aq L).1=0)(hs:s.ok) :
 Calls Tryz.prog 41 #[.agg #[L.se.v,L.po.v,L.sg.v,L.rt.v],.agg (Ai s).toArray] w fun e w'=>e = .returned (.agg (Ai (AD L.rt.l.length L.po.l.length s)).toArray)∧Below w.heap.size w w':=by
 have HMAY:Hid (AQ L=true):=hid (AP hc);have HS4:Hid (L.rt.l.length≤64):=hid (Ay (AP hc)).2.2.2;have HCK:=hid hc;have HS2:Hid (L.po.l.length≤32):=hid (Ay (AP hc)).2.1;obtain⟨n1,hn1⟩:∃ n,L.se.l.length=n:=⟨_,rfl⟩;obtain⟨n2,hn2⟩:∃ n,L.po.l.length=n:=⟨_,rfl⟩;obtain⟨n3,hn3⟩:∃ n,L.sg.l.length=n:=⟨_,rfl⟩;obtain⟨n4,hn4⟩:∃ n,L.rt.l.length=n:=⟨_,rfl⟩;have HLW:=hid hL;have HN1:=hid hn1;have HN2:=hid hn2;have HN3:=hid hn3;have HN4:=hid hn4;rw[hn4] at HS4;rw[hn2] at HS2;have KF4:Hid (∀ V,Calls Tryz.prog 72 #[.int .i64 (n4:Int)] V fun e w'=>e = .returned (.int .u64 ((pw n4 - 1:Nat):Int))∧Below V.heap.size V w'):=hid (fun V=>(Dp n4 n4 V (by have:=HS4.out;omega)).mono (fun _ _ h=>⟨h.1,h.2 ▸ Below.refl _ _⟩));have KF2:Hid (∀ V,Calls Tryz.prog 72 #[.int .i64 (n2:Int)] V fun e w'=>e = .returned (.int .u64 ((pw n2 - 1:Nat):Int))∧Below V.heap.size V w'):=hid (fun V=>(Dp n2 n2 V (by have:=HS2.out;omega)).mono (fun _ _ h=>⟨h.1,h.2 ▸ Below.refl _ _⟩));have HW2:Hid (IntKind.u32.wrap ((pw n2 - 1:Nat):Int)=((pw n2 - 1:Nat):Int)):=hid (by have:=KE HS2.out;rw[IntKind.wrap_u32];omega);have HT0:Hid (FQ n4 n2 0 s=⟨s.lk &&& (pw n4 - 1),s.us &&& (s.lk &&& (pw n4 - 1)),s.ca &&& (s.lk &&& (pw n4 - 1)),fun _=>0,s.pt &&& (pw n2 - 1)⟩):=hid (Mf n4 n2 s);have hal:s.lk &&& (pw n4 - 1)<18446744073709551616:=Nat.lt_of_le_of_lt Nat.and_le_left hs.lk;have HA0:Hid (bits .and .u64 (s.lk:Int) ((pw n4 - 1:Nat):Int)=((s.lk &&& (pw n4 - 1):Nat):Int)):=hid (u64_and_nat _ _ hs.lk (ON HS4.out));have HP0:Hid (bits .and .u32 (s.pt:Int) ((pw n2 - 1:Nat):Int)=((s.pt &&& (pw n2 - 1):Nat):Int)):=hid (u32_and_nat _ _ hs.pt (KE HS2.out));obtain⟨P0,hP0⟩:∃ P,s.pt &&& (pw n2 - 1)=P:=⟨_,rfl⟩;have HCE0:Hid (s.ca &&& (s.lk &&& (pw n4 - 1))=s.ca &&& (s.lk &&& (pw n4 - 1))):=hid rfl;obtain⟨A0,hA0⟩:∃ P,s.lk &&& (pw n4 - 1)=P:=⟨_,rfl⟩;rw[hA0] at HA0 HT0 hal;rw[hP0] at HP0 HT0;have HU0:Hid (bits .and .u64 (s.us:Int) (A0:Int)=((s.us &&& A0:Nat):Int)):=hid (u64_and_nat _ _ hs.us hal);have HC0:Hid (bits .and .u64 (s.ca:Int) (A0:Int)=((s.ca &&& A0:Nat):Int)):=hid (u64_and_nat _ _ hs.ca hal);have HCL:Hid (s.ca &&& A0<18446744073709551616):=hid (Nat.lt_of_le_of_lt Nat.and_le_left hs.ca);obtain⟨U0,hU0⟩:∃ P,s.us &&& A0=P:=⟨_,rfl⟩;obtain⟨C0,hC0⟩:∃ P,s.ca &&& A0=P:=⟨_,rfl⟩;rw[hU0] at HU0 HT0;rw[hC0] at HC0 HT0 HCL;have HCE:Hid (s.ca &&& (s.lk &&& (pw n4 - 1))=C0):=hid (by rw[hA0];exact hC0);rw[hn4,hn2];rw[Ak hn1,Ak hn2,Ak hn3,Ak hn4];clear hn1 hn2 hn3 hn4 hL hc hs hal hP0 hA0 hU0 hC0 HCE0;go_enter Tryz.func41,Tryz.ntmps41;go_upto_region 1 with fail
 rw[BF];refine Ap (os:=[.cells #[.slice L.se.a n1 L.se.c,.slice L.po.a n2 L.po.c,.slice L.sg.a n3 L.sg.c,.slice L.rt.a n4 L.rt.c] 27,.cells (Ai s).toArray 65,.cells (Ai zS).toArray 65]) (w0:=w) rfl ?_;intro W hat hbw;obtain⟨gl,hgl⟩:∃ g,g=w.heap.size:=⟨_,rfl⟩;have q0:=hat 0 _ rfl;obtain⟨gs,hgs⟩:∃ g,g=gl+1:=⟨_,rfl⟩;have q1:=hat 1 _ rfl;obtain⟨gr,hgr⟩:∃ g,g=gs+1:=⟨_,rfl⟩;have q2:=hat 2 _ rfl;rw[Nat.add_zero,← hgl] at q0;rw[← hgl,← hgs] at q1;rw[← hgl,show gl+2=gr by omega] at q2;rw[← hgl,← hgs,← hgr];have HQl:=hid q0;have HQs:=hid q1;have HQr:=hid q2;have HB0:=hid hbw;have HGR:Hid (w.heap.size≤gr):=hid (by omega);clear hat hbw q0 q1 q2 hgl hgs hgr;refine Ah (by kernel_rfl) [17] 20 [0,1,2,3,4,5,6,7,8,9,10,11,12,13,14,15,16] [7,8,9,10,11,12,13,14,15,16,17,18,19,20,21,22,5] #[true,true,true,true,true,true,true,true,true,true,true,true,true,true,true,true,true,false] 1 [(fun v _=>v = .pointer (some ⟨gs,0,none⟩)),(fun v _=>v = .int .u64 (s.lk:Int)),(fun v _=>v = .pointer (some ⟨gl,3,none⟩)),(fun v _=>v = .slice L.rt.a n4 L.rt.c),(fun v _=>v = .int .i64 (n4:Int)),(fun v _=>v = .int .u64 ((pw n4 - 1:Nat):Int)),(fun v _=>v = .int .u64 ((A0:Nat):Int)),(fun v _=>v = .pointer (some ⟨gs,67,none⟩)),(fun v _=>v = .int .u32 (s.pt:Int)),(fun v _=>v = .pointer (some ⟨gl,1,none⟩)),(fun v _=>v = .slice L.po.a n2 L.po.c),(fun v _=>v = .int .i64 (n2:Int)),(fun v _=>v = .int .u64 ((pw n2 - 1:Nat):Int)),(fun v _=>v = .int .u32 ((pw n2 - 1:Nat):Int)),(fun v _=>v = .int .u32 ((P0:Nat):Int)),(fun v _=>v = .agg (Ai ⟨A0,0,0,fun _=>0,P0⟩).toArray),(fun v V=>∃ g,v = .pointer (some ⟨g,0,none⟩)∧V.heap[g]?=some (.cells (Ai zS).toArray 65)∧W.heap.size≤g),(fun _ _=>True)] (by kernel_rfl) (by kernel_rfl) (by kernel_rfl) (by kernel_rfl) (by kernel_rfl) rfl (by kernel_rfl) rfl ?_ ?_ ?_
 ·exact⟨A7 _,A7 _,A7 _,A7 _,A7 _,A7 _,A7 _,A7 _,A7 _,A7 _,A7 _,A7 _,A7 _,A7 _,A7 _,A7 _,(fun v W W2 h hb=>by obtain⟨g,h1,h2,h3⟩:=h;exact⟨g,h1,A5 hb h2,h3⟩),Al,trivial⟩
 ·refine⟨?_,?_,?_,?_,?_,?_,?_,?_,?_,?_,?_,?_,?_,?_,?_,?_,?_,trivial⟩
  ·refine A6 (o:=⟨some 7,_,_,_,_,_⟩) rfl (fun r V hc hf hg hs hb hd=>?_);have x3:r (.tmp 3) = .pointer (some ⟨gs,0,none⟩):=hs 3 (by kernel_rfl);clear hs hd hg;go_simp;exact⟨Below.refl _ _,rfl⟩
  ·refine A6 (o:=⟨some 8,_,_,_,_,_⟩) rfl (fun r V hc hf hg hs hb hd=>?_);have h0:r (.tmp 7) = .pointer (some ⟨gs,0,none⟩):=hd 0 7 rfl (by kernel_rfl);clear hs hd hg;have l:=A4 (A5 hb HQs.out) 0 _ (Dl s);go_simp;exact⟨Below.refl _ _,rfl⟩
  ·refine A6 (o:=⟨some 9,_,_,_,_,_⟩) rfl (fun r V hc hf hg hs hb hd=>?_);have x2:r (.tmp 2) = .pointer (some ⟨gl,0,none⟩):=hs 2 (by kernel_rfl);clear hs hd hg;go_simp;exact⟨Below.refl _ _,rfl⟩
  ·refine A6 (o:=⟨some 10,_,_,_,_,_⟩) rfl (fun r V hc hf hg hs hb hd=>?_);have h2:r (.tmp 9) = .pointer (some ⟨gl,3,none⟩):=hd 2 9 rfl (by kernel_rfl);clear hs hd hg;have l:=A4 (A5 hb HQl.out) 3 _ (rfl);go_simp;exact⟨Below.refl _ _,rfl⟩
  ·refine A6 (o:=⟨some 11,_,_,_,_,_⟩) rfl (fun r V hc hf hg hs hb hd=>?_);have h3:r (.tmp 10) = .slice L.rt.a n4 L.rt.c:=hd 3 10 rfl (by kernel_rfl);clear hs hd hg;go_simp;exact⟨Below.refl _ _,rfl⟩
  ·refine A6 (o:=⟨some 12,_,_,_,_,_⟩) rfl (fun r V hc hf hg hs hb hd=>?_);have h4:r (.tmp 11) = .int .i64 (n4:Int):=hd 4 11 rfl (by kernel_rfl);clear hs hd hg;go_simp;refine(KF4.out V).mono ?_;rintro e w' ⟨rfl,h9⟩;exact⟨_,rfl,h9,rfl⟩
  ·refine A6 (o:=⟨some 13,_,_,_,_,_⟩) rfl (fun r V hc hf hg hs hb hd=>?_);have h1:r (.tmp 8) = .int .u64 (s.lk:Int):=hd 1 8 rfl (by kernel_rfl);have h5:r (.tmp 12) = .int .u64 ((pw n4 - 1:Nat):Int):=hd 5 12 rfl (by kernel_rfl);clear hs hd hg;have ho1:=HA0.out;go_simp;exact⟨Below.refl _ _,rfl⟩
  ·refine A6 (o:=⟨some 14,_,_,_,_,_⟩) rfl (fun r V hc hf hg hs hb hd=>?_);have x3:r (.tmp 3) = .pointer (some ⟨gs,0,none⟩):=hs 3 (by kernel_rfl);clear hs hd hg;go_simp;exact⟨Below.refl _ _,rfl⟩
  ·refine A6 (o:=⟨some 15,_,_,_,_,_⟩) rfl (fun r V hc hf hg hs hb hd=>?_);have h7:r (.tmp 14) = .pointer (some ⟨gs,67,none⟩):=hd 7 14 rfl (by kernel_rfl);clear hs hd hg;have l:=A4 (A5 hb HQs.out) 67 _ (E2 s);go_simp;exact⟨Below.refl _ _,rfl⟩
  ·refine A6 (o:=⟨some 16,_,_,_,_,_⟩) rfl (fun r V hc hf hg hs hb hd=>?_);have x2:r (.tmp 2) = .pointer (some ⟨gl,0,none⟩):=hs 2 (by kernel_rfl);clear hs hd hg;go_simp;exact⟨Below.refl _ _,rfl⟩
  ·refine A6 (o:=⟨some 17,_,_,_,_,_⟩) rfl (fun r V hc hf hg hs hb hd=>?_);have h9:r (.tmp 16) = .pointer (some ⟨gl,1,none⟩):=hd 9 16 rfl (by kernel_rfl);clear hs hd hg;have l:=A4 (A5 hb HQl.out) 1 _ (rfl);go_simp;exact⟨Below.refl _ _,rfl⟩
  ·refine A6 (o:=⟨some 18,_,_,_,_,_⟩) rfl (fun r V hc hf hg hs hb hd=>?_);have h10:r (.tmp 17) = .slice L.po.a n2 L.po.c:=hd 10 17 rfl (by kernel_rfl);clear hs hd hg;go_simp;exact⟨Below.refl _ _,rfl⟩
  ·refine A6 (o:=⟨some 19,_,_,_,_,_⟩) rfl (fun r V hc hf hg hs hb hd=>?_);have h11:r (.tmp 18) = .int .i64 (n2:Int):=hd 11 18 rfl (by kernel_rfl);clear hs hd hg;go_simp;refine(KF2.out V).mono ?_;rintro e w' ⟨rfl,h9⟩;exact⟨_,rfl,h9,rfl⟩
  ·refine A6 (o:=⟨some 20,_,_,_,_,_⟩) rfl (fun r V hc hf hg hs hb hd=>?_);have h12:r (.tmp 19) = .int .u64 ((pw n2 - 1:Nat):Int):=hd 12 19 rfl (by kernel_rfl);clear hs hd hg;have hw:=HW2.out;go_simp;exact⟨Below.refl _ _,rfl⟩
  ·refine A6 (o:=⟨some 21,_,_,_,_,_⟩) rfl (fun r V hc hf hg hs hb hd=>?_);have h8:r (.tmp 15) = .int .u32 (s.pt:Int):=hd 8 15 rfl (by kernel_rfl);have h13:r (.tmp 20) = .int .u32 ((pw n2 - 1:Nat):Int):=hd 13 20 rfl (by kernel_rfl);clear hs hd hg;have ho1:=HP0.out;go_simp;exact⟨Below.refl _ _,rfl⟩
  ·refine A6 (o:=⟨some 22,_,_,_,_,_⟩) rfl (fun r V hc hf hg hs hb hd=>?_);have h6:r (.tmp 13) = .int .u64 ((A0:Nat):Int):=hd 6 13 rfl (by kernel_rfl);have h14:r (.tmp 21) = .int .u32 ((P0:Nat):Int):=hd 14 21 rfl (by kernel_rfl);clear hs hd hg;refine EG (o:=⟨some 22,_,_,_,_,_⟩) 65 _ rfl _ ?_ _ (NQ A0 P0) rfl;simp only[List.map_toArray,List.map_cons,List.map_nil,h6,h14]
  ·refine A6 (o:=⟨some 5,_,_,_,_,_⟩) rfl (fun r V hc hf hg hs hb hd=>?_);clear hs hd hg;go_simp;rw[BF];exact⟨Ac V _,⟨_,rfl,Ao V _ (Below.refl _ _),hb.size⟩⟩
 ·intro a V hb hx;have h0:a.eval (.tmp 7) = .pointer (some ⟨gs,0,none⟩):=hx 0 7 rfl rfl;have h1:a.eval (.tmp 8) = .int .u64 (s.lk:Int):=hx 1 8 rfl rfl;have h2:a.eval (.tmp 9) = .pointer (some ⟨gl,3,none⟩):=hx 2 9 rfl rfl;have h3:a.eval (.tmp 10) = .slice L.rt.a n4 L.rt.c:=hx 3 10 rfl rfl;have h4:a.eval (.tmp 11) = .int .i64 (n4:Int):=hx 4 11 rfl rfl;have h5:a.eval (.tmp 12) = .int .u64 ((pw n4 - 1:Nat):Int):=hx 5 12 rfl rfl;have h6:a.eval (.tmp 13) = .int .u64 ((A0:Nat):Int):=hx 6 13 rfl rfl;have h7:a.eval (.tmp 14) = .pointer (some ⟨gs,67,none⟩):=hx 7 14 rfl rfl;have h8:a.eval (.tmp 15) = .int .u32 (s.pt:Int):=hx 8 15 rfl rfl;have h9:a.eval (.tmp 16) = .pointer (some ⟨gl,1,none⟩):=hx 9 16 rfl rfl;have h10:a.eval (.tmp 17) = .slice L.po.a n2 L.po.c:=hx 10 17 rfl rfl;have h11:a.eval (.tmp 18) = .int .i64 (n2:Int):=hx 11 18 rfl rfl;have h12:a.eval (.tmp 19) = .int .u64 ((pw n2 - 1:Nat):Int):=hx 12 19 rfl rfl;have h13:a.eval (.tmp 20) = .int .u32 ((pw n2 - 1:Nat):Int):=hx 13 20 rfl rfl;have h14:a.eval (.tmp 21) = .int .u32 ((P0:Nat):Int):=hx 14 21 rfl rfl;have h15:a.eval (.tmp 22) = .agg (Ai ⟨A0,0,0,fun _=>0,P0⟩).toArray:=hx 15 22 rfl rfl;have h16:(fun v V=>∃ g,v = .pointer (some ⟨g,0,none⟩)∧V.heap[g]?=some (.cells (Ai zS).toArray 65)∧W.heap.size≤g) (a.eval (.tmp 5)) V:=hx 16 5 rfl rfl;obtain⟨v5,e5⟩:∃ v,a.eval (.tmp 5)=v:=⟨_,rfl⟩;rw[e5] at h16;unfold AA;simp only[List.foldl_cons,List.foldl_nil,h0,h1,h2,h3,h4,h5,h6,h7,h8,h9,h10,h11,h12,h13,h14,h15,e5,Act.put,List.setIfInBounds_toArray,List.set_cons_zero,List.set_cons_succ];clear h0 h1 h2 h3 h4 h5 h6 h7 h8 h9 h10 h11 h12 h13 h14 h15 e5 hx;obtain⟨g5,rfl,hq5,hg5⟩:=h16;have HBV:=hid (A8 HB0.out hb);have HG5:Hid (W.heap.size≤g5∧w.heap.size≤g5∧gr≠g5∧gs≠g5∧gl≠g5):=hid (by have h1:=Af HQr.out;have h2:=Af HQs.out;have h3:=Af HQl.out;have h4:=HB0.out.size;omega);have HQ5:=hid hq5;have HSV:=hid (A5 hb HQs.out);have HLV:=hid (A5 hb HQl.out);have HRV:=hid (A5 hb HQr.out);clear hb hq5 hg5;obtain⟨hst,hq9,ho9⟩:=AN (s':=⟨A0,0,0,fun _=>0,P0⟩) HQ5.out;have HST:=hid hst;have HO1:=hid hq9;have HS1:=hid (Ag.keep ho9 HG5.out.2.2.2.1 HSV.out);have HL1:=hid (Ag.keep ho9 HG5.out.2.2.2.2 HLV.out);have HR1:=hid (Ag.keep ho9 HG5.out.2.2.1 HRV.out);have HB1:Hid (Below w.heap.size w (V.setCells g5 0 (Ai ⟨A0,0,0,fun _=>0,P0⟩))):=hid (Ag.below HBV.out HG5.out.2.1 HBV.out.size ho9);obtain⟨V1,hV1⟩:∃ V',V'=V.setCells g5 0 (Ai ⟨A0,0,0,fun _=>0,P0⟩):=⟨_,rfl⟩;rw[← hV1] at HST HO1 HS1 HL1 HR1 HB1;clear hst hq9 ho9 hV1 HQ5 HSV HLV HRV HBV;refine wpAny_ready (rs:=[17]) (by kernel_rfl) (by simp) (AllReady.cons (o:=⟨none,_,_,_,_,_⟩) rfl (fun K hK=>?_) AllReady.nil);refine CG (w':=V1) ?_ ?_
  ·refine Cu 65 (.tmp 5) (.tmp 22) rfl (vx:=.pointer (some ⟨g5,0,none⟩)) (vy:=.agg (Ai ⟨A0,0,0,fun _=>0,P0⟩).toArray) ?_ ?_ HST.out
   ·go_simp
   ·go_simp
  refine hK _ _ ?_;clear hK K HST;refine wpAny_done (by kernel_rfl) ?_ _;have s1:=A4 HS1.out 1 _ (EW s);have o0:=A4 HO1.out 0 _ (Dl _);have o1:=A4 HO1.out 1 _ (EW _);have f1:=An HO1.out 1;have hl:=Af HO1.out;have ha:=HU0.out;go_upto_region 3 with fail
  clear s1 o0 o1 f1 hl ha;refine BP ?_;intro V2 hV2;have ho:Ag g5 V1 V2:=by rw[hV2];exact(Ag.refl g5 V1).setCell rfl _
  have HO2:Hid (V2.heap[g5]?=some (.cells (Ai ⟨A0,U0,0,fun _=>0,P0⟩).toArray 65)):=hid (by rw[hV2];exact(AH HO1.out 1 _).trans (congrArg (fun C=>some (Obj.cells C 65)) (Kh _ _)));have HS2:=hid (Ag.keep ho HG5.out.2.2.2.1 HS1.out);have HL2:=hid (Ag.keep ho HG5.out.2.2.2.2 HL1.out);have HR2:=hid (Ag.keep ho HG5.out.2.2.1 HR1.out);have HB2:Hid (Below w.heap.size w V2):=hid (Ag.below HB1.out HG5.out.2.1 HB1.out.size ho);clear hV2 ho HO1 HS1 HL1 HR1 HB1;have s1:=A4 HS2.out 2 _ (Ds s);have o0:=A4 HO2.out 0 _ (Dl _);have o1:=A4 HO2.out 2 _ (Ds _);have f1:=An HO2.out 2;have hl:=Af HO2.out;have ha:=HC0.out;go_upto_region 4 with fail
  clear s1 o0 o1 f1 hl ha;refine BP ?_;intro V3 hV3;have ho:Ag g5 V2 V3:=by rw[hV3];exact(Ag.refl g5 V2).setCell rfl _
  have HO3:Hid (V3.heap[g5]?=some (.cells (Ai ⟨A0,U0,C0,fun _=>0,P0⟩).toArray 65)):=hid (by rw[hV3];exact(AH HO2.out 2 _).trans (congrArg (fun C=>some (Obj.cells C 65)) (Iy _ _)));have HS3:=hid (Ag.keep ho HG5.out.2.2.2.1 HS2.out);have HL3:=hid (Ag.keep ho HG5.out.2.2.2.2 HL2.out);have HR3:=hid (Ag.keep ho HG5.out.2.2.1 HR2.out);have HB3:Hid (Below w.heap.size w V3):=hid (Ag.below HB2.out HG5.out.2.1 HB2.out.size ho);clear hV3 ho HO2 HS2 HL2 HR2 HB2;have HO4:Hid (V3.heap[g5]?=some (.cells (Ai (FQ n4 n2 0 s)).toArray 65)):=hid (by rw[HT0.out];exact HO3.out);go_upto_region 5 with fail
  go_loopg [6] n4 (fun g v wr=>∃ i:Nat,i+g=n4∧v = .int .i64 (i:Int)∧wr.heap[g5]?=some (.cells (Ai (FQ n4 n2 i s)).toArray 65)∧WX (fun b=>b=g5) V3 wr)
  case atStart=>exact⟨0,by omega,rfl,HO4.out,WX.refl _ _⟩
  case round=>
   obtain⟨i,hi,rfl,hq,hw⟩:=hrel;have HI:=hid hi;have HOI:=hid hq;have HWX:=hid hw;have HLI:=hid (hw.keep HG5.out.2.2.2.2 HL3.out);have HSI:=hid (hw.keep HG5.out.2.2.2.1 HS3.out);have l3:=A4 HLI.out 3 _ rfl;clear hi hq hw;by_cases hlt:i<n4
   ·have d1:(0:Int)≤i:=by omega
    have d2:(i:Int)<n4:=by omega
    have e1:=Bp hlt (Nat.le_trans HS4.out (by decide));have HLT:=hid hlt;obtain⟨bc,hbc⟩:∃ b,Aa C0 i=b:=⟨_,rfl⟩;have KHC:Hid (∀ V,Calls Tryz.prog 43 #[.int .u64 (C0:Int),.int .i64 (i:Int)] V fun e w'=>e = .returned (.bool bc)∧Below V.heap.size V w'):=hid (fun V=>Ct bc C0 i V (by have:=HLT.out;have:=HS4.out;omega) HCL.out hbc);have HBC:Hid (Aa (s.ca &&& (s.lk &&& (pw n4 - 1))) i=bc):=hid (by rw[HCE.out];exact hbc);have c2:=A4 HOI.out 2 _ (Ds _);rw[Pg,HCE.out] at c2;clear hbc hlt;go_wp2_with fail;refine(KHC.out _).mono ?_;rintro e w2 ⟨rfl,hb2⟩;have HO2:=hid (A5 hb2 HOI.out);have HS2:=hid (A5 hb2 HSI.out);have HX2:=hid (HWX.out.trans (WX.of_below hb2));clear hb2 c2 KHC;cases bc with
    | false=>
      go_wp2_with fail;go_roundg (n4 - (i+1))
      case rel=>exact⟨i+1,AK HI.out HLT.out,by go_num,by rw[QU HBC.out];exact HO2.out,HX2.out⟩
      case measure=>exact AL HI.out HLT.out
    | true=>
      have HI64:Hid (i<64):=hid (by have:=HLT.out;have:=HS4.out;omega);have s3:=A4 HS2.out (3+i) _ (DC _ HI64.out);have o3:=A4 HO2.out (3+i) _ (DC _ HI64.out);have f3:=An HO2.out (3+i);have hl:=Af HO2.out;have d3:(i:Int)<64:=by have:=HI64.out;omega
      obtain⟨t,ht⟩:∃ t,s.tm i=t:=⟨_,rfl⟩;rw[ht] at s3;have hm:min (t:Int) 20=((min t 20:Nat):Int):=by omega
      have HTT:=hid ht;clear ht;go_upto_region 6 with fail
      clear s3 o3 f3 hl d3 hm;refine BP ?_;intro VZ hVZ;have ho:Ag g5 w2 VZ:=by rw[hVZ];exact(Ag.refl g5 w2).setCell rfl _
      have HOZ:Hid (VZ.heap[g5]?=some (.cells (Ai (FQ n4 n2 (i+1) s)).toArray 65)):=hid (by rw[hVZ,OE HBC.out,HTT.out];exact(AH HO2.out (3+i) _).trans (congrArg (fun C=>some (Obj.cells C 65)) (Es _ _ HI64.out)));have HXZ:=hid (HX2.out.trans (WX.of_only (X:=fun b=>b=g5) ho rfl));clear hVZ ho;go_wp2_with fail;go_roundg (n4 - (i+1))
      case rel=>exact⟨i+1,AK HI.out HLT.out,by go_num,HOZ.out,HXZ.out⟩
      case measure=>exact AL HI.out HLT.out
   ·have d2:¬ ((i:Int)<n4):=by omega
    have HOE:Hid (wr.heap[g5]?=some (.cells (Ai (AD n4 n2 s)).toArray 65)):=hid (by rw[← OS,show FQ n4 n2 n4 s=FQ n4 n2 i s by rw[show n4=i by have:=HI.out;omega]];exact HOI.out);have HRE:=hid (HWX.out.keep HG5.out.2.2.1 HR3.out);have HBE:Hid (Below w.heap.size w wr):=hid (WX.below HB3.out HWX.out (fun b hb=>by rw[hb];exact HG5.out.2.1));clear hlt;go_upto_region 9 with fail
    clear l3 d2;have HLD:=hid (Az HOE.out);obtain⟨hst,hq9,ho9⟩:=AN (s':=(AD n4 n2 s)) HRE.out;have HST:=hid hst;have HQ9:=hid hq9;have HB9:Hid (Below w.heap.size w (wr.setCells gr 0 (Ai (AD n4 n2 s)))):=hid (Ag.below HBE.out HGR.out HBE.out.size ho9);clear hst hq9 ho9;go_wp2_with (first
     | ((with_reducible refine Aj (op:=⟨some 54,_,_,_,_,_⟩) rfl 65 _ rfl _ _ ?_ HLD.out ?_);(· rfl))
     | ((with_reducible refine Am (op:=⟨none,.store 65 _ _,_,_,_,_⟩) rfl 65 _ _ rfl _ _ ?_ ?_ _ HST.out ?_);(· rfl);(· rfl)))
    (try simp only[Exit.inBlock,Exit.then])
    refine bodyPost_ret (results_cell_row (g:=gr) rfl _ _ 65 (Ai (AD n4 n2 s)).toArray (0,0) _ rfl HQ9.out Tryz.underlying65 rfl (by rw[List.size_toArray,AU];exact Bd)) rfl ?_;exact⟨rfl,HB9.out⟩
end Go.Proofs.YtpohoannggdbjaaGreat
namespace Go.Proofs.YtpohoannggdbjaaGreat
open Lib (hid)
open Go.RowKit
def AB(P R:Nat)(c:Nat × Int):Bool:=decide ((c.1=1∨c.1=2)∧0≤c.2∧c.2<R∨c.1=3∧0≤c.2∧c.2<P)
def BY(S P R o n r:Nat)(l:List (Nat × Int)):Bool:=decide (o<2 ^ S) && decide (n ||| r<2 ^ P) && decide (l.length≤8) && l.all (AB P R)
theorem LD{S P R o n r:Nat}{l:List (Nat × Int)}(h:¬ o<2 ^ S):BY S P R o n r l=false:=by simp[BY,h]
theorem L4{S P R o n r:Nat}{l:List (Nat × Int)}(h:¬ n ||| r<2 ^ P):BY S P R o n r l=false:=by simp[BY,h]
theorem Lq{S P R o n r:Nat}{l:List (Nat × Int)}(h:¬ l.length≤8):BY S P R o n r l=false:=by simp[BY,h]
theorem Cn{S P R o n r:Nat}{l:List (Nat × Int)}{k:Nat}{c:Nat × Int}(hk:l[k]?=some c)(h:AB P R c=false):BY S P R o n r l=false:=by
 have:l.all (AB P R)=false:=by
  rw[List.all_eq_false];exact⟨c,List.mem_of_getElem? hk,by simp[h]⟩
 simp[BY,this]
theorem Ny{S P R o n r:Nat}{l:List (Nat × Int)}(h1:o<2 ^ S)(h2:n ||| r<2 ^ P)(h3:l.length≤8)(h4:∀(k:Nat) (c:Nat × Int),l[k]?=some c→AB P R c=true):BY S P R o n r l=true:=by
 have:l.all (AB P R)=true:=by
  rw[List.all_eq_true];intro c hc;obtain⟨k,hk⟩:=List.getElem?_of_mem hc;exact h4 k c hk
 simp[BY,h1,h2,h3,this]
theorem J5(W o T:Nat)(ho:o<2 ^ W)(hT:T≤W):(o &&& (2 ^ W - (2 ^ T - 1+1))=0)↔o<2 ^ T:=by
 have hx:2 ^ T - 1<2 ^ W:=by
  have:=Nat.pow_le_pow_right (n:=2) (by omega) hT;have:=Nat.two_pow_pos T;omega
 have hM:∀ i,(2 ^ W - (2 ^ T - 1+1)).testBit i=(decide (i<W) && !decide (i<T)):=fun i=>by
  rw[Nat.testBit_two_pow_sub_succ hx,Nat.testBit_two_pow_sub_one]
 constructor
 ·intro h;refine Nat.lt_pow_two_of_testBit _ fun i hi=>?_
  rcases Nat.lt_or_ge i W with h1 | h1
  ·have h2:=congrArg (·.testBit i) h;simp only[Nat.testBit_and,hM,Nat.zero_testBit] at h2;simpa [h1,show¬ i<T by omega] using h2
  ·exact Nat.testBit_lt_two_pow (Nat.lt_of_lt_of_le ho (Nat.pow_le_pow_right (by omega) h1))
 ·intro h;refine Nat.eq_of_testBit_eq fun i=>?_
  rw[Nat.testBit_and,hM,Nat.zero_testBit];rcases Nat.lt_or_ge i T with h1 | h1
  ·simp[h1]
  ·rw[Nat.testBit_lt_two_pow (Nat.lt_of_lt_of_le h (Nat.pow_le_pow_right (by omega) h1))];rfl
theorem JH(o T:Nat)(ho:o<18446744073709551616)(hT:T≤64):(bits .andNot .u64 (o:Int) ((pw T - 1:Nat):Int) != 0) = !decide (o<2 ^ T):=by
 have hp:=D5 T;have hle:pw T≤18446744073709551616:=by
  have:=Nat.pow_le_pow_right (n:=2) (by omega) hT;simpa [pw] using this
 rw[u64_andNot_nat _ _ ho (by omega)];have h:=J5 64 o T ho hT;rw[show 18446744073709551615 - (pw T - 1)=2 ^ 64 - (2 ^ T - 1+1) by simp only[pw];omega];rw[Bool.eq_iff_iff];simp only[bne_iff_ne,Bool.not_eq_true',decide_eq_false_iff_not];rw[← h];omega
theorem Fy(o T:Nat)(ho:o<4294967296)(hT:T≤32):(bits .andNot .u32 (o:Int) ((pw T - 1:Nat):Int) != 0) = !decide (o<2 ^ T):=by
 have hp:=D5 T;have hle:pw T≤4294967296:=by
  have:=Nat.pow_le_pow_right (n:=2) (by omega) hT;simpa [pw] using this
 rw[u32_andNot_nat _ _ ho (by omega)];have h:=J5 32 o T ho hT;rw[show 4294967295 - (pw T - 1)=2 ^ 32 - (2 ^ T - 1+1) by simp only[pw];omega];rw[Bool.eq_iff_iff];simp only[bne_iff_ne,Bool.not_eq_true',decide_eq_false_iff_not];rw[← h];omega
theorem GB(n r P:Nat):n ||| r<2 ^ P↔n<2 ^ P∧r<2 ^ P:=
 ⟨fun h=>⟨Nat.lt_of_le_of_lt Nat.left_le_or h,Nat.lt_of_le_of_lt Nat.right_le_or h⟩,fun h=>Nat.or_lt_two_pow h.1 h.2⟩
theorem El{S P R o n r:Nat}{l:List (Nat × Int)}(h:¬ n<2 ^ P∨¬ r<2 ^ P):BY S P R o n r l=false:=by
 refine L4 fun h2=>?_
 have:=(GB n r P).1 h2;rcases h with h | h
 ·exact h this.1
 ·exact h this.2
attribute [local irreducible] BY AB pw
set_option maxRecDepth 100000 in
set_option maxHeartbeats 4000000 in
theorem CX(s p g q:Nat)(a1 a2 a3 a4:Option Addr)(cs cp cg cq:Nat)(o n r:Nat)(a:Option Addr)(l:List (Nat × Int))(len cap:Nat)(w:World)(hl:l.length=len)(hll:len≤1000)(hs:s≤1000)(hp:p≤1000)(hq:q≤1000)
 (hc:CB w a l) (ho:o<18446744073709551616) (hn:n<4294967296) (hr:r<4294967296) :
 Calls Tryz.prog 73 #[.agg #[.slice a1 s cs,.slice a2 p cp,.slice a3 g cg,.slice a4 q cq],.agg #[.int .u64 (o:Int),.int .u32 (n:Int),.int .u32 (r:Int),.slice a len cap]] w
  fun e w'=>e = .returned (.bool (BY (min s 64) (min p 32) (min q 64) o n r l))∧Below w.heap.size w w':=by
 obtain⟨S,hS,hS2⟩:∃ S:Nat,S=min s 64∧S≤64:=⟨_,rfl,by omega⟩;obtain⟨P,hP,hP2⟩:∃ P:Nat,P=min p 32∧P≤32:=⟨_,rfl,by omega⟩;obtain⟨R,hR,hR2⟩:∃ R:Nat,R=min q 64∧R≤64:=⟨_,rfl,by omega⟩;rw[← hS,← hP,← hR];have HP3:Hid (min (p:Int) 32=(P:Int)):=hid (by omega);have HR3:Hid (min (q:Int) 64=(R:Int)):=hid (by omega);have HS3:Hid ((S:Int)=max 0 (min (s:Int) 64)):=hid (by omega);have HP4:Hid ((P:Int)=max 0 (min (P:Int) 64)):=hid (by omega);have HO:=hid (JH o S ho hS2);have HN:=hid (Fy n P hn hP2);have HR:=hid (Fy r P hr hP2);have HC:Hid (((pw P - 1:Nat):Int) % 4294967296=((pw P - 1:Nat):Int)):=hid (by
  have h1:pw P≤4294967296:=by
   have:=Nat.pow_le_pow_right (n:=2) (by omega) hP2;rw[MF];simpa using this
  have h2:=D5 P;omega)
 clear hS hP hR ho hn hr;have HL:=hid hl;clear hl;by_cases h1:o<2 ^ S
 ·have hq1:(bits .andNot .u64 (o:Int) ((pw S - 1:Nat):Int) != 0)=false:=by rw[HO.out,decide_eq_true h1];rfl
  have H1:=hid h1;clear h1;go_enter Tryz.func73,Tryz.ntmps73;go_wp2_with fail;go_quiet ((go_at_call 72;exact Calls.quiet_of_same ((Dp _ S _ HS3.out).mono fun e w' ⟨h1,h2⟩=>⟨h1,h2.symm⟩)));clear hq1;by_cases h3:len≤8
  ·have hp3:=HP3.out;go_wp2_with fail;refine(Dp _ P _ HP4.out).mono ?_;rintro e w' ⟨rfl,rfl⟩;have hcc:=HC.out;have hq2:=HN.out;have hq3:=HR.out;clear hp3;by_cases h4:n<2 ^ P
   ·rw[decide_eq_true h4] at hq2;by_cases h5:r<2 ^ P
    ·rw[decide_eq_true h5] at hq3;have H4:=hid h4;have H5:=hid h5;clear h4 h5;go_wp2_with fail;have hb01:Below w.heap.size w (((w.alloc (Obj.cells #[Value.slice a1 s cs,Value.slice a2 p cp,Value.slice a3 g cg,Value.slice a4 q cq] 27)).alloc (Obj.cells #[Value.int IntKind.u64 ↑o,Value.int IntKind.u32 ↑n,Value.int IntKind.u32 ↑r,Value.slice a len cap] 35)).drewN nq):=below_drewN (C1 _ _ _) _;have hbk:=Ot w (Obj.cells #[Value.slice a1 s cs,Value.slice a2 p cp,Value.slice a3 g cg,Value.slice a4 q cq] 27) (Obj.cells #[Value.int IntKind.u64 ↑o,Value.int IntKind.u32 ↑n,Value.int IntKind.u32 ↑r,Value.slice a len cap] 35) nq;obtain⟨W1,hW1⟩:∃ W1,W1=((w.alloc (Obj.cells #[Value.slice a1 s cs,Value.slice a2 p cp,Value.slice a3 g cg,Value.slice a4 q cq] 27)).alloc (Obj.cells #[Value.int IntKind.u64 ↑o,Value.int IntKind.u32 ↑n,Value.int IntKind.u32 ↑r,Value.slice a len cap] 35)).drewN nq:=⟨_,rfl⟩;rw[← hW1] at hb01 hbk ⊢;clear hW1;obtain⟨kA,kB⟩:=hbk;clear hq2 hq3 hcc;go_loopw [6] (fun i wr=>∃ k:Nat,k≤len∧i = .int .i64 k∧(∀(j:Nat) (c:Nat × Int),j<k→l[j]?=some c→AB P R c=true)∧Below W1.heap.size W1 wr) (fun i _=>len - (intOf i).toNat)
     case atStart=>exact⟨0,by omega,rfl,fun j c h=>by omega,Below.refl _ _⟩
     case round=>
      obtain⟨k,hk,rfl,hall,hB⟩:=hrel;have HA:=hid hall;have hB0:=JM hb01 hb01.size hB;have kA:=A5 hB kA;have kB:=A5 hB kB;have eA1:=A4 kA 1 _ rfl;have eA3:=A4 kA 3 _ rfl;have eB3:=A4 kB 3 _ rfl;have xA:=World.block_lt_of_cell? _ _ eA1;have xB:=World.block_lt_of_cell? _ _ eB3;clear hall kA kB;by_cases hlt:k<len
      ·obtain⟨b,off,c,m,rfl,g1,l1,i1,c1,c2⟩:=(hc.below hB0).at (i:=k) (by rw[HL.out];exact hlt);have G1:=hid g1;clear g1;have d1:(0:Int)≤k:=by omega
       have x1:=World.block_lt_of_cell? _ _ c1;have hnext:AB P R (c,m)=true→Hid (∀(j:Nat) (c:Nat × Int),j<k+1→l[j]?=some c→AB P R c=true):=fun h=>hid (fun j c' hj hc'=>by
        by_cases hjk:j=k
        ·subst hjk;rw[G1.out] at hc';cases hc';exact h
        ·exact HA.out j c' (by omega) hc')
       have HX:=hid hnext;clear hnext;by_cases e1:c=1
       ·have q3:((c:Int) == 3)=false:=by simp;omega
        have q4:¬ (c:Int)<1:=by omega
        have q5:¬ (3:Int)<(c:Int):=by omega
        by_cases b1:0≤m
        ·by_cases b2:m<R
         ·have HR:=HX.out (by unfold AB;exact decide_eq_true (by omega));have hr3:=HR3.out;clear e1;go_wp2_with fail;go_roundw
          case rel=>exact⟨k+1,by omega,by go_num,HR.out,hB.alloc hB.size _⟩
          case measure=>simp[intOf];omega
         ·have HR:Hid (AB P R (c,m)=false):=hid (by unfold AB;exact decide_eq_false (by omega));have hr3:=HR3.out;clear e1;go_wp2_with fail;go_ret;exact⟨BJ (Cn G1.out HR.out).symm,hB0.alloc hB0.size _⟩
        ·have HR:Hid (AB P R (c,m)=false):=hid (by unfold AB;exact decide_eq_false (by omega));have hr3:=HR3.out;clear e1;go_wp2_with fail;go_ret;exact⟨BJ (Cn G1.out HR.out).symm,hB0.alloc hB0.size _⟩
       ·by_cases e2:c=2
        ·have q3:((c:Int) == 3)=false:=by simp;omega
         have q4:¬ (c:Int)<1:=by omega
         have q5:¬ (3:Int)<(c:Int):=by omega
         by_cases b1:0≤m
         ·by_cases b2:m<R
          ·have HR:=HX.out (by unfold AB;exact decide_eq_true (by omega));have hr3:=HR3.out;clear e1 e2;go_wp2_with fail;go_roundw
           case rel=>exact⟨k+1,by omega,by go_num,HR.out,hB.alloc hB.size _⟩
           case measure=>simp[intOf];omega
          ·have HR:Hid (AB P R (c,m)=false):=hid (by unfold AB;exact decide_eq_false (by omega));have hr3:=HR3.out;clear e1 e2;go_wp2_with fail;go_ret;exact⟨BJ (Cn G1.out HR.out).symm,hB0.alloc hB0.size _⟩
         ·have HR:Hid (AB P R (c,m)=false):=hid (by unfold AB;exact decide_eq_false (by omega));have hr3:=HR3.out;clear e1 e2;go_wp2_with fail;go_ret;exact⟨BJ (Cn G1.out HR.out).symm,hB0.alloc hB0.size _⟩
        ·by_cases e3:c=3
         ·have q3:((c:Int) == 3)=true:=by simp;omega
          have q4:¬ (c:Int)<1:=by omega
          have q5:¬ (3:Int)<(c:Int):=by omega
          by_cases b1:0≤m
          ·by_cases b2:m<P
           ·have HR:=HX.out (by unfold AB;exact decide_eq_true (by omega));have hr3:=HR3.out;have hp3:=HP3.out;clear e1 e2 e3;go_wp2_with fail;go_roundw
            case rel=>exact⟨k+1,by omega,by go_num,HR.out,hB.alloc hB.size _⟩
            case measure=>simp[intOf];omega
           ·have HR:Hid (AB P R (c,m)=false):=hid (by unfold AB;exact decide_eq_false (by omega));have hr3:=HR3.out;have hp3:=HP3.out;clear e1 e2 e3;go_wp2_with fail;go_ret;exact⟨BJ (Cn G1.out HR.out).symm,hB0.alloc hB0.size _⟩
          ·have HR:Hid (AB P R (c,m)=false):=hid (by unfold AB;exact decide_eq_false (by omega));have hr3:=HR3.out;have hp3:=HP3.out;clear e1 e2 e3;go_wp2_with fail;go_ret;exact⟨BJ (Cn G1.out HR.out).symm,hB0.alloc hB0.size _⟩
         ·by_cases e4:c<1
          ·have HR:Hid (AB P R (c,m)=false):=hid (by unfold AB;exact decide_eq_false (by omega));have q3:((c:Int) == 3)=false:=by simp;omega
           have q4:(c:Int)<1:=by omega
           have hr3:=HR3.out;clear e1 e2 e3 e4;go_wp2_with fail;go_ret;exact⟨BJ (Cn G1.out HR.out).symm,hB0.alloc hB0.size _⟩
          ·have HR:Hid (AB P R (c,m)=false):=hid (by unfold AB;exact decide_eq_false (by omega));have q3:((c:Int) == 3)=false:=by simp;omega
           have q4:¬ (c:Int)<1:=by omega
           have q5:(3:Int)<(c:Int):=by omega
           have hr3:=HR3.out;clear e1 e2 e3 e4;go_wp2_with fail;go_ret;exact⟨BJ (Cn G1.out HR.out).symm,hB0.alloc hB0.size _⟩
      ·obtain rfl:k=len:=by omega
       go_wp2_with fail;go_ret;exact⟨BJ (Ny H1.out ((GB n r P).2 ⟨H4.out,H5.out⟩) (by rw[HL.out];exact h3) (fun j c hj=>HA.out j c (by rw[← HL.out];exact(List.getElem?_eq_some_iff.1 hj).1) hj)).symm,hB0⟩
    ·rw[decide_eq_false h5] at hq3;have H5:=hid h5;clear h4 h5;go_wp2_with fail;go_ret;exact⟨BJ (El (.inr H5.out)).symm,below_drewN (C1 _ _ _) _⟩
   ·rw[decide_eq_false h4] at hq2;have H4:=hid h4;clear h4 hq3;go_wp2_with fail;go_ret;exact⟨BJ (El (.inl H4.out)).symm,below_drewN (C1 _ _ _) _⟩
  ·go_wp2_with fail;go_ret;exact⟨BJ (Lq (by rw[HL.out];exact h3)).symm,below_drewN (C1 _ _ _) _⟩
 ·have hq1:(bits .andNot .u64 (o:Int) ((pw S - 1:Nat):Int) != 0)=true:=by rw[HO.out,decide_eq_false h1];rfl
  have H1:=hid h1;clear h1;go_enter Tryz.func73,Tryz.ntmps73;go_wp2_with fail;go_quiet ((go_at_call 72;exact Calls.quiet_of_same ((Dp _ S _ HS3.out).mono fun e w' ⟨h1,h2⟩=>⟨h1,h2.symm⟩)));go_wp2_with fail;go_ret;exact⟨BJ (LD H1.out).symm,below_drewN (C1 _ _ _) _⟩
end Go.Proofs.YtpohoannggdbjaaGreat
