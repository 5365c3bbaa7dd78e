/- Layer 10: the document's Tidy. -/
import Derived.Test.YtpohoannggdbjaaGreatIxT
import Derived.Test.YtpohoannggdbjaaGreatIxLa
set_option maxRecDepth 100000
set_option maxHeartbeats 200000000
namespace Go.Proofs.YtpohoannggdbjaaGreat
open Lib (hid)
open Go.RowKit
theorem Qs(x y:Nat):Tryz.prog.built 65 [(0,.int .u64 (x:Int)),(4,.int .u32 (y:Int))]=some (Af ⟨x,0,0,fun _=>0,y⟩).toArray:=by
 unfold Af CD;kernel_rfl
def PU(N P k:Nat)(s:St):Nat→Nat:=fun n=>if n<k then (AI N P s).tm n else 0
def Ht(N P k:Nat)(s:St):St:=⟨s.lk &&& (pw N - 1),s.us &&& (s.lk &&& (pw N - 1)),s.ca &&& (s.lk &&& (pw N - 1)),PU N P k s,s.pt &&& (pw P - 1)⟩
theorem PV(N P:Nat)(s:St)(n:Nat):(AI N P s).tm n=if Aa (s.ca &&& (s.lk &&& (pw N - 1))) n then min (s.tm n) 20 else 0:=rfl
theorem PW{N P k k':Nat}{s:St}{f:Nat→Nat}(h:PU N P k' s=f):Ht N P k' s={ Ht N P k s with tm:=f }:=by unfold Ht;rw[h]
theorem PY(N P:Nat)(s:St):Ht N P 0 s=⟨s.lk &&& (pw N - 1),s.us &&& (s.lk &&& (pw N - 1)),s.ca &&& (s.lk &&& (pw N - 1)),fun _=>0,s.pt &&& (pw P - 1)⟩:=by
 have h:PU N P 0 s=fun _=>0:=by funext n;unfold PU;rw[if_neg (by omega)]
 unfold Ht;rw[h]
theorem Ub{N P k:Nat}{s:St}(h:Aa (s.ca &&& (s.lk &&& (pw N - 1))) k=false):Ht N P (k+1) s=Ht N P k s:=by
 have e:PU N P (k+1) s=PU N P k s:=by
  funext n
  unfold PU;by_cases h1:n<k
  ·rw[if_pos h1,if_pos (by omega)]
  ·rw[if_neg h1];by_cases h2:n=k
   ·subst h2;rw[if_pos (by omega),PV,h];rfl
   ·rw[if_neg (by omega)]
 unfold Ht;rw[e]
theorem Uc(N P k:Nat)(s:St):(Ht N P k s).tm=PU N P k s:=rfl
theorem Sm{N P k:Nat}{s:St}(h:Aa (s.ca &&& (s.lk &&& (pw N - 1))) k=true):Ht N P (k+1) s={ Ht N P k s with tm:=BZ (Ht N P k s).tm k (min (s.tm k) 20) }:=by
 refine PW ?_;rw[Uc]
 funext n
 unfold BZ PU;by_cases h2:n=k
 ·subst h2;rw[if_pos (by omega),if_pos rfl,PV,h];rfl
 ·rw[if_neg h2];by_cases h1:n<k
  ·rw[if_pos (by omega),if_pos h1]
  ·rw[if_neg (by omega),if_neg h1]
theorem Sj(N P:Nat)(s:St):Ht N P N s=AI N P s:=by
 have h:PU N P N s=(AI N P s).tm:=by
  funext n
  unfold PU;by_cases h1:n<N
  ·rw[if_pos h1]
  ·rw[if_neg h1,PV];have:Aa (s.ca &&& (s.lk &&& (pw N - 1))) n=false:=(by rw[AZ,Nat.testBit_and,Fq];simp[h1]);rw[this];rfl
 unfold Ht;rw[h];rfl
theorem Sk(N P k:Nat)(s:St):(Ht N P k s).ca=s.ca &&& (s.lk &&& (pw N - 1)):=rfl
theorem RU{n:Nat}(h:n≤64):pw n - 1<18446744073709551616:=by
 have:pw n≤2 ^ 64:=Nat.pow_le_pow_right (by omega) h;have h0:0<pw n:=Du n;omega
theorem MB{n:Nat}(h:n≤32):pw n - 1<4294967296:=by
 have:pw n≤2 ^ 32:=Nat.pow_le_pow_right (by omega) h;have h0:0<pw n:=Du n;omega
attribute [local irreducible] Sl.v Aa pw Ab Aw C8 Af BC CD Bi Bg B9 CB BQ AU Bp BB BG Bh Bd BP Bo BL BF BN AI AY AV Be Bw Bq C4 Mc.tb BZ AX Ap B5
attribute [local irreducible] AW CY Bt BO Rt.tr Rt.nd AC C9 At
attribute [local irreducible] E9
attribute [local irreducible] Ht
theorem Ox(L:AL)(s:St)(w:World)(hL:AO w L)(hc:(Ap L).1=0)(hs:s.ok) :
 Calls Tryz.prog 41 #[.agg #[L.se.v,L.po.v,L.sg.v,L.rt.v],.agg (Af s).toArray] w fun e w'=>e = .returned (.agg (Af (AI L.rt.l.length L.po.l.length s)).toArray)∧Below w.heap.size w w':=by
 have HMAY:Hid (AX L=true):=hid (B6 hc);have HS4:Hid (L.rt.l.length≤64):=hid (AE (B6 hc)).2.2.2;have HCK:=hid hc;have HS2:Hid (L.po.l.length≤32):=hid (AE (B6 hc)).2.1;obtain⟨n1,hn1⟩:=WY L.se.l.length;obtain⟨n2,hn2⟩:=WY L.po.l.length;obtain⟨n3,hn3⟩:=WY L.sg.l.length;obtain⟨n4,hn4⟩:=WY L.rt.l.length;have HLW:=hid hL;have HN1:=hid hn1;have HN2:=hid hn2;have HN3:=hid hn3;have HN4:=hid hn4;rw[hn4] at HS4;rw[hn2] at HS2;have KF4:Hid (∀ V,Calls Tryz.prog 72 #[.int .i64 (n4:Int)] V fun e w'=>e = .returned (.int .u64 ((pw n4 - 1:Nat):Int))∧Below V.heap.size V w'):=hid (fun V=>(DS n4 n4 V (by have:=HS4.o;omega)).mono (fun _ _ h=>⟨h.1,h.2 ▸ VU _ _⟩));have KF2:Hid (∀ V,Calls Tryz.prog 72 #[.int .i64 (n2:Int)] V fun e w'=>e = .returned (.int .u64 ((pw n2 - 1:Nat):Int))∧Below V.heap.size V w'):=hid (fun V=>(DS n2 n2 V (by have:=HS2.o;omega)).mono (fun _ _ h=>⟨h.1,h.2 ▸ VU _ _⟩));have HW2:Hid (IntKind.u32.wrap ((pw n2 - 1:Nat):Int)=((pw n2 - 1:Nat):Int)):=hid (by have:=MB HS2.o;rw[IntKind.wrap_u32];omega);have HT0:Hid (Ht n4 n2 0 s=⟨s.lk &&& (pw n4 - 1),s.us &&& (s.lk &&& (pw n4 - 1)),s.ca &&& (s.lk &&& (pw n4 - 1)),fun _=>0,s.pt &&& (pw n2 - 1)⟩):=hid (PY n4 n2 s);have hal:s.lk &&& (pw n4 - 1)<18446744073709551616:=Wr Nat.and_le_left hs.lk;have HA0:Hid (bits .and .u64 (s.lk:Int) ((pw n4 - 1:Nat):Int)=((s.lk &&& (pw n4 - 1):Nat):Int)):=hid (u64_and_nat _ _ hs.lk (RU HS4.o));have HP0:Hid (bits .and .u32 (s.pt:Int) ((pw n2 - 1:Nat):Int)=((s.pt &&& (pw n2 - 1):Nat):Int)):=hid (u32_and_nat _ _ hs.pt (MB HS2.o));obtain⟨P0,hP0⟩:=WY (s.pt &&& (pw n2 - 1));have HCE0:Hid (s.ca &&& (s.lk &&& (pw n4 - 1))=s.ca &&& (s.lk &&& (pw n4 - 1))):=hid rfl;obtain⟨A0,hA0⟩:=WY (s.lk &&& (pw n4 - 1));rw[hA0] at HA0 HT0 hal;rw[hP0] at HP0 HT0;have HU0:Hid (bits .and .u64 (s.us:Int) (A0:Int)=((s.us &&& A0:Nat):Int)):=hid (u64_and_nat _ _ hs.us hal);have HC0:Hid (bits .and .u64 (s.ca:Int) (A0:Int)=((s.ca &&& A0:Nat):Int)):=hid (u64_and_nat _ _ hs.ca hal);have HCL:Hid (s.ca &&& A0<18446744073709551616):=hid (Wr Nat.and_le_left hs.ca);obtain⟨U0,hU0⟩:=WY (s.us &&& A0);obtain⟨C0,hC0⟩:=WY (s.ca &&& A0);rw[hU0] at HU0 HT0;rw[hC0] at HC0 HT0 HCL;have HCE:Hid (s.ca &&& (s.lk &&& (pw n4 - 1))=C0):=hid (by rw[hA0];exact hC0);rw[hn4,hn2];rw[Ak hn1,Ak hn2,Ak hn3,Ak hn4];clear hn1 hn2 hn3 hn4 hL hc hs hal hP0 hA0 hU0 hC0 HCE0;go_enter Tryz.func41,Tryz.ntmps41;go_upto_region 1 with fail
 rw[Bz];refine Ao (os:=[.cells #[.slice L.se.a n1 L.se.c,.slice L.po.a n2 L.po.c,.slice L.sg.a n3 L.sg.c,.slice L.rt.a n4 L.rt.c] 27,.cells (Af s).toArray 65,.cells (Af zS).toArray 65]) (w0:=w) rfl ?_;intro W hat hbw;obtain⟨gl,hgl⟩:=X0 w.heap.size;have q0:=hat 0 _ rfl;obtain⟨gs,hgs⟩:=X0 (gl+1);have q1:=hat 1 _ rfl;obtain⟨gr,hgr⟩:=X0 (gs+1);have q2:=hat 2 _ rfl;rw[Wa,← hgl] at q0;rw[← hgl,← hgs] at q1;rw[← hgl,show gl+2=gr by omega] at q2;rw[← hgl,← hgs,← hgr];have HQl:=hid q0;have HQs:=hid q1;have HQr:=hid q2;have HB0:=hid hbw;have HGR:Hid (w.heap.size≤gr):=hid (by omega);clear hat hbw q0 q1 q2 hgl hgs hgr;refine Am (by kernel_rfl) [17] 20 [0,1,2,3,4,5,6,7,8,9,10,11,12,13,14,15,16] [7,8,9,10,11,12,13,14,15,16,17,18,19,20,21,22,5] #[true,true,true,true,true,true,true,true,true,true,true,true,true,true,true,true,true,false] 1 [(fun v _=>v = .pointer (some ⟨gs,0,none⟩)),(fun v _=>v = .int .u64 (s.lk:Int)),(fun v _=>v = .pointer (some ⟨gl,3,none⟩)),(fun v _=>v = .slice L.rt.a n4 L.rt.c),(fun v _=>v = .int .i64 (n4:Int)),(fun v _=>v = .int .u64 ((pw n4 - 1:Nat):Int)),(fun v _=>v = .int .u64 ((A0:Nat):Int)),(fun v _=>v = .pointer (some ⟨gs,67,none⟩)),(fun v _=>v = .int .u32 (s.pt:Int)),(fun v _=>v = .pointer (some ⟨gl,1,none⟩)),(fun v _=>v = .slice L.po.a n2 L.po.c),(fun v _=>v = .int .i64 (n2:Int)),(fun v _=>v = .int .u64 ((pw n2 - 1:Nat):Int)),(fun v _=>v = .int .u32 ((pw n2 - 1:Nat):Int)),(fun v _=>v = .int .u32 ((P0:Nat):Int)),(fun v _=>v = .agg (Af ⟨A0,0,0,fun _=>0,P0⟩).toArray),(fun v V=>∃ g,v = .pointer (some ⟨g,0,none⟩)∧V.heap[g]?=some (.cells (Af zS).toArray 65)∧W.heap.size≤g),(fun _ _=>True)] (by kernel_rfl) (by kernel_rfl) (by kernel_rfl) (by kernel_rfl) (by kernel_rfl) rfl (by kernel_rfl) rfl ?_ ?_ ?_
 ·exact⟨A8 _,A8 _,A8 _,A8 _,A8 _,A8 _,A8 _,A8 _,A8 _,A8 _,A8 _,A8 _,A8 _,A8 _,A8 _,A8 _,(fun v W W2 h hb=>by obtain⟨g,h1,h2,h3⟩:=h;exact⟨g,h1,A5 hb h2,h3⟩),An,trivial⟩
 ·refine⟨?_,?_,?_,?_,?_,?_,?_,?_,?_,?_,?_,?_,?_,?_,?_,?_,?_,trivial⟩
  ·refine A7 (o:=⟨some 7,_,_,_,_,_⟩) rfl (fun r V hc hf hg hs hb hd=>?_);have x3:r (.tmp 3) = .pointer (some ⟨gs,0,none⟩):=hs 3 (by kernel_rfl);clear hs hd hg;go_simp;exact X1
  ·refine A7 (o:=⟨some 8,_,_,_,_,_⟩) rfl (fun r V hc hf hg hs hb hd=>?_);have h0:r (.tmp 7) = .pointer (some ⟨gs,0,none⟩):=hd 0 7 rfl (by kernel_rfl);clear hs hd hg;have l:=A4 (A5 hb HQs.o) 0 _ (DM s);go_simp;exact X1
  ·refine A7 (o:=⟨some 9,_,_,_,_,_⟩) rfl (fun r V hc hf hg hs hb hd=>?_);have x2:r (.tmp 2) = .pointer (some ⟨gl,0,none⟩):=hs 2 (by kernel_rfl);clear hs hd hg;go_simp;exact X1
  ·refine A7 (o:=⟨some 10,_,_,_,_,_⟩) rfl (fun r V hc hf hg hs hb hd=>?_);have h2:r (.tmp 9) = .pointer (some ⟨gl,3,none⟩):=hd 2 9 rfl (by kernel_rfl);clear hs hd hg;have l:=A4 (A5 hb HQl.o) 3 _ (rfl);go_simp;exact X1
  ·refine A7 (o:=⟨some 11,_,_,_,_,_⟩) rfl (fun r V hc hf hg hs hb hd=>?_);have h3:r (.tmp 10) = .slice L.rt.a n4 L.rt.c:=hd 3 10 rfl (by kernel_rfl);clear hs hd hg;go_simp;exact X1
  ·refine A7 (o:=⟨some 12,_,_,_,_,_⟩) rfl (fun r V hc hf hg hs hb hd=>?_);have h4:r (.tmp 11) = .int .i64 (n4:Int):=hd 4 11 rfl (by kernel_rfl);clear hs hd hg;go_simp;refine(KF4.o V).mono ?_;rintro e w' ⟨rfl,h9⟩;exact⟨_,rfl,h9,rfl⟩
  ·refine A7 (o:=⟨some 13,_,_,_,_,_⟩) rfl (fun r V hc hf hg hs hb hd=>?_);have h1:r (.tmp 8) = .int .u64 (s.lk:Int):=hd 1 8 rfl (by kernel_rfl);have h5:r (.tmp 12) = .int .u64 ((pw n4 - 1:Nat):Int):=hd 5 12 rfl (by kernel_rfl);clear hs hd hg;have ho1:=HA0.o;go_simp;exact X1
  ·refine A7 (o:=⟨some 14,_,_,_,_,_⟩) rfl (fun r V hc hf hg hs hb hd=>?_);have x3:r (.tmp 3) = .pointer (some ⟨gs,0,none⟩):=hs 3 (by kernel_rfl);clear hs hd hg;go_simp;exact X1
  ·refine A7 (o:=⟨some 15,_,_,_,_,_⟩) rfl (fun r V hc hf hg hs hb hd=>?_);have h7:r (.tmp 14) = .pointer (some ⟨gs,67,none⟩):=hd 7 14 rfl (by kernel_rfl);clear hs hd hg;have l:=A4 (A5 hb HQs.o) 67 _ (EI s);go_simp;exact X1
  ·refine A7 (o:=⟨some 16,_,_,_,_,_⟩) rfl (fun r V hc hf hg hs hb hd=>?_);have x2:r (.tmp 2) = .pointer (some ⟨gl,0,none⟩):=hs 2 (by kernel_rfl);clear hs hd hg;go_simp;exact X1
  ·refine A7 (o:=⟨some 17,_,_,_,_,_⟩) rfl (fun r V hc hf hg hs hb hd=>?_);have h9:r (.tmp 16) = .pointer (some ⟨gl,1,none⟩):=hd 9 16 rfl (by kernel_rfl);clear hs hd hg;have l:=A4 (A5 hb HQl.o) 1 _ (rfl);go_simp;exact X1
  ·refine A7 (o:=⟨some 18,_,_,_,_,_⟩) rfl (fun r V hc hf hg hs hb hd=>?_);have h10:r (.tmp 17) = .slice L.po.a n2 L.po.c:=hd 10 17 rfl (by kernel_rfl);clear hs hd hg;go_simp;exact X1
  ·refine A7 (o:=⟨some 19,_,_,_,_,_⟩) rfl (fun r V hc hf hg hs hb hd=>?_);have h11:r (.tmp 18) = .int .i64 (n2:Int):=hd 11 18 rfl (by kernel_rfl);clear hs hd hg;go_simp;refine(KF2.o V).mono ?_;rintro e w' ⟨rfl,h9⟩;exact⟨_,rfl,h9,rfl⟩
  ·refine A7 (o:=⟨some 20,_,_,_,_,_⟩) rfl (fun r V hc hf hg hs hb hd=>?_);have h12:r (.tmp 19) = .int .u64 ((pw n2 - 1:Nat):Int):=hd 12 19 rfl (by kernel_rfl);clear hs hd hg;have hw:=HW2.o;go_simp;exact X1
  ·refine A7 (o:=⟨some 21,_,_,_,_,_⟩) rfl (fun r V hc hf hg hs hb hd=>?_);have h8:r (.tmp 15) = .int .u32 (s.pt:Int):=hd 8 15 rfl (by kernel_rfl);have h13:r (.tmp 20) = .int .u32 ((pw n2 - 1:Nat):Int):=hd 13 20 rfl (by kernel_rfl);clear hs hd hg;have ho1:=HP0.o;go_simp;exact X1
  ·refine A7 (o:=⟨some 22,_,_,_,_,_⟩) rfl (fun r V hc hf hg hs hb hd=>?_);have h6:r (.tmp 13) = .int .u64 ((A0:Nat):Int):=hd 6 13 rfl (by kernel_rfl);have h14:r (.tmp 21) = .int .u32 ((P0:Nat):Int):=hd 14 21 rfl (by kernel_rfl);clear hs hd hg;refine Fx (o:=⟨some 22,_,_,_,_,_⟩) 65 _ rfl _ ?_ _ (Qs A0 P0) rfl;simp only[List.map_toArray,List.map_cons,List.map_nil,h6,h14]
  ·refine A7 (o:=⟨some 5,_,_,_,_,_⟩) rfl (fun r V hc hf hg hs hb hd=>?_);clear hs hd hg;go_simp;rw[Bz];exact⟨Ac V _,⟨_,rfl,Al V _ (VU _ _),hb.size⟩⟩
 ·intro a V hb hx;have h0:a.eval (.tmp 7) = .pointer (some ⟨gs,0,none⟩):=hx 0 7 rfl rfl;have h1:a.eval (.tmp 8) = .int .u64 (s.lk:Int):=hx 1 8 rfl rfl;have h2:a.eval (.tmp 9) = .pointer (some ⟨gl,3,none⟩):=hx 2 9 rfl rfl;have h3:a.eval (.tmp 10) = .slice L.rt.a n4 L.rt.c:=hx 3 10 rfl rfl;have h4:a.eval (.tmp 11) = .int .i64 (n4:Int):=hx 4 11 rfl rfl;have h5:a.eval (.tmp 12) = .int .u64 ((pw n4 - 1:Nat):Int):=hx 5 12 rfl rfl;have h6:a.eval (.tmp 13) = .int .u64 ((A0:Nat):Int):=hx 6 13 rfl rfl;have h7:a.eval (.tmp 14) = .pointer (some ⟨gs,67,none⟩):=hx 7 14 rfl rfl;have h8:a.eval (.tmp 15) = .int .u32 (s.pt:Int):=hx 8 15 rfl rfl;have h9:a.eval (.tmp 16) = .pointer (some ⟨gl,1,none⟩):=hx 9 16 rfl rfl;have h10:a.eval (.tmp 17) = .slice L.po.a n2 L.po.c:=hx 10 17 rfl rfl;have h11:a.eval (.tmp 18) = .int .i64 (n2:Int):=hx 11 18 rfl rfl;have h12:a.eval (.tmp 19) = .int .u64 ((pw n2 - 1:Nat):Int):=hx 12 19 rfl rfl;have h13:a.eval (.tmp 20) = .int .u32 ((pw n2 - 1:Nat):Int):=hx 13 20 rfl rfl;have h14:a.eval (.tmp 21) = .int .u32 ((P0:Nat):Int):=hx 14 21 rfl rfl;have h15:a.eval (.tmp 22) = .agg (Af ⟨A0,0,0,fun _=>0,P0⟩).toArray:=hx 15 22 rfl rfl;have h16:(fun v V=>∃ g,v = .pointer (some ⟨g,0,none⟩)∧V.heap[g]?=some (.cells (Af zS).toArray 65)∧W.heap.size≤g) (a.eval (.tmp 5)) V:=hx 16 5 rfl rfl;obtain⟨v5,e5⟩:=WY (a.eval (.tmp 5));rw[e5] at h16;unfold AD;simp only[Wi,Wj,h0,h1,h2,h3,h4,h5,h6,h7,h8,h9,h10,h11,h12,h13,h14,h15,e5,Act.put,VW,VX,VV];clear h0 h1 h2 h3 h4 h5 h6 h7 h8 h9 h10 h11 h12 h13 h14 h15 e5 hx;obtain⟨g5,rfl,hq5,hg5⟩:=h16;have HBV:=hid (A6 HB0.o hb);have HG5:Hid (W.heap.size≤g5∧w.heap.size≤g5∧gr≠g5∧gs≠g5∧gl≠g5):=hid (by have h1:=Aj HQr.o;have h2:=Aj HQs.o;have h3:=Aj HQl.o;have h4:=HB0.o.size;omega);have HQ5:=hid hq5;have HSV:=hid (A5 hb HQs.o);have HLV:=hid (A5 hb HQl.o);have HRV:=hid (A5 hb HQr.o);clear hb hq5 hg5;obtain⟨hst,hq9,ho9⟩:=AH (s':=⟨A0,0,0,fun _=>0,P0⟩) HQ5.o;have HST:=hid hst;have HO1:=hid hq9;have HS1:=hid (Ai.keep ho9 HG5.o.2.2.2.1 HSV.o);have HL1:=hid (Ai.keep ho9 HG5.o.2.2.2.2 HLV.o);have HR1:=hid (Ai.keep ho9 HG5.o.2.2.1 HRV.o);have HB1:Hid (Below w.heap.size w (V.setCells g5 0 (Af ⟨A0,0,0,fun _=>0,P0⟩))):=hid (Ai.below HBV.o HG5.o.2.1 HBV.o.size ho9);obtain⟨V1,hV1⟩:∃ V',V'=V.setCells g5 0 (Af ⟨A0,0,0,fun _=>0,P0⟩):=⟨_,rfl⟩;rw[← hV1] at HST HO1 HS1 HL1 HR1 HB1;clear hst hq9 ho9 hV1 HQ5 HSV HLV HRV HBV;refine wpAny_ready (rs:=[17]) (by kernel_rfl) (by simp) (AllReady.cons (o:=⟨none,_,_,_,_,_⟩) rfl (fun K hK=>?_) AllReady.nil);refine Db (w':=V1) ?_ ?_
  ·refine CT 65 (.tmp 5) (.tmp 22) rfl (vx:=.pointer (some ⟨g5,0,none⟩)) (vy:=.agg (Af ⟨A0,0,0,fun _=>0,P0⟩).toArray) ?_ ?_ HST.o
   ·go_simp
   ·go_simp
  refine hK _ _ ?_;clear hK K HST;refine wpAny_done (by kernel_rfl) ?_ _;have s1:=A4 HS1.o 1 _ (FE s);have o0:=A4 HO1.o 0 _ (DM _);have o1:=A4 HO1.o 1 _ (FE _);have f1:=Aq HO1.o 1;have hl:=Aj HO1.o;have ha:=HU0.o;go_upto_region 3 with fail
  clear s1 o0 o1 f1 hl ha;refine BR ?_;intro V2 hV2;have ho:Ai g5 V1 V2:=(by rw[hV2];exact(Ai.refl g5 V1).setCell rfl _);have HO2:Hid (V2.heap[g5]?=some (.cells (Af ⟨A0,U0,0,fun _=>0,P0⟩).toArray 65)):=hid (by rw[hV2];exact(AG HO1.o 1 _).trans (congrArg (fun C=>some (Obj.cells C 65)) (MR _ _)));have HS2:=hid (Ai.keep ho HG5.o.2.2.2.1 HS1.o);have HL2:=hid (Ai.keep ho HG5.o.2.2.2.2 HL1.o);have HR2:=hid (Ai.keep ho HG5.o.2.2.1 HR1.o);have HB2:Hid (Below w.heap.size w V2):=hid (Ai.below HB1.o HG5.o.2.1 HB1.o.size ho);clear hV2 ho HO1 HS1 HL1 HR1 HB1;have s1:=A4 HS2.o 2 _ (E1 s);have o0:=A4 HO2.o 0 _ (DM _);have o1:=A4 HO2.o 2 _ (E1 _);have f1:=Aq HO2.o 2;have hl:=Aj HO2.o;have ha:=HC0.o;go_upto_region 4 with fail
  clear s1 o0 o1 f1 hl ha;refine BR ?_;intro V3 hV3;have ho:Ai g5 V2 V3:=(by rw[hV3];exact(Ai.refl g5 V2).setCell rfl _);have HO3:Hid (V3.heap[g5]?=some (.cells (Af ⟨A0,U0,C0,fun _=>0,P0⟩).toArray 65)):=hid (by rw[hV3];exact(AG HO2.o 2 _).trans (congrArg (fun C=>some (Obj.cells C 65)) (KY _ _)));have HS3:=hid (Ai.keep ho HG5.o.2.2.2.1 HS2.o);have HL3:=hid (Ai.keep ho HG5.o.2.2.2.2 HL2.o);have HR3:=hid (Ai.keep ho HG5.o.2.2.1 HR2.o);have HB3:Hid (Below w.heap.size w V3):=hid (Ai.below HB2.o HG5.o.2.1 HB2.o.size ho);clear hV3 ho HO2 HS2 HL2 HR2 HB2;have HO4:Hid (V3.heap[g5]?=some (.cells (Af (Ht n4 n2 0 s)).toArray 65)):=hid (by rw[HT0.o];exact HO3.o);go_upto_region 5 with fail
  go_loopg [6] n4 (fun g v wr=>∃ i:Nat,i+g=n4∧v = .int .i64 (i:Int)∧wr.heap[g5]?=some (.cells (Af (Ht n4 n2 i s)).toArray 65)∧WX (fun b=>b=g5) V3 wr)
  case atStart=>exact⟨0,by omega,rfl,HO4.o,WX.refl _ _⟩
  case round=>
   obtain⟨i,hi,rfl,hq,hw⟩:=hrel;have HI:=hid hi;have HOI:=hid hq;have HWX:=hid hw;have HLI:=hid (hw.keep HG5.o.2.2.2.2 HL3.o);have HSI:=hid (hw.keep HG5.o.2.2.2.1 HS3.o);have l3:=A4 HLI.o 3 _ rfl;clear hi hq hw;by_cases hlt:i<n4
   ·have d1:(0:Int)≤i:=(by omega);have d2:(i:Int)<n4:=(by omega);have e1:=B8 hlt (Wd HS4.o (by decide));have HLT:=hid hlt;obtain⟨bc,hbc⟩:=WY (Aa C0 i);have KHC:Hid (∀ V,Calls Tryz.prog 43 #[.int .u64 (C0:Int),.int .i64 (i:Int)] V fun e w'=>e = .returned (.bool bc)∧Below V.heap.size V w'):=hid (fun V=>CP bc C0 i V (by have:=HLT.o;have:=HS4.o;omega) HCL.o hbc);have HBC:Hid (Aa (s.ca &&& (s.lk &&& (pw n4 - 1))) i=bc):=hid (by rw[HCE.o];exact hbc);have c2:=A4 HOI.o 2 _ (E1 _);rw[Sk,HCE.o] at c2;clear hbc hlt;go_wp2_with fail;refine(KHC.o _).mono ?_;rintro e w2 ⟨rfl,hb2⟩;have HO2:=hid (A5 hb2 HOI.o);have HS2:=hid (A5 hb2 HSI.o);have HX2:=hid (HWX.o.trans (WX.of_below hb2));clear hb2 c2 KHC;cases bc with
    | false=>
      go_wp2_with fail;go_roundg (n4 - (i+1))
      case rel=>exact⟨i+1,AA HI.o HLT.o,by go_num,by rw[Ub HBC.o];exact HO2.o,HX2.o⟩
      case measure=>exact Az HI.o HLT.o
    | true=>
      have HI64:Hid (i<64):=hid (by have:=HLT.o;have:=HS4.o;omega);have s3:=A4 HS2.o (3+i) _ (Ei _ HI64.o);have o3:=A4 HO2.o (3+i) _ (Ei _ HI64.o);have f3:=Aq HO2.o (3+i);have hl:=Aj HO2.o;have d3:(i:Int)<64:=(by have:=HI64.o;omega);obtain⟨t,ht⟩:=WY (s.tm i);rw[ht] at s3;have hm:min (t:Int) 20=((min t 20:Nat):Int):=(by omega);have HTT:=hid ht;clear ht;go_upto_region 6 with fail
      clear s3 o3 f3 hl d3 hm;refine BR ?_;intro VZ hVZ;have ho:Ai g5 w2 VZ:=(by rw[hVZ];exact(Ai.refl g5 w2).setCell rfl _);have HOZ:Hid (VZ.heap[g5]?=some (.cells (Af (Ht n4 n2 (i+1) s)).toArray 65)):=hid (by rw[hVZ,Sm HBC.o,HTT.o];exact(AG HO2.o (3+i) _).trans (congrArg (fun C=>some (Obj.cells C 65)) (Ff _ _ HI64.o)));have HXZ:=hid (HX2.o.trans (WX.of_only (X:=fun b=>b=g5) ho rfl));clear hVZ ho;go_wp2_with fail;go_roundg (n4 - (i+1))
      case rel=>exact⟨i+1,AA HI.o HLT.o,by go_num,HOZ.o,HXZ.o⟩
      case measure=>exact Az HI.o HLT.o
   ·have d2:¬ ((i:Int)<n4):=(by omega);have HOE:Hid (wr.heap[g5]?=some (.cells (Af (AI n4 n2 s)).toArray 65)):=hid (by rw[← Sj,show Ht n4 n2 n4 s=Ht n4 n2 i s by rw[show n4=i by have:=HI.o;omega]];exact HOI.o);have HRE:=hid (HWX.o.keep HG5.o.2.2.1 HR3.o);have HBE:Hid (Below w.heap.size w wr):=hid (WX.below HB3.o HWX.o (fun b hb=>by rw[hb];exact HG5.o.2.1));clear hlt;go_upto_region 9 with fail
    clear l3 d2;have HLD:=hid (Au HOE.o);obtain⟨hst,hq9,ho9⟩:=AH (s':=(AI n4 n2 s)) HRE.o;have HST:=hid hst;have HQ9:=hid hq9;have HB9:Hid (Below w.heap.size w (wr.setCells gr 0 (Af (AI n4 n2 s)))):=hid (Ai.below HBE.o HGR.o HBE.o.size ho9);clear hst hq9 ho9;go_wp2_with (first
     | ((with_reducible refine Ah (op:=⟨some 54,_,_,_,_,_⟩) rfl 65 _ rfl _ _ ?_ HLD.o ?_);(· rfl))
     | ((with_reducible refine Ag (op:=⟨none,.store 65 _ _,_,_,_,_⟩) rfl 65 _ _ rfl _ _ ?_ ?_ _ HST.o ?_);(· rfl);(· rfl)))
    (try simp only[Exit.inBlock,Exit.then])
    refine bodyPost_ret (results_cell_row (g:=gr) rfl _ _ 65 (Af (AI n4 n2 s)).toArray (0,0) _ rfl HQ9.o Tryz.underlying65 rfl (by rw[Wn,AS];exact Bf)) rfl ?_;exact⟨rfl,HB9.o⟩
end Go.Proofs.YtpohoannggdbjaaGreat
