/- Ours: IxTc; IxTg. -/
import Derived.Test.YtpohoannggdbjaaGreatIxTs
import Derived.Test.YtpohoannggdbjaaGreatIxR
import Derived.Test.YtpohoannggdbjaaGreatIxN
namespace Go.Proofs.YtpohoannggdbjaaGreat
open Lib (hid)
open Go.RowKit
set_option maxRecDepth 100000
theorem Kw{l:List (Int × Bool)}{k:Nat}{j:Nat}{B:Bool}(h:l[k]?=some ((j:Int),B))(p:Nat):Cr (l.take (k+1)) p=if B then Ab (Cr (l.take k) p) j else Ax (Cr (l.take k) p) j:=by
 unfold Cr;rw[List.take_add_one,h,List.foldl_append];show(if B=true then Ab _ ((j:Int).toNat) else Ax _ ((j:Int).toNat))=_;rw[Int.toNat_natCast]
theorem NI{p j:Nat}(hp:p<4294967296)(hj:j≤31):Ab (Ax p j) j=Ab p j:=by
 rw[Bo,Bo,← Fa p j (by omega) (by omega)];have hpw:pw j<18446744073709551616:=Nat.lt_trans (DF hj) (by decide);refine Nat.eq_of_testBit_eq fun i=>?_
 rw[Nat.testBit_or,Nat.testBit_or,Nat.testBit_and];by_cases h:i<64
 ·rw[Hm hpw h];cases (pw j).testBit i<;>simp
 ·have h1:p.testBit i=false:=Nat.testBit_lt_two_pow (Nat.lt_of_lt_of_le hp (Nat.pow_le_pow_right (n:=2) (i:=32) (by omega) (by omega)));rw[h1];simp
theorem Hp{S P R kd:Nat}{nn:Int}:BY S P R 0 0 0 [(kd,nn)]=AB P R (kd,nn):=by
 unfold BY;have h1:(0:Nat)<2 ^ S:=Nat.two_pow_pos S;have h2:(0:Nat) ||| 0<2 ^ P:=Nat.two_pow_pos P
 rw[decide_eq_true h1,decide_eq_true h2,List.all_cons,List.all_nil];simp
theorem OA{L:AM}{s:St}{oc kd:Nat}{nn:Int}(h:AB L.po.l.length L.rt.l.length (kd,nn)=false):CI (B6 L) s oc (kd,nn)=s:=by
 unfold AB at h;have h:=of_decide_eq_false h;dsimp only at h;unfold CI Bj;by_cases h0:nn<0
 ·rw[if_pos h0]
 ·rw[if_neg h0];by_cases h3:kd=3
  ·rw[if_pos h3,Do,if_neg (by omega)]
  ·rw[if_neg h3];cases hx:(B6 L).rw[nn.toNat]? with
   | none=>rfl
   | some x=>
     have hl:nn.toNat<L.rt.l.length:=by
      have:=(List.getElem?_eq_some_iff.1 hx).1;rw[CE] at this;exact this
     dsimp only;rw[if_neg (by omega),if_neg (by omega)]
theorem OX{L:AM}{s:St}{oc n:Nat}{x:Rt}(hx:L.rt.l[n]?=some x):CI (B6 L) s oc (1,(n:Int))=BO (B6 L) s oc n (CQ L n x):=by
 unfold CI Bj;dsimp only;rw[if_neg (by omega),if_neg (by omega),Int.toNat_natCast,Dn hx];rfl
theorem P2{L:AM}{s:St}{oc n:Nat}{x:Rt}(hx:L.rt.l[n]?=some x):CI (B6 L) s oc (2,(n:Int))=Bw s oc n (CQ L n x):=by
 unfold CI Bj;dsimp only;rw[if_neg (by omega),if_neg (by omega),Int.toNat_natCast,Dn hx];rfl
theorem Pu{L:AM}{s:St}{oc n:Nat}(hn:n<L.po.l.length):CI (B6 L) s oc (3,(n:Int))=BQ (B6 L) s oc n:=by
 unfold CI Bj;dsimp only;rw[if_neg (by omega),if_pos rfl,Int.toNat_natCast,Do,if_pos hn]
theorem QV(T:Tb)(s:St)(oc n:Nat)(x:Rw):BO T s oc n x=if B7 T s oc n x then { s with lk:=Ab s.lk n,pt:=Cr x.nd s.pt } else s:=rfl
theorem R7(s:St)(oc n:Nat)(x:Rw):Bw s oc n x=if AT s n then { s with ca:=Ab s.ca n,tm:=if Aa oc x.ah.toNat then BU s.tm n 20 else BU s.tm n 0 } else s:=rfl
theorem Qf(T:Tb)(s:St)(oc p:Nat):BQ T s oc p=if Bg T s oc p then { s with pt:=Bh s.pt p } else s:=rfl
theorem NX(T:Tb)(s:St)(oc p:Nat):Bg T s oc p=(!Aa oc (T.li.getD p 0).toNat && !BD T s p T.rw.length):=rfl
theorem QN(L:AM)(i:Nat)(x:Rt):(CQ L i x).ah=Bs L x.sg:=rfl
theorem RS(l:List (Int × Bool))(h:∀ n∈l,0≤n.1∧n.1≤31):∀ p,p<4294967296→Cr l p<4294967296:=by
 induction l with
 | nil=>intro p hp;exact hp
 | cons a l ih=>
   intro p hp;unfold Cr;rw[List.foldl_cons];refine ih (fun n hn=>h n (List.mem_cons_of_mem _ hn)) _ ?_;have ha:=h a List.mem_cons_self;split
   ·rw[Bo];exact Nat.or_lt_two_pow (n:=32) hp (Nat.pow_lt_pow_right (by omega) (by omega))
   ·exact Nat.lt_of_le_of_lt (D8 _ _) hp
attribute [local irreducible] Sl.v Aa pw Ab Ax C4 Ai BG Cs Bi Bf B7 Cr BO AT Bk Bw BD Bh Bg BQ Bj BI BC BM AD AS AR Bc BB Bq CT Mc.tb BU AQ Aq AW
attribute [local irreducible] B6 CQ Bs BN Rt.tr Rt.nd Aw BS As
attribute [local irreducible] DB
set_option maxHeartbeats 8000000 in
theorem QL(L:AM)(s:St)(oc no re:Nat)(ia:Option Addr)(il ic:Nat)(kd:Nat)(nn:Int)(w:World)(hL:B5 w L)(hc:(Aq L).1=0)(hs:s.ok)(ho:oc<18446744073709551616)(hkd:kd≤255)(h1 : -9223372036854775808≤nn)(h2:nn≤9223372036854775807)(hr:AB L.po.l.length L.rt.l.length (kd,nn)=false) :
 Calls Tryz.prog 42 #[.agg #[L.se.v,L.po.v,L.sg.v,L.rt.v],.agg (Ai s).toArray,.agg #[.int .u64 (oc:Int),.int .u32 (no:Int),.int .u32 (re:Int),.slice ia il ic],.agg #[.int .u8 (kd:Int),.int .i64 nn]] w fun e w'=>e = .returned (.agg (Ai (CI (B6 L) s oc (kd,nn))).toArray)∧Below w.heap.size w w':=by
 have HBR:=hid hr;have HMAY:Hid (AQ L=true):=hid (AP hc);have HS4:Hid (L.rt.l.length≤64):=hid (Ay (AP hc)).2.2.2;have HCK:=hid hc;have HS2:Hid (L.po.l.length≤32):=hid (Ay (AP hc)).2.1;have HS1:Hid (L.se.l.length≤64):=hid (Ay (AP hc)).1;have HSO:=hid hs;have HOC:=hid ho;obtain⟨n1,hn1⟩:∃ n,L.se.l.length=n:=⟨_,rfl⟩;obtain⟨n2,hn2⟩:∃ n,L.po.l.length=n:=⟨_,rfl⟩;obtain⟨n3,hn3⟩:∃ n,L.sg.l.length=n:=⟨_,rfl⟩;obtain⟨n4,hn4⟩:∃ n,L.rt.l.length=n:=⟨_,rfl⟩;have HLW:=hid hL;have HN1:=hid hn1;have HN2:=hid hn2;have HN3:=hid hn3;have HN4:=hid hn4;have KR:Hid (∀(V:World) (g:Nat),V.heap[g]?=some (.cells #[.int .u8 (kd:Int),.int .i64 nn] 31)→Calls Tryz.prog 73 #[.agg #[.slice L.se.a n1 L.se.c,.slice L.po.a n2 L.po.c,.slice L.sg.a n3 L.sg.c,.slice L.rt.a n4 L.rt.c],.agg #[.int .u64 0,.int .u32 0,.int .u32 0,.slice (some ⟨g,0,none⟩) 1 1]] V fun e w'=>e = .returned (.bool false)∧Below V.heap.size V w'):=hid (fun V g hg=>by
  have h:=CX n1 n2 n3 n4 L.se.a L.po.a L.sg.a L.rt.a L.se.c L.po.c L.sg.c L.rt.c 0 0 0 (some ⟨g,0,none⟩) [(kd,nn)] 1 1 V rfl (by omega) (by rw[← hn1];have:=HS1.out;omega) (by rw[← hn2];have:=HS2.out;omega) (by rw[← hn4];have:=HS4.out;omega) (F5 hg (by omega) h1 h2) (by omega) (by omega) (by omega);rw[Hp,show min n2 32=L.po.l.length by have:=HS2.out;omega,show min n4 64=L.rt.l.length by have:=HS4.out;omega,HBR.out] at h;exact h)
 rw[hn4] at HS4;rw[Ak hn1,Ak hn2,Ak hn3,Ak hn4];have HROWL:Hid (AF 6 NE w L.rt.a L.rt.l):=hid hL.rt.row;clear hn1 hn2 hn3 hn4 hL hc hs ho hkd h1 h2;go_enter Tryz.func42,Tryz.ntmps42;go_upto_region 1 with fail
 rw[BF];refine Ap (os:=[.cells #[.slice L.se.a n1 L.se.c,.slice L.po.a n2 L.po.c,.slice L.sg.a n3 L.sg.c,.slice L.rt.a n4 L.rt.c] 27,.cells (Ai s).toArray 65,.cells #[.int .u64 (oc:Int),.int .u32 (no:Int),.int .u32 (re:Int),.slice ia il ic] 35,.cells #[.int .u8 (kd:Int),.int .i64 nn] 31,.cells (Ai zS).toArray 65]) (w0:=w) rfl ?_;intro W hat hbw;obtain⟨gl,hgl⟩:∃ g,g=w.heap.size:=⟨_,rfl⟩;have q0:=hat 0 _ rfl;obtain⟨gs,hgs⟩:∃ g,g=gl+1:=⟨_,rfl⟩;have q1:=hat 1 _ rfl;obtain⟨gi,hgi⟩:∃ g,g=gs+1:=⟨_,rfl⟩;have q2:=hat 2 _ rfl;obtain⟨gc,hgc⟩:∃ g,g=gi+1:=⟨_,rfl⟩;have q3:=hat 3 _ rfl;obtain⟨gr,hgr⟩:∃ g,g=gc+1:=⟨_,rfl⟩;have q4:=hat 4 _ rfl;rw[Nat.add_zero,← hgl] at q0;rw[← hgl,← hgs] at q1;rw[← hgl,show gl+2=gi by omega] at q2;rw[← hgl,show gl+3=gc by omega] at q3;rw[← hgl,show gl+4=gr by omega] at q4;rw[← hgl,← hgs,← hgi,← hgc,← hgr];have HQl:=hid q0;have HQs:=hid q1;have HQi:=hid q2;have HQc:=hid q3;have HQr:=hid q4;have HB0:=hid hbw;have HG:Hid (w.heap.size≤gs∧gr≠gs∧gl≠gs∧gi≠gs∧gc≠gs):=hid (by omega);have HGR:Hid (w.heap.size≤gr):=hid (by omega);clear hat hbw q0 q1 q2 q3 q4 hgl hgs hgi hgc hgr;have l0:=A4 HQl.out 0 _ rfl;have l1:=A4 HQl.out 1 _ rfl;have l2:=A4 HQl.out 2 _ rfl;have l3:=A4 HQl.out 3 _ rfl;have m0:=A4 HQc.out 0 _ rfl;have m1:=A4 HQc.out 1 _ rfl;go_wp2_with fail;have hbn:=Ac W (.cells #[.int .u8 (kd:Int),.int .i64 nn] 31);have hqn:=Ao W (.cells #[.int .u8 (kd:Int),.int .i64 nn] 31) (Below.refl _ _);refine(KR.out _ _ hqn).mono ?_;rintro e w1 ⟨rfl,hb1⟩;have HBW1:=hid (A8 hbn hb1);have HB1:=hid (A8 HB0.out HBW1.out);have HL1:=hid (A5 HBW1.out HQl.out);have HS1':=hid (A5 HBW1.out HQs.out);have HI1:=hid (A5 HBW1.out HQi.out);have HC1:=hid (A5 HBW1.out HQc.out);have HR1:=hid (A5 HBW1.out HQr.out);clear hbn hqn hb1 l0 l1 l2 l3 m0 m1 KR;go_upto_region 2 with fail
 have HLD:=hid (Az HS1'.out);obtain⟨hst,hq9,ho9⟩:=AN (s':=s) HR1.out;have HST:=hid hst;have HQ9:=hid hq9;have HB9:Hid (Below w.heap.size w (w1.setCells gr 0 (Ai s))):=hid (Ag.below HB1.out HGR.out HB1.out.size ho9);clear hst hq9 ho9;go_wp2_with (first
  | ((with_reducible refine Aj (op:=⟨some 17,_,_,_,_,_⟩) rfl 65 _ rfl _ _ ?_ HLD.out ?_);(· rfl))
  | ((with_reducible refine Am (op:=⟨none,.store 65 _ _,_,_,_,_⟩) rfl 65 _ _ rfl _ _ ?_ ?_ _ HST.out ?_);(· rfl);(· rfl)))
 (try simp only[Exit.inBlock,Exit.then])
 refine bodyPost_ret (results_cell_row (g:=gr) rfl _ _ 65 (Ai s).toArray (0,0) _ rfl HQ9.out Tryz.underlying65 rfl (by rw[List.size_toArray,AU];exact Bd)) rfl ?_;exact⟨by rw[OA HBR.out],HB9.out⟩
end Go.Proofs.YtpohoannggdbjaaGreat
namespace Go.Proofs.YtpohoannggdbjaaGreat
open Lib (hid)
open Go.RowKit
set_option maxRecDepth 100000
attribute [local irreducible] Sl.v Aa pw Ab Ax C4 Ai BG Cs Bi Bf B7 Cr BO AT Bk Bw BD Bh Bg BQ Bj BI BC BM AD AS AR Bc BB Bq CT Mc.tb BU AQ Aq AW
attribute [local irreducible] B6 CQ Bs BN Rt.tr Rt.nd Aw BS As
attribute [local irreducible] DB
attribute [local irreducible] Gu
set_option maxHeartbeats 16000000 in
theorem Qu(L:AM)(s:St)(oc no re:Nat)(ia:Option Addr)(il ic:Nat)(kd:Nat)(nn:Int)(w:World)(hL:B5 w L)(hc:(Aq L).1=0)(hs:s.ok)(ho:oc<18446744073709551616)(hkd:kd≤255)(h1 : -9223372036854775808≤nn)(h2:nn≤9223372036854775807)(hk:kd=1)(n:Nat)(x:Rt)(hn:nn=(n:Int))(hx:L.rt.l[n]?=some x) :
 Calls Tryz.prog 42 #[.agg #[L.se.v,L.po.v,L.sg.v,L.rt.v],.agg (Ai s).toArray,.agg #[.int .u64 (oc:Int),.int .u32 (no:Int),.int .u32 (re:Int),.slice ia il ic],.agg #[.int .u8 (kd:Int),.int .i64 nn]] w fun e w'=>e = .returned (.agg (Ai (CI (B6 L) s oc (kd,nn))).toArray)∧Below w.heap.size w w':=by
 have HMAY:Hid (AQ L=true):=hid (AP hc);have HS4:Hid (L.rt.l.length≤64):=hid (Ay (AP hc)).2.2.2;have HCK:=hid hc;have HS2:Hid (L.po.l.length≤32):=hid (Ay (AP hc)).2.1;have HS1:Hid (L.se.l.length≤64):=hid (Ay (AP hc)).1;have HBR:Hid (AB L.po.l.length L.rt.l.length (kd,nn)=true):=hid (by
  have hl:=(List.getElem?_eq_some_iff.1 hx).1;unfold AB;exact decide_eq_true (by dsimp only;omega))
 have h63:n≤63:=by have h1:=(List.getElem?_eq_some_iff.1 hx).1;have:=HS4.out;omega
 have hxm:=List.mem_of_getElem? hx;have HN63:=hid h63;have HN64:Hid (n<64):=hid (by omega);have HXR:=hid hx;obtain⟨bs,hbs⟩:∃ b,B7 (B6 L) s oc n (CQ L n x)=b:=⟨_,rfl⟩;have HEQ:Hid (CI (B6 L) s oc (kd,nn)=if bs then { s with lk:=Ab s.lk n,pt:=Cr x.nd s.pt } else s):=hid (by
  rw[hn,hk,OX hx,QV,hbs,Gf])
 have KSET:Hid (∀ V,Below w.heap.size w V→Calls Tryz.prog 74 #[.agg #[L.se.v,L.po.v,L.sg.v,L.rt.v],.agg (Ai s).toArray,.agg #[.int .u64 (oc:Int),.int .u32 (no:Int),.int .u32 (re:Int),.slice ia il ic],.int .i64 (n:Int)] V fun e w'=>e = .returned (.bool bs)∧Below V.heap.size V w'):=hid (fun V hV=>hbs ▸ Oz L s oc no re ia il ic n x V (hL.below hV) hc hs ho hx);have KND0:Hid (∀(g:Nat) (V:World),Below w.heap.size w V→g<V.heap.size→Calls Tryz.prog 70 #[.agg #[.string x.nm,.int .i64 x.sg,x.pa.v,x.po.v,x.ov.v,x.fl.v]] V fun e w'=>∃ v,e = .returned v∧Gu 2 Cz (fun b=>b=g) w' x.nd v∧Below V.heap.size V w'):=hid (fun g V hV hg=>by
  have ok:=Bn HMAY.out x hxm;refine(FY x V ((hL.rn x hxm).below hV) (by have:=ok.po;have:=ok.fl;omega)).mono (fun _ _ ⟨a,m,c,e1,e2,e3,e4,e5⟩=>⟨_,e1,Fr ?_ (by unfold Rt.nd;exact e3) e5 (fun b hb=>by have hb:b=g:=hb;omega),e4⟩);rw[e2];unfold Rt.nd;rw[List.length_append])
 have HNL:Hid (x.nd.length≤100000):=hid (by have ok:=Bn HMAY.out x hxm;have:=ok.po;have:=ok.fl;unfold Rt.nd;rw[List.length_append];omega);have HNB:Hid (∀ n∈x.nd,0≤n.1∧n.1≤31):=hid (fun n hn=>by have h:=Lv HMAY.out x hxm n hn;have:=HS2.out;omega);have HKD:=hid hk;have HNN:=hid hn;clear hbs h63 hxm hx hk hn;have HSO:=hid hs;have HOC:=hid ho;obtain⟨n1,hn1⟩:∃ n,L.se.l.length=n:=⟨_,rfl⟩;obtain⟨n2,hn2⟩:∃ n,L.po.l.length=n:=⟨_,rfl⟩;obtain⟨n3,hn3⟩:∃ n,L.sg.l.length=n:=⟨_,rfl⟩;obtain⟨n4,hn4⟩:∃ n,L.rt.l.length=n:=⟨_,rfl⟩;have HLW:=hid hL;have HN1:=hid hn1;have HN2:=hid hn2;have HN3:=hid hn3;have HN4:=hid hn4;have KR:Hid (∀(V:World) (g:Nat),V.heap[g]?=some (.cells #[.int .u8 (kd:Int),.int .i64 nn] 31)→Calls Tryz.prog 73 #[.agg #[.slice L.se.a n1 L.se.c,.slice L.po.a n2 L.po.c,.slice L.sg.a n3 L.sg.c,.slice L.rt.a n4 L.rt.c],.agg #[.int .u64 0,.int .u32 0,.int .u32 0,.slice (some ⟨g,0,none⟩) 1 1]] V fun e w'=>e = .returned (.bool true)∧Below V.heap.size V w'):=hid (fun V g hg=>by
  have h:=CX n1 n2 n3 n4 L.se.a L.po.a L.sg.a L.rt.a L.se.c L.po.c L.sg.c L.rt.c 0 0 0 (some ⟨g,0,none⟩) [(kd,nn)] 1 1 V rfl (by omega) (by rw[← hn1];have:=HS1.out;omega) (by rw[← hn2];have:=HS2.out;omega) (by rw[← hn4];have:=HS4.out;omega) (F5 hg (by omega) h1 h2) (by omega) (by omega) (by omega);rw[Hp,show min n2 32=L.po.l.length by have:=HS2.out;omega,show min n4 64=L.rt.l.length by have:=HS4.out;omega,HBR.out] at h;exact h)
 rw[Ak hn1,Ak hn2,Ak hn3,Ak hn4] at KSET;rw[hn4] at HS4;rw[Ak hn1,Ak hn2,Ak hn3,Ak hn4];have HROWL:Hid (AF 6 NE w L.rt.a L.rt.l):=hid hL.rt.row;clear hn1 hn2 hn3 hn4 hL hc hs ho hkd h1 h2;go_enter Tryz.func42,Tryz.ntmps42;go_upto_region 1 with fail
 rw[BF];refine Ap (os:=[.cells #[.slice L.se.a n1 L.se.c,.slice L.po.a n2 L.po.c,.slice L.sg.a n3 L.sg.c,.slice L.rt.a n4 L.rt.c] 27,.cells (Ai s).toArray 65,.cells #[.int .u64 (oc:Int),.int .u32 (no:Int),.int .u32 (re:Int),.slice ia il ic] 35,.cells #[.int .u8 (kd:Int),.int .i64 nn] 31,.cells (Ai zS).toArray 65]) (w0:=w) rfl ?_;intro W hat hbw;obtain⟨gl,hgl⟩:∃ g,g=w.heap.size:=⟨_,rfl⟩;have q0:=hat 0 _ rfl;obtain⟨gs,hgs⟩:∃ g,g=gl+1:=⟨_,rfl⟩;have q1:=hat 1 _ rfl;obtain⟨gi,hgi⟩:∃ g,g=gs+1:=⟨_,rfl⟩;have q2:=hat 2 _ rfl;obtain⟨gc,hgc⟩:∃ g,g=gi+1:=⟨_,rfl⟩;have q3:=hat 3 _ rfl;obtain⟨gr,hgr⟩:∃ g,g=gc+1:=⟨_,rfl⟩;have q4:=hat 4 _ rfl;rw[Nat.add_zero,← hgl] at q0;rw[← hgl,← hgs] at q1;rw[← hgl,show gl+2=gi by omega] at q2;rw[← hgl,show gl+3=gc by omega] at q3;rw[← hgl,show gl+4=gr by omega] at q4;rw[← hgl,← hgs,← hgi,← hgc,← hgr];have HQl:=hid q0;have HQs:=hid q1;have HQi:=hid q2;have HQc:=hid q3;have HQr:=hid q4;have HB0:=hid hbw;have HG:Hid (w.heap.size≤gs∧gr≠gs∧gl≠gs∧gi≠gs∧gc≠gs):=hid (by omega);have HGR:Hid (w.heap.size≤gr):=hid (by omega);clear hat hbw q0 q1 q2 q3 q4 hgl hgs hgi hgc hgr;have l0:=A4 HQl.out 0 _ rfl;have l1:=A4 HQl.out 1 _ rfl;have l2:=A4 HQl.out 2 _ rfl;have l3:=A4 HQl.out 3 _ rfl;have m0:=A4 HQc.out 0 _ rfl;have m1:=A4 HQc.out 1 _ rfl;go_wp2_with fail;have hbn:=Ac W (.cells #[.int .u8 (kd:Int),.int .i64 nn] 31);have hqn:=Ao W (.cells #[.int .u8 (kd:Int),.int .i64 nn] 31) (Below.refl _ _);refine(KR.out _ _ hqn).mono ?_;rintro e w1 ⟨rfl,hb1⟩;have HBW1:=hid (A8 hbn hb1);have HB1:=hid (A8 HB0.out HBW1.out);have HL1:=hid (A5 HBW1.out HQl.out);have HS1':=hid (A5 HBW1.out HQs.out);have HI1:=hid (A5 HBW1.out HQi.out);have HC1:=hid (A5 HBW1.out HQc.out);have HR1:=hid (A5 HBW1.out HQr.out);clear hbn hqn hb1 l0 l1 l2 l3 m0 m1 KR;obtain⟨X,hX⟩:∃ a,L.rt.a=a:=⟨_,rfl⟩;have hl1:=HL1.out;rw[hX] at hl1 KSET ⊢;have hrow:=HROWL.out;rw[hX] at hrow;rcases hrow with hnil | ⟨xb,off,hxb,hc0⟩
 ·have hx9:=HXR.out;rw[hnil] at hx9;cases hx9
 subst hxb;have HL1:=hid hl1;have HROW:=hid hc0;have hc:=hc0;have hyx:=HXR.out;have z0:=hc n _ hyx 0 _ rfl;have z1:=hc n _ hyx 1 _ rfl;have z2:=hc n _ hyx 2 _ rfl;have z3:=hc n _ hyx 3 _ rfl;have z4:=hc n _ hyx 4 _ rfl;have z5:=hc n _ hyx 5 _ rfl;rw[Nat.add_zero] at z0;obtain⟨p1,hp1⟩:∃ n,x.pa.l.length=n:=⟨_,rfl⟩;obtain⟨p2,hp2⟩:∃ n,x.po.l.length=n:=⟨_,rfl⟩;obtain⟨p3,hp3⟩:∃ n,x.ov.l.length=n:=⟨_,rfl⟩;obtain⟨p4,hp4⟩:∃ n,x.fl.l.length=n:=⟨_,rfl⟩;rw[Ak hp1] at z2;rw[Ak hp2] at z3;rw[Ak hp3] at z4;rw[Ak hp4] at z5;have HZX:=hid (And.intro z0 (And.intro z1 (And.intro z2 (And.intro z3 (And.intro z4 z5)))));clear z0 z1 z2 z3 z4 z5;have KND:=hid KND0.out;rw[Ak hp1,Ak hp2,Ak hp3,Ak hp4] at KND;clear KND0 hp1 hp2 hp3 hp4;clear hX hl1 hc hc0 hyx;have hn:=HNN.out;subst hn;have k1:((kd:Int) == 1)=true:=by have:=HKD.out;simp;omega
 have k2:((kd:Int) == 2)=false:=by have:=HKD.out;simp;omega
 have k3:((kd:Int) == 3)=false:=by have:=HKD.out;simp;omega
 have m0:=A4 HC1.out 0 _ rfl;have m1:=A4 HC1.out 1 _ rfl;have l0:=A4 HL1.out 0 _ rfl;have l1:=A4 HL1.out 1 _ rfl;have l2:=A4 HL1.out 2 _ rfl;have l3:=A4 HL1.out 3 _ rfl;have i0:=A4 HI1.out 0 _ rfl;have i1:=A4 HI1.out 1 _ rfl;have i2:=A4 HI1.out 2 _ rfl;have i3:=A4 HI1.out 3 _ rfl;have HLD:=hid (Az HS1'.out);go_wp2_with (first
  | ((with_reducible refine FF (op:=⟨some 24,_,_,_,_,_⟩) ?_ 65 _ rfl _ _ ?_ HLD.out ?_);(· rfl);(· rfl)))
 refine(KSET.out _ HB1.out).mono ?_;rintro e w2 ⟨rfl,hb2⟩;have HS2:=hid (A5 hb2 HS1'.out);have HR2:=hid (A5 hb2 HR1.out);have HL2:=hid (A5 hb2 HL1.out);have HI2:=hid (A5 hb2 HI1.out);have HC2:=hid (A5 hb2 HC1.out);have HB2:=hid (A8 HB1.out hb2);clear hb2 m0 m1 l0 l1 l2 l3 i0 i1 i2 i3 HLD HS1' HR1 HL1 HI1 HC1 HB1 HBW1;cases bs with
 | false=>
   have m0:=A4 HC2.out 0 _ rfl;go_upto_region 17 with fail
   refine Ae (by kernel_rfl) ?_ ?_
   ·kernel_rfl
   repeat first
    | go_big_quiet_skip
    | (go_big_quiet_want
       (first
         | ((with_reducible refine Ad (o:=⟨some 124,_,_,_,_,_⟩) 5 _ rfl (.pointer (some ⟨gc,0,none⟩)) (.int .u8 (kd:Int)) ?_ ?_ ?_);(· rfl);(· intro w' hw';have l:=A4 (A5 hw' HC2.out) 0 _ rfl;go_simp)))
       simp only[Act.put,List.setIfInBounds_toArray,List.set_cons_zero,List.set_cons_succ];go_big_quiet_on)
    | (go_big_quiet_want;go_big_quiet_op;go_big_quiet_on)
    | (with_reducible apply wpQuiet_step
       intro K hK;go_simp;first
        | (refine hK _ ?_;clear hK K)
        | (apply Exists.intro
           refine⟨fun w' hw'=>?_,hK _ ?_⟩
           ·
            (first
             | (skip
                go_simp;first | done | with_reducible exact rfl | with_reducible exact⟨rfl,rfl⟩))
           clear hK K))
   refine wpQuiet_nil ?_;intro w7 hw7;have HB7:=hid (A8 HB2.out hw7);have HSx:=hid (A5 hw7 HS2.out);have HRx:=hid (A5 hw7 HR2.out);have HBx:=hid (A8 HB2.out hw7);clear hw7;go_upto_region 19 with fail
   have HLD:=hid (Az HSx.out);obtain⟨hst,hq9,ho9⟩:=AN (s':=s) HRx.out;have HST:=hid hst;have HQ9:=hid hq9;have HB9:Hid (Below w.heap.size w (w7.setCells gr 0 (Ai s))):=hid (Ag.below HBx.out HGR.out HBx.out.size ho9);clear hst hq9 ho9;go_wp2_with (first
    | ((with_reducible refine Aj (op:=⟨some 152,_,_,_,_,_⟩) rfl 65 _ rfl _ _ ?_ HLD.out ?_);(· rfl))
    | ((with_reducible refine Am (op:=⟨none,.store 65 _ _,_,_,_,_⟩) rfl 65 _ _ rfl _ _ ?_ ?_ _ HST.out ?_);(· rfl);(· rfl)))
   (try simp only[Exit.inBlock,Exit.then])
   refine bodyPost_ret (results_cell_row (g:=gr) rfl _ _ 65 (Ai s).toArray (0,0) _ rfl HQ9.out Tryz.underlying65 rfl (by rw[List.size_toArray,AU];exact Bd)) rfl ?_;exact⟨by rw[HEQ.out];rfl,HB9.out⟩
 | true=>
   go_upto_region 4 with fail
   refine Ah (by kernel_rfl) [7] 10 [0,1,2,3,4,5,6] [30,31,32,33,34,35,36] #[true,true,true,true,true,true,true,false] 1 [(fun v _=>v = .pointer (some ⟨gs,0,none⟩)),(fun v _=>v = .int .u64 (s.lk:Int)),(fun v _=>v = .pointer (some ⟨gc,1,none⟩)),(fun v _=>v = .int .i64 (n:Int)),(fun v _=>v = .int .u64 (pw n:Int)),(fun v _=>v = .int .u64 ((Ab s.lk n:Nat):Int)),(fun v _=>v = .pointer (some ⟨gs,0,none⟩)),(fun _ _=>True)] (by kernel_rfl) (by kernel_rfl) (by kernel_rfl) (by kernel_rfl) (by kernel_rfl) rfl (by kernel_rfl) rfl ?_ ?_ ?_
   ·exact⟨A7 _,A7 _,A7 _,A7 _,A7 _,A7 _,A7 _,Al,trivial⟩
   ·refine⟨?_,?_,?_,?_,?_,?_,?_,trivial⟩
    ·refine A6 (o:=⟨some 30,_,_,_,_,_⟩) rfl (fun r V hc hf hg hs hb hd=>?_);have x5:r (.tmp 5) = .pointer (some ⟨gs,0,none⟩):=hs 5 (by kernel_rfl);clear hs hd hg;go_simp;exact⟨Below.refl _ _,rfl⟩
    ·refine A6 (o:=⟨some 31,_,_,_,_,_⟩) rfl (fun r V hc hf hg hs hb hd=>?_);have h0:r (.tmp 30) = .pointer (some ⟨gs,0,none⟩):=hd 0 30 rfl (by kernel_rfl);clear hs hd hg;have l:=A4 (A5 hb HS2.out) 0 _ (Dl _);go_simp;exact⟨Below.refl _ _,rfl⟩
    ·refine A6 (o:=⟨some 32,_,_,_,_,_⟩) rfl (fun r V hc hf hg hs hb hd=>?_);have x7:r (.tmp 7) = .pointer (some ⟨gc,0,none⟩):=hs 7 (by kernel_rfl);clear hs hd hg;go_simp;exact⟨Below.refl _ _,rfl⟩
    ·refine A6 (o:=⟨some 33,_,_,_,_,_⟩) rfl (fun r V hc hf hg hs hb hd=>?_);have h2:r (.tmp 32) = .pointer (some ⟨gc,1,none⟩):=hd 2 32 rfl (by kernel_rfl);clear hs hd hg;have l:=A4 (A5 hb HC2.out) 1 _ rfl;go_simp;exact⟨Below.refl _ _,rfl⟩
    ·refine A6 (o:=⟨some 34,_,_,_,_,_⟩) rfl (fun r V hc hf hg hs hb hd=>?_);have h3:r (.tmp 33) = .int .i64 (n:Int):=hd 3 33 rfl (by kernel_rfl);clear hs hd hg;have h63:=HN63.out;have h0:(0:Int)≤n:=by omega
     have h1:min n 64=n:=by omega
     have h2:¬ (64:Int)≤n:=by omega
     have hs1:=Be n h63;go_simp;exact⟨Below.refl _ _,by simp⟩
    ·refine A6 (o:=⟨some 35,_,_,_,_,_⟩) rfl (fun r V hc hf hg hs hb hd=>?_);have h1:r (.tmp 31) = .int .u64 (s.lk:Int):=hd 1 31 rfl (by kernel_rfl);have h4:r (.tmp 34) = .int .u64 (pw n:Int):=hd 4 34 rfl (by kernel_rfl);clear hs hd hg;have ho1:=Ce s.lk n HN63.out HSO.out.lk;go_simp;exact⟨Below.refl _ _,rfl⟩
    ·refine A6 (o:=⟨some 36,_,_,_,_,_⟩) rfl (fun r V hc hf hg hs hb hd=>?_);have x5:r (.tmp 5) = .pointer (some ⟨gs,0,none⟩):=hs 5 (by kernel_rfl);clear hs hd hg;go_simp;exact⟨Below.refl _ _,rfl⟩
   ·intro a V hb hx;have h0:a.eval (.tmp 30) = .pointer (some ⟨gs,0,none⟩):=hx 0 30 rfl rfl;have h1:a.eval (.tmp 31) = .int .u64 (s.lk:Int):=hx 1 31 rfl rfl;have h2:a.eval (.tmp 32) = .pointer (some ⟨gc,1,none⟩):=hx 2 32 rfl rfl;have h3:a.eval (.tmp 33) = .int .i64 (n:Int):=hx 3 33 rfl rfl;have h4:a.eval (.tmp 34) = .int .u64 (pw n:Int):=hx 4 34 rfl rfl;have h5:a.eval (.tmp 35) = .int .u64 ((Ab s.lk n:Nat):Int):=hx 5 35 rfl rfl;have h6:a.eval (.tmp 36) = .pointer (some ⟨gs,0,none⟩):=hx 6 36 rfl rfl;unfold AA;simp only[List.foldl_cons,List.foldl_nil,h0,h1,h2,h3,h4,h5,h6,Act.put,List.setIfInBounds_toArray,List.set_cons_zero,List.set_cons_succ];clear h0 h1 h2 h3 h4 h5 h6 hx;have HSV:=hid (A5 hb HS2.out);have HRV:=hid (A5 hb HR2.out);have HLV:=hid (A5 hb HL2.out);have HIV:=hid (A5 hb HI2.out);have HCV:=hid (A5 hb HC2.out);have HBV:=hid (A8 HB2.out hb);clear hb HB2 HS2 HR2 HL2 HI2 HC2;refine wpAny_ready (rs:=[7]) (by kernel_rfl) (by simp) (AllReady.cons (o:=⟨none,_,_,_,_,_⟩) rfl (fun K hK=>?_) AllReady.nil);have c0:=A4 HSV.out 0 _ (Dl _);have f0:=An HSV.out 0;have hl:=Af HSV.out;go_simp;clear c0 f0 hl;refine AY ?_;intro V3 hV3;have ho:Ag gs V V3:=by rw[hV3];exact(Ag.refl gs V).setCell rfl _
    have HSb:Hid (V3.heap[gs]?=some (.cells (Ai { s with lk:=Ab s.lk n }).toArray 65)):=hid (by rw[hV3];exact(AH HSV.out 0 _).trans (congrArg (fun C=>some (Obj.cells C 65)) (Nk _ _)));have HBb:Hid (Below w.heap.size w V3):=hid (Ag.below HBV.out HG.out.1 HBV.out.size ho);have HRb:=hid (Ag.keep ho HG.out.2.1 HRV.out);have HLb:=hid (Ag.keep ho HG.out.2.2.1 HLV.out);have HIb:=hid (Ag.keep ho HG.out.2.2.2.1 HIV.out);have HCb:=hid (Ag.keep ho HG.out.2.2.2.2 HCV.out);clear hV3 ho HSV HBV HRV HLV HIV HCV;refine hK _ _ ?_;clear hK K;refine wpAny_done (by kernel_rfl) ?_ _;have l3:=A4 HLb.out 3 _ rfl;have m1:=A4 HCb.out 1 _ rfl;have z0:=cell_later HBb.out HZX.out.1;have z1:=cell_later HBb.out HZX.out.2.1;have z2:=cell_later HBb.out HZX.out.2.2.1;have z3:=cell_later HBb.out HZX.out.2.2.2.1;have z4:=cell_later HBb.out HZX.out.2.2.2.2.1;have z5:=cell_later HBb.out HZX.out.2.2.2.2.2;have d1:(0:Int)≤n:=by omega
    have d2:(n:Int)<n4:=by have h:=(List.getElem?_eq_some_iff.1 HXR.out).1;have:=HN4.out;omega
    go_wp2_with fail;refine(KND.out gs _ HBb.out (Af HSb.out)).mono ?_;rintro e wn ⟨v,rfl,hrv,hb1⟩;unfold Gu at hrv;obtain⟨ta,tn,tc,rfl,htn,hsx⟩:=hrv;have HSX:=hid hsx;have HTN:=hid htn;have htm:tn≤100000:=by rw[htn];exact HNL.out
    have HTM:=hid htm;have HSn:=hid (A5 hb1 HSb.out);have HRn:=hid (A5 hb1 HRb.out);have HBn:=hid (A8 HBb.out hb1);clear l3 m1 z0 z1 z2 z3 z4 z5 d1 d2 hsx htn htm hb1 HSb HRb HLb HIb HCb HBb;go_upto_region 7 with fail
    go_loopg [10] tn (fun g v wq=>∃ k:Nat,k+g=tn∧v = .int .i64 (k:Int)∧wq.heap[gs]?=some (.cells (Ai { s with lk:=Ab s.lk n,pt:=Cr (x.nd.take k) s.pt }).toArray 65)∧WX (fun b=>b=gs) wn wq)
    case atStart=>exact⟨0,by omega,rfl,by rw[J1];exact HSn.out,WX.refl _ _⟩
    case round=>
     obtain⟨k,hk,rfl,hq,hw⟩:=hrel;have HK:=hid hk;have HSq:=hid hq;have HWq:=hid hw;clear hk hq hw;by_cases hlk:k<tn
     ·have d3:(0:Int)≤k:=by omega
      have d4:(k:Int)<tn:=by omega
      have e2:=Bp hlk (Nat.le_trans HTM.out (by decide));have HLK:=hid hlk;obtain⟨⟨sj,B⟩,hs⟩:∃ s,x.nd[k]?=some s:=⟨_,List.getElem?_eq_getElem (by have:=HTN.out;omega)⟩;have hsb:=HNB.out _ (List.mem_of_getElem? hs);dsimp only at hsb;obtain⟨j,rfl⟩:∃ j:Nat,sj=j:=⟨sj.toNat,by omega⟩;have HJ31:Hid (j≤31):=hid (by omega);have HSK:=hid hs;obtain⟨A,hA⟩:∃ x,ta=x:=⟨_,rfl⟩;have HAA:=hid hA;have hsx:=HSX.out;rw[hA] at hsx ⊢;have hrow:=hsx.at_.row;dsimp only at hrow;rcases hrow with hnil | ⟨tb,toff,htb,_⟩
      ·rw[hnil] at hs;cases hs
      subst htb;have HCELL:Hid (∀ N,WX (fun b=>b=gs) wn N→N.cell? ⟨tb,toff+k*2,none⟩=some (.int .i64 (j:Int))∧N.cell? ⟨tb,toff+k*2+1,none⟩=some (.bool B)):=hid (fun N hN=>by
       have hr:=(hsx.step hN).at_.row;dsimp only at hr;rcases hr with hnil | ⟨tb',toff',htb,ht0⟩
       ·rw[hnil] at hs;cases hs
       ·injection htb with htb
        injection htb with h1 h2
        subst h1;subst h2;have a0:=ht0 k _ hs 0 (.int .i64 (j:Int)) rfl;have a1:=ht0 k _ hs 1 (.bool B) rfl;rw[Nat.add_zero] at a0;exact⟨a0,a1⟩)
      obtain⟨P,hP⟩:∃ P,Cr (x.nd.take k) s.pt=P:=⟨_,rfl⟩;rw[hP] at HSq;have HPE:=hid hP;have HPL:Hid (P<4294967296):=hid (hP ▸ RS _ (fun y hy=>HNB.out y (List.mem_of_mem_take hy)) _ HSO.out.pt);clear hlk hs hsb hA hsx hP;go_upto_region 9 with fail
      clear d3 d4;refine Ah (by kernel_rfl) [10] 13 [0,1,2,3,4,5,6,7,8,9] [50,51,52,53,54,55,56,57,58,59] #[true,true,true,true,true,true,true,true,true,true,false] 1 [(fun v _=>v = .pointer (some ⟨gs,67,none⟩)),(fun v _=>v = .int .u32 ((P:Nat):Int)),(fun v _=>v = .slice (some ⟨tb,toff,none⟩) tn tc),(fun v _=>v = .int .i64 (k:Int)),(fun v _=>v = .pointer (some ⟨tb,toff+k*2,none⟩)),(fun v _=>v = .pointer (some ⟨tb,toff+k*2,none⟩)),(fun v _=>v = .int .i64 (j:Int)),(fun v _=>v = .int .u32 ((pw j:Nat):Int)),(fun v _=>v = .int .u32 ((Ax P j:Nat):Int)),(fun v _=>v = .pointer (some ⟨gs,67,none⟩)),(fun _ _=>True)] (by kernel_rfl) (by kernel_rfl) (by kernel_rfl) (by kernel_rfl) (by kernel_rfl) rfl (by kernel_rfl) rfl ?_ ?_ ?_
      ·exact⟨A7 _,A7 _,A7 _,A7 _,A7 _,A7 _,A7 _,A7 _,A7 _,A7 _,Al,trivial⟩
      ·refine⟨?_,?_,?_,?_,?_,?_,?_,?_,?_,?_,trivial⟩
       ·refine A6 (o:=⟨some 50,_,_,_,_,_⟩) rfl (fun r V hc hf hg hs hb hd=>?_);have x5:r (.tmp 5) = .pointer (some ⟨gs,0,none⟩):=hs 5 (by kernel_rfl);clear hs hd hg;go_simp;exact⟨Below.refl _ _,rfl⟩
       ·refine A6 (o:=⟨some 51,_,_,_,_,_⟩) rfl (fun r V hc hf hg hs hb hd=>?_);have h0:r (.tmp 50) = .pointer (some ⟨gs,67,none⟩):=hd 0 50 rfl (by kernel_rfl);clear hs hd hg;have l:=A4 (A5 hb HSq.out) 67 _ (E2 _);go_simp;exact⟨Below.refl _ _,rfl⟩
       ·refine A6 (o:=⟨some 52,_,_,_,_,_⟩) rfl (fun r V hc hf hg hs hb hd=>?_);have x9:r (.tmp 9) = .slice (some ⟨tb,toff,none⟩) tn tc:=hs 9 (by kernel_rfl);clear hs hd hg;go_simp;exact⟨Below.refl _ _,rfl⟩
       ·refine A6 (o:=⟨some 53,_,_,_,_,_⟩) rfl (fun r V hc hf hg hs hb hd=>?_);have x10:r (.tmp 10) = .int .i64 (k:Int):=hs 10 (by kernel_rfl);clear hs hd hg;go_simp;exact⟨Below.refl _ _,rfl⟩
       ·refine A6 (o:=⟨some 54,_,_,_,_,_⟩) rfl (fun r V hc hf hg hs hb hd=>?_);have h2:r (.tmp 52) = .slice (some ⟨tb,toff,none⟩) tn tc:=hd 2 52 rfl (by kernel_rfl);have h3:r (.tmp 53) = .int .i64 (k:Int):=hd 3 53 rfl (by kernel_rfl);clear hs hd hg;have d3:(0:Int)≤k:=by omega
        have d4:(k:Int)<tn:=by have:=HLK.out;omega
        go_simp;exact⟨Below.refl _ _,rfl⟩
       ·refine A6 (o:=⟨some 55,_,_,_,_,_⟩) rfl (fun r V hc hf hg hs hb hd=>?_);have h4:r (.tmp 54) = .pointer (some ⟨tb,toff+k*2,none⟩):=hd 4 54 rfl (by kernel_rfl);clear hs hd hg;go_simp;exact⟨Below.refl _ _,rfl⟩
       ·refine A6 (o:=⟨some 56,_,_,_,_,_⟩) rfl (fun r V hc hf hg hs hb hd=>?_);have h5:r (.tmp 55) = .pointer (some ⟨tb,toff+k*2,none⟩):=hd 5 55 rfl (by kernel_rfl);clear hs hd hg;have l:=(HCELL.out _ (HWq.out.trans (WX.of_below hb))).1;go_simp;exact⟨Below.refl _ _,rfl⟩
       ·refine A6 (o:=⟨some 57,_,_,_,_,_⟩) rfl (fun r V hc hf hg hs hb hd=>?_);have h6:r (.tmp 56) = .int .i64 (j:Int):=hd 6 56 rfl (by kernel_rfl);clear hs hd hg;have h31:=HJ31.out;have h0:(0:Int)≤j:=by omega
        have h1:min j 32=j:=by omega
        have h2:¬ (32:Int)≤j:=by omega
        have hs1:=G8 h31;go_simp;exact⟨Below.refl _ _,by simp⟩
       ·refine A6 (o:=⟨some 58,_,_,_,_,_⟩) rfl (fun r V hc hf hg hs hb hd=>?_);have h1:r (.tmp 51) = .int .u32 ((P:Nat):Int):=hd 1 51 rfl (by kernel_rfl);have h7:r (.tmp 57) = .int .u32 ((pw j:Nat):Int):=hd 7 57 rfl (by kernel_rfl);clear hs hd hg;have ho1:=GE HJ31.out HPL.out;go_simp;exact⟨Below.refl _ _,rfl⟩
       ·refine A6 (o:=⟨some 59,_,_,_,_,_⟩) rfl (fun r V hc hf hg hs hb hd=>?_);have x5:r (.tmp 5) = .pointer (some ⟨gs,0,none⟩):=hs 5 (by kernel_rfl);clear hs hd hg;go_simp;exact⟨Below.refl _ _,rfl⟩
      ·intro a V hb hx;have h0:a.eval (.tmp 50) = .pointer (some ⟨gs,67,none⟩):=hx 0 50 rfl rfl;have h1:a.eval (.tmp 51) = .int .u32 ((P:Nat):Int):=hx 1 51 rfl rfl;have h2:a.eval (.tmp 52) = .slice (some ⟨tb,toff,none⟩) tn tc:=hx 2 52 rfl rfl;have h3:a.eval (.tmp 53) = .int .i64 (k:Int):=hx 3 53 rfl rfl;have h4:a.eval (.tmp 54) = .pointer (some ⟨tb,toff+k*2,none⟩):=hx 4 54 rfl rfl;have h5:a.eval (.tmp 55) = .pointer (some ⟨tb,toff+k*2,none⟩):=hx 5 55 rfl rfl;have h6:a.eval (.tmp 56) = .int .i64 (j:Int):=hx 6 56 rfl rfl;have h7:a.eval (.tmp 57) = .int .u32 ((pw j:Nat):Int):=hx 7 57 rfl rfl;have h8:a.eval (.tmp 58) = .int .u32 ((Ax P j:Nat):Int):=hx 8 58 rfl rfl;have h9:a.eval (.tmp 59) = .pointer (some ⟨gs,67,none⟩):=hx 9 59 rfl rfl;unfold AA;simp only[List.foldl_cons,List.foldl_nil,h0,h1,h2,h3,h4,h5,h6,h7,h8,h9,Act.put,List.setIfInBounds_toArray,List.set_cons_zero,List.set_cons_succ];clear h0 h1 h2 h3 h4 h5 h6 h7 h8 h9 hx;have HSV:=hid (A5 hb HSq.out);have HWV:=hid (HWq.out.trans (WX.of_below hb));clear hb HSq HWq;refine wpAny_ready (rs:=[10]) (by kernel_rfl) (by simp) (AllReady.cons (o:=⟨none,_,_,_,_,_⟩) rfl (fun K hK=>?_) AllReady.nil);have c0:=A4 HSV.out 67 _ (E2 _);have f0:=An HSV.out 67;have hl:=Af HSV.out;go_simp;clear c0 f0 hl;refine AY ?_;intro V9 hV9;have ho:Ag gs V V9:=by rw[hV9];exact(Ag.refl gs V).setCell rfl _
       have HS9:Hid (V9.heap[gs]?=some (.cells (Ai { s with lk:=Ab s.lk n,pt:=Ax P j }).toArray 65)):=hid (by rw[hV9];exact(AH HSV.out 67 _).trans (congrArg (fun C=>some (Obj.cells C 65)) (If _ _)));have HW9:=hid (HWV.out.trans (WX.of_only (X:=fun b=>b=gs) ho rfl));clear hV9 ho HSV HWV;refine hK _ _ ?_;clear hK K;refine wpAny_done (by kernel_rfl) ?_ _;have t1:=(HCELL.out _ HW9.out).2;have d3:(0:Int)≤k:=by omega
       have d4:(k:Int)<tn:=by have:=HLK.out;omega
       cases B with
       | false=>
         go_wp2_with fail;rw[← HAA.out];go_roundg (tn - (k+1))
         case rel=>exact⟨k+1,AK HK.out HLK.out,by go_num,by rw[Kw HSK.out,HPE.out,if_neg (by decide)];exact HS9.out,HW9.out⟩
         case measure=>exact AL HK.out HLK.out
       | true=>
         go_upto_region 11 with fail
         clear t1 d3 d4;refine Ah (by kernel_rfl) [10] 13 [0,1,2,3,4,5,6,7,8,9] [65,66,67,68,69,70,71,72,73,74] #[true,true,true,true,true,true,true,true,true,true,false] 1 [(fun v _=>v = .pointer (some ⟨gs,67,none⟩)),(fun v _=>v = .int .u32 ((Ax P j:Nat):Int)),(fun v _=>v = .slice (some ⟨tb,toff,none⟩) tn tc),(fun v _=>v = .int .i64 (k:Int)),(fun v _=>v = .pointer (some ⟨tb,toff+k*2,none⟩)),(fun v _=>v = .pointer (some ⟨tb,toff+k*2,none⟩)),(fun v _=>v = .int .i64 (j:Int)),(fun v _=>v = .int .u32 ((pw j:Nat):Int)),(fun v _=>v = .int .u32 ((Ab P j:Nat):Int)),(fun v _=>v = .pointer (some ⟨gs,67,none⟩)),(fun _ _=>True)] (by kernel_rfl) (by kernel_rfl) (by kernel_rfl) (by kernel_rfl) (by kernel_rfl) rfl (by kernel_rfl) rfl ?_ ?_ ?_
         ·exact⟨A7 _,A7 _,A7 _,A7 _,A7 _,A7 _,A7 _,A7 _,A7 _,A7 _,Al,trivial⟩
         ·refine⟨?_,?_,?_,?_,?_,?_,?_,?_,?_,?_,trivial⟩
          ·refine A6 (o:=⟨some 65,_,_,_,_,_⟩) rfl (fun r V hc hf hg hs hb hd=>?_);have x5:r (.tmp 5) = .pointer (some ⟨gs,0,none⟩):=hs 5 (by kernel_rfl);clear hs hd hg;go_simp;exact⟨Below.refl _ _,rfl⟩
          ·refine A6 (o:=⟨some 66,_,_,_,_,_⟩) rfl (fun r V hc hf hg hs hb hd=>?_);have h0:r (.tmp 65) = .pointer (some ⟨gs,67,none⟩):=hd 0 65 rfl (by kernel_rfl);clear hs hd hg;have l:=A4 (A5 hb HS9.out) 67 _ (E2 _);go_simp;exact⟨Below.refl _ _,rfl⟩
          ·refine A6 (o:=⟨some 67,_,_,_,_,_⟩) rfl (fun r V hc hf hg hs hb hd=>?_);have x9:r (.tmp 9) = .slice (some ⟨tb,toff,none⟩) tn tc:=hs 9 (by kernel_rfl);clear hs hd hg;go_simp;exact⟨Below.refl _ _,rfl⟩
          ·refine A6 (o:=⟨some 68,_,_,_,_,_⟩) rfl (fun r V hc hf hg hs hb hd=>?_);have x10:r (.tmp 10) = .int .i64 (k:Int):=hs 10 (by kernel_rfl);clear hs hd hg;go_simp;exact⟨Below.refl _ _,rfl⟩
          ·refine A6 (o:=⟨some 69,_,_,_,_,_⟩) rfl (fun r V hc hf hg hs hb hd=>?_);have h2:r (.tmp 67) = .slice (some ⟨tb,toff,none⟩) tn tc:=hd 2 67 rfl (by kernel_rfl);have h3:r (.tmp 68) = .int .i64 (k:Int):=hd 3 68 rfl (by kernel_rfl);clear hs hd hg;have d3:(0:Int)≤k:=by omega
           have d4:(k:Int)<tn:=by have:=HLK.out;omega
           go_simp;exact⟨Below.refl _ _,rfl⟩
          ·refine A6 (o:=⟨some 70,_,_,_,_,_⟩) rfl (fun r V hc hf hg hs hb hd=>?_);have h4:r (.tmp 69) = .pointer (some ⟨tb,toff+k*2,none⟩):=hd 4 69 rfl (by kernel_rfl);clear hs hd hg;go_simp;exact⟨Below.refl _ _,rfl⟩
          ·refine A6 (o:=⟨some 71,_,_,_,_,_⟩) rfl (fun r V hc hf hg hs hb hd=>?_);have h5:r (.tmp 70) = .pointer (some ⟨tb,toff+k*2,none⟩):=hd 5 70 rfl (by kernel_rfl);clear hs hd hg;have l:=(HCELL.out _ (HW9.out.trans (WX.of_below hb))).1;go_simp;exact⟨Below.refl _ _,rfl⟩
          ·refine A6 (o:=⟨some 72,_,_,_,_,_⟩) rfl (fun r V hc hf hg hs hb hd=>?_);have h6:r (.tmp 71) = .int .i64 (j:Int):=hd 6 71 rfl (by kernel_rfl);clear hs hd hg;have h31:=HJ31.out;have h0:(0:Int)≤j:=by omega
           have h1:min j 32=j:=by omega
           have h2:¬ (32:Int)≤j:=by omega
           have hs1:=G8 h31;go_simp;exact⟨Below.refl _ _,by simp⟩
          ·refine A6 (o:=⟨some 73,_,_,_,_,_⟩) rfl (fun r V hc hf hg hs hb hd=>?_);have h1:r (.tmp 66) = .int .u32 ((Ax P j:Nat):Int):=hd 1 66 rfl (by kernel_rfl);have h7:r (.tmp 72) = .int .u32 ((pw j:Nat):Int):=hd 7 72 rfl (by kernel_rfl);clear hs hd hg;have ho1:=(F6 HJ31.out (FX HPL.out)).trans (congrArg (fun m:Nat=>(m:Int)) (NI HPL.out HJ31.out));go_simp;exact⟨Below.refl _ _,rfl⟩
          ·refine A6 (o:=⟨some 74,_,_,_,_,_⟩) rfl (fun r V hc hf hg hs hb hd=>?_);have x5:r (.tmp 5) = .pointer (some ⟨gs,0,none⟩):=hs 5 (by kernel_rfl);clear hs hd hg;go_simp;exact⟨Below.refl _ _,rfl⟩
         ·intro a V hb hx;have h0:a.eval (.tmp 65) = .pointer (some ⟨gs,67,none⟩):=hx 0 65 rfl rfl;have h1:a.eval (.tmp 66) = .int .u32 ((Ax P j:Nat):Int):=hx 1 66 rfl rfl;have h2:a.eval (.tmp 67) = .slice (some ⟨tb,toff,none⟩) tn tc:=hx 2 67 rfl rfl;have h3:a.eval (.tmp 68) = .int .i64 (k:Int):=hx 3 68 rfl rfl;have h4:a.eval (.tmp 69) = .pointer (some ⟨tb,toff+k*2,none⟩):=hx 4 69 rfl rfl;have h5:a.eval (.tmp 70) = .pointer (some ⟨tb,toff+k*2,none⟩):=hx 5 70 rfl rfl;have h6:a.eval (.tmp 71) = .int .i64 (j:Int):=hx 6 71 rfl rfl;have h7:a.eval (.tmp 72) = .int .u32 ((pw j:Nat):Int):=hx 7 72 rfl rfl;have h8:a.eval (.tmp 73) = .int .u32 ((Ab P j:Nat):Int):=hx 8 73 rfl rfl;have h9:a.eval (.tmp 74) = .pointer (some ⟨gs,67,none⟩):=hx 9 74 rfl rfl;unfold AA;simp only[List.foldl_cons,List.foldl_nil,h0,h1,h2,h3,h4,h5,h6,h7,h8,h9,Act.put,List.setIfInBounds_toArray,List.set_cons_zero,List.set_cons_succ];clear h0 h1 h2 h3 h4 h5 h6 h7 h8 h9 hx;have HSV:=hid (A5 hb HS9.out);have HWV:=hid (HW9.out.trans (WX.of_below hb));clear hb HS9 HW9;refine wpAny_ready (rs:=[10]) (by kernel_rfl) (by simp) (AllReady.cons (o:=⟨none,_,_,_,_,_⟩) rfl (fun K hK=>?_) AllReady.nil);have c0:=A4 HSV.out 67 _ (E2 _);have f0:=An HSV.out 67;have hl:=Af HSV.out;go_simp;clear c0 f0 hl;refine AY ?_;intro V8 hV8;have ho:Ag gs V V8:=by rw[hV8];exact(Ag.refl gs V).setCell rfl _
          have HS8:Hid (V8.heap[gs]?=some (.cells (Ai { s with lk:=Ab s.lk n,pt:=Ab P j }).toArray 65)):=hid (by rw[hV8];exact(AH HSV.out 67 _).trans (congrArg (fun C=>some (Obj.cells C 65)) (If _ _)));have HW8:=hid (HWV.out.trans (WX.of_only (X:=fun b=>b=gs) ho rfl));clear hV8 ho HSV HWV;refine hK _ _ ?_;clear hK K;refine wpAny_done (by kernel_rfl) ?_ _;go_wp2_with fail;rw[← HAA.out];go_roundg (tn - (k+1))
          case rel=>exact⟨k+1,AK HK.out HLK.out,by go_num,by rw[Kw HSK.out,HPE.out,if_pos rfl];exact HS8.out,HW8.out⟩
          case measure=>exact AL HK.out HLK.out
     ·have d4:¬ ((k:Int)<tn):=by omega
      have HSE:Hid (wr.heap[gs]?=some (.cells (Ai { s with lk:=Ab s.lk n,pt:=Cr x.nd s.pt }).toArray 65)):=hid (by have h:=HSq.out;rw[List.take_of_length_le (by have:=HTN.out;omega)] at h;exact h);have HRE:=hid (HWq.out.keep HG.out.2.1 HRn.out);have HBE:Hid (Below w.heap.size w wr):=hid (WX.below HBn.out HWq.out (fun b hb=>by have hb:b=gs:=hb;rw[hb];exact HG.out.1));go_upto_region 19 with fail
      clear d4;have HLD:=hid (Az HSE.out);obtain⟨hst,hq9,ho9⟩:=AN (s':={ s with lk:=Ab s.lk n,pt:=Cr x.nd s.pt }) HRE.out;have HST:=hid hst;have HQ9:=hid hq9;have HB9:Hid (Below w.heap.size w (wr.setCells gr 0 (Ai { s with lk:=Ab s.lk n,pt:=Cr x.nd s.pt }))):=hid (Ag.below HBE.out HGR.out HBE.out.size ho9);clear hst hq9 ho9;go_wp2_with (first
       | ((with_reducible refine Aj (op:=⟨some 152,_,_,_,_,_⟩) rfl 65 _ rfl _ _ ?_ HLD.out ?_);(· rfl))
       | ((with_reducible refine Am (op:=⟨none,.store 65 _ _,_,_,_,_⟩) rfl 65 _ _ rfl _ _ ?_ ?_ _ HST.out ?_);(· rfl);(· rfl)))
      (try simp only[Exit.inBlock,Exit.then])
      refine bodyPost_ret (results_cell_row (g:=gr) rfl _ _ 65 (Ai { s with lk:=Ab s.lk n,pt:=Cr x.nd s.pt }).toArray (0,0) _ rfl HQ9.out Tryz.underlying65 rfl (by rw[List.size_toArray,AU];exact Bd)) rfl ?_;exact⟨by rw[HEQ.out];rfl,HB9.out⟩
end Go.Proofs.YtpohoannggdbjaaGreat
