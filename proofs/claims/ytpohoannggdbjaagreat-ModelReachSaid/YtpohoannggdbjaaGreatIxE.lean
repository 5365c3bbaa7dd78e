/- Ours: IxD; IxE. -/
import Derived.Test.YtpohoannggdbjaaGreatMoC
import Derived.Test.YtpohoannggdbjaaGreatMA
set_option maxRecDepth 100000
set_option maxHeartbeats 200000000
namespace Go.Proofs.YtpohoannggdbjaaGreat
open Lib (hid)
open Go.RowKit
section
attribute [local irreducible] Sl.v Aa pw Ab Aw C8 Af BC CD Bi Bg B9 CB BQ AU Bp BB BG Bh Bd BP Bo BL BF BN AI AY AV Be Bw Bq C4 Mc.tb BZ AX Ap B5
theorem SF(m u:Nat)(s:St)(i:Do):(C8 m s i u).toArray[69]?=some (.int .u64 (i.oc:Int)):=FP m s i u 1 (by omega)
theorem UB(m u:Nat)(s:St)(i:Do):(C8 m s i u).toArray[70]?=some (.int .u32 (i.no:Int)):=FP m s i u 2 (by omega)
theorem UC(m u:Nat)(s:St)(i:Do):(C8 m s i u).toArray[71]?=some (.int .u32 (i.re:Int)):=FP m s i u 3 (by omega)
theorem UA(m u:Nat)(s:St)(i:Do):(C8 m s i u).toArray[72]?=some i.cm:=FP m s i u 4 (by omega)
theorem SG(m u:Nat)(s:St)(i:Do):(C8 m s i u).toArray[73]?=some (.int .u64 (u:Int)):=FP m s i u 5 (by omega)
theorem Ga(m u:Nat)(s:St)(i:Do):(C8 m s i u).toArray[68]?=some (.int .u32 (s.pt:Int)):=FP m s i u 0 (by omega)
theorem Dp(b:Bool)(g m u:Nat)(M:Mc)(s:St)(i:Do)(w:World)(hC:Cy w g m M s i u)(n:Nat)(hn:n≤63)(hb:Aa s.lk n=b) :
 Calls Tryz.prog 34 #[.pointer (some ⟨g,0,none⟩),.int .i64 (n:Int)] w fun e w'=>e = .returned (.bool b)∧Below w.heap.size w w':=by
 have c1:=A4 hC.blk 1 _ (Lg _ _ _ _);have HIN:Hid (∀ V,Calls Tryz.prog 53 #[.int .u64 (s.lk:Int),.int .i64 (n:Int)] V fun e w'=>e = .returned (.bool b)∧V=w'):=hid (fun V=>DE b s.lk n V hn hC.sok.lk hb);clear hb hn hC;go_enter Tryz.func34,Tryz.ntmps34;go_wp2_with fail;refine(HIN.o _).mono ?_;rintro e w' ⟨rfl,rfl⟩;go_wp2_with fail;go_ret;exact⟨rfl,VU _ _⟩
theorem Es(b:Bool)(g m u:Nat)(M:Mc)(s:St)(i:Do)(w:World)(hC:Cy w g m M s i u)(n:Int)(hn:0≤n∧n≤63)(hb:Aa i.oc n.toNat=b) :
 Calls Tryz.prog 58 #[.pointer (some ⟨g,0,none⟩),.int .i64 n] w fun e w'=>e = .returned (.bool (!b))∧Below w.heap.size w w':=by
 obtain⟨k,rfl⟩:∃ k:Nat,n=k:=⟨n.toNat,by omega⟩;have c1:=A4 hC.blk 69 _ (SF _ _ _ _);have HIN:Hid (∀ V,Calls Tryz.prog 53 #[.int .u64 (i.oc:Int),.int .i64 (k:Int)] V fun e w'=>e = .returned (.bool b)∧V=w'):=hid (fun V=>DE b i.oc k V (by omega) hC.iok.oc (by rw[Int.toNat_natCast] at hb;exact hb));clear hb hn hC;go_enter Tryz.func58,Tryz.ntmps58;go_wp2_with fail;refine(HIN.o _).mono ?_;rintro e w' ⟨rfl,rfl⟩;go_wp2_with fail;go_ret;exact⟨rfl,VU _ _⟩
theorem Qz(g1:Nat)(g m u:Nat)(M:Mc)(s:St)(i:Do)(w:World)(hC:Cy w g m M s i u)(hq:w.heap[g1]?=some (.cells #[.pointer (some ⟨g,0,none⟩)] 99))(n:Int)(hn:0≤n∧n≤63) :
 Calls Tryz.prog 96 #[.int .i64 n,.pointer (some ⟨g1,0,none⟩)] w fun e w'=>e = .returned (.bool (Aa i.oc n.toNat))∧Below w.heap.size w w':=by
 obtain⟨b,hb⟩:=WY (Aa i.oc n.toNat);have HK:=hid (Es b g m u M s i w hC n hn hb);have c0:=A4 hq 0 _ rfl;rw[hb];clear hb hn hC hq;go_enter Tryz.func96,Tryz.ntmps96;go_wp2_with fail;refine HK.o.mono ?_;rintro e w' ⟨rfl,hb⟩;have HB:=hid hb;clear hb c0;go_wp2_with fail;go_ret;exact⟨rfl,HB.o⟩
theorem QA(g1:Nat)(p:Int)(y:Int × Bool)(w:World)(hq:w.heap[g1]?=some (.cells #[.int .i64 p] 3)) :
 Calls Tryz.prog 95 #[.agg #[.int .i64 y.1,.bool y.2],.pointer (some ⟨g1,0,none⟩)] w fun e w'=>e = .returned (.bool (y.1 == p))∧Below w.heap.size w w':=by
 go_enter Tryz.func95,Tryz.ntmps95;go_upto_region 1 with fail
 have hbn:=Ac w (.cells #[.int .i64 y.1,.bool y.2] 71);have hqn:=Al w (.cells #[.int .i64 y.1,.bool y.2] 71) (VU _ _);obtain⟨V,hV⟩:=X0 (w.alloc (.cells #[.int .i64 y.1,.bool y.2] 71));rw[← hV] at hbn hqn ⊢;obtain⟨g2,hg2⟩:=X0 w.heap.size;rw[← hg2] at hqn ⊢;have c0:=A4 hqn 0 _ rfl;have c1:=A4 (A5 hbn hq) 0 _ rfl;have HB:=hid hbn;clear hbn hqn hV hg2 hq;go_wp2_with fail;go_ret;exact⟨rfl,HB.o⟩
theorem QB(g1 g2 a b:Nat)(ha:a<4294967296)(hb:b<4294967296)(y:Int × Bool)(hy:0≤y.1∧y.1≤63)(w:World)(h1:w.heap[g1]?=some (.cells #[.int .u32 (b:Int)] 29))(h2:w.heap[g2]?=some (.cells #[.int .u32 (a:Int)] 29)) :
 Calls Tryz.prog 61 #[.agg #[.int .i64 y.1,.bool y.2],.pointer (some ⟨g1,0,none⟩),.pointer (some ⟨g2,0,none⟩)] w fun e w'=>e = .returned (.bool (!Aa (if y.2 then b else a) y.1.toNat))∧Below w.heap.size w w':=by
 obtain⟨y1,y2⟩:=y;dsimp only at hy ⊢;obtain⟨k,rfl⟩:∃ k:Nat,y1=k:=⟨y1.toNat,by omega⟩;rw[Int.toNat_natCast];obtain⟨ra,hra⟩:=WY (Aa a k);obtain⟨rb,hrb⟩:=WY (Aa b k);have HA:Hid (∀ V,Calls Tryz.prog 53 #[.int .u64 (a:Int),.int .i64 (k:Int)] V fun e w'=>e = .returned (.bool ra)∧V=w'):=hid (fun V=>DE ra a k V (by omega) (by omega) hra);have HB:Hid (∀ V,Calls Tryz.prog 53 #[.int .u64 (b:Int),.int .i64 (k:Int)] V fun e w'=>e = .returned (.bool rb)∧V=w'):=hid (fun V=>DE rb b k V (by omega) (by omega) hrb);have ea:IntKind.u64.wrap (a:Int)=(a:Int):=by rw[IntKind.wrap_u64];omega
 have eb:IntKind.u64.wrap (b:Int)=(b:Int):=by rw[IntKind.wrap_u64];omega
 have hres:Aa (if y2=true then b else a) k=if y2 then rb else ra:=by cases y2<;>simp[hra,hrb]
 rw[hres];clear hres hra hrb ha hb hy;go_enter Tryz.func61,Tryz.ntmps61;go_upto_region 1 with fail
 have hbn:=Ac w (.cells #[.int .i64 (k:Int),.bool y2] 71);have hqn:=Al w (.cells #[.int .i64 (k:Int),.bool y2] 71) (VU _ _);obtain⟨V,hV⟩:=X0 (w.alloc (.cells #[.int .i64 (k:Int),.bool y2] 71));rw[← hV] at hbn hqn ⊢;obtain⟨g3,hg3⟩:=X0 w.heap.size;rw[← hg3] at hqn ⊢;have c0:=A4 hqn 0 _ rfl;have c1:=A4 hqn 1 _ rfl;have d1:=A4 (A5 hbn h1) 0 _ rfl;have d2:=A4 (A5 hbn h2) 0 _ rfl;have HN:=hid hbn;clear hbn hqn hV hg3 h1 h2;cases y2 with
 | true=>
   go_wp2_with fail;refine(HB.o _).mono ?_;rintro e w' ⟨rfl,rfl⟩;go_wp2_with fail;go_ret;exact⟨rfl,HN.o⟩
 | false=>
   go_wp2_with fail;refine(HA.o _).mono ?_;rintro e w' ⟨rfl,rfl⟩;go_wp2_with fail;go_ret;exact⟨rfl,HN.o⟩
theorem DM(s:St):(Af s).toArray[0]?=some (.int .u64 (s.lk:Int)):=by unfold Af;rfl
theorem FE(s:St):(Af s).toArray[1]?=some (.int .u64 (s.us:Int)):=by unfold Af;rfl
theorem E1(s:St):(Af s).toArray[2]?=some (.int .u64 (s.ca:Int)):=by unfold Af;rfl
theorem EI(s:St):(Af s).toArray[67]?=some (.int .u32 (s.pt:Int)):=by rw[WG];exact IG s
theorem Ja(b:Bool)(g m u:Nat)(M:Mc)(s:St)(i:Do)(w:World)(hC:Cy w g m M s i u)(n:Nat)(x:Ln)(hx:M.ln.l[n]?=some x)(hb:Bi i.oc x.rw=b) :
 Calls Tryz.prog 57 #[.pointer (some ⟨g,0,none⟩),.int .i64 (n:Int)] w fun e w'=>e = .returned (.bool b)∧Below w.heap.size w w':=by
 obtain⟨N1,hN1⟩:=WY M.ln.l.length;have cm0:=A4 hC.mach.blk 0 _ rfl;rw[Ak hN1] at cm0;have hlt1:n<N1:=by rw[← hN1];exact(We.1 hx).1
 have hle1:N1≤64:=by have:=hC.tb.rn;rw[Ce,hN1] at this;exact this
 have hok1:=Kh hC.tb hx;obtain⟨LC,hLC⟩:=WY M.ln.c;obtain⟨LA,hLA⟩:=WY M.ln.a;have hlrow:=hC.mach.ln.at_.row;rw[hLA] at hlrow;rw[hLA,hLC] at cm0;rcases hlrow with hnil | ⟨lb,lo,hlb,hlc⟩
 ·rw[hnil] at hx;cases hx
 rw[hlb] at cm0;have z2:=hlc n x hx 2 _ rfl;have hxm:=hC.mach.lns x (Wf hx);obtain⟨b',hb'⟩:∃ b',x.tk.l.any (fun k=>Aa i.oc k.toNat)=b':=⟨_,rfl⟩;obtain rfl:b = !b':=by rw[← hb,← hb'];unfold Bi Ln.rw;rfl
 obtain⟨t1,ht1⟩:=WY x.tk.l.length;have htm:=hxm.tk.at_.lenM;rw[ht1] at htm;rw[Ak ht1] at z2;have HK:Hid (∀(gb:Nat) (W:World),Below w.heap.size w W→W.heap[gb]?=some (.cells #[.pointer (some ⟨g,0,none⟩)] 99)→Calls Tryz.prog 94 #[.slice x.tk.a t1 x.tk.c,.func (.func 96) #[] #[.pointer (some ⟨gb,0,none⟩)]] W fun e w'=>e = .returned (.bool b')∧Below W.heap.size W w'):=
  hid (fun gb W hW hq=>Nd b' gb (fun k=>Aa i.oc k.toNat) x.tk.a t1 x.tk.c x.tk.l W hb' ht1 htm (hxm.tk.at_.row.below hW) (fun V hV y hy=>Qz gb g m u M s i V ((hC.below hW).below hV) (A5 hV hq) y (hok1.tr y hy)))
 have HC:=hid hC;have hcg:=hC.blk;have d1:(0:Int)≤n:=by omega
 have d2:(n:Int)<N1:=by omega
 have HCM:=hid cm0;have HZ2:=hid z2;clear hb hC hok1 hlc hxm hx hb' ht1 htm hlb hLA hLC hN1 hle1 hlt1 cm0 z2;go_enter Tryz.func57,Tryz.ntmps57;go_upto_region 1 with fail
 have hbn:=Ac w (.cells #[.pointer (some ⟨g,0,none⟩)] 99);have hqn:=Al w (.cells #[.pointer (some ⟨g,0,none⟩)] 99) (VU _ _);obtain⟨V,hV⟩:=X0 (w.alloc (.cells #[.pointer (some ⟨g,0,none⟩)] 99));rw[← hV] at hbn hqn ⊢;obtain⟨gb,hgb⟩:=X0 w.heap.size;rw[← hgb] at hqn ⊢;have HB0:=hid hbn;have HQ:=hid hqn;have l0:=A4 hqn 0 _ rfl;have l1:=A4 (A5 hbn hcg) 0 _ (F5 _ _ _ _);have l2:=VY hbn HCM.o;have l3:=VY hbn HZ2.o;clear hbn hqn hV hgb hcg;go_wp2_with fail;refine(HK.o _ _ HB0.o HQ.o).mono ?_;rintro e w1 ⟨rfl,hb⟩;have HB1:=hid (A6 HB0.o hb);clear hb l0 l1 l2 l3;go_wp2_with fail;go_ret;exact⟨rfl,HB1.o⟩
end
section
theorem AQ{g:Nat}{w w':World}(h:Below w.heap.size w w')(hg:g≤w.heap.size):Below g w w':=⟨h.os,h.tape,h.output,h.size,fun k hk=>h.block k (by omega)⟩
theorem Ar{g:Nat}{a b c:World}(h:Below g a b)(k:Below g b c):Below g a c:=⟨k.os.trans h.os,k.tape.trans h.tape,k.output.trans h.output,Wd h.size k.size,fun i hi=>(k.block i hi).trans (h.block i hi)⟩
theorem Cy.gle{w:World}{g m:Nat}{M:Mc}{s:St}{i:Do}{u:Nat}(h:Cy w g m M s i u):g≤w.heap.size:=Nat.le_of_lt (Aj h.blk)
theorem Cy.put{w:World}{g m:Nat}{M:Mc}{s s':St}{i:Do}{u:Nat}(h:Cy w g m M s i u)(c:Nat)(v:Value)(hs:(C8 m s i u).toArray.setIfInBounds c v=(C8 m s' i u).toArray)(ho:s'.ok) :
 Cy (w.setCell ⟨g,c,none⟩ v) g m M s' i u∧Below g w (w.setCell ⟨g,c,none⟩ v):=by
 have hb:Below g w (w.setCell ⟨g,c,none⟩ v):=(VU g w).setCell (p:=⟨g,c,none⟩) (Wc _) v;have hz:w.heap.size≤(w.setCell ⟨g,c,none⟩ v).heap.size:=((Ai.refl g w).setCell (p:=⟨g,c,none⟩) rfl v).size;refine⟨h.next hb hz ?_ ho,hb⟩;rw[← hs];exact AG h.blk c v
theorem Ta{s:St}{oc n:Nat}{x:Rw}(h:AU s n=false):Bp s oc n x=s:=by unfold Bp;rw[h];rfl
theorem Qv{s:St}{oc n:Nat}{x:Rw}(h:AU s n=true):Bp s oc n x={ s with ca:=Ab s.ca n,tm:=if Aa oc x.ah.toNat then BZ s.tm n 20 else s.tm }:=by unfold Bp;rw[h];rfl
theorem Jg(s:St)(n:Nat):AU s n=(Aa s.lk n && (!Aa s.us n && !Aa s.ca n)):=rfl
theorem EM{f:Nat→Nat}(h:∀ n,f n≤255)(n:Nat){v:Nat}(hv:v≤255):∀ k,BZ f n v k≤255:=by
 intro k;unfold BZ;by_cases e:k=n
 ·rw[if_pos e];exact hv
 ·rw[if_neg e];exact h k
attribute [local irreducible] Sl.v Aa pw Ab Aw C8 Af BC CD Bi Bg B9 CB BQ AU Bp BB BG Bh Bd BP Bo BL BF BN AI AY AV Be Bw Bq C4 Mc.tb BZ AX Ap B5
theorem MY(g m u:Nat)(M:Mc)(s:St)(i:Do)(w:World)(hC:Cy w g m M s i u)(n:Nat)(x:Ln)(hx:M.ln.l[n]?=some x) :
 Calls Tryz.prog 55 #[.pointer (some ⟨g,0,none⟩),.int .i64 (n:Int)] w fun e w'=>e = .returned (.tuple #[])∧Cy w' g m M (Bp s i.oc n x.rw) i u∧Below g w w':=by
 have h63:n≤63:=by have h1:=(We.1 hx).1;have h2:=hC.tb.rn;rw[Ce] at h2;omega
 obtain⟨bl,hbl⟩:=WY (Aa s.lk n);obtain⟨bu,hbu⟩:=WY (Aa s.us n);obtain⟨bc,hbc⟩:=WY (Aa s.ca n);obtain⟨T,hT⟩:=WY (Bp s i.oc n x.rw);have HNO:Hid ((bl && (!bu && !bc))=false→T=s):=hid (fun h=>by rw[← hT];exact Ta (by rw[Jg,hbl,hbu,hbc];exact h));have HYES0:Hid ((bl && (!bu && !bc))=true→T={ s with ca:=Ab s.ca n,tm:=if Aa i.oc x.rw.ah.toNat then BZ s.tm n 20 else s.tm }):=hid (fun h=>by rw[← hT];exact Qv (by rw[Jg,hbl,hbu,hbc];exact h));have hs:=hC.sok;have HOR:Hid (bits .or .u64 (s.ca:Int) (pw n:Int)=((Ab s.ca n:Nat):Int)):=hid (Cw s.ca n h63 hs.ca);have HOK1:Hid (St.ok { s with ca:=Ab s.ca n }):=hid ⟨hs.lk,hs.us,Cf _ _ h63 hs.ca,hs.tm,hs.pt⟩;have HOK2:Hid (St.ok { s with ca:=Ab s.ca n,tm:=BZ s.tm n 20 }):=hid ⟨hs.lk,hs.us,Cf _ _ h63 hs.ca,EM hs.tm n (by omega),hs.pt⟩;have HLK:Hid (Calls Tryz.prog 34 #[.pointer (some ⟨g,0,none⟩),.int .i64 (n:Int)] w fun e w'=>e = .returned (.bool bl)∧Below w.heap.size w w'):=hid (Dp bl g m u M s i w hC n h63 hbl);have HU:Hid (∀ V,Calls Tryz.prog 53 #[.int .u64 (s.us:Int),.int .i64 (n:Int)] V fun e w'=>e = .returned (.bool bu)∧V=w'):=hid (fun V=>DE bu s.us n V h63 hs.us hbu);have HK:Hid (∀ V,Calls Tryz.prog 53 #[.int .u64 (s.ca:Int),.int .i64 (n:Int)] V fun e w'=>e = .returned (.bool bc)∧V=w'):=hid (fun V=>DE bc s.ca n V h63 hs.ca hbc);have HN63:=hid h63;have HC:=hid hC;rw[hT];clear hbl hbu hbc hT hs h63 hC;go_enter Tryz.func55,Tryz.ntmps55;go_wp2_with fail;refine HLK.o.mono ?_;rintro e w1 ⟨rfl,hb⟩;have HC0:=hid (HC.o.below hb);have HB0:=hid (AQ hb HC.o.gle);clear hb HC HLK;have l2:=A4 HC0.o.blk 2 _ (J3 _ _ _ _);have l3:=A4 HC0.o.blk 3 _ (J4 _ _ _ _);cases bl with
 | false=>
   go_wp2_with fail
   (try simp only[Exit.inBlock,Exit.then])
   refine bodyPost_ret (results_none rfl _ _ _) rfl ?_;exact⟨rfl,HNO.o rfl ▸ HC0.o,HB0.o⟩
 | true=>
   go_wp2_with fail;refine(HU.o _).mono ?_;rintro e w' ⟨rfl,rfl⟩;cases bu with
   | true=>
     go_wp2_with fail
     (try simp only[Exit.inBlock,Exit.then])
     refine bodyPost_ret (results_none rfl _ _ _) rfl ?_;exact⟨rfl,HNO.o rfl ▸ HC0.o,HB0.o⟩
   | false=>
     go_wp2_with fail;refine(HK.o _).mono ?_;rintro e w' ⟨rfl,rfl⟩;cases bc with
     | true=>
       go_wp2_with fail
       (try simp only[Exit.inBlock,Exit.then])
       refine bodyPost_ret (results_none rfl _ _ _) rfl ?_;exact⟨rfl,HNO.o rfl ▸ HC0.o,HB0.o⟩
     | false=>
       have HYES:=hid (HYES0.o rfl);clear HNO HYES0 l2 l3;go_upto_region 1 with fail
       refine Am (by kernel_rfl) [11] 14 [0,1,2,3,4,5,6,7,8,9,10] [26,27,28,29,30,31,32,33,34,35,36] #[true,true,true,true,true,true,true,true,true,true,true,false] 1 [(fun v _=>v = .pointer (some ⟨g,0,none⟩)),(fun v _=>v = .pointer (some ⟨g,0,none⟩)),(fun v _=>v = .pointer (some ⟨g,1,none⟩)),(fun v _=>v = .pointer (some ⟨g,3,none⟩)),(fun v _=>v = .int .u64 (s.ca:Int)),(fun v _=>v = .int .i64 (n:Int)),(fun v _=>v = .int .u64 (pw n:Int)),(fun v _=>v = .int .u64 ((Ab s.ca n:Nat):Int)),(fun v _=>v = .pointer (some ⟨g,0,none⟩)),(fun v _=>v = .pointer (some ⟨g,1,none⟩)),(fun v _=>v = .pointer (some ⟨g,3,none⟩)),(fun _ _=>True)] (by kernel_rfl) (by kernel_rfl) (by kernel_rfl) (by kernel_rfl) (by kernel_rfl) rfl (by kernel_rfl) rfl ?_ ?_ ?_
       ·exact⟨A8 _,A8 _,A8 _,A8 _,A8 _,A8 _,A8 _,A8 _,A8 _,A8 _,A8 _,An,trivial⟩
       ·refine⟨?_,?_,?_,?_,?_,?_,?_,?_,?_,?_,?_,trivial⟩
        ·refine A7 (o:=⟨some 26,_,_,_,_,_⟩) rfl (fun r V hc hf hg hs hb hd=>?_);have x0:r (.tmp 0) = .pointer (some ⟨g,0,none⟩):=hs 0 (by kernel_rfl);clear hs hd hg;go_simp;exact X1
        ·refine A7 (o:=⟨some 27,_,_,_,_,_⟩) rfl (fun r V hc hf hg hs hb hd=>?_);have h0:r (.tmp 26) = .pointer (some ⟨g,0,none⟩):=hd 0 26 rfl (by kernel_rfl);clear hs hd hg;go_simp;exact X1
        ·refine A7 (o:=⟨some 28,_,_,_,_,_⟩) rfl (fun r V hc hf hg hs hb hd=>?_);have h1:r (.tmp 27) = .pointer (some ⟨g,0,none⟩):=hd 1 27 rfl (by kernel_rfl);clear hs hd hg;go_simp;exact X1
        ·refine A7 (o:=⟨some 29,_,_,_,_,_⟩) rfl (fun r V hc hf hg hs hb hd=>?_);have h2:r (.tmp 28) = .pointer (some ⟨g,1,none⟩):=hd 2 28 rfl (by kernel_rfl);clear hs hd hg;go_simp;exact X1
        ·refine A7 (o:=⟨some 30,_,_,_,_,_⟩) rfl (fun r V hc hf hg hs hb hd=>?_);have h3:r (.tmp 29) = .pointer (some ⟨g,3,none⟩):=hd 3 29 rfl (by kernel_rfl);clear hs hd hg;have l:=A4 (HC0.o.below hb).blk 3 _ (J4 _ _ _ _);go_simp;exact X1
        ·refine A7 (o:=⟨some 31,_,_,_,_,_⟩) rfl (fun r V hc hf hg hs hb hd=>?_);have x1:r (.tmp 1) = .int .i64 (n:Int):=hs 1 (by kernel_rfl);clear hs hd hg;go_simp;exact X1
        ·refine A7 (o:=⟨some 32,_,_,_,_,_⟩) rfl (fun r V hc hf hg hs hb hd=>?_);have h5:r (.tmp 31) = .int .i64 (n:Int):=hd 5 31 rfl (by kernel_rfl);clear hs hd hg;have h63:=HN63.o;have h0:(0:Int)≤n:=(by omega);have h1:min n 64=n:=(by omega);have h2:¬ (64:Int)≤n:=(by omega);have hs1:=Br n h63;go_simp;exact⟨VU _ _,by simp⟩
        ·refine A7 (o:=⟨some 33,_,_,_,_,_⟩) rfl (fun r V hc hf hg hs hb hd=>?_);have h4:r (.tmp 30) = .int .u64 (s.ca:Int):=hd 4 30 rfl (by kernel_rfl);have h6:r (.tmp 32) = .int .u64 (pw n:Int):=hd 6 32 rfl (by kernel_rfl);clear hs hd hg;have ho1:=HOR.o;go_simp;exact X1
        ·refine A7 (o:=⟨some 34,_,_,_,_,_⟩) rfl (fun r V hc hf hg hs hb hd=>?_);have h0:r (.tmp 26) = .pointer (some ⟨g,0,none⟩):=hd 0 26 rfl (by kernel_rfl);clear hs hd hg;go_simp;exact X1
        ·refine A7 (o:=⟨some 35,_,_,_,_,_⟩) rfl (fun r V hc hf hg hs hb hd=>?_);have h8:r (.tmp 34) = .pointer (some ⟨g,0,none⟩):=hd 8 34 rfl (by kernel_rfl);clear hs hd hg;go_simp;exact X1
        ·refine A7 (o:=⟨some 36,_,_,_,_,_⟩) rfl (fun r V hc hf hg hs hb hd=>?_);have h9:r (.tmp 35) = .pointer (some ⟨g,1,none⟩):=hd 9 35 rfl (by kernel_rfl);clear hs hd hg;go_simp;exact X1
       ·intro a V hb hx;have h0:a.eval (.tmp 26) = .pointer (some ⟨g,0,none⟩):=hx 0 26 rfl rfl;have h1:a.eval (.tmp 27) = .pointer (some ⟨g,0,none⟩):=hx 1 27 rfl rfl;have h2:a.eval (.tmp 28) = .pointer (some ⟨g,1,none⟩):=hx 2 28 rfl rfl;have h3:a.eval (.tmp 29) = .pointer (some ⟨g,3,none⟩):=hx 3 29 rfl rfl;have h4:a.eval (.tmp 30) = .int .u64 (s.ca:Int):=hx 4 30 rfl rfl;have h5:a.eval (.tmp 31) = .int .i64 (n:Int):=hx 5 31 rfl rfl;have h6:a.eval (.tmp 32) = .int .u64 (pw n:Int):=hx 6 32 rfl rfl;have h7:a.eval (.tmp 33) = .int .u64 ((Ab s.ca n:Nat):Int):=hx 7 33 rfl rfl;have h8:a.eval (.tmp 34) = .pointer (some ⟨g,0,none⟩):=hx 8 34 rfl rfl;have h9:a.eval (.tmp 35) = .pointer (some ⟨g,1,none⟩):=hx 9 35 rfl rfl;have h10:a.eval (.tmp 36) = .pointer (some ⟨g,3,none⟩):=hx 10 36 rfl rfl;unfold AD;simp only[Wi,Wj,h0,h1,h2,h3,h4,h5,h6,h7,h8,h9,h10,Act.put,VW,VX,VV];clear h0 h1 h2 h3 h4 h5 h6 h7 h8 h9 h10 hx;have HCV:=hid (HC0.o.below hb);have HBV:=hid (Ar HB0.o (AQ hb HC0.o.gle));clear hb;refine wpAny_ready (rs:=[11]) (by kernel_rfl) (by simp) (AllReady.cons (o:=⟨none,_,_,_,_,_⟩) rfl (fun K hK=>?_) AllReady.nil);have c0:=A4 HCV.o.blk 3 _ (J4 _ _ _ _);have f0:=Aq HCV.o.blk 3;have hl:=Aj HCV.o.blk;go_simp;clear c0 f0 hl;refine Bc ?_;intro VZ hVZ;have hput:=HCV.o.put 3 _ (Ti _ _ _ _ _) (HOK1.o);rw[← hVZ] at hput;have HCZ:=hid hput.1;have HBZ:=hid (Ar HBV.o hput.2);clear hVZ hput HCV HBV;refine hK _ _ ?_;clear hK K;refine wpAny_done (by kernel_rfl) ?_ _;have hcz:=HCZ.o;obtain⟨N1,hN1⟩:=WY M.ln.l.length;have cm0:=A4 hcz.mach.blk 0 _ rfl;rw[Ak hN1] at cm0;have hlt1:n<N1:=(by rw[← hN1];exact(We.1 hx).1);have hle1:N1≤64:=(by have:=hcz.tb.rn;rw[Ce,hN1] at this;exact this);have hok1:=Kh hcz.tb hx;obtain⟨LC,hLC⟩:=WY M.ln.c;obtain⟨LA,hLA⟩:=WY M.ln.a;have hlrow:=hcz.mach.ln.at_.row;rw[hLA] at hlrow;rw[hLA,hLC] at cm0;rcases hlrow with hnil | ⟨lb,lo,hlb,hlc⟩
        ·rw[hnil] at hx;cases hx
        rw[hlb] at cm0;have z1:=hlc n x hx 1 _ rfl;obtain⟨A,hA⟩:∃ a:Nat,x.ah=a:=⟨x.ah.toNat,by have:=hok1.ah.1;have e:x.rw.ah=x.ah:=rfl;omega⟩;obtain⟨ab,hab⟩:=WY (Aa i.oc x.ah.toNat);have HCL:Hid (Calls Tryz.prog 58 #[.pointer (some ⟨g,0,none⟩),.int .i64 x.ah] VZ fun e w'=>e = .returned (.bool (!ab))∧Below VZ.heap.size VZ w'):=hid (Es ab g m u M _ i VZ hcz x.ah hok1.ah hab);have HAB:Hid (Aa i.oc x.rw.ah.toNat=ab):=hid hab;have l0:=A4 hcz.blk 0 _ (F5 _ _ _ _);have d1:(0:Int)≤n:=(by omega);have d2:(n:Int)<N1:=(by omega);have d3:(n:Int)<64:=(by omega);have HN64:Hid (n<64):=hid (by omega);clear hlc hok1 hx hcz hlt1 hle1 hN1 hLC hLA hlb hA hab;go_wp2_with fail;refine HCL.o.mono ?_;rintro e w5 ⟨rfl,hb⟩;have HC5:=hid (HCZ.o.below hb);have HB5:=hid (Ar HBZ.o (AQ hb HCZ.o.gle));clear hb HCZ HBZ HCL l0 z1 cm0;cases ab with
        | true=>
          have l3:=A4 HC5.o.blk (4+n) _ (K4 _ _ _ _ HN64.o);have f3:=Aq HC5.o.blk (4+n);go_wp2_with fail;refine BR ?_;intro WZ hWZ;have hput:=HC5.o.put (4+n) _ (M8 _ _ _ _ 20 HN64.o) (HOK2.o);have e20:((20:Nat):Int)=20:=rfl;rw[e20,← hWZ] at hput;have HEND:=hid (And.intro hput.1 (Ar HB5.o hput.2));clear hWZ hput l3 f3;go_end0;rw[HYES.o,HAB.o];exact⟨rfl,HEND.o⟩
        | false=>
          go_wp2_with fail;go_end0;rw[HYES.o,HAB.o];exact⟨rfl,HC5.o,HB5.o⟩
end
end Go.Proofs.YtpohoannggdbjaaGreat
