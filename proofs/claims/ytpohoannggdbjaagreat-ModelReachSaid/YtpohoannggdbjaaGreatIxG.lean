/- Layer 10: set. -/
import Derived.Test.YtpohoannggdbjaaGreatIxF
set_option maxRecDepth 100000
set_option maxHeartbeats 200000000
namespace Go.Proofs.YtpohoannggdbjaaGreat
open Lib (hid)
open Go.RowKit
theorem IT{α:Type}{l:List α}{p:α→Bool}{k:Nat}{y:α}(h:l[k]?=some y)(h0:(l.take k).any p=false)(h1:p y=false):(l.take (k+1)).any p=false:=by
 rw[Wp,h,List.any_append,h0];simp[h1]
theorem LR{α:Type}{l:List α}{p:α→Bool}{k:Nat}{y:α}(h:l[k]?=some y)(h1:p y=true):l.any p=true:=WF.2 ⟨y,Wf h,h1⟩
theorem Qn{α:Type}{l:List α}{p:α→Bool}{n:Nat}(hn:l.length=n)(h:(l.take n).any p=false):l.any p=false:=by rw[Wo (by omega)] at h;exact h
theorem Kw(l:List (Int × Bool))(p:Nat):CB (l.take 0) p=p:=rfl
theorem Pt{l:List (Int × Bool)}{k:Nat}{q:Int}{b:Bool}(h:l[k]?=some (q,b))(p:Nat):CB (l.take (k+1)) p=if b then Ab (CB (l.take k) p) q.toNat else Aw (CB (l.take k) p) q.toNat:=by
 unfold CB;rw[Wp,h,List.foldl_append];rfl
theorem RT{l:List (Int × Bool)}{n:Nat}(hn:l.length=n)(p:Nat):CB (l.take n) p=CB l p:=by rw[Wo (by omega)]
theorem JC{T:Tb}{s:St}{oc n:Nat}{x:Rw}(h:B9 T s oc n x=false):BQ T s oc n x=s:=by unfold BQ;rw[h];rfl
theorem S9{T:Tb}{s:St}{oc n:Nat}{x:Rw}(h:B9 T s oc n x=true):BQ T s oc n x={ s with lk:=Ab s.lk n,pt:=CB x.nd s.pt }:=by unfold BQ;rw[h];rfl
theorem Mq(T:Tb)(s:St)(oc n:Nat)(x:Rw):B9 T s oc n x=(!Aa s.lk n && (Bi oc x && (!x.cf.any (fun k=>Aa s.lk k.toNat) && !x.nd.any (Bg T s oc)))):=rfl
theorem TL{M:Mc}{s:St}{oc:Nat}{q:Nat}{b:Bool}{sec:Int}(h:M.li.l[q]?=some sec):Bg M.tb s oc ((q:Int),b)=((Aa s.pt q != b) && Aa oc sec.toNat):=by
 have hg:M.tb.li.getD q 0=sec:=by rw[Em,List.getD_eq_getElem?_getD,h];rfl
 unfold Bg;simp only[Int.toNat_natCast];rw[hg]
attribute [local irreducible] Sl.v Aa pw Ab Aw C8 Af BC CD Bi Bg B9 CB BQ AU Bp BB BG Bh Bd BP Bo BL BF BN AI AY AV Be Bw Bq C4 Mc.tb BZ AX Ap B5
theorem U3(g m u:Nat)(M:Mc)(s:St)(i:Do)(w:World)(hC:Cy w g m M s i u)(n:Nat)(x:Ln)(hx:M.ln.l[n]?=some x) :
 Calls Tryz.prog 54 #[.pointer (some ⟨g,0,none⟩),.int .i64 (n:Int)] w fun e w'=>e = .returned (.tuple #[])∧Cy w' g m M (BQ M.tb s i.oc n x.rw) i u∧Below g w w':=by
 have h63:n≤63:=by have h1:=(We.1 hx).1;have h2:=hC.tb.rn;rw[Ce] at h2;omega
 obtain⟨bl,hbl⟩:=WY (Aa s.lk n);obtain⟨bf,hbf⟩:=WY (Bi i.oc x.rw);obtain⟨bc,hbc⟩:=WY (x.cf.l.any (fun k=>Aa s.lk k.toNat));obtain⟨T,hT⟩:=WY (BQ M.tb s i.oc n x.rw);have hms:B9 M.tb s i.oc n x.rw=(!bl && (bf && (!bc && !x.nd.l.any (Bg M.tb s i.oc)))):=by rw[Mq,hbl,hbf];show(!bl && (bf && (!x.cf.l.any _ && _)))=_;rw[hbc];rfl
 have HNO1:Hid (bl=true→T=s):=hid (fun h=>by rw[← hT];exact JC (by rw[hms,h];rfl));have HNO2:Hid (bf=false→T=s):=hid (fun h=>by rw[← hT];exact JC (by rw[hms,h];cases bl<;>rfl));have HNO3:Hid (bc=true→T=s):=hid (fun h=>by rw[← hT];exact JC (by rw[hms,h];cases bl<;>cases bf<;>rfl));have HNO4:Hid (x.nd.l.any (Bg M.tb s i.oc)=true→T=s):=hid (fun h=>by rw[← hT];exact JC (by rw[hms,h];cases bl<;>cases bf<;>cases bc<;>rfl));have HYES:Hid ((!bl && (bf && (!bc && !x.nd.l.any (Bg M.tb s i.oc))))=true→T={ s with lk:=Ab s.lk n,pt:=CB x.nd.l s.pt }):=hid (fun h=>by rw[← hT];exact S9 (by rw[hms];exact h));have hs:=hC.sok;have HOR:Hid (bits .or .u64 (s.lk:Int) (pw n:Int)=((Ab s.lk n:Nat):Int)):=hid (Cw s.lk n h63 hs.lk);have HOK1:Hid (St.ok { s with lk:=Ab s.lk n }):=hid ⟨Cf _ _ h63 hs.lk,hs.us,hs.ca,hs.tm,hs.pt⟩;have HN63:=hid h63;have HP32:Hid (s.pt<4294967296):=hid hs.pt;have HXM:=hid (Wf hx);rw[hT];obtain⟨N1,hN1⟩:=WY M.ln.l.length;have cm0:=A4 hC.mach.blk 0 _ rfl;rw[Ak hN1] at cm0;have hlt1:n<N1:=by rw[← hN1];exact(We.1 hx).1
 have hle1:N1≤64:=by have:=hC.tb.rn;rw[Ce,hN1] at this;exact this
 have hok1:=Kh hC.tb hx;obtain⟨LC,hLC⟩:=WY M.ln.c;obtain⟨LA,hLA⟩:=WY M.ln.a;have hlrow:=hC.mach.ln.at_.row;rw[hLA] at hlrow;rw[hLA,hLC] at cm0;rcases hlrow with hnil | ⟨lb,lo,hlb,hlc⟩
 ·rw[hnil] at hx;cases hx
 rw[hlb] at cm0;have HLC:=hid (fun j v hv=>hlc n x hx j v hv);have HNB:Hid (∀ y∈x.nd.l,0≤y.1∧y.1<M.li.l.length∧M.li.l.length≤32):=hid (fun y hy=>by have h:=hok1.nd y hy;have h2:=hC.tb.pn;rw[Em] at h2;omega);have HCB:Hid (∀ y∈x.cf.l,0≤y∧y≤63):=hid (fun y hy=>by have h:=hok1.cf y hy;omega);have HIB:Hid (∀ y∈M.li.l,0≤y∧y≤63):=hid (fun y hy=>hC.tb.li y (by rw[Em];exact hy));have hz:=HLC.o;have z0:=hz 0 _ rfl;have z1:=hz 1 _ rfl;have z2:=hz 2 _ rfl;have z3:=hz 3 _ rfl;have z4:=hz 4 _ rfl;rw[Wa] at z0;obtain⟨t1,ht1⟩:=WY x.tk.l.length;obtain⟨t2,ht2⟩:=WY x.nd.l.length;obtain⟨t3,ht3⟩:=WY x.cf.l.length;rw[Ak ht1] at z2;rw[Ak ht2] at z3;rw[Ak ht3] at z4;clear hz;have hl0:=A4 hC.blk 0 _ (F5 _ _ _ _);have HLK:Hid (∀ V,Below w.heap.size w V→Calls Tryz.prog 34 #[.pointer (some ⟨g,0,none⟩),.int .i64 (n:Int)] V fun e w'=>e = .returned (.bool bl)∧Below V.heap.size V w'):=hid (fun V hV=>Dp bl g m u M s i V (hC.below hV) n h63 hbl);have HFR:Hid (∀ V,Below w.heap.size w V→Calls Tryz.prog 57 #[.pointer (some ⟨g,0,none⟩),.int .i64 (n:Int)] V fun e w'=>e = .returned (.bool bf)∧Below V.heap.size V w'):=hid (fun V hV=>Ja bf g m u M s i V (hC.below hV) n x hx hbf);have hcm:=(hC.mach.lns x HXM.o).cf.at_;have HCF:Hid (∀ V,Below w.heap.size w V→Calls Tryz.prog 94 #[.slice x.cf.a t3 x.cf.c,.func (.func 34) #[.pointer (some ⟨g,0,none⟩)] #[]] V fun e w'=>e = .returned (.bool bc)∧Below V.heap.size V w'):=
  hid (fun V hV=>Nf bc g (fun k=>Aa s.lk k.toNat) x.cf.a t3 x.cf.c x.cf.l V hbc ht3 (by rw[← ht3];exact hcm.lenM) (hcm.row.below hV) (fun U hU y hy=>by
   have hyb:=HCB.o y hy;obtain⟨k,rfl⟩:∃ k:Nat,y=k:=⟨y.toNat,by omega⟩;rw[Int.toNat_natCast];exact Dp _ g m u M s i U ((hC.below hV).below hU) k (by omega) rfl))
 have HTM:Hid (t2≤9223372036854775807):=hid (by rw[← ht2];exact(hC.mach.lns x HXM.o).nd.at_.lenM);have HT2:=hid ht2;have HC:=hid hC;have d1:(0:Int)≤n:=by omega
 have d2:(n:Int)<N1:=by omega
 clear hbl hbf hbc hT hms hs h63 hC hx hlc hok1 hlb hLA hLC hN1 hle1 hlt1 ht1 ht2 ht3 hcm;go_enter Tryz.func54,Tryz.ntmps54;go_upto_region 1 with fail
 have hbn:=Ac w (.cells #[.int .i64 x.fi,.int .i64 x.ah,.slice x.tk.a t1 x.tk.c,.slice x.nd.a t2 x.nd.c,.slice x.cf.a t3 x.cf.c] 98);have hqn:=Al w (.cells #[.int .i64 x.fi,.int .i64 x.ah,.slice x.tk.a t1 x.tk.c,.slice x.nd.a t2 x.nd.c,.slice x.cf.a t3 x.cf.c] 98) (VU _ _);obtain⟨V,hV⟩:=X0 (w.alloc (.cells #[.int .i64 x.fi,.int .i64 x.ah,.slice x.tk.a t1 x.tk.c,.slice x.nd.a t2 x.nd.c,.slice x.cf.a t3 x.cf.c] 98));rw[← hV] at hbn hqn ⊢;obtain⟨gr,hgr⟩:=X0 w.heap.size;rw[← hgr] at hqn ⊢;have HB0:=hid hbn;have HQR:=hid hqn;have HGR:Hid (gr≠g):=hid (by have:=Aj HC.o.blk;omega);clear hbn hqn hV hgr z0 z1 z2 z3 z4 hl0 cm0 d1 d2;go_wp2_with fail;refine(HLK.o _ HB0.o).mono ?_;rintro e w1 ⟨rfl,hb⟩;have HB1:=hid (A6 HB0.o hb);have HQR1:=hid (A5 hb HQR.o);clear hb HB0 HQR HLK;cases bl with
 | true=>
   go_wp2_with fail
   (try simp only[Exit.inBlock,Exit.then])
   refine bodyPost_ret (results_none rfl _ _ _) rfl ?_;exact⟨rfl,HNO1.o (by simp) ▸ HC.o.below HB1.o,AQ HB1.o HC.o.gle⟩
 | false=>
   go_wp2_with fail;refine(HFR.o _ HB1.o).mono ?_;rintro e w2 ⟨rfl,hb⟩;have HB2:=hid (A6 HB1.o hb);have HQR2:=hid (A5 hb HQR1.o);clear hb HB1 HQR1 HFR;cases bf with
   | false=>
     go_wp2_with fail
     (try simp only[Exit.inBlock,Exit.then])
     refine bodyPost_ret (results_none rfl _ _ _) rfl ?_;exact⟨rfl,HNO2.o (by simp) ▸ HC.o.below HB2.o,AQ HB2.o HC.o.gle⟩
   | true=>
     have c4:=A4 HQR2.o 4 _ rfl;go_wp2_with fail;refine(HCF.o _ HB2.o).mono ?_;rintro e w3 ⟨rfl,hb⟩;have HB3:=hid (A6 HB2.o hb);have HQR3:=hid (A5 hb HQR2.o);clear hb HB2 HQR2 HCF c4;cases bc with
     | true=>
       go_wp2_with fail
       (try simp only[Exit.inBlock,Exit.then])
       refine bodyPost_ret (results_none rfl _ _ _) rfl ?_;exact⟨rfl,HNO3.o (by simp) ▸ HC.o.below HB3.o,AQ HB3.o HC.o.gle⟩
     | false=>
       have HC3:=hid (HC.o.below HB3.o);have HG3:=hid (AQ HB3.o HC.o.gle);have c3:=A4 HQR3.o 3 _ rfl;clear HNO1 HNO2 HNO3 HLC HC;go_upto_region 3 with fail
       clear c3;go_loopg [38] t2 (fun g9 v wr=>∃ k:Nat,k+g9=t2∧v = .int .i64 (k:Int)∧(x.nd.l.take k).any (Bg M.tb s i.oc)=false∧Below w3.heap.size w3 wr)
       case atStart=>exact⟨0,by omega,rfl,rfl,VU _ _⟩
       case round=>
        obtain⟨k,hk,rfl,hnn,hbw⟩:=hrel;have HK:=hid hk;have HNK:=hid hnn;have HB:=hid hbw;clear hk hnn hbw;by_cases hlt:k<t2
        ·have d1:(0:Int)≤k:=(by omega);have d2:(k:Int)<t2:=(by omega);have e1:=B8 hlt HTM.o;have HLT:=hid hlt;obtain⟨y,hy⟩:∃ y,x.nd.l[k]?=some y:=⟨_,Wb (by rw[HT2.o];exact hlt)⟩;obtain⟨q',sg⟩:=y;have hyb:=HNB.o (q',sg) (Wf hy);obtain⟨q,rfl⟩:∃ q:Nat,q'=q:=⟨q'.toNat,by dsimp only at hyb;omega⟩;have hq:q<M.li.l.length:=(by dsimp only at hyb;omega);have HQ31:Hid (q≤31):=hid (by dsimp only at hyb;omega);obtain⟨sec,hsec⟩:∃ c,M.li.l[q]?=some c:=⟨_,Wb hq⟩;have HSB:=hid (HIB.o sec (Wf hsec));obtain⟨bp,hbp⟩:=WY (Aa s.pt q);obtain⟨bo,hbo⟩:=WY (Aa i.oc sec.toNat);have HBAD:Hid (Bg M.tb s i.oc ((q:Int),sg)=((bp != sg) && bo)):=hid (by rw[TL hsec,hbp,hbo]);have HYY:=hid hy;have HBP:=hid hbp;have HBO:=hid hbo;have HCR:=hid (HC3.o.below HB.o);have hcr:=HCR.o;obtain⟨N2,hN2⟩:=WY M.li.l.length;have cm1:=A4 hcr.mach.blk 1 _ rfl;rw[Ak hN2] at cm1;obtain⟨IC,hIC⟩:=WY M.li.c;obtain⟨IA,hIA⟩:=WY M.li.a;have hirow:=hcr.mach.li.at_.row;rw[hIA] at hirow;rw[hIA,hIC] at cm1;rcases hirow with hnil | ⟨ib,io,hib,hic⟩
         ·rw[hnil] at hsec;cases hsec
         rw[hib] at cm1;have y0:=hic q sec hsec 0 _ rfl;rw[Nat.mul_one,Wa] at y0;have HQN2:Hid ((0:Int)≤q∧(q:Int)<N2):=hid (by omega);have HM1':=hid cm1;have HY0':=hid y0;have hor:=(hcr.mach.lns x HXM.o).nd.at_.row;obtain⟨X,hX⟩:=WY x.nd.a;have HXX:=hid hX;rw[hX] at hor ⊢;rcases hor with hnil | ⟨nb,no,hnb,hnc⟩
         ·rw[hnil] at hy;cases hy
         subst hnb;have u0:=hnc k _ hy 0 _ rfl;have u1:=hnc k _ hy 1 _ rfl;rw[Wa] at u0;clear hnc hX hy hyb hlt hq hsec hbp hbo hcr cm1 y0 hic hib hIA hIC hN2;go_upto_region 5 with fail
         have hbn:=Ac wr (.cells #[.int .i64 (q:Int),.bool sg] 71);have hqn:=Al wr (.cells #[.int .i64 (q:Int),.bool sg] 71) (VU _ _);obtain⟨VN,hVN⟩:=X0 (wr.alloc (.cells #[.int .i64 (q:Int),.bool sg] 71));rw[← hVN] at hbn hqn ⊢;obtain⟨gx,hgx⟩:=X0 wr.heap.size;rw[← hgx] at hqn ⊢;have HQX:=hid hqn;have HCN:=hid (HCR.o.below hbn);have HBN:=hid hbn;have HM1:=hid (VY hbn HM1'.o);have HY0:=hid (VY hbn HY0'.o);have e2:IntKind.u64.wrap (s.pt:Int)=(s.pt:Int):=(by have:=HP32.o;rw[IntKind.wrap_u64];omega);have KIN:Hid (∀ w',Below VN.heap.size VN w'→Calls Tryz.prog 53 #[.int .u64 (s.pt:Int),.int .i64 (q:Int)] w' fun e w''=>e = .returned (.bool bp)∧Below VN.heap.size VN w''):=hid (fun w' hw'=>(DE bp s.pt q w' (by have:=HQ31.o;omega) (by have:=HP32.o;omega) HBP.o).mono (fun _ _ ⟨h1,h2⟩=>⟨h1,h2 ▸ hw'⟩));have KCL:Hid (∀ w',Below VN.heap.size VN w'→Calls Tryz.prog 58 #[.pointer (some ⟨g,0,none⟩),.int .i64 sec] w' fun e w''=>e = .returned (.bool (!bo))∧Below VN.heap.size VN w''):=hid (fun w' hw'=>(Es bo g m u M s i w' (HCN.o.below hw') sec HSB.o HBO.o).mono (fun _ _ h=>⟨h.1,A6 hw' h.2⟩));have d3:=HQN2.o.1;have d4:=HQN2.o.2;clear hbn hqn hVN hgx u0 u1 HM1' HY0';cases bp with
         | true=>
           cases sg with
           | true=>
             refine Ad (by kernel_rfl) ?_ ?_
             ·kernel_rfl
             repeat first
              | go_big_quiet_skip
              | (go_big_quiet_want;go_big_quiet_op;go_big_quiet_on)
              | (with_reducible apply wpQuiet_step
                 intro K hK;go_simp;first
                  | (refine hK _ ?_;clear hK K)
                  | (apply Exists.intro
                     refine⟨fun w' hw'=>?_,hK _ ?_⟩
                     ·
                      (first
                       | with_reducible exact KIN.o _ hw'
                       | with_reducible exact KCL.o _ hw'
                       | (have g0:=A4 (HCN.o.below hw').blk 68 _ (Ga _ _ _ _)
                          go_simp;first | done | with_reducible exact rfl | with_reducible exact⟨rfl,rfl⟩ | with_reducible exact KIN.o _ hw' | with_reducible exact KCL.o _ hw')
                       | (have g1:=A4 (A5 hw' HQX.o) 0 _ rfl
                          go_simp;first | done | with_reducible exact rfl | with_reducible exact⟨rfl,rfl⟩ | with_reducible exact KIN.o _ hw' | with_reducible exact KCL.o _ hw')
                       | (have g2:=A4 (A5 hw' HQX.o) 1 _ rfl
                          go_simp;first | done | with_reducible exact rfl | with_reducible exact⟨rfl,rfl⟩ | with_reducible exact KIN.o _ hw' | with_reducible exact KCL.o _ hw')
                       | (have g3:=A4 (HCN.o.below hw').blk 0 _ (F5 _ _ _ _)
                          go_simp;first | done | with_reducible exact rfl | with_reducible exact⟨rfl,rfl⟩ | with_reducible exact KIN.o _ hw' | with_reducible exact KCL.o _ hw')
                       | (have g4:=VY hw' HM1.o
                          go_simp;first | done | with_reducible exact rfl | with_reducible exact⟨rfl,rfl⟩ | with_reducible exact KIN.o _ hw' | with_reducible exact KCL.o _ hw')
                       | (have g5:=VY hw' HY0.o
                          go_simp;first | done | with_reducible exact rfl | with_reducible exact⟨rfl,rfl⟩ | with_reducible exact KIN.o _ hw' | with_reducible exact KCL.o _ hw'))
                     clear hK K))
             refine wpQuiet_nil ?_;intro w6 hw6;have HB6:=hid (A6 HBN.o hw6);have HB6X:=hid hw6;clear hw6;clear d3 d4 e2;go_wp2_with fail;rw[← HXX.o];go_roundg (t2 - (k+1))
             case rel=>exact⟨k+1,AA HK.o HLT.o,by go_num,IT HYY.o HNK.o (by rw[HBAD.o];rfl),A6 HB.o HB6.o⟩
             case measure=>exact Az HK.o HLT.o
           | false=>
             refine Ad (by kernel_rfl) ?_ ?_
             ·kernel_rfl
             repeat first
              | go_big_quiet_skip
              | (go_big_quiet_want;go_big_quiet_op;go_big_quiet_on)
              | (with_reducible apply wpQuiet_step
                 intro K hK;go_simp;first
                  | (refine hK _ ?_;clear hK K)
                  | (apply Exists.intro
                     refine⟨fun w' hw'=>?_,hK _ ?_⟩
                     ·
                      (first
                       | with_reducible exact KIN.o _ hw'
                       | with_reducible exact KCL.o _ hw'
                       | (have g0:=A4 (HCN.o.below hw').blk 68 _ (Ga _ _ _ _)
                          go_simp;first | done | with_reducible exact rfl | with_reducible exact⟨rfl,rfl⟩ | with_reducible exact KIN.o _ hw' | with_reducible exact KCL.o _ hw')
                       | (have g1:=A4 (A5 hw' HQX.o) 0 _ rfl
                          go_simp;first | done | with_reducible exact rfl | with_reducible exact⟨rfl,rfl⟩ | with_reducible exact KIN.o _ hw' | with_reducible exact KCL.o _ hw')
                       | (have g2:=A4 (A5 hw' HQX.o) 1 _ rfl
                          go_simp;first | done | with_reducible exact rfl | with_reducible exact⟨rfl,rfl⟩ | with_reducible exact KIN.o _ hw' | with_reducible exact KCL.o _ hw')
                       | (have g3:=A4 (HCN.o.below hw').blk 0 _ (F5 _ _ _ _)
                          go_simp;first | done | with_reducible exact rfl | with_reducible exact⟨rfl,rfl⟩ | with_reducible exact KIN.o _ hw' | with_reducible exact KCL.o _ hw')
                       | (have g4:=VY hw' HM1.o
                          go_simp;first | done | with_reducible exact rfl | with_reducible exact⟨rfl,rfl⟩ | with_reducible exact KIN.o _ hw' | with_reducible exact KCL.o _ hw')
                       | (have g5:=VY hw' HY0.o
                          go_simp;first | done | with_reducible exact rfl | with_reducible exact⟨rfl,rfl⟩ | with_reducible exact KIN.o _ hw' | with_reducible exact KCL.o _ hw'))
                     clear hK K))
             refine wpQuiet_nil ?_;intro w6 hw6;have HB6:=hid (A6 HBN.o hw6);have HB6X:=hid hw6;clear hw6;cases bo with
             | true=>
               clear d3 d4 e2;go_wp2_with fail
               (try simp only[Exit.inBlock,Exit.then])
               refine bodyPost_ret (results_none rfl _ _ _) rfl ?_;exact⟨rfl,HNO4.o (LR HYY.o (by rw[HBAD.o];rfl)) ▸ HCN.o.below HB6X.o,Ar HG3.o (AQ (A6 HB.o HB6.o) HC3.o.gle)⟩
             | false=>
               clear d3 d4 e2;go_wp2_with fail;rw[← HXX.o];go_roundg (t2 - (k+1))
               case rel=>exact⟨k+1,AA HK.o HLT.o,by go_num,IT HYY.o HNK.o (by rw[HBAD.o];rfl),A6 HB.o HB6.o⟩
               case measure=>exact Az HK.o HLT.o
         | false=>
           cases sg with
           | true=>
             refine Ad (by kernel_rfl) ?_ ?_
             ·kernel_rfl
             repeat first
              | go_big_quiet_skip
              | (go_big_quiet_want;go_big_quiet_op;go_big_quiet_on)
              | (with_reducible apply wpQuiet_step
                 intro K hK;go_simp;first
                  | (refine hK _ ?_;clear hK K)
                  | (apply Exists.intro
                     refine⟨fun w' hw'=>?_,hK _ ?_⟩
                     ·
                      (first
                       | with_reducible exact KIN.o _ hw'
                       | with_reducible exact KCL.o _ hw'
                       | (have g0:=A4 (HCN.o.below hw').blk 68 _ (Ga _ _ _ _)
                          go_simp;first | done | with_reducible exact rfl | with_reducible exact⟨rfl,rfl⟩ | with_reducible exact KIN.o _ hw' | with_reducible exact KCL.o _ hw')
                       | (have g1:=A4 (A5 hw' HQX.o) 0 _ rfl
                          go_simp;first | done | with_reducible exact rfl | with_reducible exact⟨rfl,rfl⟩ | with_reducible exact KIN.o _ hw' | with_reducible exact KCL.o _ hw')
                       | (have g2:=A4 (A5 hw' HQX.o) 1 _ rfl
                          go_simp;first | done | with_reducible exact rfl | with_reducible exact⟨rfl,rfl⟩ | with_reducible exact KIN.o _ hw' | with_reducible exact KCL.o _ hw')
                       | (have g3:=A4 (HCN.o.below hw').blk 0 _ (F5 _ _ _ _)
                          go_simp;first | done | with_reducible exact rfl | with_reducible exact⟨rfl,rfl⟩ | with_reducible exact KIN.o _ hw' | with_reducible exact KCL.o _ hw')
                       | (have g4:=VY hw' HM1.o
                          go_simp;first | done | with_reducible exact rfl | with_reducible exact⟨rfl,rfl⟩ | with_reducible exact KIN.o _ hw' | with_reducible exact KCL.o _ hw')
                       | (have g5:=VY hw' HY0.o
                          go_simp;first | done | with_reducible exact rfl | with_reducible exact⟨rfl,rfl⟩ | with_reducible exact KIN.o _ hw' | with_reducible exact KCL.o _ hw'))
                     clear hK K))
             refine wpQuiet_nil ?_;intro w6 hw6;have HB6:=hid (A6 HBN.o hw6);have HB6X:=hid hw6;clear hw6;cases bo with
             | true=>
               clear d3 d4 e2;go_wp2_with fail
               (try simp only[Exit.inBlock,Exit.then])
               refine bodyPost_ret (results_none rfl _ _ _) rfl ?_;exact⟨rfl,HNO4.o (LR HYY.o (by rw[HBAD.o];rfl)) ▸ HCN.o.below HB6X.o,Ar HG3.o (AQ (A6 HB.o HB6.o) HC3.o.gle)⟩
             | false=>
               clear d3 d4 e2;go_wp2_with fail;rw[← HXX.o];go_roundg (t2 - (k+1))
               case rel=>exact⟨k+1,AA HK.o HLT.o,by go_num,IT HYY.o HNK.o (by rw[HBAD.o];rfl),A6 HB.o HB6.o⟩
               case measure=>exact Az HK.o HLT.o
           | false=>
             refine Ad (by kernel_rfl) ?_ ?_
             ·kernel_rfl
             repeat first
              | go_big_quiet_skip
              | (go_big_quiet_want;go_big_quiet_op;go_big_quiet_on)
              | (with_reducible apply wpQuiet_step
                 intro K hK;go_simp;first
                  | (refine hK _ ?_;clear hK K)
                  | (apply Exists.intro
                     refine⟨fun w' hw'=>?_,hK _ ?_⟩
                     ·
                      (first
                       | with_reducible exact KIN.o _ hw'
                       | with_reducible exact KCL.o _ hw'
                       | (have g0:=A4 (HCN.o.below hw').blk 68 _ (Ga _ _ _ _)
                          go_simp;first | done | with_reducible exact rfl | with_reducible exact⟨rfl,rfl⟩ | with_reducible exact KIN.o _ hw' | with_reducible exact KCL.o _ hw')
                       | (have g1:=A4 (A5 hw' HQX.o) 0 _ rfl
                          go_simp;first | done | with_reducible exact rfl | with_reducible exact⟨rfl,rfl⟩ | with_reducible exact KIN.o _ hw' | with_reducible exact KCL.o _ hw')
                       | (have g2:=A4 (A5 hw' HQX.o) 1 _ rfl
                          go_simp;first | done | with_reducible exact rfl | with_reducible exact⟨rfl,rfl⟩ | with_reducible exact KIN.o _ hw' | with_reducible exact KCL.o _ hw')
                       | (have g3:=A4 (HCN.o.below hw').blk 0 _ (F5 _ _ _ _)
                          go_simp;first | done | with_reducible exact rfl | with_reducible exact⟨rfl,rfl⟩ | with_reducible exact KIN.o _ hw' | with_reducible exact KCL.o _ hw')
                       | (have g4:=VY hw' HM1.o
                          go_simp;first | done | with_reducible exact rfl | with_reducible exact⟨rfl,rfl⟩ | with_reducible exact KIN.o _ hw' | with_reducible exact KCL.o _ hw')
                       | (have g5:=VY hw' HY0.o
                          go_simp;first | done | with_reducible exact rfl | with_reducible exact⟨rfl,rfl⟩ | with_reducible exact KIN.o _ hw' | with_reducible exact KCL.o _ hw'))
                     clear hK K))
             refine wpQuiet_nil ?_;intro w6 hw6;have HB6:=hid (A6 HBN.o hw6);have HB6X:=hid hw6;clear hw6;clear d3 d4 e2;go_wp2_with fail;rw[← HXX.o];go_roundg (t2 - (k+1))
             case rel=>exact⟨k+1,AA HK.o HLT.o,by go_num,IT HYY.o HNK.o (by rw[HBAD.o];rfl),A6 HB.o HB6.o⟩
             case measure=>exact Az HK.o HLT.o
        ·have d2:¬ (k:Int)<t2:=(by omega);have HNN:Hid (x.nd.l.any (Bg M.tb s i.oc)=false):=hid (Qn HT2.o (by rw[show t2=k by have:=HK.o;omega];exact HNK.o));have HC0:=hid (HC3.o.below HB.o);have HQR0:=hid (A5 HB.o HQR3.o);have HB00:=hid (Ar HG3.o (AQ HB.o HC3.o.gle));clear hlt HC3 HQR3 HG3 HB;go_upto_region 7 with fail
         refine Am (by kernel_rfl) [11] 14 [0,1,2,3,4,5,6,7,8,9,10] [71,72,73,74,75,76,77,78,79,80,81] #[true,true,true,true,true,true,true,true,true,true,true,false] 1 [(fun v _=>v = .pointer (some ⟨g,0,none⟩)),(fun v _=>v = .pointer (some ⟨g,0,none⟩)),(fun v _=>v = .pointer (some ⟨g,1,none⟩)),(fun v _=>v = .pointer (some ⟨g,1,none⟩)),(fun v _=>v = .int .u64 (s.lk:Int)),(fun v _=>v = .int .i64 (n:Int)),(fun v _=>v = .int .u64 (pw n:Int)),(fun v _=>v = .int .u64 ((Ab s.lk n:Nat):Int)),(fun v _=>v = .pointer (some ⟨g,0,none⟩)),(fun v _=>v = .pointer (some ⟨g,1,none⟩)),(fun v _=>v = .pointer (some ⟨g,1,none⟩)),(fun _ _=>True)] (by kernel_rfl) (by kernel_rfl) (by kernel_rfl) (by kernel_rfl) (by kernel_rfl) rfl (by kernel_rfl) rfl ?_ ?_ ?_
         ·exact⟨A8 _,A8 _,A8 _,A8 _,A8 _,A8 _,A8 _,A8 _,A8 _,A8 _,A8 _,An,trivial⟩
         ·refine⟨?_,?_,?_,?_,?_,?_,?_,?_,?_,?_,?_,trivial⟩
          ·refine A7 (o:=⟨some 71,_,_,_,_,_⟩) rfl (fun r V hc hf hg hs hb hd=>?_);have x0:r (.tmp 0) = .pointer (some ⟨g,0,none⟩):=hs 0 (by kernel_rfl);clear hs hd hg;go_simp;exact X1
          ·refine A7 (o:=⟨some 72,_,_,_,_,_⟩) rfl (fun r V hc hf hg hs hb hd=>?_);have h0:r (.tmp 71) = .pointer (some ⟨g,0,none⟩):=hd 0 71 rfl (by kernel_rfl);clear hs hd hg;go_simp;exact X1
          ·refine A7 (o:=⟨some 73,_,_,_,_,_⟩) rfl (fun r V hc hf hg hs hb hd=>?_);have h1:r (.tmp 72) = .pointer (some ⟨g,0,none⟩):=hd 1 72 rfl (by kernel_rfl);clear hs hd hg;go_simp;exact X1
          ·refine A7 (o:=⟨some 74,_,_,_,_,_⟩) rfl (fun r V hc hf hg hs hb hd=>?_);have h2:r (.tmp 73) = .pointer (some ⟨g,1,none⟩):=hd 2 73 rfl (by kernel_rfl);clear hs hd hg;go_simp;exact X1
          ·refine A7 (o:=⟨some 75,_,_,_,_,_⟩) rfl (fun r V hc hf hg hs hb hd=>?_);have h3:r (.tmp 74) = .pointer (some ⟨g,1,none⟩):=hd 3 74 rfl (by kernel_rfl);clear hs hd hg;have l:=A4 (HC0.o.below hb).blk 1 _ (Lg _ _ _ _);go_simp;exact X1
          ·refine A7 (o:=⟨some 76,_,_,_,_,_⟩) rfl (fun r V hc hf hg hs hb hd=>?_);have x1:r (.tmp 1) = .int .i64 (n:Int):=hs 1 (by kernel_rfl);clear hs hd hg;go_simp;exact X1
          ·refine A7 (o:=⟨some 77,_,_,_,_,_⟩) rfl (fun r V hc hf hg hs hb hd=>?_);have h5:r (.tmp 76) = .int .i64 (n:Int):=hd 5 76 rfl (by kernel_rfl);clear hs hd hg;have h63:=HN63.o;have h0:(0:Int)≤n:=(by omega);have h1:min n 64=n:=(by omega);have h2:¬ (64:Int)≤n:=(by omega);have hs1:=Br n h63;go_simp;exact⟨VU _ _,by simp⟩
          ·refine A7 (o:=⟨some 78,_,_,_,_,_⟩) rfl (fun r V hc hf hg hs hb hd=>?_);have h4:r (.tmp 75) = .int .u64 (s.lk:Int):=hd 4 75 rfl (by kernel_rfl);have h6:r (.tmp 77) = .int .u64 (pw n:Int):=hd 6 77 rfl (by kernel_rfl);clear hs hd hg;have ho1:=HOR.o;go_simp;exact X1
          ·refine A7 (o:=⟨some 79,_,_,_,_,_⟩) rfl (fun r V hc hf hg hs hb hd=>?_);have h0:r (.tmp 71) = .pointer (some ⟨g,0,none⟩):=hd 0 71 rfl (by kernel_rfl);clear hs hd hg;go_simp;exact X1
          ·refine A7 (o:=⟨some 80,_,_,_,_,_⟩) rfl (fun r V hc hf hg hs hb hd=>?_);have h8:r (.tmp 79) = .pointer (some ⟨g,0,none⟩):=hd 8 79 rfl (by kernel_rfl);clear hs hd hg;go_simp;exact X1
          ·refine A7 (o:=⟨some 81,_,_,_,_,_⟩) rfl (fun r V hc hf hg hs hb hd=>?_);have h9:r (.tmp 80) = .pointer (some ⟨g,1,none⟩):=hd 9 80 rfl (by kernel_rfl);clear hs hd hg;go_simp;exact X1
         ·intro a V hb hx;have h0:a.eval (.tmp 71) = .pointer (some ⟨g,0,none⟩):=hx 0 71 rfl rfl;have h1:a.eval (.tmp 72) = .pointer (some ⟨g,0,none⟩):=hx 1 72 rfl rfl;have h2:a.eval (.tmp 73) = .pointer (some ⟨g,1,none⟩):=hx 2 73 rfl rfl;have h3:a.eval (.tmp 74) = .pointer (some ⟨g,1,none⟩):=hx 3 74 rfl rfl;have h4:a.eval (.tmp 75) = .int .u64 (s.lk:Int):=hx 4 75 rfl rfl;have h5:a.eval (.tmp 76) = .int .i64 (n:Int):=hx 5 76 rfl rfl;have h6:a.eval (.tmp 77) = .int .u64 (pw n:Int):=hx 6 77 rfl rfl;have h7:a.eval (.tmp 78) = .int .u64 ((Ab s.lk n:Nat):Int):=hx 7 78 rfl rfl;have h8:a.eval (.tmp 79) = .pointer (some ⟨g,0,none⟩):=hx 8 79 rfl rfl;have h9:a.eval (.tmp 80) = .pointer (some ⟨g,1,none⟩):=hx 9 80 rfl rfl;have h10:a.eval (.tmp 81) = .pointer (some ⟨g,1,none⟩):=hx 10 81 rfl rfl;unfold AD;simp only[Wi,Wj,h0,h1,h2,h3,h4,h5,h6,h7,h8,h9,h10,Act.put,VW,VX,VV];clear h0 h1 h2 h3 h4 h5 h6 h7 h8 h9 h10 hx;have HCV:=hid (HC0.o.below hb);have HBV:=hid (Ar HB00.o (AQ hb HC0.o.gle));have HQRV:=hid (A5 hb HQR0.o);clear hb;refine wpAny_ready (rs:=[11]) (by kernel_rfl) (by simp) (AllReady.cons (o:=⟨none,_,_,_,_,_⟩) rfl (fun K hK=>?_) AllReady.nil);have c0:=A4 HCV.o.blk 1 _ (Lg _ _ _ _);have f0:=Aq HCV.o.blk 1;have hl:=Aj HCV.o.blk;go_simp;clear c0 f0 hl;refine Bc ?_;intro VZ hVZ;have hput:=HCV.o.put 1 _ (Tg _ _ _ _ _) (HOK1.o);rw[← hVZ] at hput;have HCZ:=hid hput.1;have HBZ:=hid (Ar HBV.o hput.2);have HQRZ:Hid (VZ.heap[gr]?=some (.cells #[.int .i64 x.fi,.int .i64 x.ah,.slice x.tk.a t1 x.tk.c,.slice x.nd.a t2 x.nd.c,.slice x.cf.a t3 x.cf.c] 98)):=hid (by rw[hVZ];exact I2 HQRV.o 1 _ (fun e=>HGR.o e.symm));clear hVZ hput HQRV HCV HBV;refine hK _ _ ?_;clear hK K;refine wpAny_done (by kernel_rfl) ?_ _;obtain⟨nrow,hnrow⟩:=WY x.nd.a;have HNA:=hid hnrow;have c3:=A4 HQRZ.o 3 _ rfl;have HST0:Hid (Cy VZ g m M { s with lk:=Ab s.lk n,pt:=CB (x.nd.l.take 0) s.pt } i u):=hid (by rw[Kw];exact HCZ.o);clear hnrow HCZ;go_upto_region 9 with fail
          clear c3;go_loopg [85] t2 (fun g9 v wr=>∃ k:Nat,k+g9=t2∧v = .int .i64 (k:Int)∧Cy wr g m M { s with lk:=Ab s.lk n,pt:=CB (x.nd.l.take k) s.pt } i u∧Below g w wr)
          case atStart=>exact⟨0,by omega,rfl,HST0.o,HBZ.o⟩
          case round=>
           obtain⟨k,hk,rfl,hcr,hbw⟩:=hrel;have HK:=hid hk;have HCR:=hid hcr;have HBR:=hid hbw;clear hk hcr hbw HST0 HBZ HQRZ;by_cases hlt:k<t2
           ·have d1:(0:Int)≤k:=(by omega);have d2:(k:Int)<t2:=(by omega);have e1:=B8 hlt HTM.o;have HLT:=hid hlt;obtain⟨y,hy⟩:∃ y,x.nd.l[k]?=some y:=⟨_,Wb (by rw[HT2.o];exact hlt)⟩;obtain⟨q',sg⟩:=y;have hyb:=HNB.o (q',sg) (Wf hy);obtain⟨q,rfl⟩:∃ q:Nat,q'=q:=⟨q'.toNat,by dsimp only at hyb;omega⟩;have HQ31:Hid (q≤31):=hid (by dsimp only at hyb;omega);obtain⟨A,hA⟩:=WY (CB (x.nd.l.take k) s.pt);have HNX:Hid (CB (x.nd.l.take (k+1)) s.pt=if sg then Ab A q else Aw A q):=hid (by rw[Pt hy,hA,Int.toNat_natCast]);rw[hA] at HCR;have HA32:Hid (A<4294967296):=hid HCR.o.sok.pt;have hor:=(HCR.o.mach.lns x HXM.o).nd.at_.row;obtain⟨X,hX⟩:=WY x.nd.a;have HXX:=hid hX;rw[hX] at hor ⊢;rcases hor with hnil | ⟨nb,no,hnb,hnc⟩
            ·rw[hnil] at hy;cases hy
            subst hnb;have y0:=hnc k _ hy 0 _ rfl;have y1:=hnc k _ hy 1 _ rfl;rw[Wa] at y0;clear hnc hX hy hyb hA hlt;go_upto_region 11 with fail
            have hbn:=Ac wr (.cells #[.int .i64 (q:Int),.bool sg] 71);have hqn:=Al wr (.cells #[.int .i64 (q:Int),.bool sg] 71) (VU _ _);obtain⟨VN,hVN⟩:=X0 (wr.alloc (.cells #[.int .i64 (q:Int),.bool sg] 71));rw[← hVN] at hbn hqn ⊢;obtain⟨gx,hgx⟩:=X0 wr.heap.size;rw[← hgx] at hqn ⊢;have HQX:=hid hqn;have HCN:=hid (HCR.o.below hbn);have HBN:=hid (Ar HBR.o (AQ hbn HCR.o.gle));have HPT:Hid ((C8 m { s with lk:=Ab s.lk n,pt:=A } i u).toArray[68]?=some (.int .u32 (A:Int))):=hid (Ga _ _ _ _);have c1:=A4 hqn 1 _ rfl;clear hbn hqn hVN hgx y0 y1 HCR HBR;cases sg with
            | true=>
              have HOKN:Hid (St.ok { s with lk:=Ab s.lk n,pt:=Ab A q }):=hid ⟨HOK1.o.lk,HOK1.o.us,HOK1.o.ca,HOK1.o.tm,JM HQ31.o HA32.o⟩;go_upto_region 12 with fail
              clear c1;refine Am (by kernel_rfl) [12] 15 [0,1,2,3,4,5,6,7,8,9,10,11] [91,92,93,94,95,96,97,98,99,100,101,102] #[true,true,true,true,true,true,true,true,true,true,true,true,false] 1 [(fun v _=>v = .pointer (some ⟨g,0,none⟩)),(fun v _=>v = .pointer (some ⟨g,0,none⟩)),(fun v _=>v = .pointer (some ⟨g,1,none⟩)),(fun v _=>v = .pointer (some ⟨g,68,none⟩)),(fun v _=>v = .int .u32 (A:Int)),(fun v _=>v = .pointer (some ⟨gx,0,none⟩)),(fun v _=>v = .int .i64 (q:Int)),(fun v _=>v = .int .u32 ((pw q:Nat):Int)),(fun v _=>v = .int .u32 ((Ab A q:Nat):Int)),(fun v _=>v = .pointer (some ⟨g,0,none⟩)),(fun v _=>v = .pointer (some ⟨g,1,none⟩)),(fun v _=>v = .pointer (some ⟨g,68,none⟩)),(fun _ _=>True)] (by kernel_rfl) (by kernel_rfl) (by kernel_rfl) (by kernel_rfl) (by kernel_rfl) rfl (by kernel_rfl) rfl ?_ ?_ ?_
              ·exact⟨A8 _,A8 _,A8 _,A8 _,A8 _,A8 _,A8 _,A8 _,A8 _,A8 _,A8 _,A8 _,An,trivial⟩
              ·refine⟨?_,?_,?_,?_,?_,?_,?_,?_,?_,?_,?_,?_,trivial⟩
               ·refine A7 (o:=⟨some 91,_,_,_,_,_⟩) rfl (fun r V hc hf hg hs hb hd=>?_);have x0:r (.tmp 0) = .pointer (some ⟨g,0,none⟩):=hs 0 (by kernel_rfl);clear hs hd hg;go_simp;exact X1
               ·refine A7 (o:=⟨some 92,_,_,_,_,_⟩) rfl (fun r V hc hf hg hs hb hd=>?_);have h0:r (.tmp 91) = .pointer (some ⟨g,0,none⟩):=hd 0 91 rfl (by kernel_rfl);clear hs hd hg;go_simp;exact X1
               ·refine A7 (o:=⟨some 93,_,_,_,_,_⟩) rfl (fun r V hc hf hg hs hb hd=>?_);have h1:r (.tmp 92) = .pointer (some ⟨g,0,none⟩):=hd 1 92 rfl (by kernel_rfl);clear hs hd hg;go_simp;exact X1
               ·refine A7 (o:=⟨some 94,_,_,_,_,_⟩) rfl (fun r V hc hf hg hs hb hd=>?_);have h2:r (.tmp 93) = .pointer (some ⟨g,1,none⟩):=hd 2 93 rfl (by kernel_rfl);clear hs hd hg;go_simp;exact X1
               ·refine A7 (o:=⟨some 95,_,_,_,_,_⟩) rfl (fun r V hc hf hg hs hb hd=>?_);have h3:r (.tmp 94) = .pointer (some ⟨g,68,none⟩):=hd 3 94 rfl (by kernel_rfl);clear hs hd hg;have l:=A4 (HCN.o.below hb).blk 68 _ (HPT.o);go_simp;exact X1
               ·refine A7 (o:=⟨some 96,_,_,_,_,_⟩) rfl (fun r V hc hf hg hs hb hd=>?_);have x8:r (.tmp 8) = .pointer (some ⟨gx,0,none⟩):=hs 8 (by kernel_rfl);clear hs hd hg;go_simp;exact X1
               ·refine A7 (o:=⟨some 97,_,_,_,_,_⟩) rfl (fun r V hc hf hg hs hb hd=>?_);have h5:r (.tmp 96) = .pointer (some ⟨gx,0,none⟩):=hd 5 96 rfl (by kernel_rfl);clear hs hd hg;have l:=A4 (A5 hb HQX.o) 0 _ rfl;go_simp;exact X1
               ·refine A7 (o:=⟨some 98,_,_,_,_,_⟩) rfl (fun r V hc hf hg hs hb hd=>?_);have h6:r (.tmp 97) = .int .i64 (q:Int):=hd 6 97 rfl (by kernel_rfl);clear hs hd hg;have h31:=HQ31.o;have h0:(0:Int)≤q:=(by omega);have h1:min q 32=q:=(by omega);have h2:¬ (32:Int)≤q:=(by omega);have hs1:=Ho h31;go_simp;exact⟨VU _ _,by simp⟩
               ·refine A7 (o:=⟨some 99,_,_,_,_,_⟩) rfl (fun r V hc hf hg hs hb hd=>?_);have h4:r (.tmp 95) = .int .u32 (A:Int):=hd 4 95 rfl (by kernel_rfl);have h7:r (.tmp 98) = .int .u32 ((pw q:Nat):Int):=hd 7 98 rfl (by kernel_rfl);clear hs hd hg;have ho1:=FV HQ31.o HA32.o;go_simp;exact X1
               ·refine A7 (o:=⟨some 100,_,_,_,_,_⟩) rfl (fun r V hc hf hg hs hb hd=>?_);have h0:r (.tmp 91) = .pointer (some ⟨g,0,none⟩):=hd 0 91 rfl (by kernel_rfl);clear hs hd hg;go_simp;exact X1
               ·refine A7 (o:=⟨some 101,_,_,_,_,_⟩) rfl (fun r V hc hf hg hs hb hd=>?_);have h9:r (.tmp 100) = .pointer (some ⟨g,0,none⟩):=hd 9 100 rfl (by kernel_rfl);clear hs hd hg;go_simp;exact X1
               ·refine A7 (o:=⟨some 102,_,_,_,_,_⟩) rfl (fun r V hc hf hg hs hb hd=>?_);have h10:r (.tmp 101) = .pointer (some ⟨g,1,none⟩):=hd 10 101 rfl (by kernel_rfl);clear hs hd hg;go_simp;exact X1
              ·intro a V hb hx;have h0:a.eval (.tmp 91) = .pointer (some ⟨g,0,none⟩):=hx 0 91 rfl rfl;have h1:a.eval (.tmp 92) = .pointer (some ⟨g,0,none⟩):=hx 1 92 rfl rfl;have h2:a.eval (.tmp 93) = .pointer (some ⟨g,1,none⟩):=hx 2 93 rfl rfl;have h3:a.eval (.tmp 94) = .pointer (some ⟨g,68,none⟩):=hx 3 94 rfl rfl;have h4:a.eval (.tmp 95) = .int .u32 (A:Int):=hx 4 95 rfl rfl;have h5:a.eval (.tmp 96) = .pointer (some ⟨gx,0,none⟩):=hx 5 96 rfl rfl;have h6:a.eval (.tmp 97) = .int .i64 (q:Int):=hx 6 97 rfl rfl;have h7:a.eval (.tmp 98) = .int .u32 ((pw q:Nat):Int):=hx 7 98 rfl rfl;have h8:a.eval (.tmp 99) = .int .u32 ((Ab A q:Nat):Int):=hx 8 99 rfl rfl;have h9:a.eval (.tmp 100) = .pointer (some ⟨g,0,none⟩):=hx 9 100 rfl rfl;have h10:a.eval (.tmp 101) = .pointer (some ⟨g,1,none⟩):=hx 10 101 rfl rfl;have h11:a.eval (.tmp 102) = .pointer (some ⟨g,68,none⟩):=hx 11 102 rfl rfl;unfold AD;simp only[Wi,Wj,h0,h1,h2,h3,h4,h5,h6,h7,h8,h9,h10,h11,Act.put,VW,VX,VV];clear h0 h1 h2 h3 h4 h5 h6 h7 h8 h9 h10 h11 hx;have HCV:=hid (HCN.o.below hb);have HBV:=hid (Ar HBN.o (AQ hb HCN.o.gle));clear hb;refine wpAny_ready (rs:=[12]) (by kernel_rfl) (by simp) (AllReady.cons (o:=⟨none,_,_,_,_,_⟩) rfl (fun K hK=>?_) AllReady.nil);have c0:=A4 HCV.o.blk 68 _ (HPT.o);have f0:=Aq HCV.o.blk 68;have hl:=Aj HCV.o.blk;go_simp;clear c0 f0 hl;refine Bc ?_;intro VZ hVZ;have hput:=HCV.o.put 68 _ (Oq _ _ _ _ (Ab A q)) (HOKN.o);rw[← hVZ] at hput;have HCZ:=hid hput.1;have HBZ:=hid (Ar HBV.o hput.2);clear hVZ hput HCV HBV;refine hK _ _ ?_;clear hK K;refine wpAny_done (by kernel_rfl) ?_ _;go_wp2_with fail;rw[← HXX.o];go_roundg (t2 - (k+1))
               case rel=>exact⟨k+1,AA HK.o HLT.o,by go_num,by rw[HNX.o];exact HCZ.o,HBZ.o⟩
               case measure=>exact Az HK.o HLT.o
            | false=>
              have HOKN:Hid (St.ok { s with lk:=Ab s.lk n,pt:=Aw A q }):=hid ⟨HOK1.o.lk,HOK1.o.us,HOK1.o.ca,HOK1.o.tm,Hv HA32.o⟩;go_upto_region 13 with fail
              clear c1;refine Am (by kernel_rfl) [12] 15 [0,1,2,3,4,5,6,7,8,9,10,11] [103,104,105,106,107,108,109,110,111,112,113,114] #[true,true,true,true,true,true,true,true,true,true,true,true,false] 1 [(fun v _=>v = .pointer (some ⟨g,0,none⟩)),(fun v _=>v = .pointer (some ⟨g,0,none⟩)),(fun v _=>v = .pointer (some ⟨g,1,none⟩)),(fun v _=>v = .pointer (some ⟨g,68,none⟩)),(fun v _=>v = .int .u32 (A:Int)),(fun v _=>v = .pointer (some ⟨gx,0,none⟩)),(fun v _=>v = .int .i64 (q:Int)),(fun v _=>v = .int .u32 ((pw q:Nat):Int)),(fun v _=>v = .int .u32 ((Aw A q:Nat):Int)),(fun v _=>v = .pointer (some ⟨g,0,none⟩)),(fun v _=>v = .pointer (some ⟨g,1,none⟩)),(fun v _=>v = .pointer (some ⟨g,68,none⟩)),(fun _ _=>True)] (by kernel_rfl) (by kernel_rfl) (by kernel_rfl) (by kernel_rfl) (by kernel_rfl) rfl (by kernel_rfl) rfl ?_ ?_ ?_
              ·exact⟨A8 _,A8 _,A8 _,A8 _,A8 _,A8 _,A8 _,A8 _,A8 _,A8 _,A8 _,A8 _,An,trivial⟩
              ·refine⟨?_,?_,?_,?_,?_,?_,?_,?_,?_,?_,?_,?_,trivial⟩
               ·refine A7 (o:=⟨some 103,_,_,_,_,_⟩) rfl (fun r V hc hf hg hs hb hd=>?_);have x0:r (.tmp 0) = .pointer (some ⟨g,0,none⟩):=hs 0 (by kernel_rfl);clear hs hd hg;go_simp;exact X1
               ·refine A7 (o:=⟨some 104,_,_,_,_,_⟩) rfl (fun r V hc hf hg hs hb hd=>?_);have h0:r (.tmp 103) = .pointer (some ⟨g,0,none⟩):=hd 0 103 rfl (by kernel_rfl);clear hs hd hg;go_simp;exact X1
               ·refine A7 (o:=⟨some 105,_,_,_,_,_⟩) rfl (fun r V hc hf hg hs hb hd=>?_);have h1:r (.tmp 104) = .pointer (some ⟨g,0,none⟩):=hd 1 104 rfl (by kernel_rfl);clear hs hd hg;go_simp;exact X1
               ·refine A7 (o:=⟨some 106,_,_,_,_,_⟩) rfl (fun r V hc hf hg hs hb hd=>?_);have h2:r (.tmp 105) = .pointer (some ⟨g,1,none⟩):=hd 2 105 rfl (by kernel_rfl);clear hs hd hg;go_simp;exact X1
               ·refine A7 (o:=⟨some 107,_,_,_,_,_⟩) rfl (fun r V hc hf hg hs hb hd=>?_);have h3:r (.tmp 106) = .pointer (some ⟨g,68,none⟩):=hd 3 106 rfl (by kernel_rfl);clear hs hd hg;have l:=A4 (HCN.o.below hb).blk 68 _ (HPT.o);go_simp;exact X1
               ·refine A7 (o:=⟨some 108,_,_,_,_,_⟩) rfl (fun r V hc hf hg hs hb hd=>?_);have x8:r (.tmp 8) = .pointer (some ⟨gx,0,none⟩):=hs 8 (by kernel_rfl);clear hs hd hg;go_simp;exact X1
               ·refine A7 (o:=⟨some 109,_,_,_,_,_⟩) rfl (fun r V hc hf hg hs hb hd=>?_);have h5:r (.tmp 108) = .pointer (some ⟨gx,0,none⟩):=hd 5 108 rfl (by kernel_rfl);clear hs hd hg;have l:=A4 (A5 hb HQX.o) 0 _ rfl;go_simp;exact X1
               ·refine A7 (o:=⟨some 110,_,_,_,_,_⟩) rfl (fun r V hc hf hg hs hb hd=>?_);have h6:r (.tmp 109) = .int .i64 (q:Int):=hd 6 109 rfl (by kernel_rfl);clear hs hd hg;have h31:=HQ31.o;have h0:(0:Int)≤q:=(by omega);have h1:min q 32=q:=(by omega);have h2:¬ (32:Int)≤q:=(by omega);have hs1:=Ho h31;go_simp;exact⟨VU _ _,by simp⟩
               ·refine A7 (o:=⟨some 111,_,_,_,_,_⟩) rfl (fun r V hc hf hg hs hb hd=>?_);have h4:r (.tmp 107) = .int .u32 (A:Int):=hd 4 107 rfl (by kernel_rfl);have h7:r (.tmp 110) = .int .u32 ((pw q:Nat):Int):=hd 7 110 rfl (by kernel_rfl);clear hs hd hg;have ho1:=IN HQ31.o HA32.o;go_simp;exact X1
               ·refine A7 (o:=⟨some 112,_,_,_,_,_⟩) rfl (fun r V hc hf hg hs hb hd=>?_);have h0:r (.tmp 103) = .pointer (some ⟨g,0,none⟩):=hd 0 103 rfl (by kernel_rfl);clear hs hd hg;go_simp;exact X1
               ·refine A7 (o:=⟨some 113,_,_,_,_,_⟩) rfl (fun r V hc hf hg hs hb hd=>?_);have h9:r (.tmp 112) = .pointer (some ⟨g,0,none⟩):=hd 9 112 rfl (by kernel_rfl);clear hs hd hg;go_simp;exact X1
               ·refine A7 (o:=⟨some 114,_,_,_,_,_⟩) rfl (fun r V hc hf hg hs hb hd=>?_);have h10:r (.tmp 113) = .pointer (some ⟨g,1,none⟩):=hd 10 113 rfl (by kernel_rfl);clear hs hd hg;go_simp;exact X1
              ·intro a V hb hx;have h0:a.eval (.tmp 103) = .pointer (some ⟨g,0,none⟩):=hx 0 103 rfl rfl;have h1:a.eval (.tmp 104) = .pointer (some ⟨g,0,none⟩):=hx 1 104 rfl rfl;have h2:a.eval (.tmp 105) = .pointer (some ⟨g,1,none⟩):=hx 2 105 rfl rfl;have h3:a.eval (.tmp 106) = .pointer (some ⟨g,68,none⟩):=hx 3 106 rfl rfl;have h4:a.eval (.tmp 107) = .int .u32 (A:Int):=hx 4 107 rfl rfl;have h5:a.eval (.tmp 108) = .pointer (some ⟨gx,0,none⟩):=hx 5 108 rfl rfl;have h6:a.eval (.tmp 109) = .int .i64 (q:Int):=hx 6 109 rfl rfl;have h7:a.eval (.tmp 110) = .int .u32 ((pw q:Nat):Int):=hx 7 110 rfl rfl;have h8:a.eval (.tmp 111) = .int .u32 ((Aw A q:Nat):Int):=hx 8 111 rfl rfl;have h9:a.eval (.tmp 112) = .pointer (some ⟨g,0,none⟩):=hx 9 112 rfl rfl;have h10:a.eval (.tmp 113) = .pointer (some ⟨g,1,none⟩):=hx 10 113 rfl rfl;have h11:a.eval (.tmp 114) = .pointer (some ⟨g,68,none⟩):=hx 11 114 rfl rfl;unfold AD;simp only[Wi,Wj,h0,h1,h2,h3,h4,h5,h6,h7,h8,h9,h10,h11,Act.put,VW,VX,VV];clear h0 h1 h2 h3 h4 h5 h6 h7 h8 h9 h10 h11 hx;have HCV:=hid (HCN.o.below hb);have HBV:=hid (Ar HBN.o (AQ hb HCN.o.gle));clear hb;refine wpAny_ready (rs:=[12]) (by kernel_rfl) (by simp) (AllReady.cons (o:=⟨none,_,_,_,_,_⟩) rfl (fun K hK=>?_) AllReady.nil);have c0:=A4 HCV.o.blk 68 _ (HPT.o);have f0:=Aq HCV.o.blk 68;have hl:=Aj HCV.o.blk;go_simp;clear c0 f0 hl;refine Bc ?_;intro VZ hVZ;have hput:=HCV.o.put 68 _ (Oq _ _ _ _ (Aw A q)) (HOKN.o);rw[← hVZ] at hput;have HCZ:=hid hput.1;have HBZ:=hid (Ar HBV.o hput.2);clear hVZ hput HCV HBV;refine hK _ _ ?_;clear hK K;refine wpAny_done (by kernel_rfl) ?_ _;go_wp2_with fail;rw[← HXX.o];go_roundg (t2 - (k+1))
               case rel=>exact⟨k+1,AA HK.o HLT.o,by go_num,by rw[HNX.o];exact HCZ.o,HBZ.o⟩
               case measure=>exact Az HK.o HLT.o
           ·have d2:¬ (k:Int)<t2:=(by omega);have HEND:Hid (CB (x.nd.l.take k) s.pt=CB x.nd.l s.pt):=hid (by rw[show k=t2 by have:=HK.o;omega];exact RT HT2.o _);clear hlt;go_wp2_with fail;go_end0;rw[HYES.o (by simp[HNN.o])];exact⟨rfl,HEND.o ▸ HCR.o,HBR.o⟩
end Go.Proofs.YtpohoannggdbjaaGreat
