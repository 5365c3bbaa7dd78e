/- Layer 10: bits of 32; move. -/
import Derived.Test.YtpohoannggdbjaaGreatIxE
set_option maxRecDepth 100000
set_option maxHeartbeats 200000000
namespace Go.Proofs.YtpohoannggdbjaaGreat
open Lib (hid)
open Go.RowKit
theorem Ho{p:Nat}(h:p≤31):IntKind.u32.wrap ((2:Int) ^ p)=((pw p:Nat):Int):=by
 have h1:pw p≤pw 31:=Nat.pow_le_pow_right (by omega) h;have h2:pw 31=2147483648:=by decide
 have h3:((2:Int) ^ p)=((pw p:Nat):Int):=by rw[Pu];simp
 rw[h3,IntKind.wrap_u32];omega
theorem Ec{n:Nat}(h:n≤31):pw n<4294967296:=Nat.pow_lt_pow_right (n:=32) (by omega) (by omega)
theorem FV{s n:Nat}(hn:n≤31)(hs:s<4294967296):bits .or .u32 (s:Int) ((pw n:Nat):Int)=((Ab s n:Nat):Int):=by
 rw[u32_or_nat s (pw n) hs (Ec hn),By]
theorem JM{s n:Nat}(hn:n≤31)(hs:s<4294967296):Ab s n<4294967296:=by
 rw[By];exact Nat.or_lt_two_pow (n:=32) hs (Ec hn)
theorem IN{s n:Nat}(hn:n≤31)(hs:s<4294967296):bits .andNot .u32 (s:Int) ((pw n:Nat):Int)=((Aw s n:Nat):Int):=by
 have hp:=Ec hn;rw[u32_andNot_nat s (pw n) hs hp,← G6 s n (by omega) (by omega)]
 congr 1
 refine Nat.eq_of_testBit_eq fun i=>?_
 rw[Nat.testBit_and,Nat.testBit_and,JR n i (by omega),show 4294967295 - pw n=2 ^ 32 - (pw n+1) by omega,Nat.testBit_two_pow_sub_succ hp,pw,Nat.testBit_two_pow];rcases Nat.lt_or_ge i 32 with h | h
 ·simp[h,show i<64 by omega]
 ·rw[Nat.testBit_lt_two_pow (Wv hs (Nat.pow_le_pow_right (n:=2) (by omega) h))];rfl
theorem Hv{s n:Nat}(hs:s<4294967296):Aw s n<4294967296:=Wr (Dx s n) hs
theorem Hw{s n:Nat}(hn:n≤31)(hs:s<4294967296):bits .xor .u32 (s:Int) ((pw n:Nat):Int)=((Bh s n:Nat):Int):=by
 rw[u32_xor_nat s (pw n) hs (Ec hn)];rfl
theorem GN{s n:Nat}(hn:n≤31)(hs:s<4294967296):Bh s n<4294967296:=Nat.xor_lt_two_pow (n:=32) hs (Ec hn)
theorem Em(M:Mc):M.tb.li=M.li.l:=rfl
theorem Kn(T:Tb)(s:St)(p:Nat):BG T s p 0=false:=rfl
theorem GV{T:Tb}{s:St}{p k:Nat}{x:Rw}(h:T.rw[k]?=some x):BG T s p (k+1)=(BG T s p k || (Aa s.lk k && x.nd.any (fun n=>n.1 ==(p:Int)))):=by
 show(BG T s p k || (Aa s.lk k && ((T.rw[k]?).map (fun x=>x.nd.any (fun n=>n.1 ==(p:Int)))).getD false))=_;rw[h];rfl
theorem Km{T:Tb}{s:St}{p k:Nat}(h:BG T s p k=true):∀ n,k≤n→BG T s p n=true:=by
 intro n hn;obtain⟨d,rfl⟩:∃ d,n=k+d:=⟨n - k,by omega⟩;clear hn
 induction d with
 | zero=>exact h
 | succ d ih=>show(BG T s p (k+d) || _)=true;rw[ih];rfl
theorem Pc{T:Tb}{s:St}{oc p:Nat}(h:Bd T s oc p=false):BP T s oc p=s:=by unfold BP;rw[h];rfl
theorem RG{T:Tb}{s:St}{oc p:Nat}(h:Bd T s oc p=true):BP T s oc p={ s with pt:=Bh s.pt p }:=by unfold BP;rw[h];rfl
theorem Jh(T:Tb)(s:St)(oc p:Nat):Bd T s oc p=(!Aa oc (T.li.getD p 0).toNat && !BG T s p T.rw.length):=rfl
attribute [local irreducible] Sl.v Aa pw Ab Aw C8 Af BC CD Bi Bg B9 CB BQ AU Bp BB BG Bh Bd BP Bo BL BF BN AI AY AV Be Bw Bq C4 Mc.tb BZ AX Ap B5
theorem RH(g m u:Nat)(M:Mc)(s:St)(i:Do)(w:World)(hC:Cy w g m M s i u)(p:Nat)(hp:p<M.li.l.length) :
 Calls Tryz.prog 56 #[.pointer (some ⟨g,0,none⟩),.int .i64 (p:Int)] w fun e w'=>e = .returned (.tuple #[])∧Cy w' g m M (BP M.tb s i.oc p) i u∧Below g w w':=by
 have hp31:p≤31:=by have h:=hC.tb.pn;rw[Em] at h;omega
 obtain⟨sec,hsec⟩:∃ c,M.li.l[p]?=some c:=⟨_,Wb hp⟩;have hsb:=hC.tb.li sec (by rw[Em];exact Wf hsec);have hget:M.tb.li.getD p 0=sec:=by rw[Em,List.getD_eq_getElem?_getD,hsec];rfl
 obtain⟨bo,hbo⟩:=WY (Aa i.oc sec.toNat);obtain⟨T,hT⟩:=WY (BP M.tb s i.oc p);have HNO1:Hid (bo=true→T=s):=hid (fun h=>by rw[← hT];exact Pc (by rw[Jh,hget,hbo,h];rfl));have HNO2:Hid (BG M.tb s p M.ln.l.length=true→T=s):=hid (fun h=>by rw[← hT];exact Pc (by rw[Jh,Ce,h];cases Aa i.oc (M.tb.li.getD p 0).toNat<;>rfl));have HYES:Hid ((!bo && !BG M.tb s p M.ln.l.length)=true→T={ s with pt:=Bh s.pt p }):=hid (fun h=>by rw[← hT];exact RG (by rw[Jh,hget,hbo,Ce];exact h));have hs:=hC.sok;have HXO:Hid (bits .xor .u32 (s.pt:Int) ((pw p:Nat):Int)=((Bh s.pt p:Nat):Int)):=hid (Hw hp31 hs.pt);have HOK1:Hid (St.ok { s with pt:=Bh s.pt p }):=hid ⟨hs.lk,hs.us,hs.ca,hs.tm,GN hp31 hs.pt⟩;have HP31:=hid hp31;have HLE:Hid (M.ln.l.length≤64):=hid (by have:=hC.tb.rn;rw[Ce] at this;exact this);rw[hT];clear hT hs hp31 hget;obtain⟨N2,hN2⟩:=WY M.li.l.length;have cm1:=A4 hC.mach.blk 1 _ rfl;rw[Ak hN2] at cm1;obtain⟨IC,hIC⟩:=WY M.li.c;obtain⟨IA,hIA⟩:=WY M.li.a;have hirow:=hC.mach.li.at_.row;rw[hIA] at hirow;rw[hIA,hIC] at cm1;rcases hirow with hnil | ⟨ib,io,hib,hic⟩
 ·rw[hnil] at hsec;cases hsec
 rw[hib] at cm1;have y0:=hic p sec hsec 0 _ rfl;rw[Nat.mul_one,Wa] at y0;have HPL:Hid ((0:Int)≤p∧(p:Int)<N2):=hid (by omega);have HC:=hid hC;have HY:=hid y0;have HM:=hid cm1;have HSB:=hid hsb;have HBO:=hid hbo;clear hC y0 cm1 hic hib hIA hIC hN2 hsb hbo hsec hp;go_enter Tryz.func56,Tryz.ntmps56;go_upto_region 1 with fail
 have hbn:=Ac w (.cells #[.int .i64 (p:Int)] 3);have hqn:=Al w (.cells #[.int .i64 (p:Int)] 3) (VU _ _);obtain⟨V,hV⟩:=X0 (w.alloc (.cells #[.int .i64 (p:Int)] 3));rw[← hV] at hbn hqn ⊢;obtain⟨gp,hgp⟩:=X0 w.heap.size;rw[← hgp] at hqn ⊢;have HBV0:=hid hbn;have HQP:=hid hqn;have HCV0:=hid (HC.o.below hbn);have HBG:=hid (AQ hbn HC.o.gle);have HM1:=hid (VY hbn HM.o);have HY0:=hid (VY hbn HY.o);have KCL:Hid (∀ w',Below V.heap.size V w'→Calls Tryz.prog 58 #[.pointer (some ⟨g,0,none⟩),.int .i64 sec] w' fun e w''=>e = .returned (.bool (!bo))∧Below V.heap.size V w''):=hid (fun w' hw'=>(Es bo g m u M s i w' (HCV0.o.below hw') sec HSB.o HBO.o).mono (fun _ _ h=>⟨h.1,A6 hw' h.2⟩));clear hbn hqn hV hgp HM HY;have d1:=HPL.o.1;have d2:=HPL.o.2;refine Ad (by kernel_rfl) ?_ ?_
 ·kernel_rfl
 repeat first
  | go_big_quiet_skip
  | (go_big_quiet_want;go_big_quiet_op;go_big_quiet_on)
  | (with_reducible apply wpQuiet_step
     intro K hK;go_simp;first
      | (refine hK _ ?_;clear hK K)
      | (apply Exists.intro
         refine⟨fun w' hw'=>?_,hK _ ?_⟩
         ·
          (first
           | with_reducible exact KCL.o _ hw'
           | (have g0:=A4 (HCV0.o.below hw').blk 0 _ (F5 _ _ _ _)
              go_simp;first | done | with_reducible exact rfl | with_reducible exact⟨rfl,rfl⟩ | with_reducible exact KCL.o _ hw')
           | (have g1:=VY hw' HM1.o
              go_simp;first | done | with_reducible exact rfl | with_reducible exact⟨rfl,rfl⟩ | with_reducible exact KCL.o _ hw')
           | (have g2:=A4 (A5 hw' HQP.o) 0 _ rfl
              go_simp;first | done | with_reducible exact rfl | with_reducible exact⟨rfl,rfl⟩ | with_reducible exact KCL.o _ hw')
           | (have g3:=VY hw' HY0.o
              go_simp;first | done | with_reducible exact rfl | with_reducible exact⟨rfl,rfl⟩ | with_reducible exact KCL.o _ hw'))
         clear hK K))
 refine wpQuiet_nil ?_;intro w7 hw7;have HB7:=hid (A6 HBV0.o hw7);have HB7X:=hid hw7;clear hw7;clear d1 d2;have HC0:=hid (HCV0.o.below (HB7X.o));have HQP0:=hid (A5 HB7X.o HQP.o);have HB00:=hid (Ar HBG.o (AQ HB7X.o HCV0.o.gle));clear HCV0 HQP HBG HB7 HB7X KCL HM1 HY0 HPL;cases bo with
 | true=>
   go_wp2_with fail
   (try simp only[Exit.inBlock,Exit.then])
   refine bodyPost_ret (results_none rfl _ _ _) rfl ?_;exact⟨rfl,HNO1.o (by simp) ▸ HC0.o,HB00.o⟩
 | false=>
   have hc0:=HC0.o;obtain⟨N1,hN1⟩:=WY M.ln.l.length;have cm0:=A4 hc0.mach.blk 0 _ rfl;rw[Ak hN1] at cm0;have l0:=A4 hc0.blk 0 _ (F5 _ _ _ _);rw[hN1] at HNO2 HYES HLE;have HN1:=hid hN1;clear hN1 hc0 HNO1;go_upto_region 3 with fail
   clear cm0 l0;go_loopg [27] N1 (fun g9 v wr=>∃ k:Nat,k+g9=N1∧v = .int .i64 (k:Int)∧BG M.tb s p k=false∧Below w7.heap.size w7 wr)
   case atStart=>exact⟨0,by omega,rfl,Kn _ _ _,VU _ _⟩
   case round=>
    obtain⟨k,hk,rfl,hnn,hbw⟩:=hrel;have HK:=hid hk;have HNK:=hid hnn;have HB:=hid hbw;clear hk hnn hbw;by_cases hlt:k<N1
    ·have d1:(0:Int)≤k:=(by omega);have d2:(k:Int)<N1:=(by omega);have e1:=B8 hlt (Wd HLE.o (by decide));have HLT:=hid hlt;obtain⟨x,hx⟩:∃ x,M.ln.l[k]?=some x:=⟨_,Wb (by rw[HN1.o];exact hlt)⟩;obtain⟨X,hX⟩:=WY M.ln.a;have HXX:=hid hX;have HCR:=hid (HC0.o.below HB.o);have hlrow:=HCR.o.mach.ln.at_.row;rw[hX] at hlrow ⊢;rcases hlrow with hnil | ⟨lb,lo,hlb,hlc⟩
     ·rw[hnil] at hx;cases hx
     subst hlb;have HLC:=hid hlc;have hz:=HLC.o k x hx;have z0:=hz 0 _ rfl;have z1:=hz 1 _ rfl;have z2:=hz 2 _ rfl;have z3:=hz 3 _ rfl;have z4:=hz 4 _ rfl;rw[Wa] at z0;obtain⟨t1,ht1⟩:=WY x.tk.l.length;obtain⟨t2,ht2⟩:=WY x.nd.l.length;obtain⟨t3,ht3⟩:=WY x.cf.l.length;rw[Ak ht1] at z2;rw[Ak ht2] at z3;rw[Ak ht3] at z4;clear hz;obtain⟨bl,hbl⟩:=WY (Aa s.lk k);obtain⟨bm,hbm⟩:=WY (x.nd.l.any (fun n=>n.1 ==(p:Int)));have HNS:Hid (BG M.tb s p (k+1)=(bl && bm)):=hid (by rw[GV (II hx),HNK.o,hbl];show(false || (bl && x.nd.l.any _))=_;rw[hbm];rfl);have HK63:Hid (k≤63):=hid (by have:=HLE.o;omega);have HLKK:Hid (∀ V,Below wr.heap.size wr V→Calls Tryz.prog 34 #[.pointer (some ⟨g,0,none⟩),.int .i64 (k:Int)] V fun e w'=>e = .returned (.bool bl)∧Below V.heap.size V w'):=hid (fun V hV=>Dp bl g m u M s i V (HCR.o.below hV) k HK63.o hbl);have htm:=(HCR.o.mach.lns x (Wf hx)).nd.at_;have HMV:Hid (∀ V,Below wr.heap.size wr V→Calls Tryz.prog 60 #[.slice x.nd.a t2 x.nd.c,.func (.func 95) #[] #[.pointer (some ⟨gp,0,none⟩)]] V fun e w'=>e = .returned (.bool bm)∧Below V.heap.size V w'):=
      hid (fun V hV=>Ng bm gp (fun n=>n.1 ==(p:Int)) x.nd.a t2 x.nd.c x.nd.l V hbm ht2 (by rw[← ht2];exact htm.lenM) (htm.row.below hV) (fun U hU y _=>QA gp p y U (A5 (A6 (A6 HB.o hV) hU) HQP0.o)))
     clear hlc hX hx hlt hbl ht1 ht2 ht3 htm HLC hbm;go_upto_region 5 with fail
     have hbn:=Ac wr (.cells #[.int .i64 x.fi,.int .i64 x.ah,.slice x.tk.a t1 x.tk.c,.slice x.nd.a t2 x.nd.c,.slice x.cf.a t3 x.cf.c] 98);have hqn:=Al wr (.cells #[.int .i64 x.fi,.int .i64 x.ah,.slice x.tk.a t1 x.tk.c,.slice x.nd.a t2 x.nd.c,.slice x.cf.a t3 x.cf.c] 98) (VU _ _);obtain⟨V9,hV9⟩:=X0 (wr.alloc (.cells #[.int .i64 x.fi,.int .i64 x.ah,.slice x.tk.a t1 x.tk.c,.slice x.nd.a t2 x.nd.c,.slice x.cf.a t3 x.cf.c] 98));rw[← hV9] at hbn hqn ⊢;obtain⟨g9,hg9⟩:=X0 wr.heap.size;rw[← hg9] at hqn ⊢;have HB9:=hid hbn;have HQ9:=hid hqn;clear hbn hqn hV9 hg9 z0 z1 z2 z3 z4;go_wp2_with fail;refine(HLKK.o _ HB9.o).mono ?_;rintro e w8 ⟨rfl,hb⟩;have HB8:=hid (A6 HB9.o hb);have HQ8:=hid (A5 hb HQ9.o);clear hb HB9 HQ9;cases bl with
     | false=>
       go_wp2_with fail;rw[← HXX.o];go_roundg (N1 - (k+1))
       case rel=>exact⟨k+1,AA HK.o HLT.o,by go_num,HNS.o,A6 HB.o HB8.o⟩
       case measure=>exact Az HK.o HLT.o
     | true=>
       have c3:=A4 HQ8.o 3 _ rfl;go_wp2_with fail;refine(HMV.o _ HB8.o).mono ?_;rintro e w9 ⟨rfl,hb⟩;have HBE:=hid (A6 HB.o (A6 HB8.o hb));clear hb c3;cases bm with
       | false=>
         go_wp2_with fail;rw[← HXX.o];go_roundg (N1 - (k+1))
         case rel=>exact⟨k+1,AA HK.o HLT.o,by go_num,HNS.o,HBE.o⟩
         case measure=>exact Az HK.o HLT.o
       | true=>
         go_wp2_with fail
         (try simp only[Exit.inBlock,Exit.then])
         refine bodyPost_ret (results_none rfl _ _ _) rfl ?_;have hall:=Km (HNS.o) N1 HLT.o;exact⟨rfl,HNO2.o hall ▸ HC0.o.below HBE.o,Ar HB00.o (AQ HBE.o HC0.o.gle)⟩
    ·have d2:¬ (k:Int)<N1:=(by omega);have HNN:Hid (BG M.tb s p N1=false):=hid (by rw[show N1=k by have:=HK.o;omega];exact HNK.o);have HCE:=hid (HC0.o.below HB.o);have HQE:=hid (A5 HB.o HQP0.o);have HBE:=hid (Ar HB00.o (AQ HB.o HC0.o.gle));clear hlt HC0 HQP0 HB00 HB;obtain⟨HC0,HQP0,HB00⟩:=And.intro HCE (And.intro HQE HBE);clear HCE HQE HBE;go_upto_region 7 with fail
     refine Am (by kernel_rfl) [11] 14 [0,1,2,3,4,5,6,7,8,9,10] [42,43,44,45,46,47,48,49,50,51,52] #[true,true,true,true,true,true,true,true,true,true,true,false] 1 [(fun v _=>v = .pointer (some ⟨g,0,none⟩)),(fun v _=>v = .pointer (some ⟨g,0,none⟩)),(fun v _=>v = .pointer (some ⟨g,1,none⟩)),(fun v _=>v = .pointer (some ⟨g,68,none⟩)),(fun v _=>v = .int .u32 (s.pt:Int)),(fun v _=>v = .int .i64 (p:Int)),(fun v _=>v = .int .u32 ((pw p:Nat):Int)),(fun v _=>v = .int .u32 ((Bh s.pt p:Nat):Int)),(fun v _=>v = .pointer (some ⟨g,0,none⟩)),(fun v _=>v = .pointer (some ⟨g,1,none⟩)),(fun v _=>v = .pointer (some ⟨g,68,none⟩)),(fun _ _=>True)] (by kernel_rfl) (by kernel_rfl) (by kernel_rfl) (by kernel_rfl) (by kernel_rfl) rfl (by kernel_rfl) rfl ?_ ?_ ?_
     ·exact⟨A8 _,A8 _,A8 _,A8 _,A8 _,A8 _,A8 _,A8 _,A8 _,A8 _,A8 _,An,trivial⟩
     ·refine⟨?_,?_,?_,?_,?_,?_,?_,?_,?_,?_,?_,trivial⟩
      ·refine A7 (o:=⟨some 42,_,_,_,_,_⟩) rfl (fun r V hc hf hg hs hb hd=>?_);have x0:r (.tmp 0) = .pointer (some ⟨g,0,none⟩):=hs 0 (by kernel_rfl);clear hs hd hg;go_simp;exact X1
      ·refine A7 (o:=⟨some 43,_,_,_,_,_⟩) rfl (fun r V hc hf hg hs hb hd=>?_);have h0:r (.tmp 42) = .pointer (some ⟨g,0,none⟩):=hd 0 42 rfl (by kernel_rfl);clear hs hd hg;go_simp;exact X1
      ·refine A7 (o:=⟨some 44,_,_,_,_,_⟩) rfl (fun r V hc hf hg hs hb hd=>?_);have h1:r (.tmp 43) = .pointer (some ⟨g,0,none⟩):=hd 1 43 rfl (by kernel_rfl);clear hs hd hg;go_simp;exact X1
      ·refine A7 (o:=⟨some 45,_,_,_,_,_⟩) rfl (fun r V hc hf hg hs hb hd=>?_);have h2:r (.tmp 44) = .pointer (some ⟨g,1,none⟩):=hd 2 44 rfl (by kernel_rfl);clear hs hd hg;go_simp;exact X1
      ·refine A7 (o:=⟨some 46,_,_,_,_,_⟩) rfl (fun r V hc hf hg hs hb hd=>?_);have h3:r (.tmp 45) = .pointer (some ⟨g,68,none⟩):=hd 3 45 rfl (by kernel_rfl);clear hs hd hg;have l:=A4 (HC0.o.below hb).blk 68 _ (Ga _ _ _ _);go_simp;exact X1
      ·refine A7 (o:=⟨some 47,_,_,_,_,_⟩) rfl (fun r V hc hf hg hs hb hd=>?_);have x3:r (.tmp 3) = .pointer (some ⟨gp,0,none⟩):=hs 3 (by kernel_rfl);clear hs hd hg;have l:=A4 (A5 hb HQP0.o) 0 _ rfl;go_simp;exact X1
      ·refine A7 (o:=⟨some 48,_,_,_,_,_⟩) rfl (fun r V hc hf hg hs hb hd=>?_);have h5:r (.tmp 47) = .int .i64 (p:Int):=hd 5 47 rfl (by kernel_rfl);clear hs hd hg;have h31:=HP31.o;have h0:(0:Int)≤p:=(by omega);have h1:min p 32=p:=(by omega);have h2:¬ (32:Int)≤p:=(by omega);have hs1:=Ho h31;go_simp;exact⟨VU _ _,by simp⟩
      ·refine A7 (o:=⟨some 49,_,_,_,_,_⟩) rfl (fun r V hc hf hg hs hb hd=>?_);have h4:r (.tmp 46) = .int .u32 (s.pt:Int):=hd 4 46 rfl (by kernel_rfl);have h6:r (.tmp 48) = .int .u32 ((pw p:Nat):Int):=hd 6 48 rfl (by kernel_rfl);clear hs hd hg;have ho1:=HXO.o;go_simp;exact X1
      ·refine A7 (o:=⟨some 50,_,_,_,_,_⟩) rfl (fun r V hc hf hg hs hb hd=>?_);have h0:r (.tmp 42) = .pointer (some ⟨g,0,none⟩):=hd 0 42 rfl (by kernel_rfl);clear hs hd hg;go_simp;exact X1
      ·refine A7 (o:=⟨some 51,_,_,_,_,_⟩) rfl (fun r V hc hf hg hs hb hd=>?_);have h8:r (.tmp 50) = .pointer (some ⟨g,0,none⟩):=hd 8 50 rfl (by kernel_rfl);clear hs hd hg;go_simp;exact X1
      ·refine A7 (o:=⟨some 52,_,_,_,_,_⟩) rfl (fun r V hc hf hg hs hb hd=>?_);have h9:r (.tmp 51) = .pointer (some ⟨g,1,none⟩):=hd 9 51 rfl (by kernel_rfl);clear hs hd hg;go_simp;exact X1
     ·intro a V hb hx;have h0:a.eval (.tmp 42) = .pointer (some ⟨g,0,none⟩):=hx 0 42 rfl rfl;have h1:a.eval (.tmp 43) = .pointer (some ⟨g,0,none⟩):=hx 1 43 rfl rfl;have h2:a.eval (.tmp 44) = .pointer (some ⟨g,1,none⟩):=hx 2 44 rfl rfl;have h3:a.eval (.tmp 45) = .pointer (some ⟨g,68,none⟩):=hx 3 45 rfl rfl;have h4:a.eval (.tmp 46) = .int .u32 (s.pt:Int):=hx 4 46 rfl rfl;have h5:a.eval (.tmp 47) = .int .i64 (p:Int):=hx 5 47 rfl rfl;have h6:a.eval (.tmp 48) = .int .u32 ((pw p:Nat):Int):=hx 6 48 rfl rfl;have h7:a.eval (.tmp 49) = .int .u32 ((Bh s.pt p:Nat):Int):=hx 7 49 rfl rfl;have h8:a.eval (.tmp 50) = .pointer (some ⟨g,0,none⟩):=hx 8 50 rfl rfl;have h9:a.eval (.tmp 51) = .pointer (some ⟨g,1,none⟩):=hx 9 51 rfl rfl;have h10:a.eval (.tmp 52) = .pointer (some ⟨g,68,none⟩):=hx 10 52 rfl rfl;unfold AD;simp only[Wi,Wj,h0,h1,h2,h3,h4,h5,h6,h7,h8,h9,h10,Act.put,VW,VX,VV];clear h0 h1 h2 h3 h4 h5 h6 h7 h8 h9 h10 hx;have HCV:=hid (HC0.o.below hb);have HBV:=hid (Ar HB00.o (AQ hb HC0.o.gle));clear hb;refine wpAny_ready (rs:=[11]) (by kernel_rfl) (by simp) (AllReady.cons (o:=⟨none,_,_,_,_,_⟩) rfl (fun K hK=>?_) AllReady.nil);have c0:=A4 HCV.o.blk 68 _ (Ga _ _ _ _);have f0:=Aq HCV.o.blk 68;have hl:=Aj HCV.o.blk;go_simp;clear c0 f0 hl;refine Bc ?_;intro VZ hVZ;have hput:=HCV.o.put 68 _ (Oq _ _ _ _ _) (HOK1.o);rw[← hVZ] at hput;have HCZ:=hid hput.1;have HBZ:=hid (Ar HBV.o hput.2);clear hVZ hput HCV HBV;refine hK _ _ ?_;clear hK K;refine wpAny_done (by kernel_rfl) ?_ _;go_wp2_with fail;go_end0;rw[HYES.o (by simp[HNN.o])];exact⟨rfl,HCZ.o,HBZ.o⟩
end Go.Proofs.YtpohoannggdbjaaGreat
