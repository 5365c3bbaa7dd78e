/- Layer 10: set. -/
import Derived.Test.YtpohoannggdbjaaGreatIxF
namespace Go.Proofs.YtpohoannggdbjaaGreat
open Lib (hid)
open Go.RowKit
set_option maxRecDepth 100000
theorem Hb{α:Type}{l:List α}{p:α→Bool}{k:Nat}{y:α}(h:l[k]?=some y)(h0:(l.take k).any p=false)(h1:p y=false):(l.take (k+1)).any p=false:=by
 rw[List.take_add_one,h,List.any_append,h0];simp[h1]
theorem Kg{α:Type}{l:List α}{p:α→Bool}{k:Nat}{y:α}(h:l[k]?=some y)(h1:p y=true):l.any p=true:=List.any_eq_true.2 ⟨y,List.mem_of_getElem? h,h1⟩
theorem NM{α:Type}{l:List α}{p:α→Bool}{n:Nat}(hn:l.length=n)(h:(l.take n).any p=false):l.any p=false:=by rw[List.take_of_length_le (by omega)] at h;exact h
theorem J1(l:List (Int × Bool))(p:Nat):Cr (l.take 0) p=p:=rfl
theorem MB{l:List (Int × Bool)}{k:Nat}{q:Int}{b:Bool}(h:l[k]?=some (q,b))(p:Nat):Cr (l.take (k+1)) p=if b then Ab (Cr (l.take k) p) q.toNat else Ax (Cr (l.take k) p) q.toNat:=by
 unfold Cr;rw[List.take_add_one,h,List.foldl_append];rfl
theorem OD{l:List (Int × Bool)}{n:Nat}(hn:l.length=n)(p:Nat):Cr (l.take n) p=Cr l p:=by rw[List.take_of_length_le (by omega)]
theorem I5{T:Tb}{s:St}{oc n:Nat}{x:Rw}(h:B7 T s oc n x=false):BO T s oc n x=s:=by unfold BO;rw[h];rfl
theorem NT{T:Tb}{s:St}{oc n:Nat}{x:Rw}(h:B7 T s oc n x=true):BO T s oc n x={ s with lk:=Ab s.lk n,pt:=Cr x.nd s.pt }:=by unfold BO;rw[h];rfl
theorem Kq(T:Tb)(s:St)(oc n:Nat)(x:Rw):B7 T s oc n x=(!Aa s.lk n && (Bi oc x && (!x.cf.any (fun k=>Aa s.lk k.toNat) && !x.nd.any (Bf T s oc)))):=rfl
theorem QD{M:Mc}{s:St}{oc:Nat}{q:Nat}{b:Bool}{sec:Int}(h:M.li.l[q]?=some sec):Bf M.tb s oc ((q:Int),b)=((Aa s.pt q != b) && Aa oc sec.toNat):=by
 have hg:M.tb.li.getD q 0=sec:=by rw[DL,List.getD_eq_getElem?_getD,h];rfl
 unfold Bf;simp only[Int.toNat_natCast];rw[hg]
attribute [local irreducible] Sl.v Aa pw Ab Ax C4 Ai BG Cs Bi Bf B7 Cr BO AT Bk Bw BD Bh Bg BQ Bj BI BC BM AD AS AR Bc BB Bq CT Mc.tb BU AQ Aq AW
set_option maxHeartbeats 16000000 in
theorem Qs(g m u:Nat)(M:Mc)(s:St)(i:CZ)(w:World)(hC:Cy w g m M s i u)(n:Nat)(x:Ln)(hx:M.ln.l[n]?=some x) :
 Calls Tryz.prog 54 #[.pointer (some ⟨g,0,none⟩),.int .i64 (n:Int)] w fun e w'=>e = .returned (.tuple #[])∧Cy w' g m M (BO M.tb s i.oc n x.rw) i u∧Below g w w':=by
 have h63:n≤63:=by have h1:=(List.getElem?_eq_some_iff.1 hx).1;have h2:=hC.tb.rn;rw[BV] at h2;omega
 obtain⟨bl,hbl⟩:∃ b,Aa s.lk n=b:=⟨_,rfl⟩;obtain⟨bf,hbf⟩:∃ b,Bi i.oc x.rw=b:=⟨_,rfl⟩;obtain⟨bc,hbc⟩:∃ b,x.cf.l.any (fun k=>Aa s.lk k.toNat)=b:=⟨_,rfl⟩;obtain⟨T,hT⟩:∃ T,BO M.tb s i.oc n x.rw=T:=⟨_,rfl⟩;have hms:B7 M.tb s i.oc n x.rw=(!bl && (bf && (!bc && !x.nd.l.any (Bf M.tb s i.oc)))):=by rw[Kq,hbl,hbf];show(!bl && (bf && (!x.cf.l.any _ && _)))=_;rw[hbc];rfl
 have HNO1:Hid (bl=true→T=s):=hid (fun h=>by rw[← hT];exact I5 (by rw[hms,h];rfl));have HNO2:Hid (bf=false→T=s):=hid (fun h=>by rw[← hT];exact I5 (by rw[hms,h];cases bl<;>rfl));have HNO3:Hid (bc=true→T=s):=hid (fun h=>by rw[← hT];exact I5 (by rw[hms,h];cases bl<;>cases bf<;>rfl));have HNO4:Hid (x.nd.l.any (Bf M.tb s i.oc)=true→T=s):=hid (fun h=>by rw[← hT];exact I5 (by rw[hms,h];cases bl<;>cases bf<;>cases bc<;>rfl));have HYES:Hid ((!bl && (bf && (!bc && !x.nd.l.any (Bf M.tb s i.oc))))=true→T={ s with lk:=Ab s.lk n,pt:=Cr x.nd.l s.pt }):=hid (fun h=>by rw[← hT];exact NT (by rw[hms];exact h));have hs:=hC.sok;have HOR:Hid (bits .or .u64 (s.lk:Int) (pw n:Int)=((Ab s.lk n:Nat):Int)):=hid (Ce s.lk n h63 hs.lk);have HOK1:Hid (St.ok { s with lk:=Ab s.lk n }):=hid ⟨BW _ _ h63 hs.lk,hs.us,hs.ca,hs.tm,hs.pt⟩;have HN63:=hid h63;have HP32:Hid (s.pt<4294967296):=hid hs.pt;have HXM:=hid (List.mem_of_getElem? hx);rw[hT];obtain⟨N1,hN1⟩:∃ k,M.ln.l.length=k:=⟨_,rfl⟩;have cm0:=A4 hC.mach.blk 0 _ rfl;rw[Ak hN1] at cm0;have hlt1:n<N1:=by rw[← hN1];exact(List.getElem?_eq_some_iff.1 hx).1
 have hle1:N1≤64:=by have:=hC.tb.rn;rw[BV,hN1] at this;exact this
 have hok1:=IP hC.tb hx;obtain⟨LC,hLC⟩:∃ c,M.ln.c=c:=⟨_,rfl⟩;obtain⟨LA,hLA⟩:∃ a,M.ln.a=a:=⟨_,rfl⟩;have hlrow:=hC.mach.ln.at_.row;rw[hLA] at hlrow;rw[hLA,hLC] at cm0;rcases hlrow with hnil | ⟨lb,lo,hlb,hlc⟩
 ·rw[hnil] at hx;cases hx
 rw[hlb] at cm0;have HLC:=hid (fun j v hv=>hlc n x hx j v hv);have HNB:Hid (∀ y∈x.nd.l,0≤y.1∧y.1<M.li.l.length∧M.li.l.length≤32):=hid (fun y hy=>by have h:=hok1.nd y hy;have h2:=hC.tb.pn;rw[DL] at h2;omega);have HCB:Hid (∀ y∈x.cf.l,0≤y∧y≤63):=hid (fun y hy=>by have h:=hok1.cf y hy;omega);have HIB:Hid (∀ y∈M.li.l,0≤y∧y≤63):=hid (fun y hy=>hC.tb.li y (by rw[DL];exact hy));have hz:=HLC.out;have z0:=hz 0 _ rfl;have z1:=hz 1 _ rfl;have z2:=hz 2 _ rfl;have z3:=hz 3 _ rfl;have z4:=hz 4 _ rfl;rw[Nat.add_zero] at z0;obtain⟨t1,ht1⟩:∃ k,x.tk.l.length=k:=⟨_,rfl⟩;obtain⟨t2,ht2⟩:∃ k,x.nd.l.length=k:=⟨_,rfl⟩;obtain⟨t3,ht3⟩:∃ k,x.cf.l.length=k:=⟨_,rfl⟩;rw[Ak ht1] at z2;rw[Ak ht2] at z3;rw[Ak ht3] at z4;clear hz;have hl0:=A4 hC.blk 0 _ (Ej _ _ _ _);have HLK:Hid (∀ V,Below w.heap.size w V→Calls Tryz.prog 34 #[.pointer (some ⟨g,0,none⟩),.int .i64 (n:Int)] V fun e w'=>e = .returned (.bool bl)∧Below V.heap.size V w'):=hid (fun V hV=>D0 bl g m u M s i V (hC.below hV) n h63 hbl);have HFR:Hid (∀ V,Below w.heap.size w V→Calls Tryz.prog 57 #[.pointer (some ⟨g,0,none⟩),.int .i64 (n:Int)] V fun e w'=>e = .returned (.bool bf)∧Below V.heap.size V w'):=hid (fun V hV=>Ia bf g m u M s i V (hC.below hV) n x hx hbf);have hcm:=(hC.mach.lns x HXM.out).cf.at_;have HCF:Hid (∀ V,Below w.heap.size w V→Calls Tryz.prog 94 #[.slice x.cf.a t3 x.cf.c,.func (.func 34) #[.pointer (some ⟨g,0,none⟩)] #[]] V fun e w'=>e = .returned (.bool bc)∧Below V.heap.size V w'):=
  hid (fun V hV=>L3 bc g (fun k=>Aa s.lk k.toNat) x.cf.a t3 x.cf.c x.cf.l V hbc ht3 (by rw[← ht3];exact hcm.lenM) (hcm.row.below hV) (fun U hU y hy=>by
   have hyb:=HCB.out y hy;obtain⟨k,rfl⟩:∃ k:Nat,y=k:=⟨y.toNat,by omega⟩;rw[Int.toNat_natCast];exact D0 _ g m u M s i U ((hC.below hV).below hU) k (by omega) rfl))
 have HTM:Hid (t2≤9223372036854775807):=hid (by rw[← ht2];exact(hC.mach.lns x HXM.out).nd.at_.lenM);have HT2:=hid ht2;have HC:=hid hC;have d1:(0:Int)≤n:=by omega
 have d2:(n:Int)<N1:=by omega
 clear hbl hbf hbc hT hms hs h63 hC hx hlc hok1 hlb hLA hLC hN1 hle1 hlt1 ht1 ht2 ht3 hcm;go_enter Tryz.func54,Tryz.ntmps54;go_upto_region 1 with fail
 have hbn:=Ac w (.cells #[.int .i64 x.fi,.int .i64 x.ah,.slice x.tk.a t1 x.tk.c,.slice x.nd.a t2 x.nd.c,.slice x.cf.a t3 x.cf.c] 98);have hqn:=Ao w (.cells #[.int .i64 x.fi,.int .i64 x.ah,.slice x.tk.a t1 x.tk.c,.slice x.nd.a t2 x.nd.c,.slice x.cf.a t3 x.cf.c] 98) (Below.refl _ _);obtain⟨V,hV⟩:∃ V,V=w.alloc (.cells #[.int .i64 x.fi,.int .i64 x.ah,.slice x.tk.a t1 x.tk.c,.slice x.nd.a t2 x.nd.c,.slice x.cf.a t3 x.cf.c] 98):=⟨_,rfl⟩;rw[← hV] at hbn hqn ⊢;obtain⟨gr,hgr⟩:∃ g,g=w.heap.size:=⟨_,rfl⟩;rw[← hgr] at hqn ⊢;have HB0:=hid hbn;have HQR:=hid hqn;have HGR:Hid (gr≠g):=hid (by have:=Af HC.out.blk;omega);clear hbn hqn hV hgr z0 z1 z2 z3 z4 hl0 cm0 d1 d2;go_wp2_with fail;refine(HLK.out _ HB0.out).mono ?_;rintro e w1 ⟨rfl,hb⟩;have HB1:=hid (A8 HB0.out hb);have HQR1:=hid (A5 hb HQR.out);clear hb HB0 HQR HLK;cases bl with
 | true=>
   go_wp2_with fail
   (try simp only[Exit.inBlock,Exit.then])
   refine bodyPost_ret (results_none rfl _ _ _) rfl ?_;exact⟨rfl,HNO1.out (by simp) ▸ HC.out.below HB1.out,AI HB1.out HC.out.gle⟩
 | false=>
   go_wp2_with fail;refine(HFR.out _ HB1.out).mono ?_;rintro e w2 ⟨rfl,hb⟩;have HB2:=hid (A8 HB1.out hb);have HQR2:=hid (A5 hb HQR1.out);clear hb HB1 HQR1 HFR;cases bf with
   | false=>
     go_wp2_with fail
     (try simp only[Exit.inBlock,Exit.then])
     refine bodyPost_ret (results_none rfl _ _ _) rfl ?_;exact⟨rfl,HNO2.out (by simp) ▸ HC.out.below HB2.out,AI HB2.out HC.out.gle⟩
   | true=>
     have c4:=A4 HQR2.out 4 _ rfl;go_wp2_with fail;refine(HCF.out _ HB2.out).mono ?_;rintro e w3 ⟨rfl,hb⟩;have HB3:=hid (A8 HB2.out hb);have HQR3:=hid (A5 hb HQR2.out);clear hb HB2 HQR2 HCF c4;cases bc with
     | true=>
       go_wp2_with fail
       (try simp only[Exit.inBlock,Exit.then])
       refine bodyPost_ret (results_none rfl _ _ _) rfl ?_;exact⟨rfl,HNO3.out (by simp) ▸ HC.out.below HB3.out,AI HB3.out HC.out.gle⟩
     | false=>
       have HC3:=hid (HC.out.below HB3.out);have HG3:=hid (AI HB3.out HC.out.gle);have c3:=A4 HQR3.out 3 _ rfl;clear HNO1 HNO2 HNO3 HLC HC;go_upto_region 3 with fail
       clear c3;go_loopg [38] t2 (fun g9 v wr=>∃ k:Nat,k+g9=t2∧v = .int .i64 (k:Int)∧(x.nd.l.take k).any (Bf M.tb s i.oc)=false∧Below w3.heap.size w3 wr)
       case atStart=>exact⟨0,by omega,rfl,rfl,Below.refl _ _⟩
       case round=>
        obtain⟨k,hk,rfl,hnn,hbw⟩:=hrel;have HK:=hid hk;have HNK:=hid hnn;have HB:=hid hbw;clear hk hnn hbw;by_cases hlt:k<t2
        ·have d1:(0:Int)≤k:=by omega
         have d2:(k:Int)<t2:=by omega
         have e1:=Bp hlt HTM.out;have HLT:=hid hlt;obtain⟨y,hy⟩:∃ y,x.nd.l[k]?=some y:=⟨_,List.getElem?_eq_getElem (by rw[HT2.out];exact hlt)⟩;obtain⟨q',sg⟩:=y;have hyb:=HNB.out (q',sg) (List.mem_of_getElem? hy);obtain⟨q,rfl⟩:∃ q:Nat,q'=q:=⟨q'.toNat,by dsimp only at hyb;omega⟩;have hq:q<M.li.l.length:=by dsimp only at hyb;omega
         have HQ31:Hid (q≤31):=hid (by dsimp only at hyb;omega);obtain⟨sec,hsec⟩:∃ c,M.li.l[q]?=some c:=⟨_,List.getElem?_eq_getElem hq⟩;have HSB:=hid (HIB.out sec (List.mem_of_getElem? hsec));obtain⟨bp,hbp⟩:∃ b,Aa s.pt q=b:=⟨_,rfl⟩;obtain⟨bo,hbo⟩:∃ b,Aa i.oc sec.toNat=b:=⟨_,rfl⟩;have HBAD:Hid (Bf M.tb s i.oc ((q:Int),sg)=((bp != sg) && bo)):=hid (by rw[QD hsec,hbp,hbo]);have HYY:=hid hy;have HBP:=hid hbp;have HBO:=hid hbo;have HCR:=hid (HC3.out.below HB.out);have hcr:=HCR.out;obtain⟨N2,hN2⟩:∃ k,M.li.l.length=k:=⟨_,rfl⟩;have cm1:=A4 hcr.mach.blk 1 _ rfl;rw[Ak hN2] at cm1;obtain⟨IC,hIC⟩:∃ c,M.li.c=c:=⟨_,rfl⟩;obtain⟨IA,hIA⟩:∃ a,M.li.a=a:=⟨_,rfl⟩;have hirow:=hcr.mach.li.at_.row;rw[hIA] at hirow;rw[hIA,hIC] at cm1;rcases hirow with hnil | ⟨ib,io,hib,hic⟩
         ·rw[hnil] at hsec;cases hsec
         rw[hib] at cm1;have y0:=hic q sec hsec 0 _ rfl;rw[Nat.mul_one,Nat.add_zero] at y0;have HQN2:Hid ((0:Int)≤q∧(q:Int)<N2):=hid (by omega);have HM1':=hid cm1;have HY0':=hid y0;have hor:=(hcr.mach.lns x HXM.out).nd.at_.row;obtain⟨X,hX⟩:∃ a,x.nd.a=a:=⟨_,rfl⟩;have HXX:=hid hX;rw[hX] at hor ⊢;rcases hor with hnil | ⟨nb,no,hnb,hnc⟩
         ·rw[hnil] at hy;cases hy
         subst hnb;have u0:=hnc k _ hy 0 _ rfl;have u1:=hnc k _ hy 1 _ rfl;rw[Nat.add_zero] at u0;clear hnc hX hy hyb hlt hq hsec hbp hbo hcr cm1 y0 hic hib hIA hIC hN2;go_upto_region 5 with fail
         have hbn:=Ac wr (.cells #[.int .i64 (q:Int),.bool sg] 71);have hqn:=Ao wr (.cells #[.int .i64 (q:Int),.bool sg] 71) (Below.refl _ _);obtain⟨VN,hVN⟩:∃ V,V=wr.alloc (.cells #[.int .i64 (q:Int),.bool sg] 71):=⟨_,rfl⟩;rw[← hVN] at hbn hqn ⊢;obtain⟨gx,hgx⟩:∃ g,g=wr.heap.size:=⟨_,rfl⟩;rw[← hgx] at hqn ⊢;have HQX:=hid hqn;have HCN:=hid (HCR.out.below hbn);have HBN:=hid hbn;have HM1:=hid (cell_later hbn HM1'.out);have HY0:=hid (cell_later hbn HY0'.out);have e2:IntKind.u64.wrap (s.pt:Int)=(s.pt:Int):=by have:=HP32.out;rw[IntKind.wrap_u64];omega
         have KIN:Hid (∀ w',Below VN.heap.size VN w'→Calls Tryz.prog 53 #[.int .u64 (s.pt:Int),.int .i64 (q:Int)] w' fun e w''=>e = .returned (.bool bp)∧Below VN.heap.size VN w''):=hid (fun w' hw'=>(Dd bp s.pt q w' (by have:=HQ31.out;omega) (by have:=HP32.out;omega) HBP.out).mono (fun _ _ ⟨h1,h2⟩=>⟨h1,h2 ▸ hw'⟩));have KCL:Hid (∀ w',Below VN.heap.size VN w'→Calls Tryz.prog 58 #[.pointer (some ⟨g,0,none⟩),.int .i64 sec] w' fun e w''=>e = .returned (.bool (!bo))∧Below VN.heap.size VN w''):=hid (fun w' hw'=>(DZ bo g m u M s i w' (HCN.out.below hw') sec HSB.out HBO.out).mono (fun _ _ h=>⟨h.1,A8 hw' h.2⟩));have d3:=HQN2.out.1;have d4:=HQN2.out.2;clear hbn hqn hVN hgx u0 u1 HM1' HY0';cases bp with
         | true=>
           cases sg with
           | true=>
             refine Ae (by kernel_rfl) ?_ ?_
             ·kernel_rfl
             repeat first
              | go_big_quiet_skip
              | (go_big_quiet_want;go_big_quiet_op;go_big_quiet_on)
              | (with_reducible apply wpQuiet_step
                 intro K hK;go_simp;first
                  | (refine hK _ ?_;clear hK K)
                  | (apply Exists.intro
                     refine⟨fun w' hw'=>?_,hK _ ?_⟩
                     ·
                      (first
                       | with_reducible exact KIN.out _ hw'
                       | with_reducible exact KCL.out _ hw'
                       | (have g0:=A4 (HCN.out.below hw').blk 68 _ (Fj _ _ _ _)
                          go_simp;first | done | with_reducible exact rfl | with_reducible exact⟨rfl,rfl⟩ | with_reducible exact KIN.out _ hw' | with_reducible exact KCL.out _ hw')
                       | (have g1:=A4 (A5 hw' HQX.out) 0 _ rfl
                          go_simp;first | done | with_reducible exact rfl | with_reducible exact⟨rfl,rfl⟩ | with_reducible exact KIN.out _ hw' | with_reducible exact KCL.out _ hw')
                       | (have g2:=A4 (A5 hw' HQX.out) 1 _ rfl
                          go_simp;first | done | with_reducible exact rfl | with_reducible exact⟨rfl,rfl⟩ | with_reducible exact KIN.out _ hw' | with_reducible exact KCL.out _ hw')
                       | (have g3:=A4 (HCN.out.below hw').blk 0 _ (Ej _ _ _ _)
                          go_simp;first | done | with_reducible exact rfl | with_reducible exact⟨rfl,rfl⟩ | with_reducible exact KIN.out _ hw' | with_reducible exact KCL.out _ hw')
                       | (have g4:=cell_later hw' HM1.out
                          go_simp;first | done | with_reducible exact rfl | with_reducible exact⟨rfl,rfl⟩ | with_reducible exact KIN.out _ hw' | with_reducible exact KCL.out _ hw')
                       | (have g5:=cell_later hw' HY0.out
                          go_simp;first | done | with_reducible exact rfl | with_reducible exact⟨rfl,rfl⟩ | with_reducible exact KIN.out _ hw' | with_reducible exact KCL.out _ hw'))
                     clear hK K))
             refine wpQuiet_nil ?_;intro w6 hw6;have HB6:=hid (A8 HBN.out hw6);have HB6X:=hid hw6;clear hw6;clear d3 d4 e2;go_wp2_with fail;rw[← HXX.out];go_roundg (t2 - (k+1))
             case rel=>exact⟨k+1,AK HK.out HLT.out,by go_num,Hb HYY.out HNK.out (by rw[HBAD.out];rfl),A8 HB.out HB6.out⟩
             case measure=>exact AL HK.out HLT.out
           | false=>
             refine Ae (by kernel_rfl) ?_ ?_
             ·kernel_rfl
             repeat first
              | go_big_quiet_skip
              | (go_big_quiet_want;go_big_quiet_op;go_big_quiet_on)
              | (with_reducible apply wpQuiet_step
                 intro K hK;go_simp;first
                  | (refine hK _ ?_;clear hK K)
                  | (apply Exists.intro
                     refine⟨fun w' hw'=>?_,hK _ ?_⟩
                     ·
                      (first
                       | with_reducible exact KIN.out _ hw'
                       | with_reducible exact KCL.out _ hw'
                       | (have g0:=A4 (HCN.out.below hw').blk 68 _ (Fj _ _ _ _)
                          go_simp;first | done | with_reducible exact rfl | with_reducible exact⟨rfl,rfl⟩ | with_reducible exact KIN.out _ hw' | with_reducible exact KCL.out _ hw')
                       | (have g1:=A4 (A5 hw' HQX.out) 0 _ rfl
                          go_simp;first | done | with_reducible exact rfl | with_reducible exact⟨rfl,rfl⟩ | with_reducible exact KIN.out _ hw' | with_reducible exact KCL.out _ hw')
                       | (have g2:=A4 (A5 hw' HQX.out) 1 _ rfl
                          go_simp;first | done | with_reducible exact rfl | with_reducible exact⟨rfl,rfl⟩ | with_reducible exact KIN.out _ hw' | with_reducible exact KCL.out _ hw')
                       | (have g3:=A4 (HCN.out.below hw').blk 0 _ (Ej _ _ _ _)
                          go_simp;first | done | with_reducible exact rfl | with_reducible exact⟨rfl,rfl⟩ | with_reducible exact KIN.out _ hw' | with_reducible exact KCL.out _ hw')
                       | (have g4:=cell_later hw' HM1.out
                          go_simp;first | done | with_reducible exact rfl | with_reducible exact⟨rfl,rfl⟩ | with_reducible exact KIN.out _ hw' | with_reducible exact KCL.out _ hw')
                       | (have g5:=cell_later hw' HY0.out
                          go_simp;first | done | with_reducible exact rfl | with_reducible exact⟨rfl,rfl⟩ | with_reducible exact KIN.out _ hw' | with_reducible exact KCL.out _ hw'))
                     clear hK K))
             refine wpQuiet_nil ?_;intro w6 hw6;have HB6:=hid (A8 HBN.out hw6);have HB6X:=hid hw6;clear hw6;cases bo with
             | true=>
               clear d3 d4 e2;go_wp2_with fail
               (try simp only[Exit.inBlock,Exit.then])
               refine bodyPost_ret (results_none rfl _ _ _) rfl ?_;exact⟨rfl,HNO4.out (Kg HYY.out (by rw[HBAD.out];rfl)) ▸ HCN.out.below HB6X.out,Ar HG3.out (AI (A8 HB.out HB6.out) HC3.out.gle)⟩
             | false=>
               clear d3 d4 e2;go_wp2_with fail;rw[← HXX.out];go_roundg (t2 - (k+1))
               case rel=>exact⟨k+1,AK HK.out HLT.out,by go_num,Hb HYY.out HNK.out (by rw[HBAD.out];rfl),A8 HB.out HB6.out⟩
               case measure=>exact AL HK.out HLT.out
         | false=>
           cases sg with
           | true=>
             refine Ae (by kernel_rfl) ?_ ?_
             ·kernel_rfl
             repeat first
              | go_big_quiet_skip
              | (go_big_quiet_want;go_big_quiet_op;go_big_quiet_on)
              | (with_reducible apply wpQuiet_step
                 intro K hK;go_simp;first
                  | (refine hK _ ?_;clear hK K)
                  | (apply Exists.intro
                     refine⟨fun w' hw'=>?_,hK _ ?_⟩
                     ·
                      (first
                       | with_reducible exact KIN.out _ hw'
                       | with_reducible exact KCL.out _ hw'
                       | (have g0:=A4 (HCN.out.below hw').blk 68 _ (Fj _ _ _ _)
                          go_simp;first | done | with_reducible exact rfl | with_reducible exact⟨rfl,rfl⟩ | with_reducible exact KIN.out _ hw' | with_reducible exact KCL.out _ hw')
                       | (have g1:=A4 (A5 hw' HQX.out) 0 _ rfl
                          go_simp;first | done | with_reducible exact rfl | with_reducible exact⟨rfl,rfl⟩ | with_reducible exact KIN.out _ hw' | with_reducible exact KCL.out _ hw')
                       | (have g2:=A4 (A5 hw' HQX.out) 1 _ rfl
                          go_simp;first | done | with_reducible exact rfl | with_reducible exact⟨rfl,rfl⟩ | with_reducible exact KIN.out _ hw' | with_reducible exact KCL.out _ hw')
                       | (have g3:=A4 (HCN.out.below hw').blk 0 _ (Ej _ _ _ _)
                          go_simp;first | done | with_reducible exact rfl | with_reducible exact⟨rfl,rfl⟩ | with_reducible exact KIN.out _ hw' | with_reducible exact KCL.out _ hw')
                       | (have g4:=cell_later hw' HM1.out
                          go_simp;first | done | with_reducible exact rfl | with_reducible exact⟨rfl,rfl⟩ | with_reducible exact KIN.out _ hw' | with_reducible exact KCL.out _ hw')
                       | (have g5:=cell_later hw' HY0.out
                          go_simp;first | done | with_reducible exact rfl | with_reducible exact⟨rfl,rfl⟩ | with_reducible exact KIN.out _ hw' | with_reducible exact KCL.out _ hw'))
                     clear hK K))
             refine wpQuiet_nil ?_;intro w6 hw6;have HB6:=hid (A8 HBN.out hw6);have HB6X:=hid hw6;clear hw6;cases bo with
             | true=>
               clear d3 d4 e2;go_wp2_with fail
               (try simp only[Exit.inBlock,Exit.then])
               refine bodyPost_ret (results_none rfl _ _ _) rfl ?_;exact⟨rfl,HNO4.out (Kg HYY.out (by rw[HBAD.out];rfl)) ▸ HCN.out.below HB6X.out,Ar HG3.out (AI (A8 HB.out HB6.out) HC3.out.gle)⟩
             | false=>
               clear d3 d4 e2;go_wp2_with fail;rw[← HXX.out];go_roundg (t2 - (k+1))
               case rel=>exact⟨k+1,AK HK.out HLT.out,by go_num,Hb HYY.out HNK.out (by rw[HBAD.out];rfl),A8 HB.out HB6.out⟩
               case measure=>exact AL HK.out HLT.out
           | false=>
             refine Ae (by kernel_rfl) ?_ ?_
             ·kernel_rfl
             repeat first
              | go_big_quiet_skip
              | (go_big_quiet_want;go_big_quiet_op;go_big_quiet_on)
              | (with_reducible apply wpQuiet_step
                 intro K hK;go_simp;first
                  | (refine hK _ ?_;clear hK K)
                  | (apply Exists.intro
                     refine⟨fun w' hw'=>?_,hK _ ?_⟩
                     ·
                      (first
                       | with_reducible exact KIN.out _ hw'
                       | with_reducible exact KCL.out _ hw'
                       | (have g0:=A4 (HCN.out.below hw').blk 68 _ (Fj _ _ _ _)
                          go_simp;first | done | with_reducible exact rfl | with_reducible exact⟨rfl,rfl⟩ | with_reducible exact KIN.out _ hw' | with_reducible exact KCL.out _ hw')
                       | (have g1:=A4 (A5 hw' HQX.out) 0 _ rfl
                          go_simp;first | done | with_reducible exact rfl | with_reducible exact⟨rfl,rfl⟩ | with_reducible exact KIN.out _ hw' | with_reducible exact KCL.out _ hw')
                       | (have g2:=A4 (A5 hw' HQX.out) 1 _ rfl
                          go_simp;first | done | with_reducible exact rfl | with_reducible exact⟨rfl,rfl⟩ | with_reducible exact KIN.out _ hw' | with_reducible exact KCL.out _ hw')
                       | (have g3:=A4 (HCN.out.below hw').blk 0 _ (Ej _ _ _ _)
                          go_simp;first | done | with_reducible exact rfl | with_reducible exact⟨rfl,rfl⟩ | with_reducible exact KIN.out _ hw' | with_reducible exact KCL.out _ hw')
                       | (have g4:=cell_later hw' HM1.out
                          go_simp;first | done | with_reducible exact rfl | with_reducible exact⟨rfl,rfl⟩ | with_reducible exact KIN.out _ hw' | with_reducible exact KCL.out _ hw')
                       | (have g5:=cell_later hw' HY0.out
                          go_simp;first | done | with_reducible exact rfl | with_reducible exact⟨rfl,rfl⟩ | with_reducible exact KIN.out _ hw' | with_reducible exact KCL.out _ hw'))
                     clear hK K))
             refine wpQuiet_nil ?_;intro w6 hw6;have HB6:=hid (A8 HBN.out hw6);have HB6X:=hid hw6;clear hw6;clear d3 d4 e2;go_wp2_with fail;rw[← HXX.out];go_roundg (t2 - (k+1))
             case rel=>exact⟨k+1,AK HK.out HLT.out,by go_num,Hb HYY.out HNK.out (by rw[HBAD.out];rfl),A8 HB.out HB6.out⟩
             case measure=>exact AL HK.out HLT.out
        ·have d2:¬ (k:Int)<t2:=by omega
         have HNN:Hid (x.nd.l.any (Bf M.tb s i.oc)=false):=hid (NM HT2.out (by rw[show t2=k by have:=HK.out;omega];exact HNK.out));have HC0:=hid (HC3.out.below HB.out);have HQR0:=hid (A5 HB.out HQR3.out);have HB00:=hid (Ar HG3.out (AI HB.out HC3.out.gle));clear hlt HC3 HQR3 HG3 HB;go_upto_region 7 with fail
         refine Ah (by kernel_rfl) [11] 14 [0,1,2,3,4,5,6,7,8,9,10] [71,72,73,74,75,76,77,78,79,80,81] #[true,true,true,true,true,true,true,true,true,true,true,false] 1 [(fun v _=>v = .pointer (some ⟨g,0,none⟩)),(fun v _=>v = .pointer (some ⟨g,0,none⟩)),(fun v _=>v = .pointer (some ⟨g,1,none⟩)),(fun v _=>v = .pointer (some ⟨g,1,none⟩)),(fun v _=>v = .int .u64 (s.lk:Int)),(fun v _=>v = .int .i64 (n:Int)),(fun v _=>v = .int .u64 (pw n:Int)),(fun v _=>v = .int .u64 ((Ab s.lk n:Nat):Int)),(fun v _=>v = .pointer (some ⟨g,0,none⟩)),(fun v _=>v = .pointer (some ⟨g,1,none⟩)),(fun v _=>v = .pointer (some ⟨g,1,none⟩)),(fun _ _=>True)] (by kernel_rfl) (by kernel_rfl) (by kernel_rfl) (by kernel_rfl) (by kernel_rfl) rfl (by kernel_rfl) rfl ?_ ?_ ?_
         ·exact⟨A7 _,A7 _,A7 _,A7 _,A7 _,A7 _,A7 _,A7 _,A7 _,A7 _,A7 _,Al,trivial⟩
         ·refine⟨?_,?_,?_,?_,?_,?_,?_,?_,?_,?_,?_,trivial⟩
          ·refine A6 (o:=⟨some 71,_,_,_,_,_⟩) rfl (fun r V hc hf hg hs hb hd=>?_);have x0:r (.tmp 0) = .pointer (some ⟨g,0,none⟩):=hs 0 (by kernel_rfl);clear hs hd hg;go_simp;exact⟨Below.refl _ _,rfl⟩
          ·refine A6 (o:=⟨some 72,_,_,_,_,_⟩) rfl (fun r V hc hf hg hs hb hd=>?_);have h0:r (.tmp 71) = .pointer (some ⟨g,0,none⟩):=hd 0 71 rfl (by kernel_rfl);clear hs hd hg;go_simp;exact⟨Below.refl _ _,rfl⟩
          ·refine A6 (o:=⟨some 73,_,_,_,_,_⟩) rfl (fun r V hc hf hg hs hb hd=>?_);have h1:r (.tmp 72) = .pointer (some ⟨g,0,none⟩):=hd 1 72 rfl (by kernel_rfl);clear hs hd hg;go_simp;exact⟨Below.refl _ _,rfl⟩
          ·refine A6 (o:=⟨some 74,_,_,_,_,_⟩) rfl (fun r V hc hf hg hs hb hd=>?_);have h2:r (.tmp 73) = .pointer (some ⟨g,1,none⟩):=hd 2 73 rfl (by kernel_rfl);clear hs hd hg;go_simp;exact⟨Below.refl _ _,rfl⟩
          ·refine A6 (o:=⟨some 75,_,_,_,_,_⟩) rfl (fun r V hc hf hg hs hb hd=>?_);have h3:r (.tmp 74) = .pointer (some ⟨g,1,none⟩):=hd 3 74 rfl (by kernel_rfl);clear hs hd hg;have l:=A4 (HC0.out.below hb).blk 1 _ (JP _ _ _ _);go_simp;exact⟨Below.refl _ _,rfl⟩
          ·refine A6 (o:=⟨some 76,_,_,_,_,_⟩) rfl (fun r V hc hf hg hs hb hd=>?_);have x1:r (.tmp 1) = .int .i64 (n:Int):=hs 1 (by kernel_rfl);clear hs hd hg;go_simp;exact⟨Below.refl _ _,rfl⟩
          ·refine A6 (o:=⟨some 77,_,_,_,_,_⟩) rfl (fun r V hc hf hg hs hb hd=>?_);have h5:r (.tmp 76) = .int .i64 (n:Int):=hd 5 76 rfl (by kernel_rfl);clear hs hd hg;have h63:=HN63.out;have h0:(0:Int)≤n:=by omega
           have h1:min n 64=n:=by omega
           have h2:¬ (64:Int)≤n:=by omega
           have hs1:=Be n h63;go_simp;exact⟨Below.refl _ _,by simp⟩
          ·refine A6 (o:=⟨some 78,_,_,_,_,_⟩) rfl (fun r V hc hf hg hs hb hd=>?_);have h4:r (.tmp 75) = .int .u64 (s.lk:Int):=hd 4 75 rfl (by kernel_rfl);have h6:r (.tmp 77) = .int .u64 (pw n:Int):=hd 6 77 rfl (by kernel_rfl);clear hs hd hg;have ho1:=HOR.out;go_simp;exact⟨Below.refl _ _,rfl⟩
          ·refine A6 (o:=⟨some 79,_,_,_,_,_⟩) rfl (fun r V hc hf hg hs hb hd=>?_);have h0:r (.tmp 71) = .pointer (some ⟨g,0,none⟩):=hd 0 71 rfl (by kernel_rfl);clear hs hd hg;go_simp;exact⟨Below.refl _ _,rfl⟩
          ·refine A6 (o:=⟨some 80,_,_,_,_,_⟩) rfl (fun r V hc hf hg hs hb hd=>?_);have h8:r (.tmp 79) = .pointer (some ⟨g,0,none⟩):=hd 8 79 rfl (by kernel_rfl);clear hs hd hg;go_simp;exact⟨Below.refl _ _,rfl⟩
          ·refine A6 (o:=⟨some 81,_,_,_,_,_⟩) rfl (fun r V hc hf hg hs hb hd=>?_);have h9:r (.tmp 80) = .pointer (some ⟨g,1,none⟩):=hd 9 80 rfl (by kernel_rfl);clear hs hd hg;go_simp;exact⟨Below.refl _ _,rfl⟩
         ·intro a V hb hx;have h0:a.eval (.tmp 71) = .pointer (some ⟨g,0,none⟩):=hx 0 71 rfl rfl;have h1:a.eval (.tmp 72) = .pointer (some ⟨g,0,none⟩):=hx 1 72 rfl rfl;have h2:a.eval (.tmp 73) = .pointer (some ⟨g,1,none⟩):=hx 2 73 rfl rfl;have h3:a.eval (.tmp 74) = .pointer (some ⟨g,1,none⟩):=hx 3 74 rfl rfl;have h4:a.eval (.tmp 75) = .int .u64 (s.lk:Int):=hx 4 75 rfl rfl;have h5:a.eval (.tmp 76) = .int .i64 (n:Int):=hx 5 76 rfl rfl;have h6:a.eval (.tmp 77) = .int .u64 (pw n:Int):=hx 6 77 rfl rfl;have h7:a.eval (.tmp 78) = .int .u64 ((Ab s.lk n:Nat):Int):=hx 7 78 rfl rfl;have h8:a.eval (.tmp 79) = .pointer (some ⟨g,0,none⟩):=hx 8 79 rfl rfl;have h9:a.eval (.tmp 80) = .pointer (some ⟨g,1,none⟩):=hx 9 80 rfl rfl;have h10:a.eval (.tmp 81) = .pointer (some ⟨g,1,none⟩):=hx 10 81 rfl rfl;unfold AA;simp only[List.foldl_cons,List.foldl_nil,h0,h1,h2,h3,h4,h5,h6,h7,h8,h9,h10,Act.put,List.setIfInBounds_toArray,List.set_cons_zero,List.set_cons_succ];clear h0 h1 h2 h3 h4 h5 h6 h7 h8 h9 h10 hx;have HCV:=hid (HC0.out.below hb);have HBV:=hid (Ar HB00.out (AI hb HC0.out.gle));have HQRV:=hid (A5 hb HQR0.out);clear hb;refine wpAny_ready (rs:=[11]) (by kernel_rfl) (by simp) (AllReady.cons (o:=⟨none,_,_,_,_,_⟩) rfl (fun K hK=>?_) AllReady.nil);have c0:=A4 HCV.out.blk 1 _ (JP _ _ _ _);have f0:=An HCV.out.blk 1;have hl:=Af HCV.out.blk;go_simp;clear c0 f0 hl;refine AY ?_;intro VZ hVZ;have hput:=HCV.out.put 1 _ (Qq _ _ _ _ _) (HOK1.out);rw[← hVZ] at hput;have HCZ:=hid hput.1;have HBZ:=hid (Ar HBV.out hput.2);have HQRZ:Hid (VZ.heap[gr]?=some (.cells #[.int .i64 x.fi,.int .i64 x.ah,.slice x.tk.a t1 x.tk.c,.slice x.nd.a t2 x.nd.c,.slice x.cf.a t3 x.cf.c] 98)):=hid (by rw[hVZ];exact Gv HQRV.out 1 _ (fun e=>HGR.out e.symm));clear hVZ hput HQRV HCV HBV;refine hK _ _ ?_;clear hK K;refine wpAny_done (by kernel_rfl) ?_ _;obtain⟨nrow,hnrow⟩:∃ r,x.nd.a=r:=⟨_,rfl⟩;have HNA:=hid hnrow;have c3:=A4 HQRZ.out 3 _ rfl;have HST0:Hid (Cy VZ g m M { s with lk:=Ab s.lk n,pt:=Cr (x.nd.l.take 0) s.pt } i u):=hid (by rw[J1];exact HCZ.out);clear hnrow HCZ;go_upto_region 9 with fail
          clear c3;go_loopg [85] t2 (fun g9 v wr=>∃ k:Nat,k+g9=t2∧v = .int .i64 (k:Int)∧Cy wr g m M { s with lk:=Ab s.lk n,pt:=Cr (x.nd.l.take k) s.pt } i u∧Below g w wr)
          case atStart=>exact⟨0,by omega,rfl,HST0.out,HBZ.out⟩
          case round=>
           obtain⟨k,hk,rfl,hcr,hbw⟩:=hrel;have HK:=hid hk;have HCR:=hid hcr;have HBR:=hid hbw;clear hk hcr hbw HST0 HBZ HQRZ;by_cases hlt:k<t2
           ·have d1:(0:Int)≤k:=by omega
            have d2:(k:Int)<t2:=by omega
            have e1:=Bp hlt HTM.out;have HLT:=hid hlt;obtain⟨y,hy⟩:∃ y,x.nd.l[k]?=some y:=⟨_,List.getElem?_eq_getElem (by rw[HT2.out];exact hlt)⟩;obtain⟨q',sg⟩:=y;have hyb:=HNB.out (q',sg) (List.mem_of_getElem? hy);obtain⟨q,rfl⟩:∃ q:Nat,q'=q:=⟨q'.toNat,by dsimp only at hyb;omega⟩;have HQ31:Hid (q≤31):=hid (by dsimp only at hyb;omega);obtain⟨A,hA⟩:∃ A,Cr (x.nd.l.take k) s.pt=A:=⟨_,rfl⟩;have HNX:Hid (Cr (x.nd.l.take (k+1)) s.pt=if sg then Ab A q else Ax A q):=hid (by rw[MB hy,hA,Int.toNat_natCast]);rw[hA] at HCR;have HA32:Hid (A<4294967296):=hid HCR.out.sok.pt;have hor:=(HCR.out.mach.lns x HXM.out).nd.at_.row;obtain⟨X,hX⟩:∃ a,x.nd.a=a:=⟨_,rfl⟩;have HXX:=hid hX;rw[hX] at hor ⊢;rcases hor with hnil | ⟨nb,no,hnb,hnc⟩
            ·rw[hnil] at hy;cases hy
            subst hnb;have y0:=hnc k _ hy 0 _ rfl;have y1:=hnc k _ hy 1 _ rfl;rw[Nat.add_zero] at y0;clear hnc hX hy hyb hA hlt;go_upto_region 11 with fail
            have hbn:=Ac wr (.cells #[.int .i64 (q:Int),.bool sg] 71);have hqn:=Ao wr (.cells #[.int .i64 (q:Int),.bool sg] 71) (Below.refl _ _);obtain⟨VN,hVN⟩:∃ V,V=wr.alloc (.cells #[.int .i64 (q:Int),.bool sg] 71):=⟨_,rfl⟩;rw[← hVN] at hbn hqn ⊢;obtain⟨gx,hgx⟩:∃ g,g=wr.heap.size:=⟨_,rfl⟩;rw[← hgx] at hqn ⊢;have HQX:=hid hqn;have HCN:=hid (HCR.out.below hbn);have HBN:=hid (Ar HBR.out (AI hbn HCR.out.gle));have HPT:Hid ((C4 m { s with lk:=Ab s.lk n,pt:=A } i u).toArray[68]?=some (.int .u32 (A:Int))):=hid (Fj _ _ _ _);have c1:=A4 hqn 1 _ rfl;clear hbn hqn hVN hgx y0 y1 HCR HBR;cases sg with
            | true=>
              have HOKN:Hid (St.ok { s with lk:=Ab s.lk n,pt:=Ab A q }):=hid ⟨HOK1.out.lk,HOK1.out.us,HOK1.out.ca,HOK1.out.tm,Hr HQ31.out HA32.out⟩;go_upto_region 12 with fail
              clear c1;refine Ah (by kernel_rfl) [12] 15 [0,1,2,3,4,5,6,7,8,9,10,11] [91,92,93,94,95,96,97,98,99,100,101,102] #[true,true,true,true,true,true,true,true,true,true,true,true,false] 1 [(fun v _=>v = .pointer (some ⟨g,0,none⟩)),(fun v _=>v = .pointer (some ⟨g,0,none⟩)),(fun v _=>v = .pointer (some ⟨g,1,none⟩)),(fun v _=>v = .pointer (some ⟨g,68,none⟩)),(fun v _=>v = .int .u32 (A:Int)),(fun v _=>v = .pointer (some ⟨gx,0,none⟩)),(fun v _=>v = .int .i64 (q:Int)),(fun v _=>v = .int .u32 ((pw q:Nat):Int)),(fun v _=>v = .int .u32 ((Ab A q:Nat):Int)),(fun v _=>v = .pointer (some ⟨g,0,none⟩)),(fun v _=>v = .pointer (some ⟨g,1,none⟩)),(fun v _=>v = .pointer (some ⟨g,68,none⟩)),(fun _ _=>True)] (by kernel_rfl) (by kernel_rfl) (by kernel_rfl) (by kernel_rfl) (by kernel_rfl) rfl (by kernel_rfl) rfl ?_ ?_ ?_
              ·exact⟨A7 _,A7 _,A7 _,A7 _,A7 _,A7 _,A7 _,A7 _,A7 _,A7 _,A7 _,A7 _,Al,trivial⟩
              ·refine⟨?_,?_,?_,?_,?_,?_,?_,?_,?_,?_,?_,?_,trivial⟩
               ·refine A6 (o:=⟨some 91,_,_,_,_,_⟩) rfl (fun r V hc hf hg hs hb hd=>?_);have x0:r (.tmp 0) = .pointer (some ⟨g,0,none⟩):=hs 0 (by kernel_rfl);clear hs hd hg;go_simp;exact⟨Below.refl _ _,rfl⟩
               ·refine A6 (o:=⟨some 92,_,_,_,_,_⟩) rfl (fun r V hc hf hg hs hb hd=>?_);have h0:r (.tmp 91) = .pointer (some ⟨g,0,none⟩):=hd 0 91 rfl (by kernel_rfl);clear hs hd hg;go_simp;exact⟨Below.refl _ _,rfl⟩
               ·refine A6 (o:=⟨some 93,_,_,_,_,_⟩) rfl (fun r V hc hf hg hs hb hd=>?_);have h1:r (.tmp 92) = .pointer (some ⟨g,0,none⟩):=hd 1 92 rfl (by kernel_rfl);clear hs hd hg;go_simp;exact⟨Below.refl _ _,rfl⟩
               ·refine A6 (o:=⟨some 94,_,_,_,_,_⟩) rfl (fun r V hc hf hg hs hb hd=>?_);have h2:r (.tmp 93) = .pointer (some ⟨g,1,none⟩):=hd 2 93 rfl (by kernel_rfl);clear hs hd hg;go_simp;exact⟨Below.refl _ _,rfl⟩
               ·refine A6 (o:=⟨some 95,_,_,_,_,_⟩) rfl (fun r V hc hf hg hs hb hd=>?_);have h3:r (.tmp 94) = .pointer (some ⟨g,68,none⟩):=hd 3 94 rfl (by kernel_rfl);clear hs hd hg;have l:=A4 (HCN.out.below hb).blk 68 _ (HPT.out);go_simp;exact⟨Below.refl _ _,rfl⟩
               ·refine A6 (o:=⟨some 96,_,_,_,_,_⟩) rfl (fun r V hc hf hg hs hb hd=>?_);have x8:r (.tmp 8) = .pointer (some ⟨gx,0,none⟩):=hs 8 (by kernel_rfl);clear hs hd hg;go_simp;exact⟨Below.refl _ _,rfl⟩
               ·refine A6 (o:=⟨some 97,_,_,_,_,_⟩) rfl (fun r V hc hf hg hs hb hd=>?_);have h5:r (.tmp 96) = .pointer (some ⟨gx,0,none⟩):=hd 5 96 rfl (by kernel_rfl);clear hs hd hg;have l:=A4 (A5 hb HQX.out) 0 _ rfl;go_simp;exact⟨Below.refl _ _,rfl⟩
               ·refine A6 (o:=⟨some 98,_,_,_,_,_⟩) rfl (fun r V hc hf hg hs hb hd=>?_);have h6:r (.tmp 97) = .int .i64 (q:Int):=hd 6 97 rfl (by kernel_rfl);clear hs hd hg;have h31:=HQ31.out;have h0:(0:Int)≤q:=by omega
                have h1:min q 32=q:=by omega
                have h2:¬ (32:Int)≤q:=by omega
                have hs1:=G8 h31;go_simp;exact⟨Below.refl _ _,by simp⟩
               ·refine A6 (o:=⟨some 99,_,_,_,_,_⟩) rfl (fun r V hc hf hg hs hb hd=>?_);have h4:r (.tmp 95) = .int .u32 (A:Int):=hd 4 95 rfl (by kernel_rfl);have h7:r (.tmp 98) = .int .u32 ((pw q:Nat):Int):=hd 7 98 rfl (by kernel_rfl);clear hs hd hg;have ho1:=F6 HQ31.out HA32.out;go_simp;exact⟨Below.refl _ _,rfl⟩
               ·refine A6 (o:=⟨some 100,_,_,_,_,_⟩) rfl (fun r V hc hf hg hs hb hd=>?_);have h0:r (.tmp 91) = .pointer (some ⟨g,0,none⟩):=hd 0 91 rfl (by kernel_rfl);clear hs hd hg;go_simp;exact⟨Below.refl _ _,rfl⟩
               ·refine A6 (o:=⟨some 101,_,_,_,_,_⟩) rfl (fun r V hc hf hg hs hb hd=>?_);have h9:r (.tmp 100) = .pointer (some ⟨g,0,none⟩):=hd 9 100 rfl (by kernel_rfl);clear hs hd hg;go_simp;exact⟨Below.refl _ _,rfl⟩
               ·refine A6 (o:=⟨some 102,_,_,_,_,_⟩) rfl (fun r V hc hf hg hs hb hd=>?_);have h10:r (.tmp 101) = .pointer (some ⟨g,1,none⟩):=hd 10 101 rfl (by kernel_rfl);clear hs hd hg;go_simp;exact⟨Below.refl _ _,rfl⟩
              ·intro a V hb hx;have h0:a.eval (.tmp 91) = .pointer (some ⟨g,0,none⟩):=hx 0 91 rfl rfl;have h1:a.eval (.tmp 92) = .pointer (some ⟨g,0,none⟩):=hx 1 92 rfl rfl;have h2:a.eval (.tmp 93) = .pointer (some ⟨g,1,none⟩):=hx 2 93 rfl rfl;have h3:a.eval (.tmp 94) = .pointer (some ⟨g,68,none⟩):=hx 3 94 rfl rfl;have h4:a.eval (.tmp 95) = .int .u32 (A:Int):=hx 4 95 rfl rfl;have h5:a.eval (.tmp 96) = .pointer (some ⟨gx,0,none⟩):=hx 5 96 rfl rfl;have h6:a.eval (.tmp 97) = .int .i64 (q:Int):=hx 6 97 rfl rfl;have h7:a.eval (.tmp 98) = .int .u32 ((pw q:Nat):Int):=hx 7 98 rfl rfl;have h8:a.eval (.tmp 99) = .int .u32 ((Ab A q:Nat):Int):=hx 8 99 rfl rfl;have h9:a.eval (.tmp 100) = .pointer (some ⟨g,0,none⟩):=hx 9 100 rfl rfl;have h10:a.eval (.tmp 101) = .pointer (some ⟨g,1,none⟩):=hx 10 101 rfl rfl;have h11:a.eval (.tmp 102) = .pointer (some ⟨g,68,none⟩):=hx 11 102 rfl rfl;unfold AA;simp only[List.foldl_cons,List.foldl_nil,h0,h1,h2,h3,h4,h5,h6,h7,h8,h9,h10,h11,Act.put,List.setIfInBounds_toArray,List.set_cons_zero,List.set_cons_succ];clear h0 h1 h2 h3 h4 h5 h6 h7 h8 h9 h10 h11 hx;have HCV:=hid (HCN.out.below hb);have HBV:=hid (Ar HBN.out (AI hb HCN.out.gle));clear hb;refine wpAny_ready (rs:=[12]) (by kernel_rfl) (by simp) (AllReady.cons (o:=⟨none,_,_,_,_,_⟩) rfl (fun K hK=>?_) AllReady.nil);have c0:=A4 HCV.out.blk 68 _ (HPT.out);have f0:=An HCV.out.blk 68;have hl:=Af HCV.out.blk;go_simp;clear c0 f0 hl;refine AY ?_;intro VZ hVZ;have hput:=HCV.out.put 68 _ (Nj _ _ _ _ (Ab A q)) (HOKN.out);rw[← hVZ] at hput;have HCZ:=hid hput.1;have HBZ:=hid (Ar HBV.out hput.2);clear hVZ hput HCV HBV;refine hK _ _ ?_;clear hK K;refine wpAny_done (by kernel_rfl) ?_ _;go_wp2_with fail;rw[← HXX.out];go_roundg (t2 - (k+1))
               case rel=>exact⟨k+1,AK HK.out HLT.out,by go_num,by rw[HNX.out];exact HCZ.out,HBZ.out⟩
               case measure=>exact AL HK.out HLT.out
            | false=>
              have HOKN:Hid (St.ok { s with lk:=Ab s.lk n,pt:=Ax A q }):=hid ⟨HOK1.out.lk,HOK1.out.us,HOK1.out.ca,HOK1.out.tm,FX HA32.out⟩;go_upto_region 13 with fail
              clear c1;refine Ah (by kernel_rfl) [12] 15 [0,1,2,3,4,5,6,7,8,9,10,11] [103,104,105,106,107,108,109,110,111,112,113,114] #[true,true,true,true,true,true,true,true,true,true,true,true,false] 1 [(fun v _=>v = .pointer (some ⟨g,0,none⟩)),(fun v _=>v = .pointer (some ⟨g,0,none⟩)),(fun v _=>v = .pointer (some ⟨g,1,none⟩)),(fun v _=>v = .pointer (some ⟨g,68,none⟩)),(fun v _=>v = .int .u32 (A:Int)),(fun v _=>v = .pointer (some ⟨gx,0,none⟩)),(fun v _=>v = .int .i64 (q:Int)),(fun v _=>v = .int .u32 ((pw q:Nat):Int)),(fun v _=>v = .int .u32 ((Ax A q:Nat):Int)),(fun v _=>v = .pointer (some ⟨g,0,none⟩)),(fun v _=>v = .pointer (some ⟨g,1,none⟩)),(fun v _=>v = .pointer (some ⟨g,68,none⟩)),(fun _ _=>True)] (by kernel_rfl) (by kernel_rfl) (by kernel_rfl) (by kernel_rfl) (by kernel_rfl) rfl (by kernel_rfl) rfl ?_ ?_ ?_
              ·exact⟨A7 _,A7 _,A7 _,A7 _,A7 _,A7 _,A7 _,A7 _,A7 _,A7 _,A7 _,A7 _,Al,trivial⟩
              ·refine⟨?_,?_,?_,?_,?_,?_,?_,?_,?_,?_,?_,?_,trivial⟩
               ·refine A6 (o:=⟨some 103,_,_,_,_,_⟩) rfl (fun r V hc hf hg hs hb hd=>?_);have x0:r (.tmp 0) = .pointer (some ⟨g,0,none⟩):=hs 0 (by kernel_rfl);clear hs hd hg;go_simp;exact⟨Below.refl _ _,rfl⟩
               ·refine A6 (o:=⟨some 104,_,_,_,_,_⟩) rfl (fun r V hc hf hg hs hb hd=>?_);have h0:r (.tmp 103) = .pointer (some ⟨g,0,none⟩):=hd 0 103 rfl (by kernel_rfl);clear hs hd hg;go_simp;exact⟨Below.refl _ _,rfl⟩
               ·refine A6 (o:=⟨some 105,_,_,_,_,_⟩) rfl (fun r V hc hf hg hs hb hd=>?_);have h1:r (.tmp 104) = .pointer (some ⟨g,0,none⟩):=hd 1 104 rfl (by kernel_rfl);clear hs hd hg;go_simp;exact⟨Below.refl _ _,rfl⟩
               ·refine A6 (o:=⟨some 106,_,_,_,_,_⟩) rfl (fun r V hc hf hg hs hb hd=>?_);have h2:r (.tmp 105) = .pointer (some ⟨g,1,none⟩):=hd 2 105 rfl (by kernel_rfl);clear hs hd hg;go_simp;exact⟨Below.refl _ _,rfl⟩
               ·refine A6 (o:=⟨some 107,_,_,_,_,_⟩) rfl (fun r V hc hf hg hs hb hd=>?_);have h3:r (.tmp 106) = .pointer (some ⟨g,68,none⟩):=hd 3 106 rfl (by kernel_rfl);clear hs hd hg;have l:=A4 (HCN.out.below hb).blk 68 _ (HPT.out);go_simp;exact⟨Below.refl _ _,rfl⟩
               ·refine A6 (o:=⟨some 108,_,_,_,_,_⟩) rfl (fun r V hc hf hg hs hb hd=>?_);have x8:r (.tmp 8) = .pointer (some ⟨gx,0,none⟩):=hs 8 (by kernel_rfl);clear hs hd hg;go_simp;exact⟨Below.refl _ _,rfl⟩
               ·refine A6 (o:=⟨some 109,_,_,_,_,_⟩) rfl (fun r V hc hf hg hs hb hd=>?_);have h5:r (.tmp 108) = .pointer (some ⟨gx,0,none⟩):=hd 5 108 rfl (by kernel_rfl);clear hs hd hg;have l:=A4 (A5 hb HQX.out) 0 _ rfl;go_simp;exact⟨Below.refl _ _,rfl⟩
               ·refine A6 (o:=⟨some 110,_,_,_,_,_⟩) rfl (fun r V hc hf hg hs hb hd=>?_);have h6:r (.tmp 109) = .int .i64 (q:Int):=hd 6 109 rfl (by kernel_rfl);clear hs hd hg;have h31:=HQ31.out;have h0:(0:Int)≤q:=by omega
                have h1:min q 32=q:=by omega
                have h2:¬ (32:Int)≤q:=by omega
                have hs1:=G8 h31;go_simp;exact⟨Below.refl _ _,by simp⟩
               ·refine A6 (o:=⟨some 111,_,_,_,_,_⟩) rfl (fun r V hc hf hg hs hb hd=>?_);have h4:r (.tmp 107) = .int .u32 (A:Int):=hd 4 107 rfl (by kernel_rfl);have h7:r (.tmp 110) = .int .u32 ((pw q:Nat):Int):=hd 7 110 rfl (by kernel_rfl);clear hs hd hg;have ho1:=GE HQ31.out HA32.out;go_simp;exact⟨Below.refl _ _,rfl⟩
               ·refine A6 (o:=⟨some 112,_,_,_,_,_⟩) rfl (fun r V hc hf hg hs hb hd=>?_);have h0:r (.tmp 103) = .pointer (some ⟨g,0,none⟩):=hd 0 103 rfl (by kernel_rfl);clear hs hd hg;go_simp;exact⟨Below.refl _ _,rfl⟩
               ·refine A6 (o:=⟨some 113,_,_,_,_,_⟩) rfl (fun r V hc hf hg hs hb hd=>?_);have h9:r (.tmp 112) = .pointer (some ⟨g,0,none⟩):=hd 9 112 rfl (by kernel_rfl);clear hs hd hg;go_simp;exact⟨Below.refl _ _,rfl⟩
               ·refine A6 (o:=⟨some 114,_,_,_,_,_⟩) rfl (fun r V hc hf hg hs hb hd=>?_);have h10:r (.tmp 113) = .pointer (some ⟨g,1,none⟩):=hd 10 113 rfl (by kernel_rfl);clear hs hd hg;go_simp;exact⟨Below.refl _ _,rfl⟩
              ·intro a V hb hx;have h0:a.eval (.tmp 103) = .pointer (some ⟨g,0,none⟩):=hx 0 103 rfl rfl;have h1:a.eval (.tmp 104) = .pointer (some ⟨g,0,none⟩):=hx 1 104 rfl rfl;have h2:a.eval (.tmp 105) = .pointer (some ⟨g,1,none⟩):=hx 2 105 rfl rfl;have h3:a.eval (.tmp 106) = .pointer (some ⟨g,68,none⟩):=hx 3 106 rfl rfl;have h4:a.eval (.tmp 107) = .int .u32 (A:Int):=hx 4 107 rfl rfl;have h5:a.eval (.tmp 108) = .pointer (some ⟨gx,0,none⟩):=hx 5 108 rfl rfl;have h6:a.eval (.tmp 109) = .int .i64 (q:Int):=hx 6 109 rfl rfl;have h7:a.eval (.tmp 110) = .int .u32 ((pw q:Nat):Int):=hx 7 110 rfl rfl;have h8:a.eval (.tmp 111) = .int .u32 ((Ax A q:Nat):Int):=hx 8 111 rfl rfl;have h9:a.eval (.tmp 112) = .pointer (some ⟨g,0,none⟩):=hx 9 112 rfl rfl;have h10:a.eval (.tmp 113) = .pointer (some ⟨g,1,none⟩):=hx 10 113 rfl rfl;have h11:a.eval (.tmp 114) = .pointer (some ⟨g,68,none⟩):=hx 11 114 rfl rfl;unfold AA;simp only[List.foldl_cons,List.foldl_nil,h0,h1,h2,h3,h4,h5,h6,h7,h8,h9,h10,h11,Act.put,List.setIfInBounds_toArray,List.set_cons_zero,List.set_cons_succ];clear h0 h1 h2 h3 h4 h5 h6 h7 h8 h9 h10 h11 hx;have HCV:=hid (HCN.out.below hb);have HBV:=hid (Ar HBN.out (AI hb HCN.out.gle));clear hb;refine wpAny_ready (rs:=[12]) (by kernel_rfl) (by simp) (AllReady.cons (o:=⟨none,_,_,_,_,_⟩) rfl (fun K hK=>?_) AllReady.nil);have c0:=A4 HCV.out.blk 68 _ (HPT.out);have f0:=An HCV.out.blk 68;have hl:=Af HCV.out.blk;go_simp;clear c0 f0 hl;refine AY ?_;intro VZ hVZ;have hput:=HCV.out.put 68 _ (Nj _ _ _ _ (Ax A q)) (HOKN.out);rw[← hVZ] at hput;have HCZ:=hid hput.1;have HBZ:=hid (Ar HBV.out hput.2);clear hVZ hput HCV HBV;refine hK _ _ ?_;clear hK K;refine wpAny_done (by kernel_rfl) ?_ _;go_wp2_with fail;rw[← HXX.out];go_roundg (t2 - (k+1))
               case rel=>exact⟨k+1,AK HK.out HLT.out,by go_num,by rw[HNX.out];exact HCZ.out,HBZ.out⟩
               case measure=>exact AL HK.out HLT.out
           ·have d2:¬ (k:Int)<t2:=by omega
            have HEND:Hid (Cr (x.nd.l.take k) s.pt=Cr x.nd.l s.pt):=hid (by rw[show k=t2 by have:=HK.out;omega];exact OD HT2.out _);clear hlt;go_wp2_with fail;go_end0;rw[HYES.out (by simp[HNN.out])];exact⟨rfl,HEND.out ▸ HCR.out,HBR.out⟩
end Go.Proofs.YtpohoannggdbjaaGreat
