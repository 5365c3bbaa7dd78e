/- Ours: IxE; IxF. -/
import Derived.Test.YtpohoannggdbjaaGreatIxD
import Derived.Test.YtpohoannggdbjaaGreatMA
namespace Go.Proofs.YtpohoannggdbjaaGreat
open Lib (hid)
open Go.RowKit
set_option maxRecDepth 100000
theorem AI{g:Nat}{w w':World}(h:Below w.heap.size w w')(hg:g≤w.heap.size):Below g w w':=⟨h.os,h.tape,h.output,h.size,fun k hk=>h.block k (by omega)⟩
theorem Ar{g:Nat}{a b c:World}(h:Below g a b)(k:Below g b c):Below g a c:=⟨k.os.trans h.os,k.tape.trans h.tape,k.output.trans h.output,Nat.le_trans h.size k.size,fun i hi=>(k.block i hi).trans (h.block i hi)⟩
theorem Cy.gle{w:World}{g m:Nat}{M:Mc}{s:St}{i:CZ}{u:Nat}(h:Cy w g m M s i u):g≤w.heap.size:=Nat.le_of_lt (Af h.blk)
theorem Cy.put{w:World}{g m:Nat}{M:Mc}{s s':St}{i:CZ}{u:Nat}(h:Cy w g m M s i u)(c:Nat)(v:Value)(hs:(C4 m s i u).toArray.setIfInBounds c v=(C4 m s' i u).toArray)(ho:s'.ok) :
 Cy (w.setCell ⟨g,c,none⟩ v) g m M s' i u∧Below g w (w.setCell ⟨g,c,none⟩ v):=by
 have hb:Below g w (w.setCell ⟨g,c,none⟩ v):=(Below.refl g w).setCell (p:=⟨g,c,none⟩) (Nat.le_refl _) v;have hz:w.heap.size≤(w.setCell ⟨g,c,none⟩ v).heap.size:=((Ag.refl g w).setCell (p:=⟨g,c,none⟩) rfl v).size;refine⟨h.next hb hz ?_ ho,hb⟩;rw[← hs];exact AH h.blk c v
theorem Qd{s:St}{oc n:Nat}{x:Rw}(h:AT s n=false):Bk s oc n x=s:=by unfold Bk;rw[h];rfl
theorem O2{s:St}{oc n:Nat}{x:Rw}(h:AT s n=true):Bk s oc n x={ s with ca:=Ab s.ca n,tm:=if Aa oc x.ah.toNat then BU s.tm n 20 else s.tm }:=by unfold Bk;rw[h];rfl
theorem Hv(s:St)(n:Nat):AT s n=(Aa s.lk n && (!Aa s.us n && !Aa s.ca n)):=rfl
theorem E7{f:Nat→Nat}(h:∀ n,f n≤255)(n:Nat){v:Nat}(hv:v≤255):∀ k,BU f n v k≤255:=by
 intro k;unfold BU;by_cases e:k=n
 ·rw[if_pos e];exact hv
 ·rw[if_neg e];exact h k
attribute [local irreducible] Sl.v Aa pw Ab Ax C4 Ai BG Cs Bi Bf B7 Cr BO AT Bk Bw BD Bh Bg BQ Bj BI BC BM AD AS AR Bc BB Bq CT Mc.tb BU AQ Aq AW
set_option maxHeartbeats 4000000 in
theorem KV(g m u:Nat)(M:Mc)(s:St)(i:CZ)(w:World)(hC:Cy w g m M s i u)(n:Nat)(x:Ln)(hx:M.ln.l[n]?=some x) :
 Calls Tryz.prog 55 #[.pointer (some ⟨g,0,none⟩),.int .i64 (n:Int)] w fun e w'=>e = .returned (.tuple #[])∧Cy w' g m M (Bk s i.oc n x.rw) i u∧Below g w w':=by
 have h63:n≤63:=by have h1:=(List.getElem?_eq_some_iff.1 hx).1;have h2:=hC.tb.rn;rw[BV] at h2;omega
 obtain⟨bl,hbl⟩:∃ b,Aa s.lk n=b:=⟨_,rfl⟩;obtain⟨bu,hbu⟩:∃ b,Aa s.us n=b:=⟨_,rfl⟩;obtain⟨bc,hbc⟩:∃ b,Aa s.ca n=b:=⟨_,rfl⟩;obtain⟨T,hT⟩:∃ T,Bk s i.oc n x.rw=T:=⟨_,rfl⟩;have HNO:Hid ((bl && (!bu && !bc))=false→T=s):=hid (fun h=>by rw[← hT];exact Qd (by rw[Hv,hbl,hbu,hbc];exact h));have HYES0:Hid ((bl && (!bu && !bc))=true→T={ s with ca:=Ab s.ca n,tm:=if Aa i.oc x.rw.ah.toNat then BU s.tm n 20 else s.tm }):=hid (fun h=>by rw[← hT];exact O2 (by rw[Hv,hbl,hbu,hbc];exact h));have hs:=hC.sok;have HOR:Hid (bits .or .u64 (s.ca:Int) (pw n:Int)=((Ab s.ca n:Nat):Int)):=hid (Ce s.ca n h63 hs.ca);have HOK1:Hid (St.ok { s with ca:=Ab s.ca n }):=hid ⟨hs.lk,hs.us,BW _ _ h63 hs.ca,hs.tm,hs.pt⟩;have HOK2:Hid (St.ok { s with ca:=Ab s.ca n,tm:=BU s.tm n 20 }):=hid ⟨hs.lk,hs.us,BW _ _ h63 hs.ca,E7 hs.tm n (by omega),hs.pt⟩;have HLK:Hid (Calls Tryz.prog 34 #[.pointer (some ⟨g,0,none⟩),.int .i64 (n:Int)] w fun e w'=>e = .returned (.bool bl)∧Below w.heap.size w w'):=hid (D0 bl g m u M s i w hC n h63 hbl);have HU:Hid (∀ V,Calls Tryz.prog 53 #[.int .u64 (s.us:Int),.int .i64 (n:Int)] V fun e w'=>e = .returned (.bool bu)∧V=w'):=hid (fun V=>Dd bu s.us n V h63 hs.us hbu);have HK:Hid (∀ V,Calls Tryz.prog 53 #[.int .u64 (s.ca:Int),.int .i64 (n:Int)] V fun e w'=>e = .returned (.bool bc)∧V=w'):=hid (fun V=>Dd bc s.ca n V h63 hs.ca hbc);have HN63:=hid h63;have HC:=hid hC;rw[hT];clear hbl hbu hbc hT hs h63 hC;go_enter Tryz.func55,Tryz.ntmps55;go_wp2_with fail;refine HLK.out.mono ?_;rintro e w1 ⟨rfl,hb⟩;have HC0:=hid (HC.out.below hb);have HB0:=hid (AI hb HC.out.gle);clear hb HC HLK;have l2:=A4 HC0.out.blk 2 _ (Hy _ _ _ _);have l3:=A4 HC0.out.blk 3 _ (Hz _ _ _ _);cases bl with
 | false=>
   go_wp2_with fail
   (try simp only[Exit.inBlock,Exit.then])
   refine bodyPost_ret (results_none rfl _ _ _) rfl ?_;exact⟨rfl,HNO.out rfl ▸ HC0.out,HB0.out⟩
 | true=>
   go_wp2_with fail;refine(HU.out _).mono ?_;rintro e w' ⟨rfl,rfl⟩;cases bu with
   | true=>
     go_wp2_with fail
     (try simp only[Exit.inBlock,Exit.then])
     refine bodyPost_ret (results_none rfl _ _ _) rfl ?_;exact⟨rfl,HNO.out rfl ▸ HC0.out,HB0.out⟩
   | false=>
     go_wp2_with fail;refine(HK.out _).mono ?_;rintro e w' ⟨rfl,rfl⟩;cases bc with
     | true=>
       go_wp2_with fail
       (try simp only[Exit.inBlock,Exit.then])
       refine bodyPost_ret (results_none rfl _ _ _) rfl ?_;exact⟨rfl,HNO.out rfl ▸ HC0.out,HB0.out⟩
     | false=>
       have HYES:=hid (HYES0.out rfl);clear HNO HYES0 l2 l3;go_upto_region 1 with fail
       refine Ah (by kernel_rfl) [11] 14 [0,1,2,3,4,5,6,7,8,9,10] [26,27,28,29,30,31,32,33,34,35,36] #[true,true,true,true,true,true,true,true,true,true,true,false] 1 [(fun v _=>v = .pointer (some ⟨g,0,none⟩)),(fun v _=>v = .pointer (some ⟨g,0,none⟩)),(fun v _=>v = .pointer (some ⟨g,1,none⟩)),(fun v _=>v = .pointer (some ⟨g,3,none⟩)),(fun v _=>v = .int .u64 (s.ca:Int)),(fun v _=>v = .int .i64 (n:Int)),(fun v _=>v = .int .u64 (pw n:Int)),(fun v _=>v = .int .u64 ((Ab s.ca n:Nat):Int)),(fun v _=>v = .pointer (some ⟨g,0,none⟩)),(fun v _=>v = .pointer (some ⟨g,1,none⟩)),(fun v _=>v = .pointer (some ⟨g,3,none⟩)),(fun _ _=>True)] (by kernel_rfl) (by kernel_rfl) (by kernel_rfl) (by kernel_rfl) (by kernel_rfl) rfl (by kernel_rfl) rfl ?_ ?_ ?_
       ·exact⟨A7 _,A7 _,A7 _,A7 _,A7 _,A7 _,A7 _,A7 _,A7 _,A7 _,A7 _,Al,trivial⟩
       ·refine⟨?_,?_,?_,?_,?_,?_,?_,?_,?_,?_,?_,trivial⟩
        ·refine A6 (o:=⟨some 26,_,_,_,_,_⟩) rfl (fun r V hc hf hg hs hb hd=>?_);have x0:r (.tmp 0) = .pointer (some ⟨g,0,none⟩):=hs 0 (by kernel_rfl);clear hs hd hg;go_simp;exact⟨Below.refl _ _,rfl⟩
        ·refine A6 (o:=⟨some 27,_,_,_,_,_⟩) rfl (fun r V hc hf hg hs hb hd=>?_);have h0:r (.tmp 26) = .pointer (some ⟨g,0,none⟩):=hd 0 26 rfl (by kernel_rfl);clear hs hd hg;go_simp;exact⟨Below.refl _ _,rfl⟩
        ·refine A6 (o:=⟨some 28,_,_,_,_,_⟩) rfl (fun r V hc hf hg hs hb hd=>?_);have h1:r (.tmp 27) = .pointer (some ⟨g,0,none⟩):=hd 1 27 rfl (by kernel_rfl);clear hs hd hg;go_simp;exact⟨Below.refl _ _,rfl⟩
        ·refine A6 (o:=⟨some 29,_,_,_,_,_⟩) rfl (fun r V hc hf hg hs hb hd=>?_);have h2:r (.tmp 28) = .pointer (some ⟨g,1,none⟩):=hd 2 28 rfl (by kernel_rfl);clear hs hd hg;go_simp;exact⟨Below.refl _ _,rfl⟩
        ·refine A6 (o:=⟨some 30,_,_,_,_,_⟩) rfl (fun r V hc hf hg hs hb hd=>?_);have h3:r (.tmp 29) = .pointer (some ⟨g,3,none⟩):=hd 3 29 rfl (by kernel_rfl);clear hs hd hg;have l:=A4 (HC0.out.below hb).blk 3 _ (Hz _ _ _ _);go_simp;exact⟨Below.refl _ _,rfl⟩
        ·refine A6 (o:=⟨some 31,_,_,_,_,_⟩) rfl (fun r V hc hf hg hs hb hd=>?_);have x1:r (.tmp 1) = .int .i64 (n:Int):=hs 1 (by kernel_rfl);clear hs hd hg;go_simp;exact⟨Below.refl _ _,rfl⟩
        ·refine A6 (o:=⟨some 32,_,_,_,_,_⟩) rfl (fun r V hc hf hg hs hb hd=>?_);have h5:r (.tmp 31) = .int .i64 (n:Int):=hd 5 31 rfl (by kernel_rfl);clear hs hd hg;have h63:=HN63.out;have h0:(0:Int)≤n:=by omega
         have h1:min n 64=n:=by omega
         have h2:¬ (64:Int)≤n:=by omega
         have hs1:=Be n h63;go_simp;exact⟨Below.refl _ _,by simp⟩
        ·refine A6 (o:=⟨some 33,_,_,_,_,_⟩) rfl (fun r V hc hf hg hs hb hd=>?_);have h4:r (.tmp 30) = .int .u64 (s.ca:Int):=hd 4 30 rfl (by kernel_rfl);have h6:r (.tmp 32) = .int .u64 (pw n:Int):=hd 6 32 rfl (by kernel_rfl);clear hs hd hg;have ho1:=HOR.out;go_simp;exact⟨Below.refl _ _,rfl⟩
        ·refine A6 (o:=⟨some 34,_,_,_,_,_⟩) rfl (fun r V hc hf hg hs hb hd=>?_);have h0:r (.tmp 26) = .pointer (some ⟨g,0,none⟩):=hd 0 26 rfl (by kernel_rfl);clear hs hd hg;go_simp;exact⟨Below.refl _ _,rfl⟩
        ·refine A6 (o:=⟨some 35,_,_,_,_,_⟩) rfl (fun r V hc hf hg hs hb hd=>?_);have h8:r (.tmp 34) = .pointer (some ⟨g,0,none⟩):=hd 8 34 rfl (by kernel_rfl);clear hs hd hg;go_simp;exact⟨Below.refl _ _,rfl⟩
        ·refine A6 (o:=⟨some 36,_,_,_,_,_⟩) rfl (fun r V hc hf hg hs hb hd=>?_);have h9:r (.tmp 35) = .pointer (some ⟨g,1,none⟩):=hd 9 35 rfl (by kernel_rfl);clear hs hd hg;go_simp;exact⟨Below.refl _ _,rfl⟩
       ·intro a V hb hx;have h0:a.eval (.tmp 26) = .pointer (some ⟨g,0,none⟩):=hx 0 26 rfl rfl;have h1:a.eval (.tmp 27) = .pointer (some ⟨g,0,none⟩):=hx 1 27 rfl rfl;have h2:a.eval (.tmp 28) = .pointer (some ⟨g,1,none⟩):=hx 2 28 rfl rfl;have h3:a.eval (.tmp 29) = .pointer (some ⟨g,3,none⟩):=hx 3 29 rfl rfl;have h4:a.eval (.tmp 30) = .int .u64 (s.ca:Int):=hx 4 30 rfl rfl;have h5:a.eval (.tmp 31) = .int .i64 (n:Int):=hx 5 31 rfl rfl;have h6:a.eval (.tmp 32) = .int .u64 (pw n:Int):=hx 6 32 rfl rfl;have h7:a.eval (.tmp 33) = .int .u64 ((Ab s.ca n:Nat):Int):=hx 7 33 rfl rfl;have h8:a.eval (.tmp 34) = .pointer (some ⟨g,0,none⟩):=hx 8 34 rfl rfl;have h9:a.eval (.tmp 35) = .pointer (some ⟨g,1,none⟩):=hx 9 35 rfl rfl;have h10:a.eval (.tmp 36) = .pointer (some ⟨g,3,none⟩):=hx 10 36 rfl rfl;unfold AA;simp only[List.foldl_cons,List.foldl_nil,h0,h1,h2,h3,h4,h5,h6,h7,h8,h9,h10,Act.put,List.setIfInBounds_toArray,List.set_cons_zero,List.set_cons_succ];clear h0 h1 h2 h3 h4 h5 h6 h7 h8 h9 h10 hx;have HCV:=hid (HC0.out.below hb);have HBV:=hid (Ar HB0.out (AI hb HC0.out.gle));clear hb;refine wpAny_ready (rs:=[11]) (by kernel_rfl) (by simp) (AllReady.cons (o:=⟨none,_,_,_,_,_⟩) rfl (fun K hK=>?_) AllReady.nil);have c0:=A4 HCV.out.blk 3 _ (Hz _ _ _ _);have f0:=An HCV.out.blk 3;have hl:=Af HCV.out.blk;go_simp;clear c0 f0 hl;refine AY ?_;intro VZ hVZ;have hput:=HCV.out.put 3 _ (Q9 _ _ _ _ _) (HOK1.out);rw[← hVZ] at hput;have HCZ:=hid hput.1;have HBZ:=hid (Ar HBV.out hput.2);clear hVZ hput HCV HBV;refine hK _ _ ?_;clear hK K;refine wpAny_done (by kernel_rfl) ?_ _;have hcz:=HCZ.out;obtain⟨N1,hN1⟩:∃ k,M.ln.l.length=k:=⟨_,rfl⟩;have cm0:=A4 hcz.mach.blk 0 _ rfl;rw[Ak hN1] at cm0;have hlt1:n<N1:=by rw[← hN1];exact(List.getElem?_eq_some_iff.1 hx).1
        have hle1:N1≤64:=by have:=hcz.tb.rn;rw[BV,hN1] at this;exact this
        have hok1:=IP hcz.tb hx;obtain⟨LC,hLC⟩:∃ c,M.ln.c=c:=⟨_,rfl⟩;obtain⟨LA,hLA⟩:∃ a,M.ln.a=a:=⟨_,rfl⟩;have hlrow:=hcz.mach.ln.at_.row;rw[hLA] at hlrow;rw[hLA,hLC] at cm0;rcases hlrow with hnil | ⟨lb,lo,hlb,hlc⟩
        ·rw[hnil] at hx;cases hx
        rw[hlb] at cm0;have z1:=hlc n x hx 1 _ rfl;obtain⟨A,hA⟩:∃ a:Nat,x.ah=a:=⟨x.ah.toNat,by have:=hok1.ah.1;have e:x.rw.ah=x.ah:=rfl;omega⟩;obtain⟨ab,hab⟩:∃ b,Aa i.oc x.ah.toNat=b:=⟨_,rfl⟩;have HCL:Hid (Calls Tryz.prog 58 #[.pointer (some ⟨g,0,none⟩),.int .i64 x.ah] VZ fun e w'=>e = .returned (.bool (!ab))∧Below VZ.heap.size VZ w'):=hid (DZ ab g m u M _ i VZ hcz x.ah hok1.ah hab);have HAB:Hid (Aa i.oc x.rw.ah.toNat=ab):=hid hab;have l0:=A4 hcz.blk 0 _ (Ej _ _ _ _);have d1:(0:Int)≤n:=by omega
        have d2:(n:Int)<N1:=by omega
        have d3:(n:Int)<64:=by omega
        have HN64:Hid (n<64):=hid (by omega);clear hlc hok1 hx hcz hlt1 hle1 hN1 hLC hLA hlb hA hab;go_wp2_with fail;refine HCL.out.mono ?_;rintro e w5 ⟨rfl,hb⟩;have HC5:=hid (HCZ.out.below hb);have HB5:=hid (Ar HBZ.out (AI hb HCZ.out.gle));clear hb HCZ HBZ HCL l0 z1 cm0;cases ab with
        | true=>
          have l3:=A4 HC5.out.blk (4+n) _ (J9 _ _ _ _ HN64.out);have f3:=An HC5.out.blk (4+n);go_wp2_with fail;refine BP ?_;intro WZ hWZ;have hput:=HC5.out.put (4+n) _ (Kp _ _ _ _ 20 HN64.out) (HOK2.out);have e20:((20:Nat):Int)=20:=rfl;rw[e20,← hWZ] at hput;have HEND:=hid (And.intro hput.1 (Ar HB5.out hput.2));clear hWZ hput l3 f3;go_end0;rw[HYES.out,HAB.out];exact⟨rfl,HEND.out⟩
        | false=>
          go_wp2_with fail;go_end0;rw[HYES.out,HAB.out];exact⟨rfl,HC5.out,HB5.out⟩
end Go.Proofs.YtpohoannggdbjaaGreat
namespace Go.Proofs.YtpohoannggdbjaaGreat
open Lib (hid)
open Go.RowKit
set_option maxRecDepth 100000
theorem G8{p:Nat}(h:p≤31):IntKind.u32.wrap ((2:Int) ^ p)=((pw p:Nat):Int):=by
 have h1:pw p≤pw 31:=Nat.pow_le_pow_right (by omega) h;have h2:pw 31=2147483648:=by decide
 have h3:((2:Int) ^ p)=((pw p:Nat):Int):=by rw[MF];simp
 rw[h3,IntKind.wrap_u32];omega
theorem DF{n:Nat}(h:n≤31):pw n<4294967296:=Nat.pow_lt_pow_right (n:=32) (by omega) (by omega)
theorem F6{s n:Nat}(hn:n≤31)(hs:s<4294967296):bits .or .u32 (s:Int) ((pw n:Nat):Int)=((Ab s n:Nat):Int):=by
 rw[u32_or_nat s (pw n) hs (DF hn),Bo]
theorem Hr{s n:Nat}(hn:n≤31)(hs:s<4294967296):Ab s n<4294967296:=by
 rw[Bo];exact Nat.or_lt_two_pow (n:=32) hs (DF hn)
theorem GE{s n:Nat}(hn:n≤31)(hs:s<4294967296):bits .andNot .u32 (s:Int) ((pw n:Nat):Int)=((Ax s n:Nat):Int):=by
 have hp:=DF hn;rw[u32_andNot_nat s (pw n) hs hp,← Fa s n (by omega) (by omega)]
 congr 1
 refine Nat.eq_of_testBit_eq fun i=>?_
 rw[Nat.testBit_and,Nat.testBit_and,IV n i (by omega),show 4294967295 - pw n=2 ^ 32 - (pw n+1) by omega,Nat.testBit_two_pow_sub_succ hp,pw,Nat.testBit_two_pow];rcases Nat.lt_or_ge i 32 with h | h
 ·simp[h,show i<64 by omega]
 ·rw[Nat.testBit_lt_two_pow (Nat.lt_of_lt_of_le hs (Nat.pow_le_pow_right (n:=2) (by omega) h))];rfl
theorem FX{s n:Nat}(hs:s<4294967296):Ax s n<4294967296:=Nat.lt_of_le_of_lt (D8 s n) hs
theorem FS{s n:Nat}(hn:n≤31)(hs:s<4294967296):bits .xor .u32 (s:Int) ((pw n:Nat):Int)=((Bh s n:Nat):Int):=by
 rw[u32_xor_nat s (pw n) hs (DF hn)];rfl
theorem FH{s n:Nat}(hn:n≤31)(hs:s<4294967296):Bh s n<4294967296:=Nat.xor_lt_two_pow (n:=32) hs (DF hn)
theorem DL(M:Mc):M.tb.li=M.li.l:=rfl
theorem J3(T:Tb)(s:St)(p:Nat):BD T s p 0=false:=rfl
theorem FA{T:Tb}{s:St}{p k:Nat}{x:Rw}(h:T.rw[k]?=some x):BD T s p (k+1)=(BD T s p k || (Aa s.lk k && x.nd.any (fun n=>n.1 ==(p:Int)))):=by
 show(BD T s p k || (Aa s.lk k && ((T.rw[k]?).map (fun x=>x.nd.any (fun n=>n.1 ==(p:Int)))).getD false))=_;rw[h];rfl
theorem II{T:Tb}{s:St}{p k:Nat}(h:BD T s p k=true):∀ n,k≤n→BD T s p n=true:=by
 intro n hn;obtain⟨d,rfl⟩:∃ d,n=k+d:=⟨n - k,by omega⟩;clear hn
 induction d with
 | zero=>exact h
 | succ d ih=>show(BD T s p (k+d) || _)=true;rw[ih];rfl
theorem M8{T:Tb}{s:St}{oc p:Nat}(h:Bg T s oc p=false):BQ T s oc p=s:=by unfold BQ;rw[h];rfl
theorem Of{T:Tb}{s:St}{oc p:Nat}(h:Bg T s oc p=true):BQ T s oc p={ s with pt:=Bh s.pt p }:=by unfold BQ;rw[h];rfl
theorem Ib(T:Tb)(s:St)(oc p:Nat):Bg T s oc p=(!Aa oc (T.li.getD p 0).toNat && !BD T s p T.rw.length):=rfl
attribute [local irreducible] Sl.v Aa pw Ab Ax C4 Ai BG Cs Bi Bf B7 Cr BO AT Bk Bw BD Bh Bg BQ Bj BI BC BM AD AS AR Bc BB Bq CT Mc.tb BU AQ Aq AW
set_option maxHeartbeats 8000000 in
theorem OI(g m u:Nat)(M:Mc)(s:St)(i:CZ)(w:World)(hC:Cy w g m M s i u)(p:Nat)(hp:p<M.li.l.length) :
 Calls Tryz.prog 56 #[.pointer (some ⟨g,0,none⟩),.int .i64 (p:Int)] w fun e w'=>e = .returned (.tuple #[])∧Cy w' g m M (BQ M.tb s i.oc p) i u∧Below g w w':=by
 have hp31:p≤31:=by have h:=hC.tb.pn;rw[DL] at h;omega
 obtain⟨sec,hsec⟩:∃ c,M.li.l[p]?=some c:=⟨_,List.getElem?_eq_getElem hp⟩;have hsb:=hC.tb.li sec (by rw[DL];exact List.mem_of_getElem? hsec);have hget:M.tb.li.getD p 0=sec:=by rw[DL,List.getD_eq_getElem?_getD,hsec];rfl
 obtain⟨bo,hbo⟩:∃ b,Aa i.oc sec.toNat=b:=⟨_,rfl⟩;obtain⟨T,hT⟩:∃ T,BQ M.tb s i.oc p=T:=⟨_,rfl⟩;have HNO1:Hid (bo=true→T=s):=hid (fun h=>by rw[← hT];exact M8 (by rw[Ib,hget,hbo,h];rfl));have HNO2:Hid (BD M.tb s p M.ln.l.length=true→T=s):=hid (fun h=>by rw[← hT];exact M8 (by rw[Ib,BV,h];cases Aa i.oc (M.tb.li.getD p 0).toNat<;>rfl));have HYES:Hid ((!bo && !BD M.tb s p M.ln.l.length)=true→T={ s with pt:=Bh s.pt p }):=hid (fun h=>by rw[← hT];exact Of (by rw[Ib,hget,hbo,BV];exact h));have hs:=hC.sok;have HXO:Hid (bits .xor .u32 (s.pt:Int) ((pw p:Nat):Int)=((Bh s.pt p:Nat):Int)):=hid (FS hp31 hs.pt);have HOK1:Hid (St.ok { s with pt:=Bh s.pt p }):=hid ⟨hs.lk,hs.us,hs.ca,hs.tm,FH hp31 hs.pt⟩;have HP31:=hid hp31;have HLE:Hid (M.ln.l.length≤64):=hid (by have:=hC.tb.rn;rw[BV] at this;exact this);rw[hT];clear hT hs hp31 hget;obtain⟨N2,hN2⟩:∃ k,M.li.l.length=k:=⟨_,rfl⟩;have cm1:=A4 hC.mach.blk 1 _ rfl;rw[Ak hN2] at cm1;obtain⟨IC,hIC⟩:∃ c,M.li.c=c:=⟨_,rfl⟩;obtain⟨IA,hIA⟩:∃ a,M.li.a=a:=⟨_,rfl⟩;have hirow:=hC.mach.li.at_.row;rw[hIA] at hirow;rw[hIA,hIC] at cm1;rcases hirow with hnil | ⟨ib,io,hib,hic⟩
 ·rw[hnil] at hsec;cases hsec
 rw[hib] at cm1;have y0:=hic p sec hsec 0 _ rfl;rw[Nat.mul_one,Nat.add_zero] at y0;have HPL:Hid ((0:Int)≤p∧(p:Int)<N2):=hid (by omega);have HC:=hid hC;have HY:=hid y0;have HM:=hid cm1;have HSB:=hid hsb;have HBO:=hid hbo;clear hC y0 cm1 hic hib hIA hIC hN2 hsb hbo hsec hp;go_enter Tryz.func56,Tryz.ntmps56;go_upto_region 1 with fail
 have hbn:=Ac w (.cells #[.int .i64 (p:Int)] 3);have hqn:=Ao w (.cells #[.int .i64 (p:Int)] 3) (Below.refl _ _);obtain⟨V,hV⟩:∃ V,V=w.alloc (.cells #[.int .i64 (p:Int)] 3):=⟨_,rfl⟩;rw[← hV] at hbn hqn ⊢;obtain⟨gp,hgp⟩:∃ g,g=w.heap.size:=⟨_,rfl⟩;rw[← hgp] at hqn ⊢;have HBV0:=hid hbn;have HQP:=hid hqn;have HCV0:=hid (HC.out.below hbn);have HBG:=hid (AI hbn HC.out.gle);have HM1:=hid (cell_later hbn HM.out);have HY0:=hid (cell_later hbn HY.out);have KCL:Hid (∀ w',Below V.heap.size V w'→Calls Tryz.prog 58 #[.pointer (some ⟨g,0,none⟩),.int .i64 sec] w' fun e w''=>e = .returned (.bool (!bo))∧Below V.heap.size V w''):=hid (fun w' hw'=>(DZ bo g m u M s i w' (HCV0.out.below hw') sec HSB.out HBO.out).mono (fun _ _ h=>⟨h.1,A8 hw' h.2⟩));clear hbn hqn hV hgp HM HY;have d1:=HPL.out.1;have d2:=HPL.out.2;refine Ae (by kernel_rfl) ?_ ?_
 ·kernel_rfl
 repeat first
  | go_big_quiet_skip
  | (go_big_quiet_want;go_big_quiet_op;go_big_quiet_on)
  | (with_reducible apply wpQuiet_step
     intro K hK;go_simp;first
      | (refine hK _ ?_;clear hK K)
      | (apply Exists.intro
         refine⟨fun w' hw'=>?_,hK _ ?_⟩
         ·
          (first
           | with_reducible exact KCL.out _ hw'
           | (have g0:=A4 (HCV0.out.below hw').blk 0 _ (Ej _ _ _ _)
              go_simp;first | done | with_reducible exact rfl | with_reducible exact⟨rfl,rfl⟩ | with_reducible exact KCL.out _ hw')
           | (have g1:=cell_later hw' HM1.out
              go_simp;first | done | with_reducible exact rfl | with_reducible exact⟨rfl,rfl⟩ | with_reducible exact KCL.out _ hw')
           | (have g2:=A4 (A5 hw' HQP.out) 0 _ rfl
              go_simp;first | done | with_reducible exact rfl | with_reducible exact⟨rfl,rfl⟩ | with_reducible exact KCL.out _ hw')
           | (have g3:=cell_later hw' HY0.out
              go_simp;first | done | with_reducible exact rfl | with_reducible exact⟨rfl,rfl⟩ | with_reducible exact KCL.out _ hw'))
         clear hK K))
 refine wpQuiet_nil ?_;intro w7 hw7;have HB7:=hid (A8 HBV0.out hw7);have HB7X:=hid hw7;clear hw7;clear d1 d2;have HC0:=hid (HCV0.out.below (HB7X.out));have HQP0:=hid (A5 HB7X.out HQP.out);have HB00:=hid (Ar HBG.out (AI HB7X.out HCV0.out.gle));clear HCV0 HQP HBG HB7 HB7X KCL HM1 HY0 HPL;cases bo with
 | true=>
   go_wp2_with fail
   (try simp only[Exit.inBlock,Exit.then])
   refine bodyPost_ret (results_none rfl _ _ _) rfl ?_;exact⟨rfl,HNO1.out (by simp) ▸ HC0.out,HB00.out⟩
 | false=>
   have hc0:=HC0.out;obtain⟨N1,hN1⟩:∃ k,M.ln.l.length=k:=⟨_,rfl⟩;have cm0:=A4 hc0.mach.blk 0 _ rfl;rw[Ak hN1] at cm0;have l0:=A4 hc0.blk 0 _ (Ej _ _ _ _);rw[hN1] at HNO2 HYES HLE;have HN1:=hid hN1;clear hN1 hc0 HNO1;go_upto_region 3 with fail
   clear cm0 l0;go_loopg [27] N1 (fun g9 v wr=>∃ k:Nat,k+g9=N1∧v = .int .i64 (k:Int)∧BD M.tb s p k=false∧Below w7.heap.size w7 wr)
   case atStart=>exact⟨0,by omega,rfl,J3 _ _ _,Below.refl _ _⟩
   case round=>
    obtain⟨k,hk,rfl,hnn,hbw⟩:=hrel;have HK:=hid hk;have HNK:=hid hnn;have HB:=hid hbw;clear hk hnn hbw;by_cases hlt:k<N1
    ·have d1:(0:Int)≤k:=by omega
     have d2:(k:Int)<N1:=by omega
     have e1:=Bp hlt (Nat.le_trans HLE.out (by decide));have HLT:=hid hlt;obtain⟨x,hx⟩:∃ x,M.ln.l[k]?=some x:=⟨_,List.getElem?_eq_getElem (by rw[HN1.out];exact hlt)⟩;obtain⟨X,hX⟩:∃ a,M.ln.a=a:=⟨_,rfl⟩;have HXX:=hid hX;have HCR:=hid (HC0.out.below HB.out);have hlrow:=HCR.out.mach.ln.at_.row;rw[hX] at hlrow ⊢;rcases hlrow with hnil | ⟨lb,lo,hlb,hlc⟩
     ·rw[hnil] at hx;cases hx
     subst hlb;have HLC:=hid hlc;have hz:=HLC.out k x hx;have z0:=hz 0 _ rfl;have z1:=hz 1 _ rfl;have z2:=hz 2 _ rfl;have z3:=hz 3 _ rfl;have z4:=hz 4 _ rfl;rw[Nat.add_zero] at z0;obtain⟨t1,ht1⟩:∃ k,x.tk.l.length=k:=⟨_,rfl⟩;obtain⟨t2,ht2⟩:∃ k,x.nd.l.length=k:=⟨_,rfl⟩;obtain⟨t3,ht3⟩:∃ k,x.cf.l.length=k:=⟨_,rfl⟩;rw[Ak ht1] at z2;rw[Ak ht2] at z3;rw[Ak ht3] at z4;clear hz;obtain⟨bl,hbl⟩:∃ b,Aa s.lk k=b:=⟨_,rfl⟩;obtain⟨bm,hbm⟩:∃ b,x.nd.l.any (fun n=>n.1 ==(p:Int))=b:=⟨_,rfl⟩;have HNS:Hid (BD M.tb s p (k+1)=(bl && bm)):=hid (by rw[FA (GQ hx),HNK.out,hbl];show(false || (bl && x.nd.l.any _))=_;rw[hbm];rfl);have HK63:Hid (k≤63):=hid (by have:=HLE.out;omega);have HLKK:Hid (∀ V,Below wr.heap.size wr V→Calls Tryz.prog 34 #[.pointer (some ⟨g,0,none⟩),.int .i64 (k:Int)] V fun e w'=>e = .returned (.bool bl)∧Below V.heap.size V w'):=hid (fun V hV=>D0 bl g m u M s i V (HCR.out.below hV) k HK63.out hbl);have htm:=(HCR.out.mach.lns x (List.mem_of_getElem? hx)).nd.at_;have HMV:Hid (∀ V,Below wr.heap.size wr V→Calls Tryz.prog 60 #[.slice x.nd.a t2 x.nd.c,.func (.func 95) #[] #[.pointer (some ⟨gp,0,none⟩)]] V fun e w'=>e = .returned (.bool bm)∧Below V.heap.size V w'):=
      hid (fun V hV=>LN bm gp (fun n=>n.1 ==(p:Int)) x.nd.a t2 x.nd.c x.nd.l V hbm ht2 (by rw[← ht2];exact htm.lenM) (htm.row.below hV) (fun U hU y _=>Ok gp p y U (A5 (A8 (A8 HB.out hV) hU) HQP0.out)))
     clear hlc hX hx hlt hbl ht1 ht2 ht3 htm HLC hbm;go_upto_region 5 with fail
     have hbn:=Ac wr (.cells #[.int .i64 x.fi,.int .i64 x.ah,.slice x.tk.a t1 x.tk.c,.slice x.nd.a t2 x.nd.c,.slice x.cf.a t3 x.cf.c] 98);have hqn:=Ao wr (.cells #[.int .i64 x.fi,.int .i64 x.ah,.slice x.tk.a t1 x.tk.c,.slice x.nd.a t2 x.nd.c,.slice x.cf.a t3 x.cf.c] 98) (Below.refl _ _);obtain⟨V9,hV9⟩:∃ V,V=wr.alloc (.cells #[.int .i64 x.fi,.int .i64 x.ah,.slice x.tk.a t1 x.tk.c,.slice x.nd.a t2 x.nd.c,.slice x.cf.a t3 x.cf.c] 98):=⟨_,rfl⟩;rw[← hV9] at hbn hqn ⊢;obtain⟨g9,hg9⟩:∃ g,g=wr.heap.size:=⟨_,rfl⟩;rw[← hg9] at hqn ⊢;have HB9:=hid hbn;have HQ9:=hid hqn;clear hbn hqn hV9 hg9 z0 z1 z2 z3 z4;go_wp2_with fail;refine(HLKK.out _ HB9.out).mono ?_;rintro e w8 ⟨rfl,hb⟩;have HB8:=hid (A8 HB9.out hb);have HQ8:=hid (A5 hb HQ9.out);clear hb HB9 HQ9;cases bl with
     | false=>
       go_wp2_with fail;rw[← HXX.out];go_roundg (N1 - (k+1))
       case rel=>exact⟨k+1,AK HK.out HLT.out,by go_num,HNS.out,A8 HB.out HB8.out⟩
       case measure=>exact AL HK.out HLT.out
     | true=>
       have c3:=A4 HQ8.out 3 _ rfl;go_wp2_with fail;refine(HMV.out _ HB8.out).mono ?_;rintro e w9 ⟨rfl,hb⟩;have HBE:=hid (A8 HB.out (A8 HB8.out hb));clear hb c3;cases bm with
       | false=>
         go_wp2_with fail;rw[← HXX.out];go_roundg (N1 - (k+1))
         case rel=>exact⟨k+1,AK HK.out HLT.out,by go_num,HNS.out,HBE.out⟩
         case measure=>exact AL HK.out HLT.out
       | true=>
         go_wp2_with fail
         (try simp only[Exit.inBlock,Exit.then])
         refine bodyPost_ret (results_none rfl _ _ _) rfl ?_;have hall:=II (HNS.out) N1 HLT.out;exact⟨rfl,HNO2.out hall ▸ HC0.out.below HBE.out,Ar HB00.out (AI HBE.out HC0.out.gle)⟩
    ·have d2:¬ (k:Int)<N1:=by omega
     have HNN:Hid (BD M.tb s p N1=false):=hid (by rw[show N1=k by have:=HK.out;omega];exact HNK.out);have HCE:=hid (HC0.out.below HB.out);have HQE:=hid (A5 HB.out HQP0.out);have HBE:=hid (Ar HB00.out (AI HB.out HC0.out.gle));clear hlt HC0 HQP0 HB00 HB;obtain⟨HC0,HQP0,HB00⟩:=And.intro HCE (And.intro HQE HBE);clear HCE HQE HBE;go_upto_region 7 with fail
     refine Ah (by kernel_rfl) [11] 14 [0,1,2,3,4,5,6,7,8,9,10] [42,43,44,45,46,47,48,49,50,51,52] #[true,true,true,true,true,true,true,true,true,true,true,false] 1 [(fun v _=>v = .pointer (some ⟨g,0,none⟩)),(fun v _=>v = .pointer (some ⟨g,0,none⟩)),(fun v _=>v = .pointer (some ⟨g,1,none⟩)),(fun v _=>v = .pointer (some ⟨g,68,none⟩)),(fun v _=>v = .int .u32 (s.pt:Int)),(fun v _=>v = .int .i64 (p:Int)),(fun v _=>v = .int .u32 ((pw p:Nat):Int)),(fun v _=>v = .int .u32 ((Bh s.pt p:Nat):Int)),(fun v _=>v = .pointer (some ⟨g,0,none⟩)),(fun v _=>v = .pointer (some ⟨g,1,none⟩)),(fun v _=>v = .pointer (some ⟨g,68,none⟩)),(fun _ _=>True)] (by kernel_rfl) (by kernel_rfl) (by kernel_rfl) (by kernel_rfl) (by kernel_rfl) rfl (by kernel_rfl) rfl ?_ ?_ ?_
     ·exact⟨A7 _,A7 _,A7 _,A7 _,A7 _,A7 _,A7 _,A7 _,A7 _,A7 _,A7 _,Al,trivial⟩
     ·refine⟨?_,?_,?_,?_,?_,?_,?_,?_,?_,?_,?_,trivial⟩
      ·refine A6 (o:=⟨some 42,_,_,_,_,_⟩) rfl (fun r V hc hf hg hs hb hd=>?_);have x0:r (.tmp 0) = .pointer (some ⟨g,0,none⟩):=hs 0 (by kernel_rfl);clear hs hd hg;go_simp;exact⟨Below.refl _ _,rfl⟩
      ·refine A6 (o:=⟨some 43,_,_,_,_,_⟩) rfl (fun r V hc hf hg hs hb hd=>?_);have h0:r (.tmp 42) = .pointer (some ⟨g,0,none⟩):=hd 0 42 rfl (by kernel_rfl);clear hs hd hg;go_simp;exact⟨Below.refl _ _,rfl⟩
      ·refine A6 (o:=⟨some 44,_,_,_,_,_⟩) rfl (fun r V hc hf hg hs hb hd=>?_);have h1:r (.tmp 43) = .pointer (some ⟨g,0,none⟩):=hd 1 43 rfl (by kernel_rfl);clear hs hd hg;go_simp;exact⟨Below.refl _ _,rfl⟩
      ·refine A6 (o:=⟨some 45,_,_,_,_,_⟩) rfl (fun r V hc hf hg hs hb hd=>?_);have h2:r (.tmp 44) = .pointer (some ⟨g,1,none⟩):=hd 2 44 rfl (by kernel_rfl);clear hs hd hg;go_simp;exact⟨Below.refl _ _,rfl⟩
      ·refine A6 (o:=⟨some 46,_,_,_,_,_⟩) rfl (fun r V hc hf hg hs hb hd=>?_);have h3:r (.tmp 45) = .pointer (some ⟨g,68,none⟩):=hd 3 45 rfl (by kernel_rfl);clear hs hd hg;have l:=A4 (HC0.out.below hb).blk 68 _ (Fj _ _ _ _);go_simp;exact⟨Below.refl _ _,rfl⟩
      ·refine A6 (o:=⟨some 47,_,_,_,_,_⟩) rfl (fun r V hc hf hg hs hb hd=>?_);have x3:r (.tmp 3) = .pointer (some ⟨gp,0,none⟩):=hs 3 (by kernel_rfl);clear hs hd hg;have l:=A4 (A5 hb HQP0.out) 0 _ rfl;go_simp;exact⟨Below.refl _ _,rfl⟩
      ·refine A6 (o:=⟨some 48,_,_,_,_,_⟩) rfl (fun r V hc hf hg hs hb hd=>?_);have h5:r (.tmp 47) = .int .i64 (p:Int):=hd 5 47 rfl (by kernel_rfl);clear hs hd hg;have h31:=HP31.out;have h0:(0:Int)≤p:=by omega
       have h1:min p 32=p:=by omega
       have h2:¬ (32:Int)≤p:=by omega
       have hs1:=G8 h31;go_simp;exact⟨Below.refl _ _,by simp⟩
      ·refine A6 (o:=⟨some 49,_,_,_,_,_⟩) rfl (fun r V hc hf hg hs hb hd=>?_);have h4:r (.tmp 46) = .int .u32 (s.pt:Int):=hd 4 46 rfl (by kernel_rfl);have h6:r (.tmp 48) = .int .u32 ((pw p:Nat):Int):=hd 6 48 rfl (by kernel_rfl);clear hs hd hg;have ho1:=HXO.out;go_simp;exact⟨Below.refl _ _,rfl⟩
      ·refine A6 (o:=⟨some 50,_,_,_,_,_⟩) rfl (fun r V hc hf hg hs hb hd=>?_);have h0:r (.tmp 42) = .pointer (some ⟨g,0,none⟩):=hd 0 42 rfl (by kernel_rfl);clear hs hd hg;go_simp;exact⟨Below.refl _ _,rfl⟩
      ·refine A6 (o:=⟨some 51,_,_,_,_,_⟩) rfl (fun r V hc hf hg hs hb hd=>?_);have h8:r (.tmp 50) = .pointer (some ⟨g,0,none⟩):=hd 8 50 rfl (by kernel_rfl);clear hs hd hg;go_simp;exact⟨Below.refl _ _,rfl⟩
      ·refine A6 (o:=⟨some 52,_,_,_,_,_⟩) rfl (fun r V hc hf hg hs hb hd=>?_);have h9:r (.tmp 51) = .pointer (some ⟨g,1,none⟩):=hd 9 51 rfl (by kernel_rfl);clear hs hd hg;go_simp;exact⟨Below.refl _ _,rfl⟩
     ·intro a V hb hx;have h0:a.eval (.tmp 42) = .pointer (some ⟨g,0,none⟩):=hx 0 42 rfl rfl;have h1:a.eval (.tmp 43) = .pointer (some ⟨g,0,none⟩):=hx 1 43 rfl rfl;have h2:a.eval (.tmp 44) = .pointer (some ⟨g,1,none⟩):=hx 2 44 rfl rfl;have h3:a.eval (.tmp 45) = .pointer (some ⟨g,68,none⟩):=hx 3 45 rfl rfl;have h4:a.eval (.tmp 46) = .int .u32 (s.pt:Int):=hx 4 46 rfl rfl;have h5:a.eval (.tmp 47) = .int .i64 (p:Int):=hx 5 47 rfl rfl;have h6:a.eval (.tmp 48) = .int .u32 ((pw p:Nat):Int):=hx 6 48 rfl rfl;have h7:a.eval (.tmp 49) = .int .u32 ((Bh s.pt p:Nat):Int):=hx 7 49 rfl rfl;have h8:a.eval (.tmp 50) = .pointer (some ⟨g,0,none⟩):=hx 8 50 rfl rfl;have h9:a.eval (.tmp 51) = .pointer (some ⟨g,1,none⟩):=hx 9 51 rfl rfl;have h10:a.eval (.tmp 52) = .pointer (some ⟨g,68,none⟩):=hx 10 52 rfl rfl;unfold AA;simp only[List.foldl_cons,List.foldl_nil,h0,h1,h2,h3,h4,h5,h6,h7,h8,h9,h10,Act.put,List.setIfInBounds_toArray,List.set_cons_zero,List.set_cons_succ];clear h0 h1 h2 h3 h4 h5 h6 h7 h8 h9 h10 hx;have HCV:=hid (HC0.out.below hb);have HBV:=hid (Ar HB00.out (AI hb HC0.out.gle));clear hb;refine wpAny_ready (rs:=[11]) (by kernel_rfl) (by simp) (AllReady.cons (o:=⟨none,_,_,_,_,_⟩) rfl (fun K hK=>?_) AllReady.nil);have c0:=A4 HCV.out.blk 68 _ (Fj _ _ _ _);have f0:=An HCV.out.blk 68;have hl:=Af HCV.out.blk;go_simp;clear c0 f0 hl;refine AY ?_;intro VZ hVZ;have hput:=HCV.out.put 68 _ (Nj _ _ _ _ _) (HOK1.out);rw[← hVZ] at hput;have HCZ:=hid hput.1;have HBZ:=hid (Ar HBV.out hput.2);clear hVZ hput HCV HBV;refine hK _ _ ?_;clear hK K;refine wpAny_done (by kernel_rfl) ?_ _;go_wp2_with fail;go_end0;rw[HYES.out (by simp[HNN.out])];exact⟨rfl,HCZ.out,HBZ.out⟩
end Go.Proofs.YtpohoannggdbjaaGreat
