/- Layer 10: command. -/
import Derived.Test.YtpohoannggdbjaaGreatIxH
import Derived.Laws.EntriesVeiled
set_option maxRecDepth 100000
set_option maxHeartbeats 200000000
namespace Go.Proofs.YtpohoannggdbjaaGreat
open Lib (hid)
open Go.RowKit
theorem J0{can:St→Nat→Nat→Rw→St}{T:Tb}{s:St}{oc k:Nat}{n:Int}(h:n<0):Bo can T s oc (k,n)=s:=if_pos h
theorem QM{can:St→Nat→Nat→Rw→St}{T:Tb}{s:St}{oc n:Nat}(h:n<T.li.length):Bo can T s oc (3,(n:Int))=BP T s oc n:=by
 unfold Bo;dsimp only;rw[if_neg (by omega),if_pos rfl,Int.toNat_natCast,if_pos h]
theorem Om{can:St→Nat→Nat→Rw→St}{T:Tb}{s:St}{oc n:Nat}(h:¬ n<T.li.length):Bo can T s oc (3,(n:Int))=s:=by
 unfold Bo;dsimp only;rw[if_neg (by omega),if_pos rfl,Int.toNat_natCast,if_neg h]
theorem QN{can:St→Nat→Nat→Rw→St}{T:Tb}{s:St}{oc n:Nat}{x:Rw}(h:T.rw[n]?=some x):Bo can T s oc (1,(n:Int))=BQ T s oc n x:=by
 unfold Bo;dsimp only;rw[if_neg (by omega),if_neg (by omega),Int.toNat_natCast,h];rfl
theorem QL{can:St→Nat→Nat→Rw→St}{T:Tb}{s:St}{oc n:Nat}{x:Rw}(h:T.rw[n]?=some x):Bo can T s oc (2,(n:Int))=can s oc n x:=by
 unfold Bo;dsimp only;rw[if_neg (by omega),if_neg (by omega),Int.toNat_natCast,h];rfl
theorem M0{can:St→Nat→Nat→Rw→St}{T:Tb}{s:St}{oc n k:Nat}(hk:k≠3)(h:T.rw.length≤n):Bo can T s oc (k,(n:Int))=s:=by
 unfold Bo;dsimp only;rw[if_neg (by omega),if_neg hk,Int.toNat_natCast,List.getElem?_eq_none h]
theorem Ie{can:St→Nat→Nat→Rw→St}{T:Tb}{s:St}{oc k:Nat}{n:Int}(h:k≠1∧k≠2∧k≠3):Bo can T s oc (k,n)=s:=by
 unfold Bo;dsimp only;by_cases h0:n<0
 ·rw[if_pos h0]
 ·rw[if_neg h0,if_neg h.2.2];cases T.rw[n.toNat]? with
  | none=>rfl
  | some x=>dsimp only;rw[if_neg h.1,if_neg h.2.1]
attribute [local irreducible] Sl.v Aa pw Ab Aw C8 Af BC CD Bi Bg B9 CB BQ AU Bp BB BG Bh Bd BP Bo BL BF BN AI AY AV Be Bw Bq C4 Mc.tb BZ AX Ap B5
theorem N8(g m u:Nat)(M:Mc)(s:St)(i:Do)(w:World)(hC:Cy w g m M s i u)(n:Int) :
 Calls Tryz.prog 33 #[.pointer (some ⟨g,0,none⟩),.agg #[.int .u8 1,.int .i64 n]] w fun e w'=>e = .returned (.tuple #[])∧Cy w' g m M (Dd M.tb s i.oc (1,n)) i u∧Below g w w':=by
 obtain⟨N1,hN1⟩:=WY M.ln.l.length;obtain⟨N2,hN2⟩:=WY M.li.l.length;have cm0:=A4 hC.mach.blk 0 _ rfl;have cm1:=A4 hC.mach.blk 1 _ rfl;have hl0:=A4 hC.blk 0 _ (F5 _ _ _ _);rw[Ak hN1] at cm0;rw[Ak hN2] at cm1;have HN1:=hid hN1;have HN2:=hid hN2;have HC:=hid hC;clear hC hN1 hN2;go_enter Tryz.func33,Tryz.ntmps33;go_upto_region 2 with fail
 refine Ao (os:=[.cells #[.int .u8 1,.int .i64 n] 31,.cells #[.nilFunc,.func (.func 54) #[.pointer (some ⟨g,0,none⟩)] #[],.func (.func 55) #[.pointer (some ⟨g,0,none⟩)] #[],.func (.func 56) #[.pointer (some ⟨g,0,none⟩)] #[]] 120]) (w0:=w) rfl ?_;intro W hat hbw;have q0:=hat 0 _ rfl;have q1:=hat 1 _ rfl;rw[Wa] at q0;obtain⟨gx,hgx⟩:=X0 w.heap.size;obtain⟨gf,hgf⟩:=X0 (gx+1);rw[← hgx] at q0;rw[← hgx,← hgf] at q1;rw[← hgx,← hgf];have HQX:=hid q0;have HQF:=hid q1;have HBW:=hid hbw;have HCW:=hid (HC.o.below hbw);have HBG:=hid (AQ hbw HC.o.gle);have a0:=VY hbw hl0;have a1:=VY hbw cm0;have a2:=VY hbw cm1;have x0:=A4 q0 0 _ rfl;have x1:=A4 q0 1 _ rfl;clear hat hbw q0 q1 hgx hgf hl0 cm0 cm1 HC HBW;have y1:=A4 HQF.o 1 _ rfl;have xn:∀ w:World,(binOp .neq 105 (.func (.func 54) #[.pointer (some ⟨g,0,none⟩)] #[]) .nilFunc).run Tryz.prog w = .ok (.bool true) w:=fun _=>by kernel_rfl
 by_cases h0:n<0
 ·have d1:¬ (0:Int)≤n:=(by omega);have HNG:=hid h0;clear h0;go_wp2_with fail;go_end0;rw[show Dd=Bo Bp from rfl,J0 HNG.o];exact⟨rfl,HCW.o,HBG.o⟩
 ·obtain⟨k,rfl⟩:∃ k:Nat,n=k:=⟨n.toNat,by omega⟩;have d1:(0:Int)≤(k:Int):=(by omega);clear h0;by_cases hlt:k<N1
  ·have d2:(k:Int)<(N1:Int):=(by omega);have HLT:=hid hlt;clear hlt;go_upto_region 6 with fail
   clear a0 a1 a2 x0 x1 y1 xn d1 d2;obtain⟨x,hx⟩:∃ x,M.ln.l[k]?=some x:=⟨_,Wb (by rw[HN1.o];exact HLT.o)⟩;have HX:=hid hx;clear hx;refine Am (by kernel_rfl) [6] 9 [0,1,2,3,4,5] [54,55,56,57,58,59] #[true,true,true,true,true,true,false] 1 [(fun v _=>v = .pointer (some ⟨gx,0,none⟩)),(fun v _=>v = .int .u8 1),(fun v _=>v = .pointer (some ⟨gf,1,none⟩)),(fun v _=>v = .func (.func 54) #[.pointer (some ⟨g,0,none⟩)] #[]),(fun v _=>v = .pointer (some ⟨gx,1,none⟩)),(fun v _=>v = .int .i64 (k:Int)),(fun _ _=>True)] (by kernel_rfl) (by kernel_rfl) (by kernel_rfl) (by kernel_rfl) (by kernel_rfl) rfl (by kernel_rfl) rfl ?_ ?_ ?_
   ·exact⟨A8 _,A8 _,A8 _,A8 _,A8 _,A8 _,An,trivial⟩
   ·refine⟨?_,?_,?_,?_,?_,?_,trivial⟩
    ·refine A7 (o:=⟨some 54,_,_,_,_,_⟩) rfl (fun r V hc hf hg hs hb hd=>?_);have x3:r (.tmp 3) = .pointer (some ⟨gx,0,none⟩):=hs 3 (by kernel_rfl);clear hs hd hg;go_simp;exact X1
    ·refine A7 (o:=⟨some 55,_,_,_,_,_⟩) rfl (fun r V hc hf hg hs hb hd=>?_);have h0:r (.tmp 54) = .pointer (some ⟨gx,0,none⟩):=hd 0 54 rfl (by kernel_rfl);clear hs hd hg;have l:=A4 (A5 hb HQX.o) 0 _ rfl;go_simp;exact X1
    ·refine A7 (o:=⟨some 56,_,_,_,_,_⟩) rfl (fun r V hc hf hg hs hb hd=>?_);have x4:r (.tmp 4) = .pointer (some ⟨gf,0,none⟩):=hs 4 (by kernel_rfl);have h1:r (.tmp 55) = .int .u8 1:=hd 1 55 rfl (by kernel_rfl);clear hs hd hg;go_simp;exact X1
    ·refine A7 (o:=⟨some 57,_,_,_,_,_⟩) rfl (fun r V hc hf hg hs hb hd=>?_);have h2:r (.tmp 56) = .pointer (some ⟨gf,1,none⟩):=hd 2 56 rfl (by kernel_rfl);clear hs hd hg;have l:=A4 (A5 hb HQF.o) 1 _ rfl;go_simp;exact X1
    ·refine A7 (o:=⟨some 58,_,_,_,_,_⟩) rfl (fun r V hc hf hg hs hb hd=>?_);have x3:r (.tmp 3) = .pointer (some ⟨gx,0,none⟩):=hs 3 (by kernel_rfl);clear hs hd hg;go_simp;exact X1
    ·refine A7 (o:=⟨some 59,_,_,_,_,_⟩) rfl (fun r V hc hf hg hs hb hd=>?_);have h4:r (.tmp 58) = .pointer (some ⟨gx,1,none⟩):=hd 4 58 rfl (by kernel_rfl);clear hs hd hg;have l:=A4 (A5 hb HQX.o) 1 _ rfl;go_simp;exact X1
   ·intro a V hb hx;have h0:a.eval (.tmp 54) = .pointer (some ⟨gx,0,none⟩):=hx 0 54 rfl rfl;have h1:a.eval (.tmp 55) = .int .u8 1:=hx 1 55 rfl rfl;have h2:a.eval (.tmp 56) = .pointer (some ⟨gf,1,none⟩):=hx 2 56 rfl rfl;have h3:a.eval (.tmp 57) = .func (.func 54) #[.pointer (some ⟨g,0,none⟩)] #[]:=hx 3 57 rfl rfl;have h4:a.eval (.tmp 58) = .pointer (some ⟨gx,1,none⟩):=hx 4 58 rfl rfl;have h5:a.eval (.tmp 59) = .int .i64 (k:Int):=hx 5 59 rfl rfl;unfold AD;simp only[Wi,Wj,h0,h1,h2,h3,h4,h5,Act.put,VW,VX,VV];clear h0 h1 h2 h3 h4 h5 hx;have HCV:=hid (HCW.o.below hb);have HBV:=hid (Ar HBG.o (AQ hb HCW.o.gle));clear hb;refine wpAny_ready (rs:=[6]) (by kernel_rfl) (by simp) (AllReady.cons (o:=⟨some 60,_,_,_,_,_⟩) rfl (fun K hK=>?_) AllReady.nil);go_simp;refine(U3 g m u M s i V HCV.o k x HX.o).mono ?_;rintro e w5 ⟨rfl,hc,hb⟩;have HCE:=hid hc;have HBE:=hid (Ar HBV.o hb);clear hc hb;refine hK _ _ ?_;clear hK K;refine wpAny_done (by kernel_rfl) ?_ _;go_wp2_with fail;go_end0;rw[show Dd=Bo Bp from rfl,QN (II HX.o)];exact⟨rfl,HCE.o,HBE.o⟩
  ·have d2:¬ (k:Int)<(N1:Int):=(by omega);have HLT:=hid hlt;clear hlt;go_wp2_with fail;go_end0;rw[show Dd=Bo Bp from rfl,M0 (by omega) (by rw[Ce,HN1.o];have:=HLT.o;omega)];exact⟨rfl,HCW.o,HBG.o⟩
theorem N9(g m u:Nat)(M:Mc)(s:St)(i:Do)(w:World)(hC:Cy w g m M s i u)(n:Int) :
 Calls Tryz.prog 33 #[.pointer (some ⟨g,0,none⟩),.agg #[.int .u8 2,.int .i64 n]] w fun e w'=>e = .returned (.tuple #[])∧Cy w' g m M (Dd M.tb s i.oc (2,n)) i u∧Below g w w':=by
 obtain⟨N1,hN1⟩:=WY M.ln.l.length;obtain⟨N2,hN2⟩:=WY M.li.l.length;have cm0:=A4 hC.mach.blk 0 _ rfl;have cm1:=A4 hC.mach.blk 1 _ rfl;have hl0:=A4 hC.blk 0 _ (F5 _ _ _ _);rw[Ak hN1] at cm0;rw[Ak hN2] at cm1;have HN1:=hid hN1;have HN2:=hid hN2;have HC:=hid hC;clear hC hN1 hN2;go_enter Tryz.func33,Tryz.ntmps33;go_upto_region 2 with fail
 refine Ao (os:=[.cells #[.int .u8 2,.int .i64 n] 31,.cells #[.nilFunc,.func (.func 54) #[.pointer (some ⟨g,0,none⟩)] #[],.func (.func 55) #[.pointer (some ⟨g,0,none⟩)] #[],.func (.func 56) #[.pointer (some ⟨g,0,none⟩)] #[]] 120]) (w0:=w) rfl ?_;intro W hat hbw;have q0:=hat 0 _ rfl;have q1:=hat 1 _ rfl;rw[Wa] at q0;obtain⟨gx,hgx⟩:=X0 w.heap.size;obtain⟨gf,hgf⟩:=X0 (gx+1);rw[← hgx] at q0;rw[← hgx,← hgf] at q1;rw[← hgx,← hgf];have HQX:=hid q0;have HQF:=hid q1;have HBW:=hid hbw;have HCW:=hid (HC.o.below hbw);have HBG:=hid (AQ hbw HC.o.gle);have a0:=VY hbw hl0;have a1:=VY hbw cm0;have a2:=VY hbw cm1;have x0:=A4 q0 0 _ rfl;have x1:=A4 q0 1 _ rfl;clear hat hbw q0 q1 hgx hgf hl0 cm0 cm1 HC HBW;have y2:=A4 HQF.o 2 _ rfl;have xn:∀ w:World,(binOp .neq 105 (.func (.func 55) #[.pointer (some ⟨g,0,none⟩)] #[]) .nilFunc).run Tryz.prog w = .ok (.bool true) w:=fun _=>by kernel_rfl
 by_cases h0:n<0
 ·have d1:¬ (0:Int)≤n:=(by omega);have HNG:=hid h0;clear h0;go_wp2_with fail;go_end0;rw[show Dd=Bo Bp from rfl,J0 HNG.o];exact⟨rfl,HCW.o,HBG.o⟩
 ·obtain⟨k,rfl⟩:∃ k:Nat,n=k:=⟨n.toNat,by omega⟩;have d1:(0:Int)≤(k:Int):=(by omega);clear h0;by_cases hlt:k<N1
  ·have d2:(k:Int)<(N1:Int):=(by omega);have HLT:=hid hlt;clear hlt;go_upto_region 6 with fail
   clear a0 a1 a2 x0 x1 y2 xn d1 d2;obtain⟨x,hx⟩:∃ x,M.ln.l[k]?=some x:=⟨_,Wb (by rw[HN1.o];exact HLT.o)⟩;have HX:=hid hx;clear hx;refine Am (by kernel_rfl) [6] 9 [0,1,2,3,4,5] [54,55,56,57,58,59] #[true,true,true,true,true,true,false] 1 [(fun v _=>v = .pointer (some ⟨gx,0,none⟩)),(fun v _=>v = .int .u8 2),(fun v _=>v = .pointer (some ⟨gf,2,none⟩)),(fun v _=>v = .func (.func 55) #[.pointer (some ⟨g,0,none⟩)] #[]),(fun v _=>v = .pointer (some ⟨gx,1,none⟩)),(fun v _=>v = .int .i64 (k:Int)),(fun _ _=>True)] (by kernel_rfl) (by kernel_rfl) (by kernel_rfl) (by kernel_rfl) (by kernel_rfl) rfl (by kernel_rfl) rfl ?_ ?_ ?_
   ·exact⟨A8 _,A8 _,A8 _,A8 _,A8 _,A8 _,An,trivial⟩
   ·refine⟨?_,?_,?_,?_,?_,?_,trivial⟩
    ·refine A7 (o:=⟨some 54,_,_,_,_,_⟩) rfl (fun r V hc hf hg hs hb hd=>?_);have x3:r (.tmp 3) = .pointer (some ⟨gx,0,none⟩):=hs 3 (by kernel_rfl);clear hs hd hg;go_simp;exact X1
    ·refine A7 (o:=⟨some 55,_,_,_,_,_⟩) rfl (fun r V hc hf hg hs hb hd=>?_);have h0:r (.tmp 54) = .pointer (some ⟨gx,0,none⟩):=hd 0 54 rfl (by kernel_rfl);clear hs hd hg;have l:=A4 (A5 hb HQX.o) 0 _ rfl;go_simp;exact X1
    ·refine A7 (o:=⟨some 56,_,_,_,_,_⟩) rfl (fun r V hc hf hg hs hb hd=>?_);have x4:r (.tmp 4) = .pointer (some ⟨gf,0,none⟩):=hs 4 (by kernel_rfl);have h1:r (.tmp 55) = .int .u8 2:=hd 1 55 rfl (by kernel_rfl);clear hs hd hg;go_simp;exact X1
    ·refine A7 (o:=⟨some 57,_,_,_,_,_⟩) rfl (fun r V hc hf hg hs hb hd=>?_);have h2:r (.tmp 56) = .pointer (some ⟨gf,2,none⟩):=hd 2 56 rfl (by kernel_rfl);clear hs hd hg;have l:=A4 (A5 hb HQF.o) 2 _ rfl;go_simp;exact X1
    ·refine A7 (o:=⟨some 58,_,_,_,_,_⟩) rfl (fun r V hc hf hg hs hb hd=>?_);have x3:r (.tmp 3) = .pointer (some ⟨gx,0,none⟩):=hs 3 (by kernel_rfl);clear hs hd hg;go_simp;exact X1
    ·refine A7 (o:=⟨some 59,_,_,_,_,_⟩) rfl (fun r V hc hf hg hs hb hd=>?_);have h4:r (.tmp 58) = .pointer (some ⟨gx,1,none⟩):=hd 4 58 rfl (by kernel_rfl);clear hs hd hg;have l:=A4 (A5 hb HQX.o) 1 _ rfl;go_simp;exact X1
   ·intro a V hb hx;have h0:a.eval (.tmp 54) = .pointer (some ⟨gx,0,none⟩):=hx 0 54 rfl rfl;have h1:a.eval (.tmp 55) = .int .u8 2:=hx 1 55 rfl rfl;have h2:a.eval (.tmp 56) = .pointer (some ⟨gf,2,none⟩):=hx 2 56 rfl rfl;have h3:a.eval (.tmp 57) = .func (.func 55) #[.pointer (some ⟨g,0,none⟩)] #[]:=hx 3 57 rfl rfl;have h4:a.eval (.tmp 58) = .pointer (some ⟨gx,1,none⟩):=hx 4 58 rfl rfl;have h5:a.eval (.tmp 59) = .int .i64 (k:Int):=hx 5 59 rfl rfl;unfold AD;simp only[Wi,Wj,h0,h1,h2,h3,h4,h5,Act.put,VW,VX,VV];clear h0 h1 h2 h3 h4 h5 hx;have HCV:=hid (HCW.o.below hb);have HBV:=hid (Ar HBG.o (AQ hb HCW.o.gle));clear hb;refine wpAny_ready (rs:=[6]) (by kernel_rfl) (by simp) (AllReady.cons (o:=⟨some 60,_,_,_,_,_⟩) rfl (fun K hK=>?_) AllReady.nil);go_simp;refine(MY g m u M s i V HCV.o k x HX.o).mono ?_;rintro e w5 ⟨rfl,hc,hb⟩;have HCE:=hid hc;have HBE:=hid (Ar HBV.o hb);clear hc hb;refine hK _ _ ?_;clear hK K;refine wpAny_done (by kernel_rfl) ?_ _;go_wp2_with fail;go_end0;rw[show Dd=Bo Bp from rfl,QL (II HX.o)];exact⟨rfl,HCE.o,HBE.o⟩
  ·have d2:¬ (k:Int)<(N1:Int):=(by omega);have HLT:=hid hlt;clear hlt;go_wp2_with fail;go_end0;rw[show Dd=Bo Bp from rfl,M0 (by omega) (by rw[Ce,HN1.o];have:=HLT.o;omega)];exact⟨rfl,HCW.o,HBG.o⟩
theorem Na(g m u:Nat)(M:Mc)(s:St)(i:Do)(w:World)(hC:Cy w g m M s i u)(n:Int) :
 Calls Tryz.prog 33 #[.pointer (some ⟨g,0,none⟩),.agg #[.int .u8 3,.int .i64 n]] w fun e w'=>e = .returned (.tuple #[])∧Cy w' g m M (Dd M.tb s i.oc (3,n)) i u∧Below g w w':=by
 obtain⟨N1,hN1⟩:=WY M.ln.l.length;obtain⟨N2,hN2⟩:=WY M.li.l.length;have cm0:=A4 hC.mach.blk 0 _ rfl;have cm1:=A4 hC.mach.blk 1 _ rfl;have hl0:=A4 hC.blk 0 _ (F5 _ _ _ _);rw[Ak hN1] at cm0;rw[Ak hN2] at cm1;have HN1:=hid hN1;have HN2:=hid hN2;have HC:=hid hC;clear hC hN1 hN2;go_enter Tryz.func33,Tryz.ntmps33;go_upto_region 2 with fail
 refine Ao (os:=[.cells #[.int .u8 3,.int .i64 n] 31,.cells #[.nilFunc,.func (.func 54) #[.pointer (some ⟨g,0,none⟩)] #[],.func (.func 55) #[.pointer (some ⟨g,0,none⟩)] #[],.func (.func 56) #[.pointer (some ⟨g,0,none⟩)] #[]] 120]) (w0:=w) rfl ?_;intro W hat hbw;have q0:=hat 0 _ rfl;have q1:=hat 1 _ rfl;rw[Wa] at q0;obtain⟨gx,hgx⟩:=X0 w.heap.size;obtain⟨gf,hgf⟩:=X0 (gx+1);rw[← hgx] at q0;rw[← hgx,← hgf] at q1;rw[← hgx,← hgf];have HQX:=hid q0;have HQF:=hid q1;have HBW:=hid hbw;have HCW:=hid (HC.o.below hbw);have HBG:=hid (AQ hbw HC.o.gle);have a0:=VY hbw hl0;have a1:=VY hbw cm0;have a2:=VY hbw cm1;have x0:=A4 q0 0 _ rfl;have x1:=A4 q0 1 _ rfl;clear hat hbw q0 q1 hgx hgf hl0 cm0 cm1 HC HBW;have y3:=A4 HQF.o 3 _ rfl;have xn:∀ w:World,(binOp .neq 105 (.func (.func 56) #[.pointer (some ⟨g,0,none⟩)] #[]) .nilFunc).run Tryz.prog w = .ok (.bool true) w:=fun _=>by kernel_rfl
 by_cases h0:n<0
 ·have d1:¬ (0:Int)≤n:=(by omega);have HNG:=hid h0;clear h0;go_wp2_with fail;go_end0;rw[show Dd=Bo Bp from rfl,J0 HNG.o];exact⟨rfl,HCW.o,HBG.o⟩
 ·obtain⟨k,rfl⟩:∃ k:Nat,n=k:=⟨n.toNat,by omega⟩;have d1:(0:Int)≤(k:Int):=(by omega);clear h0;by_cases hlt:k<N2
  ·have d2:(k:Int)<(N2:Int):=(by omega);have HLT:=hid hlt;clear hlt;go_upto_region 6 with fail
   clear a0 a1 a2 x0 x1 y3 xn d1 d2;refine Am (by kernel_rfl) [6] 9 [0,1,2,3,4,5] [54,55,56,57,58,59] #[true,true,true,true,true,true,false] 1 [(fun v _=>v = .pointer (some ⟨gx,0,none⟩)),(fun v _=>v = .int .u8 3),(fun v _=>v = .pointer (some ⟨gf,3,none⟩)),(fun v _=>v = .func (.func 56) #[.pointer (some ⟨g,0,none⟩)] #[]),(fun v _=>v = .pointer (some ⟨gx,1,none⟩)),(fun v _=>v = .int .i64 (k:Int)),(fun _ _=>True)] (by kernel_rfl) (by kernel_rfl) (by kernel_rfl) (by kernel_rfl) (by kernel_rfl) rfl (by kernel_rfl) rfl ?_ ?_ ?_
   ·exact⟨A8 _,A8 _,A8 _,A8 _,A8 _,A8 _,An,trivial⟩
   ·refine⟨?_,?_,?_,?_,?_,?_,trivial⟩
    ·refine A7 (o:=⟨some 54,_,_,_,_,_⟩) rfl (fun r V hc hf hg hs hb hd=>?_);have x3:r (.tmp 3) = .pointer (some ⟨gx,0,none⟩):=hs 3 (by kernel_rfl);clear hs hd hg;go_simp;exact X1
    ·refine A7 (o:=⟨some 55,_,_,_,_,_⟩) rfl (fun r V hc hf hg hs hb hd=>?_);have h0:r (.tmp 54) = .pointer (some ⟨gx,0,none⟩):=hd 0 54 rfl (by kernel_rfl);clear hs hd hg;have l:=A4 (A5 hb HQX.o) 0 _ rfl;go_simp;exact X1
    ·refine A7 (o:=⟨some 56,_,_,_,_,_⟩) rfl (fun r V hc hf hg hs hb hd=>?_);have x4:r (.tmp 4) = .pointer (some ⟨gf,0,none⟩):=hs 4 (by kernel_rfl);have h1:r (.tmp 55) = .int .u8 3:=hd 1 55 rfl (by kernel_rfl);clear hs hd hg;go_simp;exact X1
    ·refine A7 (o:=⟨some 57,_,_,_,_,_⟩) rfl (fun r V hc hf hg hs hb hd=>?_);have h2:r (.tmp 56) = .pointer (some ⟨gf,3,none⟩):=hd 2 56 rfl (by kernel_rfl);clear hs hd hg;have l:=A4 (A5 hb HQF.o) 3 _ rfl;go_simp;exact X1
    ·refine A7 (o:=⟨some 58,_,_,_,_,_⟩) rfl (fun r V hc hf hg hs hb hd=>?_);have x3:r (.tmp 3) = .pointer (some ⟨gx,0,none⟩):=hs 3 (by kernel_rfl);clear hs hd hg;go_simp;exact X1
    ·refine A7 (o:=⟨some 59,_,_,_,_,_⟩) rfl (fun r V hc hf hg hs hb hd=>?_);have h4:r (.tmp 58) = .pointer (some ⟨gx,1,none⟩):=hd 4 58 rfl (by kernel_rfl);clear hs hd hg;have l:=A4 (A5 hb HQX.o) 1 _ rfl;go_simp;exact X1
   ·intro a V hb hx;have h0:a.eval (.tmp 54) = .pointer (some ⟨gx,0,none⟩):=hx 0 54 rfl rfl;have h1:a.eval (.tmp 55) = .int .u8 3:=hx 1 55 rfl rfl;have h2:a.eval (.tmp 56) = .pointer (some ⟨gf,3,none⟩):=hx 2 56 rfl rfl;have h3:a.eval (.tmp 57) = .func (.func 56) #[.pointer (some ⟨g,0,none⟩)] #[]:=hx 3 57 rfl rfl;have h4:a.eval (.tmp 58) = .pointer (some ⟨gx,1,none⟩):=hx 4 58 rfl rfl;have h5:a.eval (.tmp 59) = .int .i64 (k:Int):=hx 5 59 rfl rfl;unfold AD;simp only[Wi,Wj,h0,h1,h2,h3,h4,h5,Act.put,VW,VX,VV];clear h0 h1 h2 h3 h4 h5 hx;have HCV:=hid (HCW.o.below hb);have HBV:=hid (Ar HBG.o (AQ hb HCW.o.gle));clear hb;refine wpAny_ready (rs:=[6]) (by kernel_rfl) (by simp) (AllReady.cons (o:=⟨some 60,_,_,_,_,_⟩) rfl (fun K hK=>?_) AllReady.nil);go_simp;refine(RH g m u M s i V HCV.o k (by rw[HN2.o];exact HLT.o)).mono ?_;rintro e w5 ⟨rfl,hc,hb⟩;have HCE:=hid hc;have HBE:=hid (Ar HBV.o hb);clear hc hb;refine hK _ _ ?_;clear hK K;refine wpAny_done (by kernel_rfl) ?_ _;go_wp2_with fail;go_end0;rw[show Dd=Bo Bp from rfl,QM (by rw[Em,HN2.o];exact HLT.o)];exact⟨rfl,HCE.o,HBE.o⟩
  ·have d2:¬ (k:Int)<(N2:Int):=(by omega);have HLT:=hid hlt;clear hlt;go_wp2_with fail;go_end0;rw[show Dd=Bo Bp from rfl,Om (by rw[Em,HN2.o];exact HLT.o)];exact⟨rfl,HCW.o,HBG.o⟩
theorem N7(g m u:Nat)(M:Mc)(s:St)(i:Do)(w:World)(hC:Cy w g m M s i u)(n:Int) :
 Calls Tryz.prog 33 #[.pointer (some ⟨g,0,none⟩),.agg #[.int .u8 0,.int .i64 n]] w fun e w'=>e = .returned (.tuple #[])∧Cy w' g m M (Dd M.tb s i.oc (0,n)) i u∧Below g w w':=by
 obtain⟨N1,hN1⟩:=WY M.ln.l.length;obtain⟨N2,hN2⟩:=WY M.li.l.length;have cm0:=A4 hC.mach.blk 0 _ rfl;have cm1:=A4 hC.mach.blk 1 _ rfl;have hl0:=A4 hC.blk 0 _ (F5 _ _ _ _);rw[Ak hN1] at cm0;rw[Ak hN2] at cm1;have HN1:=hid hN1;have HN2:=hid hN2;have HC:=hid hC;clear hC hN1 hN2;go_enter Tryz.func33,Tryz.ntmps33;go_upto_region 2 with fail
 refine Ao (os:=[.cells #[.int .u8 0,.int .i64 n] 31,.cells #[.nilFunc,.func (.func 54) #[.pointer (some ⟨g,0,none⟩)] #[],.func (.func 55) #[.pointer (some ⟨g,0,none⟩)] #[],.func (.func 56) #[.pointer (some ⟨g,0,none⟩)] #[]] 120]) (w0:=w) rfl ?_;intro W hat hbw;have q0:=hat 0 _ rfl;have q1:=hat 1 _ rfl;rw[Wa] at q0;obtain⟨gx,hgx⟩:=X0 w.heap.size;obtain⟨gf,hgf⟩:=X0 (gx+1);rw[← hgx] at q0;rw[← hgx,← hgf] at q1;rw[← hgx,← hgf];have HQX:=hid q0;have HQF:=hid q1;have HBW:=hid hbw;have HCW:=hid (HC.o.below hbw);have HBG:=hid (AQ hbw HC.o.gle);have a0:=VY hbw hl0;have a1:=VY hbw cm0;have a2:=VY hbw cm1;have x0:=A4 q0 0 _ rfl;have x1:=A4 q0 1 _ rfl;clear hat hbw q0 q1 hgx hgf hl0 cm0 cm1 HC HBW;have y0:=A4 HQF.o 0 _ rfl;have xn:∀ w:World,(binOp .neq 105 (.nilFunc) .nilFunc).run Tryz.prog w = .ok (.bool false) w:=fun _=>by kernel_rfl
 go_wp2_with fail;go_end0;rw[show Dd=Bo Bp from rfl,Ie (by omega)];exact⟨rfl,HCW.o,HBG.o⟩
theorem Nb(g m u:Nat)(M:Mc)(s:St)(i:Do)(w:World)(hC:Cy w g m M s i u)(k:Nat)(hk:4≤k)(hk2:k≤255)(n:Int) :
 Calls Tryz.prog 33 #[.pointer (some ⟨g,0,none⟩),.agg #[.int .u8 (k:Int),.int .i64 n]] w fun e w'=>e = .returned (.tuple #[])∧Cy w' g m M (Dd M.tb s i.oc (k,n)) i u∧Below g w w':=by
 have HK:=hid hk;have d1:((k:Int) == 3)=false:=by rw[beq_eq_false_iff_ne];omega
 have d2:¬ (k:Int)<4:=by omega
 have d3:wrap64 (k:Int)=k:=by unfold wrap64;omega
 clear hk hk2;obtain⟨N1,hN1⟩:=WY M.ln.l.length;obtain⟨N2,hN2⟩:=WY M.li.l.length;have cm0:=A4 hC.mach.blk 0 _ rfl;have cm1:=A4 hC.mach.blk 1 _ rfl;have hl0:=A4 hC.blk 0 _ (F5 _ _ _ _);rw[Ak hN1] at cm0;rw[Ak hN2] at cm1;have HN1:=hid hN1;have HN2:=hid hN2;have HC:=hid hC;clear hC hN1 hN2;go_enter Tryz.func33,Tryz.ntmps33;go_upto_region 2 with fail
 refine Ao (os:=[.cells #[.int .u8 (k:Int),.int .i64 n] 31,.cells #[.nilFunc,.func (.func 54) #[.pointer (some ⟨g,0,none⟩)] #[],.func (.func 55) #[.pointer (some ⟨g,0,none⟩)] #[],.func (.func 56) #[.pointer (some ⟨g,0,none⟩)] #[]] 120]) (w0:=w) rfl ?_;intro W hat hbw;have q0:=hat 0 _ rfl;have q1:=hat 1 _ rfl;rw[Wa] at q0;obtain⟨gx,hgx⟩:=X0 w.heap.size;obtain⟨gf,hgf⟩:=X0 (gx+1);rw[← hgx] at q0;rw[← hgx,← hgf] at q1;rw[← hgx,← hgf];have HQX:=hid q0;have HQF:=hid q1;have HBW:=hid hbw;have HCW:=hid (HC.o.below hbw);have HBG:=hid (AQ hbw HC.o.gle);have a0:=VY hbw hl0;have a1:=VY hbw cm0;have a2:=VY hbw cm1;have x0:=A4 q0 0 _ rfl;have x1:=A4 q0 1 _ rfl;clear hat hbw q0 q1 hgx hgf hl0 cm0 cm1 HC HBW;go_wp2_with fail;go_end0;rw[show Dd=Bo Bp from rfl,Ie (by have:=HK.o;omega)];exact⟨rfl,HCW.o,HBG.o⟩
theorem Lb(g m u:Nat)(M:Mc)(s:St)(i:Do)(w:World)(hC:Cy w g m M s i u)(k:Nat)(hk:k≤255)(n:Int) :
 Calls Tryz.prog 33 #[.pointer (some ⟨g,0,none⟩),.agg #[.int .u8 (k:Int),.int .i64 n]] w fun e w'=>e = .returned (.tuple #[])∧Cy w' g m M (Dd M.tb s i.oc (k,n)) i u∧Below g w w':=by
 by_cases h4:4≤k
 ·exact Nb g m u M s i w hC k h4 hk n
 ·have h:k=0∨k=1∨k=2∨k=3:=(by omega);rcases h with rfl | rfl | rfl | rfl
  ·exact N7 g m u M s i w hC n
  ·exact N8 g m u M s i w hC n
  ·exact N9 g m u M s i w hC n
  ·exact Na g m u M s i w hC n
end Go.Proofs.YtpohoannggdbjaaGreat
