/- Layer 10: in, Sides, the library's ContainsFunc with the closures of ilxa. -/
import Derived.Test.YtpohoannggdbjaaGreatMC
import Derived.Test.YtpohoannggdbjaaGreatCoF
import Derived.Test.YtpohoannggdbjaaGreatMF
import Derived.Deep.QuietTactic
set_option maxRecDepth 100000
set_option maxHeartbeats 200000000
namespace Go.Proofs.YtpohoannggdbjaaGreat
open Lib (hid)
open Go.RowKit
theorem B8{k n:Nat}(h:k<n)(hn:n≤9223372036854775807):wrap64 ((k:Int)+1)=(k:Int)+1:=by unfold wrap64;omega
theorem AA{i g m:Nat}(h:i+g=m)(hi:i<m):i+1+(m - (i+1))=m:=by omega
theorem Az{i g m:Nat}(h:i+g=m)(hi:i<m):m - (i+1)<g:=by omega
theorem SH{w:World}{g:Nat}{a b c d:Value}{t:TypeId}{fr:Nat × Nat}(h:w.heap[g]?=some (.cells #[a,b,c,d] t fr)):w.cell? ⟨g,0,none⟩=some a∧w.cell? ⟨g,1,none⟩=some b∧w.cell? ⟨g,2,none⟩=some c∧w.cell? ⟨g,3,none⟩=some d:=
 ⟨A4 h 0 _ rfl,A4 h 1 _ rfl,A4 h 2 _ rfl,A4 h 3 _ rfl⟩
theorem UL{w:World}{base:Nat}{e:TypeId}{sz:Nat}{v:Value}{n:Nat}{xs:List Value}(h:w.ownsRow base e sz v n xs):∃ a c,v = .slice a n c:=by
 rcases h.2 with ⟨h1,h2⟩ | ⟨g,cap,cur,h1,_⟩
 ·exact⟨none,0,by rw[h1,h2]⟩
 ·exact⟨_,_,h1⟩
theorem P2{α:Type}{f:α→List Value}{w:World}{B sz:Nat}{e:TypeId}{v:Value}{R:List α}{x:α}{X:List Value}(hX:X=f x)(h:w.ownsRow B e sz v (R.length+1) (R.flatMap f ++ X)):w.ownsRow B e sz v (R ++ [x]).length ((R ++ [x]).flatMap f):=by
 rw[WA,Wh];show w.ownsRow B e sz v (R.length+1) (R.flatMap f ++ (f x ++ []));rw[Wt,← hX];exact h
attribute [local irreducible] BU Sl.v pw Aa Ab
theorem DH{k g n:Nat}(h:k+g=n)(hlt:k<n):k+1+(n - (k+1))=n:=by omega
theorem DG{k g n:Nat}(h:k+g=n)(hlt:k<n):n - (k+1)<g:=by omega
theorem G7{k n:Nat}(h:k<n)(hn:n≤9223372036854775807):wrap64 ((k:Int)+1)=(k:Int)+1:=by unfold wrap64;omega
theorem DE(b:Bool)(x n:Nat)(w:World)(hn:n≤63)(hx:x<18446744073709551616)(hb:Aa x n=b) :
 Calls Tryz.prog 53 #[.int .u64 (x:Int),.int .i64 (n:Int)] w fun e w'=>e = .returned (.bool b)∧w=w':=by
 have h:=(OL x n hx).trans hb;have h0:(0:Int)≤n:=by omega
 have h1:min n 64=n:=by omega
 have h2:¬ (64:Int)≤n:=by omega
 clear hb hx hn;go_enter Tryz.func53,Tryz.ntmps53;go_wp2_with fail;go_ret;exact⟨by first | rfl | (rw[h]) | (simp only[h]),rfl⟩
theorem NU(o n r:Nat)(a:Option Addr)(len cap:Nat)(w:World) :
 Calls Tryz.prog 59 #[.agg #[.int .u64 (o:Int),.int .u32 (n:Int),.int .u32 (r:Int),.slice a len cap]] w
  fun e w'=>e = .returned (.tuple #[.int .u32 (bits .andNot .u32 n r),.int .u32 (bits .andNot .u32 r n)])∧Below w.heap.size w w':=by
 go_enter Tryz.func59,Tryz.ntmps59;go_wp2;go_quiet (fail);go_wp2;go_ret2;exact⟨rfl,below_drewN (Ac _ _) _⟩
theorem Jy(o n r:Nat)(a:Option Addr)(len cap:Nat)(w:World) :
 Calls Tryz.prog 80 #[.agg #[.int .u64 (o:Int),.int .u32 (n:Int),.int .u32 (r:Int),.slice a len cap]] w
  fun e w'=>e = .returned (.tuple #[.int .u32 (bits .andNot .u32 n r),.int .u32 (bits .andNot .u32 r n)])∧Below w.heap.size w w':=by
 go_enter Tryz.func80,Tryz.ntmps80;go_wp2;go_quiet (fail);go_wp2;go_ret2;exact⟨rfl,below_drewN (Ac _ _) _⟩
theorem OV(g1:Nat)(p:Int→Bool)(x:Option Addr)(m c:Nat)(l:List Int)(w:World)(hn:l.length=m)(hm:m≤9223372036854775807)(hl:As 1 AT w x l)
 (hp:∀ W,Below w.heap.size w W→∀ y∈l,Calls Tryz.prog 96 #[.int .i64 y,.pointer (some ⟨g1,0,none⟩)] W fun e w'=>e = .returned (.bool (p y))∧Below W.heap.size W w') :
 Calls Tryz.prog 109 #[.slice x m c,.func (.func 96) #[] #[.pointer (some ⟨g1,0,none⟩)]] w fun e w'=>e = .returned (.int .i64 (BU p 0 l))∧Below w.heap.size w w':=by
 have HN:=hid hn;have HP:=hid hp;have HR:=hid hl;have HM:=hid hm;clear hn hp hl hm;go_enter Tryz.func109,Tryz.ntmps109;go_wp2_with fail;go_loopg [5,8] m (fun g _ i wr=>∃ k:Nat,k+g=m∧i = .int .i64 (k:Int)∧BU p k (l.drop k)=BU p 0 l∧Below w.heap.size w wr)
 case atStart=>exact⟨0,by omega,rfl,rfl,VU _ _⟩
 case round=>
  obtain⟨k,hk,rfl,hb,hbw⟩:=hrel;have HB:=hid hb;have HBW:=hid hbw;have HK:=hid hk;clear hb hbw hk;by_cases hlt:k<m
  ·obtain⟨y,hy⟩:∃ y,l[k]?=some y:=⟨_,Wb (by rw[HN.o];exact hlt)⟩;rcases HR.o.below HBW.o with hnil | ⟨b,off,rfl,hc⟩
   ·rw[hnil] at hy;simp at hy
   have z0:=hc k _ hy 0 _ rfl;rw[Wa,Nat.mul_one] at z0;have hd:=CE (p:=p) hy;have d1:(0:Int)≤k:=(by omega);have d2:(k:Int)<m:=(by omega);have e1:=G7 hlt HM.o;have HLT:=hid hlt;have hcall:=HP.o wr HBW.o y (Wf hy);obtain⟨D,hD⟩:=WY (p y);rw[hD] at hcall hd;have HC:=hid hcall;clear hc hy hcall hD hlt;cases D with
   | true=>
     have HF:Hid (BU p 0 l=k):=hid (HB.o.symm.trans (by rw[hd,if_pos rfl]));clear hd;go_wp2_with fail;refine HC.o.mono ?_;rintro e w5 ⟨rfl,hb5⟩;have HB5:=hid (A6 HBW.o hb5);clear hb5;go_wp2_with fail;go_ret;exact⟨by rw[HF.o];rfl,HB5.o⟩
   | false=>
     have HT:Hid (BU p (k+1) (l.drop (k+1))=BU p 0 l):=hid (Eq.trans (by rw[hd,if_neg (by decide)]) HB.o);clear hd;go_wp2_with fail;refine HC.o.mono ?_;rintro e w5 ⟨rfl,hb5⟩;have HB5:=hid (A6 HBW.o hb5);clear hb5;go_wp2_with fail;go_roundg (m - (k+1))
     case rel=>exact⟨k+1,DH HK.o HLT.o,by go_num,HT.o,HB5.o⟩
     case measure=>exact DG HK.o HLT.o
  ·have hkm:m=k:=(by have:=HK.o;omega);subst hkm;have HF:Hid (BU p 0 l = -1):=hid (HB.o.symm.trans (Dk HN.o));go_wp2_with fail;go_ret;exact⟨by rw[HF.o];rfl,HBW.o⟩
theorem Nd(b:Bool)(g1:Nat)(p:Int→Bool)(x:Option Addr)(m c:Nat)(l:List Int)(w:World)(hb:l.any p=b)(hn:l.length=m)(hm:m≤9223372036854775807)(hl:As 1 AT w x l)
 (hp:∀ W,Below w.heap.size w W→∀ y∈l,Calls Tryz.prog 96 #[.int .i64 y,.pointer (some ⟨g1,0,none⟩)] W fun e w'=>e = .returned (.bool (p y))∧Below W.heap.size W w') :
 Calls Tryz.prog 94 #[.slice x m c,.func (.func 96) #[] #[.pointer (some ⟨g1,0,none⟩)]] w fun e w'=>e = .returned (.bool b)∧Below w.heap.size w w':=by
 have hc:=OV g1 p x m c l w hn hm hl hp;have hi:=DF p l 0;obtain⟨z,hz⟩:=WY (BU p 0 l);rw[hz,hb] at hi;rw[hz] at hc;have HC:=hid hc;clear hz hb hn hm hl hp hc;rcases hi with ⟨h1,rfl⟩ | ⟨h1,rfl⟩
 ·go_enter Tryz.func94,Tryz.ntmps94;go_wp2_with fail;refine HC.o.mono ?_;rintro e w1 ⟨rfl,hb1⟩;have HB:=hid hb1;clear hb1;go_wp2_with fail;go_ret;exact⟨rfl,HB.o⟩
 ·have h2:¬ 0≤z:=(by omega);go_enter Tryz.func94,Tryz.ntmps94;go_wp2_with fail;refine HC.o.mono ?_;rintro e w1 ⟨rfl,hb1⟩;have HB:=hid hb1;clear hb1;go_wp2_with fail;go_ret;exact⟨by show Ending.returned (.bool (decide (0≤z)))=_;rw[Wg (by omega)],HB.o⟩
theorem OW(g1:Nat)(p:Int→Bool)(x:Option Addr)(m c:Nat)(l:List Int)(w:World)(hn:l.length=m)(hm:m≤9223372036854775807)(hl:As 1 AT w x l)
 (hp:∀ W,Below w.heap.size w W→∀ y∈l,Calls Tryz.prog 34 #[.pointer (some ⟨g1,0,none⟩),.int .i64 y] W fun e w'=>e = .returned (.bool (p y))∧Below W.heap.size W w') :
 Calls Tryz.prog 109 #[.slice x m c,.func (.func 34) #[.pointer (some ⟨g1,0,none⟩)] #[]] w fun e w'=>e = .returned (.int .i64 (BU p 0 l))∧Below w.heap.size w w':=by
 have HN:=hid hn;have HP:=hid hp;have HR:=hid hl;have HM:=hid hm;clear hn hp hl hm;go_enter Tryz.func109,Tryz.ntmps109;go_wp2_with fail;go_loopg [5,8] m (fun g _ i wr=>∃ k:Nat,k+g=m∧i = .int .i64 (k:Int)∧BU p k (l.drop k)=BU p 0 l∧Below w.heap.size w wr)
 case atStart=>exact⟨0,by omega,rfl,rfl,VU _ _⟩
 case round=>
  obtain⟨k,hk,rfl,hb,hbw⟩:=hrel;have HB:=hid hb;have HBW:=hid hbw;have HK:=hid hk;clear hb hbw hk;by_cases hlt:k<m
  ·obtain⟨y,hy⟩:∃ y,l[k]?=some y:=⟨_,Wb (by rw[HN.o];exact hlt)⟩;rcases HR.o.below HBW.o with hnil | ⟨b,off,rfl,hc⟩
   ·rw[hnil] at hy;simp at hy
   have z0:=hc k _ hy 0 _ rfl;rw[Wa,Nat.mul_one] at z0;have hd:=CE (p:=p) hy;have d1:(0:Int)≤k:=(by omega);have d2:(k:Int)<m:=(by omega);have e1:=G7 hlt HM.o;have HLT:=hid hlt;have hcall:=HP.o wr HBW.o y (Wf hy);obtain⟨D,hD⟩:=WY (p y);rw[hD] at hcall hd;have HC:=hid hcall;clear hc hy hcall hD hlt;cases D with
   | true=>
     have HF:Hid (BU p 0 l=k):=hid (HB.o.symm.trans (by rw[hd,if_pos rfl]));clear hd;go_wp2_with fail;refine HC.o.mono ?_;rintro e w5 ⟨rfl,hb5⟩;have HB5:=hid (A6 HBW.o hb5);clear hb5;go_wp2_with fail;go_ret;exact⟨by rw[HF.o];rfl,HB5.o⟩
   | false=>
     have HT:Hid (BU p (k+1) (l.drop (k+1))=BU p 0 l):=hid (Eq.trans (by rw[hd,if_neg (by decide)]) HB.o);clear hd;go_wp2_with fail;refine HC.o.mono ?_;rintro e w5 ⟨rfl,hb5⟩;have HB5:=hid (A6 HBW.o hb5);clear hb5;go_wp2_with fail;go_roundg (m - (k+1))
     case rel=>exact⟨k+1,DH HK.o HLT.o,by go_num,HT.o,HB5.o⟩
     case measure=>exact DG HK.o HLT.o
  ·have hkm:m=k:=(by have:=HK.o;omega);subst hkm;have HF:Hid (BU p 0 l = -1):=hid (HB.o.symm.trans (Dk HN.o));go_wp2_with fail;go_ret;exact⟨by rw[HF.o];rfl,HBW.o⟩
theorem Nf(b:Bool)(g1:Nat)(p:Int→Bool)(x:Option Addr)(m c:Nat)(l:List Int)(w:World)(hb:l.any p=b)(hn:l.length=m)(hm:m≤9223372036854775807)(hl:As 1 AT w x l)
 (hp:∀ W,Below w.heap.size w W→∀ y∈l,Calls Tryz.prog 34 #[.pointer (some ⟨g1,0,none⟩),.int .i64 y] W fun e w'=>e = .returned (.bool (p y))∧Below W.heap.size W w') :
 Calls Tryz.prog 94 #[.slice x m c,.func (.func 34) #[.pointer (some ⟨g1,0,none⟩)] #[]] w fun e w'=>e = .returned (.bool b)∧Below w.heap.size w w':=by
 have hc:=OW g1 p x m c l w hn hm hl hp;have hi:=DF p l 0;obtain⟨z,hz⟩:=WY (BU p 0 l);rw[hz,hb] at hi;rw[hz] at hc;have HC:=hid hc;clear hz hb hn hm hl hp hc;rcases hi with ⟨h1,rfl⟩ | ⟨h1,rfl⟩
 ·go_enter Tryz.func94,Tryz.ntmps94;go_wp2_with fail;refine HC.o.mono ?_;rintro e w1 ⟨rfl,hb1⟩;have HB:=hid hb1;clear hb1;go_wp2_with fail;go_ret;exact⟨rfl,HB.o⟩
 ·have h2:¬ 0≤z:=(by omega);go_enter Tryz.func94,Tryz.ntmps94;go_wp2_with fail;refine HC.o.mono ?_;rintro e w1 ⟨rfl,hb1⟩;have HB:=hid hb1;clear hb1;go_wp2_with fail;go_ret;exact⟨by show Ending.returned (.bool (decide (0≤z)))=_;rw[Wg (by omega)],HB.o⟩
theorem OX(g1:Nat)(p:(Int × Bool)→Bool)(x:Option Addr)(m c:Nat)(l:List (Int × Bool))(w:World)(hn:l.length=m)(hm:m≤9223372036854775807)(hl:As 2 CX w x l)
 (hp:∀ W,Below w.heap.size w W→∀ y∈l,Calls Tryz.prog 95 #[.agg #[.int .i64 y.1,.bool y.2],.pointer (some ⟨g1,0,none⟩)] W fun e w'=>e = .returned (.bool (p y))∧Below W.heap.size W w') :
 Calls Tryz.prog 97 #[.slice x m c,.func (.func 95) #[] #[.pointer (some ⟨g1,0,none⟩)]] w fun e w'=>e = .returned (.int .i64 (BU p 0 l))∧Below w.heap.size w w':=by
 have HN:=hid hn;have HP:=hid hp;have HR:=hid hl;have HM:=hid hm;clear hn hp hl hm;go_enter Tryz.func97,Tryz.ntmps97;go_wp2_with fail;go_loopg [5,8] m (fun g _ i wr=>∃ k:Nat,k+g=m∧i = .int .i64 (k:Int)∧BU p k (l.drop k)=BU p 0 l∧Below w.heap.size w wr)
 case atStart=>exact⟨0,by omega,rfl,rfl,VU _ _⟩
 case round=>
  obtain⟨k,hk,rfl,hb,hbw⟩:=hrel;have HB:=hid hb;have HBW:=hid hbw;have HK:=hid hk;clear hb hbw hk;by_cases hlt:k<m
  ·obtain⟨y,hy⟩:∃ y,l[k]?=some y:=⟨_,Wb (by rw[HN.o];exact hlt)⟩;rcases HR.o.below HBW.o with hnil | ⟨b,off,rfl,hc⟩
   ·rw[hnil] at hy;simp at hy
   have z0:=hc k _ hy 0 _ rfl;have z1:=hc k _ hy 1 _ rfl;rw[Wa] at z0;have hd:=CE (p:=p) hy;have d1:(0:Int)≤k:=(by omega);have d2:(k:Int)<m:=(by omega);have e1:=G7 hlt HM.o;have HLT:=hid hlt;have hcall:=HP.o wr HBW.o y (Wf hy);obtain⟨D,hD⟩:=WY (p y);rw[hD] at hcall hd;have HC:=hid hcall;clear hc hy hcall hD hlt;cases D with
   | true=>
     have HF:Hid (BU p 0 l=k):=hid (HB.o.symm.trans (by rw[hd,if_pos rfl]));clear hd;go_wp2_with fail;refine HC.o.mono ?_;rintro e w5 ⟨rfl,hb5⟩;have HB5:=hid (A6 HBW.o hb5);clear hb5;go_wp2_with fail;go_ret;exact⟨by rw[HF.o];rfl,HB5.o⟩
   | false=>
     have HT:Hid (BU p (k+1) (l.drop (k+1))=BU p 0 l):=hid (Eq.trans (by rw[hd,if_neg (by decide)]) HB.o);clear hd;go_wp2_with fail;refine HC.o.mono ?_;rintro e w5 ⟨rfl,hb5⟩;have HB5:=hid (A6 HBW.o hb5);clear hb5;go_wp2_with fail;go_roundg (m - (k+1))
     case rel=>exact⟨k+1,DH HK.o HLT.o,by go_num,HT.o,HB5.o⟩
     case measure=>exact DG HK.o HLT.o
  ·have hkm:m=k:=(by have:=HK.o;omega);subst hkm;have HF:Hid (BU p 0 l = -1):=hid (HB.o.symm.trans (Dk HN.o));go_wp2_with fail;go_ret;exact⟨by rw[HF.o];rfl,HBW.o⟩
theorem Ng(b:Bool)(g1:Nat)(p:(Int × Bool)→Bool)(x:Option Addr)(m c:Nat)(l:List (Int × Bool))(w:World)(hb:l.any p=b)(hn:l.length=m)(hm:m≤9223372036854775807)(hl:As 2 CX w x l)
 (hp:∀ W,Below w.heap.size w W→∀ y∈l,Calls Tryz.prog 95 #[.agg #[.int .i64 y.1,.bool y.2],.pointer (some ⟨g1,0,none⟩)] W fun e w'=>e = .returned (.bool (p y))∧Below W.heap.size W w') :
 Calls Tryz.prog 60 #[.slice x m c,.func (.func 95) #[] #[.pointer (some ⟨g1,0,none⟩)]] w fun e w'=>e = .returned (.bool b)∧Below w.heap.size w w':=by
 have hc:=OX g1 p x m c l w hn hm hl hp;have hi:=DF p l 0;obtain⟨z,hz⟩:=WY (BU p 0 l);rw[hz,hb] at hi;rw[hz] at hc;have HC:=hid hc;clear hz hb hn hm hl hp hc;rcases hi with ⟨h1,rfl⟩ | ⟨h1,rfl⟩
 ·go_enter Tryz.func60,Tryz.ntmps60;go_wp2_with fail;refine HC.o.mono ?_;rintro e w1 ⟨rfl,hb1⟩;have HB:=hid hb1;clear hb1;go_wp2_with fail;go_ret;exact⟨rfl,HB.o⟩
 ·have h2:¬ 0≤z:=(by omega);go_enter Tryz.func60,Tryz.ntmps60;go_wp2_with fail;refine HC.o.mono ?_;rintro e w1 ⟨rfl,hb1⟩;have HB:=hid hb1;clear hb1;go_wp2_with fail;go_ret;exact⟨by show Ending.returned (.bool (decide (0≤z)))=_;rw[Wg (by omega)],HB.o⟩
theorem OY(g1 g2:Nat)(p:(Int × Bool)→Bool)(x:Option Addr)(m c:Nat)(l:List (Int × Bool))(w:World)(hn:l.length=m)(hm:m≤9223372036854775807)(hl:As 2 CX w x l)
 (hp:∀ W,Below w.heap.size w W→∀ y∈l,Calls Tryz.prog 61 #[.agg #[.int .i64 y.1,.bool y.2],.pointer (some ⟨g1,0,none⟩),.pointer (some ⟨g2,0,none⟩)] W fun e w'=>e = .returned (.bool (p y))∧Below W.heap.size W w') :
 Calls Tryz.prog 97 #[.slice x m c,.func (.func 61) #[] #[.pointer (some ⟨g1,0,none⟩),.pointer (some ⟨g2,0,none⟩)]] w fun e w'=>e = .returned (.int .i64 (BU p 0 l))∧Below w.heap.size w w':=by
 have HN:=hid hn;have HP:=hid hp;have HR:=hid hl;have HM:=hid hm;clear hn hp hl hm;go_enter Tryz.func97,Tryz.ntmps97;go_wp2_with fail;go_loopg [5,8] m (fun g _ i wr=>∃ k:Nat,k+g=m∧i = .int .i64 (k:Int)∧BU p k (l.drop k)=BU p 0 l∧Below w.heap.size w wr)
 case atStart=>exact⟨0,by omega,rfl,rfl,VU _ _⟩
 case round=>
  obtain⟨k,hk,rfl,hb,hbw⟩:=hrel;have HB:=hid hb;have HBW:=hid hbw;have HK:=hid hk;clear hb hbw hk;by_cases hlt:k<m
  ·obtain⟨y,hy⟩:∃ y,l[k]?=some y:=⟨_,Wb (by rw[HN.o];exact hlt)⟩;rcases HR.o.below HBW.o with hnil | ⟨b,off,rfl,hc⟩
   ·rw[hnil] at hy;simp at hy
   have z0:=hc k _ hy 0 _ rfl;have z1:=hc k _ hy 1 _ rfl;rw[Wa] at z0;have hd:=CE (p:=p) hy;have d1:(0:Int)≤k:=(by omega);have d2:(k:Int)<m:=(by omega);have e1:=G7 hlt HM.o;have HLT:=hid hlt;have hcall:=HP.o wr HBW.o y (Wf hy);obtain⟨D,hD⟩:=WY (p y);rw[hD] at hcall hd;have HC:=hid hcall;clear hc hy hcall hD hlt;cases D with
   | true=>
     have HF:Hid (BU p 0 l=k):=hid (HB.o.symm.trans (by rw[hd,if_pos rfl]));clear hd;go_wp2_with fail;refine HC.o.mono ?_;rintro e w5 ⟨rfl,hb5⟩;have HB5:=hid (A6 HBW.o hb5);clear hb5;go_wp2_with fail;go_ret;exact⟨by rw[HF.o];rfl,HB5.o⟩
   | false=>
     have HT:Hid (BU p (k+1) (l.drop (k+1))=BU p 0 l):=hid (Eq.trans (by rw[hd,if_neg (by decide)]) HB.o);clear hd;go_wp2_with fail;refine HC.o.mono ?_;rintro e w5 ⟨rfl,hb5⟩;have HB5:=hid (A6 HBW.o hb5);clear hb5;go_wp2_with fail;go_roundg (m - (k+1))
     case rel=>exact⟨k+1,DH HK.o HLT.o,by go_num,HT.o,HB5.o⟩
     case measure=>exact DG HK.o HLT.o
  ·have hkm:m=k:=(by have:=HK.o;omega);subst hkm;have HF:Hid (BU p 0 l = -1):=hid (HB.o.symm.trans (Dk HN.o));go_wp2_with fail;go_ret;exact⟨by rw[HF.o];rfl,HBW.o⟩
theorem Nh(b:Bool)(g1 g2:Nat)(p:(Int × Bool)→Bool)(x:Option Addr)(m c:Nat)(l:List (Int × Bool))(w:World)(hb:l.any p=b)(hn:l.length=m)(hm:m≤9223372036854775807)(hl:As 2 CX w x l)
 (hp:∀ W,Below w.heap.size w W→∀ y∈l,Calls Tryz.prog 61 #[.agg #[.int .i64 y.1,.bool y.2],.pointer (some ⟨g1,0,none⟩),.pointer (some ⟨g2,0,none⟩)] W fun e w'=>e = .returned (.bool (p y))∧Below W.heap.size W w') :
 Calls Tryz.prog 60 #[.slice x m c,.func (.func 61) #[] #[.pointer (some ⟨g1,0,none⟩),.pointer (some ⟨g2,0,none⟩)]] w fun e w'=>e = .returned (.bool b)∧Below w.heap.size w w':=by
 have hc:=OY g1 g2 p x m c l w hn hm hl hp;have hi:=DF p l 0;obtain⟨z,hz⟩:=WY (BU p 0 l);rw[hz,hb] at hi;rw[hz] at hc;have HC:=hid hc;clear hz hb hn hm hl hp hc;rcases hi with ⟨h1,rfl⟩ | ⟨h1,rfl⟩
 ·go_enter Tryz.func60,Tryz.ntmps60;go_wp2_with fail;refine HC.o.mono ?_;rintro e w1 ⟨rfl,hb1⟩;have HB:=hid hb1;clear hb1;go_wp2_with fail;go_ret;exact⟨rfl,HB.o⟩
 ·have h2:¬ 0≤z:=(by omega);go_enter Tryz.func60,Tryz.ntmps60;go_wp2_with fail;refine HC.o.mono ?_;rintro e w1 ⟨rfl,hb1⟩;have HB:=hid hb1;clear hb1;go_wp2_with fail;go_ret;exact⟨by show Ending.returned (.bool (decide (0≤z)))=_;rw[Wg (by omega)],HB.o⟩
end Go.Proofs.YtpohoannggdbjaaGreat
