/- Ours: MoJ; MoS. -/
import Derived.Test.YtpohoannggdbjaaGreatRelT
import Derived.Test.YtpohoannggdbjaaGreatMC
import Derived.Test.YtpohoannggdbjaaGreatMoL
namespace Go.Proofs.YtpohoannggdbjaaGreat
open Lib (hid)
open Go.RowKit
set_option maxRecDepth 100000
def IS(b:Nat):AM:=⟨⟨some ⟨b,0,none⟩,3,[⟨#[97]⟩,⟨#[98]⟩,⟨#[99]⟩]⟩,⟨some ⟨b+1,0,none⟩,1,[(⟨#[80]⟩,1)]⟩,⟨some ⟨b+1+1,0,none⟩,1,[(⟨#[71]⟩,0)]⟩,⟨some ⟨b+1+1+1+1+1,0,none⟩,1,[⟨⟨#[82]⟩,0,⟨some ⟨b+1+1+1,0,none⟩,2,[1,2]⟩,⟨some ⟨b+1+1+1+1,0,none⟩,1,[(0,false)]⟩,⟨none,0,[]⟩,⟨none,0,[]⟩⟩]⟩⟩
theorem RU{W:World}{b:Nat}(q0:W.heap[b]?=some (.cells #[.string ⟨#[97]⟩,.string ⟨#[98]⟩,.string ⟨#[99]⟩] 9))(q1:W.heap[b+1]?=some (.cells #[.string ⟨#[80]⟩,.int .i64 1] 68))(q2:W.heap[b+1+1]?=some (.cells #[.string ⟨#[71]⟩,.int .i64 0] 69))(q3:W.heap[b+1+1+1]?=some (.cells #[.int .i64 1,.int .i64 2] 3))(q4:W.heap[b+1+1+1+1]?=some (.cells #[.int .i64 0,.bool false] 71))(q5:W.heap[b+1+1+1+1+1]?=some (.cells #[.string ⟨#[82]⟩,.int .i64 0,.slice (some ⟨b+1+1+1,0,none⟩) 2 2,.slice (some ⟨b+1+1+1+1,0,none⟩) 1 1,.slice none 0 0,.slice none 0 0] 52)):B5 W (IS b):=by
 refine⟨EX Ft q0 rfl rfl (by decide),EX Mh q1 rfl rfl (by decide),EX Mh q2 rfl rfl (by decide),EX QF q5 rfl rfl (by decide),?_,?_,?_,?_⟩
 ·intro s hs;simp[IS] at hs;rcases hs with rfl | rfl | rfl<;>decide
 ·intro s hs;simp[IS] at hs;subst hs;decide
 ·intro s hs;simp[IS] at hs;subst hs;decide
 ·intro s hs;simp[IS] at hs;subst hs;exact⟨by show(⟨#[82]⟩:BA).size≤maxLen;decide,EX BZ q3 rfl rfl (by decide),EX D7 q4 rfl rfl (by decide),Eh,Eh⟩
theorem OY(b:Nat):(Aq (IS b)).1=0:=by kernel_rfl
def Sg:Tb:=⟨[⟨1,0,[1,2],[(0,false)],[]⟩],[1]⟩
theorem OK(b:Nat):B6 (IS b)=Sg:=by kernel_rfl
def Iq(c:Nat):List Iv:=[⟨0,1,0,some ⟨c,0,none⟩,1,1,[(1,0)]⟩,⟨0,1,0,none,0,0,[]⟩]
theorem Qw(c:Iv):(Jg c).length=4:=rfl
theorem Rg(c:Sh):(QW c).length=3:=rfl
theorem O4(c:Nat):(Iq c).length=2:=rfl
theorem NH{w:World}{g c:Nat}{t:TypeId}{fr:Nat × Nat}(h:w.heap[g]?=some (.cells #[.int .u64 0,.int .u32 1,.int .u32 0,.slice (some ⟨c,0,none⟩) 1 1,.int .u64 0,.int .u32 1,.int .u32 0,.slice none 0 0] t fr)):AF 4 Jg w (some ⟨g,0,none⟩) (Iq c):=Ex Qw h rfl
theorem QM{w:World}{c:Nat}{t:TypeId}{fr:Nat × Nat}(h:w.heap[c]?=some (.cells #[.int .u8 ((1:Nat):Int),.int .i64 0] t fr)):∀ x∈Iq c,DS w x∧x.len≤100000:=by
 intro x hx;simp only[Iq,List.mem_cons,List.not_mem_nil,or_false] at hx;rcases hx with rfl | rfl
 ·exact⟨⟨⟨by show(0:Nat)<_;omega,by show(1:Nat)<_;omega,by show(0:Nat)<_;omega⟩,rfl,Nat.le_refl _,F5 h (by omega) (by omega) (by omega)⟩,by show 1≤100000;omega⟩
 ·exact⟨⟨⟨by show(0:Nat)<_;omega,by show(1:Nat)<_;omega,by show(0:Nat)<_;omega⟩,rfl,Nat.le_refl _,fun _ hc=>(nomatch hc),.inl rfl⟩,by show 0≤100000;omega⟩
theorem RK(b c:Nat):CA (IS b) (Iq c) [⟨false,1,0⟩,⟨false,1,0⟩]=true:=by
 rw[EL (OY b) rfl,OK];kernel_rfl
theorem RL(b c:Nat):CA (IS b) (Iq c) [⟨true,0,0⟩,⟨false,1,0⟩]=true:=by
 rw[EL (OY b) rfl,OK];kernel_rfl
theorem RT(b c:Nat):CA (IS b) (Iq c) [⟨true,0,0⟩,⟨false,0,0⟩]=true:=by
 rw[EL (OY b) rfl,OK];kernel_rfl
theorem Rv(b c:Nat):CA (IS b) (Iq c) [⟨false,0,0⟩,⟨false,1,0⟩]=false:=by
 rw[EL (OY b) rfl,OK];kernel_rfl
theorem Rz(b c:Nat):CA (IS b) (Iq c) [⟨false,1,0⟩]=false:=In (by show¬ 2=1;omega)
theorem Pm(b gi c g k:Nat)(Y:List Sh)(e:Bool)(V:World)(hL:B5 V (IS b))(hX:AF 4 Jg V (some ⟨gi,0,none⟩) (Iq c))(hok:∀ x∈Iq c,DS V x∧x.len≤100000)(hY:AF 3 QW V (some ⟨g,0,none⟩) Y)(hk:Y.length=k)(he:CA (IS b) (Iq c) Y=e) :
 Calls Tryz.prog 15 #[.agg #[.slice (some ⟨b,0,none⟩) 3 3,.slice (some ⟨b+1,0,none⟩) 1 1,.slice (some ⟨b+1+1,0,none⟩) 1 1,.slice (some ⟨b+1+1+1+1+1,0,none⟩) 1 1],.slice (some ⟨gi,0,none⟩) 2 2,.slice (some ⟨g,0,none⟩) k k] V fun e' w'=>e' = .returned (.bool e)∧Below V.heap.size V w':=
 IX (IS b) _ 2 2 _ k k (Iq c) Y e V hL hX (O4 c) hok hY hk (by omega) he
attribute [local irreducible] Sl.v Aa pw Ab Ax C4 Ai BG Cs Bi Bf B7 Cr BO AT Bk Bw BD Bh Bg BQ Bj BI BC BM AD AS AR Bc BB Bq CT Mc.tb BU AQ Aq AW
attribute [local irreducible] Bt Cp CR Dj AE Bz
attribute [local irreducible] B6 CQ Bs BN zS Iz CA DO Ck Iq
set_option maxHeartbeats 16000000 in
theorem EM(w:World):Calls Tryz.prog 10 #[] w fun e w'=>e = .returned (.bool true)∧Below w.heap.size w w':=by
 go_enter Tryz.func10,Tryz.ntmps10;go_upto_region 6 with fail
 refine Ap (os:=[_,_,_,_,_,_,_,_,_,_,_,_]) (w0:=w) rfl ?_;intro W hat hbw;obtain⟨b,hb⟩:∃ b,b=w.heap.size:=⟨_,rfl⟩;have q0:=hat 0 _ rfl;have q1:=hat 1 _ rfl;have q2:=hat 2 _ rfl;have q3:=hat 3 _ rfl;have q4:=hat 4 _ rfl;have q5:=hat 5 _ rfl;have q6:=hat 6 _ rfl;have q7:=hat 7 _ rfl;have q8:=hat 8 _ rfl;have q9:=hat 9 _ rfl;have q10:=hat 10 _ rfl;have q11:=hat 11 _ rfl;rw[Nat.add_zero,← hb] at q0;rw[← hb] at q1 q2 q3 q4 q5 q6 q7 q8 q9 q10 q11;rw[← hb];clear hat;have HL:Hid (B5 W (IS b)):=hid (by
  exact RU q0 q1 q2 q3 q4 q5)
 have q6':W.heap[b+1+1+1+1+1+1]?=some (.cells #[.slice (some ⟨b,0,none⟩) 3 3,.slice (some ⟨b+1,0,none⟩) 1 1,.slice (some ⟨b+1+1,0,none⟩) 1 1,.slice (some ⟨b+1+1+1+1+1,0,none⟩) 1 1] 27):=q6;have q7':W.heap[b+1+1+1+1+1+1+1]?=some (.cells #[.int .u8 ((1:Nat):Int),.int .i64 0] 31):=by
  rw[show b+1+1+1+1+1+1+1=b+7 by omega];exact q7
 have q8':W.heap[b+1+1+1+1+1+1+1+1]?=some (.cells #[.int .u64 0,.int .u32 1,.int .u32 0,.slice (some ⟨b+1+1+1+1+1+1+1,0,none⟩) 1 1,.int .u64 0,.int .u32 1,.int .u32 0,.slice none 0 0] 35):=by
  rw[show b+1+1+1+1+1+1+1+1=b+8 by omega];exact q8
 have q9':W.heap[b+1+1+1+1+1+1+1+1+1]?=some (.cells #[.bool false,.int .u64 1,.int .u32 0] 46):=by
  rw[show b+1+1+1+1+1+1+1+1+1=b+9 by omega];exact q9
 have q10':W.heap[b+1+1+1+1+1+1+1+1+1+1]?=some (.cells #[.bool true,.int .u64 0,.int .u32 0] 46):=by
  rw[show b+1+1+1+1+1+1+1+1+1+1=b+10 by omega];exact q10
 have q11':W.heap[b+1+1+1+1+1+1+1+1+1+1+1]?=some (.cells #[.bool false,.int .u64 0,.int .u32 0] 46):=by
  rw[show b+1+1+1+1+1+1+1+1+1+1+1=b+11 by omega];exact q11
 have hrow:AF 4 Jg W (some ⟨b+1+1+1+1+1+1+1+1,0,none⟩) (Iq (b+1+1+1+1+1+1+1)):=NH q8';have hok:=QM q7';have KEX:Hid (∀(V:World) (g k:Nat) (cs:Array Value) (Y:List Sh) (e:Bool),Below W.heap.size W V→V.heap[g]?=some (.cells cs 46)→cs.toList=Y.flatMap QW→Y.length=k→CA (IS b) (Iq (b+1+1+1+1+1+1+1)) Y=e→Calls Tryz.prog 15 #[.agg #[.slice (some ⟨b,0,none⟩) 3 3,.slice (some ⟨b+1,0,none⟩) 1 1,.slice (some ⟨b+1+1,0,none⟩) 1 1,.slice (some ⟨b+1+1+1+1+1,0,none⟩) 1 1],.slice (some ⟨b+1+1+1+1+1+1+1+1,0,none⟩) 2 2,.slice (some ⟨g,0,none⟩) k k] V (fun e' w'=>e' = .returned (.bool e)∧Below V.heap.size V w')):=hid (fun V g k cs Y e hV hg hcs hk he=>Pm b _ _ g k Y e V (HL.out.below hV) (hrow.below hV) (fun x hx=>⟨(hok x hx).1.below hV,(hok x hx).2⟩) (Ex Rg hg hcs) hk he);obtain⟨gl,hgl⟩:∃ g,g=b+1+1+1+1+1+1:=⟨_,rfl⟩;have HB:=hid hbw;have HQL:=hid q6';have HG:=hid q9';have HP:=hid q10';have HN:=hid q11';have HC:=hid (Below.refl W.heap.size W);clear q0 q1 q2 q3 q4 q5 q6 q7 q8 q9 q10 q11 q6' q7' q8' q9' q10' q11' hb hgl hbw hrow hok HL gl;obtain⟨l0,l1,l2,l3⟩:_∧_∧_∧_:=⟨A4 HQL.out 0 _ rfl,A4 HQL.out 1 _ rfl,A4 HQL.out 2 _ rfl,A4 HQL.out 3 _ rfl⟩;have hg0:=A4 HG.out 0 _ rfl;have hg1:=A4 HG.out 1 _ rfl;have hg2:=A4 HG.out 2 _ rfl;have hlt1:=Af HQL.out;go_wp2_with fail;refine(KEX.out _ _ 2 #[.bool false,.int .u64 1,.int .u32 0,.bool false,.int .u64 1,.int .u32 0] [⟨false,1,0⟩,⟨false,1,0⟩] true (A8 HC.out (Ac _ _)) (Ao _ _ (Below.refl _ _)) (by rfl) (by rfl) (RK b (b+1+1+1+1+1+1+1))).mono ?_;rintro e w1 ⟨rfl,hb⟩;have hb:=A8 (Ac _ _) hb;have HC1:=hid (A8 HC.out hb);have HQL1:=hid (A5 hb HQL.out);have HG1:=hid (A5 hb HG.out);have HP1:=hid (A5 hb HP.out);have HN1:=hid (A5 hb HN.out);clear hb l0 l1 l2 l3 hlt1 hg0 hg1 hg2;obtain⟨l0,l1,l2,l3⟩:_∧_∧_∧_:=⟨A4 HQL1.out 0 _ rfl,A4 HQL1.out 1 _ rfl,A4 HQL1.out 2 _ rfl,A4 HQL1.out 3 _ rfl⟩;have hp0:=A4 HP1.out 0 _ rfl;have hp1:=A4 HP1.out 1 _ rfl;have hp2:=A4 HP1.out 2 _ rfl;have hg0:=A4 HG1.out 0 _ rfl;have hg1:=A4 HG1.out 1 _ rfl;have hg2:=A4 HG1.out 2 _ rfl;have hlt1:=Af HQL1.out;go_wp2_with fail;refine(KEX.out _ _ 2 #[.bool true,.int .u64 0,.int .u32 0,.bool false,.int .u64 1,.int .u32 0] [⟨true,0,0⟩,⟨false,1,0⟩] true (A8 HC1.out (Ac _ _)) (Ao _ _ (Below.refl _ _)) (by rfl) (by rfl) (RL b (b+1+1+1+1+1+1+1))).mono ?_;rintro e w2 ⟨rfl,hb⟩;have hb:=A8 (Ac _ _) hb;have HC2:=hid (A8 HC1.out hb);have HQL2:=hid (A5 hb HQL1.out);have HG2:=hid (A5 hb HG1.out);have HP2:=hid (A5 hb HP1.out);have HN2:=hid (A5 hb HN1.out);clear hb l0 l1 l2 l3 hlt1 hp0 hp1 hp2 hg0 hg1 hg2;obtain⟨l0,l1,l2,l3⟩:_∧_∧_∧_:=⟨A4 HQL2.out 0 _ rfl,A4 HQL2.out 1 _ rfl,A4 HQL2.out 2 _ rfl,A4 HQL2.out 3 _ rfl⟩;have hp0:=A4 HP2.out 0 _ rfl;have hp1:=A4 HP2.out 1 _ rfl;have hp2:=A4 HP2.out 2 _ rfl;have hn0:=A4 HN2.out 0 _ rfl;have hn1:=A4 HN2.out 1 _ rfl;have hn2:=A4 HN2.out 2 _ rfl;have hlt1:=Af HQL2.out;go_wp2_with fail;refine(KEX.out _ _ 2 #[.bool true,.int .u64 0,.int .u32 0,.bool false,.int .u64 0,.int .u32 0] [⟨true,0,0⟩,⟨false,0,0⟩] true (A8 HC2.out (Ac _ _)) (Ao _ _ (Below.refl _ _)) (by rfl) (by rfl) (RT b (b+1+1+1+1+1+1+1))).mono ?_;rintro e w3 ⟨rfl,hb⟩;have hb:=A8 (Ac _ _) hb;have HC3:=hid (A8 HC2.out hb);have HQL3:=hid (A5 hb HQL2.out);have HG3:=hid (A5 hb HG2.out);have HP3:=hid (A5 hb HP2.out);have HN3:=hid (A5 hb HN2.out);clear hb l0 l1 l2 l3 hlt1 hp0 hp1 hp2 hn0 hn1 hn2;obtain⟨l0,l1,l2,l3⟩:_∧_∧_∧_:=⟨A4 HQL3.out 0 _ rfl,A4 HQL3.out 1 _ rfl,A4 HQL3.out 2 _ rfl,A4 HQL3.out 3 _ rfl⟩;have hn0:=A4 HN3.out 0 _ rfl;have hn1:=A4 HN3.out 1 _ rfl;have hn2:=A4 HN3.out 2 _ rfl;have hg0:=A4 HG3.out 0 _ rfl;have hg1:=A4 HG3.out 1 _ rfl;have hg2:=A4 HG3.out 2 _ rfl;have hlt1:=Af HQL3.out;go_wp2_with fail;refine(KEX.out _ _ 2 #[.bool false,.int .u64 0,.int .u32 0,.bool false,.int .u64 1,.int .u32 0] [⟨false,0,0⟩,⟨false,1,0⟩] false (A8 HC3.out (Ac _ _)) (Ao _ _ (Below.refl _ _)) (by rfl) (by rfl) (Rv b (b+1+1+1+1+1+1+1))).mono ?_;rintro e w4 ⟨rfl,hb⟩;have hb:=A8 (Ac _ _) hb;have HC4:=hid (A8 HC3.out hb);have HQL4:=hid (A5 hb HQL3.out);have HG4:=hid (A5 hb HG3.out);have HP4:=hid (A5 hb HP3.out);have HN4:=hid (A5 hb HN3.out);clear hb l0 l1 l2 l3 hlt1 hn0 hn1 hn2 hg0 hg1 hg2;obtain⟨l0,l1,l2,l3⟩:_∧_∧_∧_:=⟨A4 HQL4.out 0 _ rfl,A4 HQL4.out 1 _ rfl,A4 HQL4.out 2 _ rfl,A4 HQL4.out 3 _ rfl⟩;have hg0:=A4 HG4.out 0 _ rfl;have hg1:=A4 HG4.out 1 _ rfl;have hg2:=A4 HG4.out 2 _ rfl;have hlt1:=Af HQL4.out;go_wp2_with fail;refine(KEX.out _ _ 1 #[.bool false,.int .u64 1,.int .u32 0] [⟨false,1,0⟩] false (A8 HC4.out (Ac _ _)) (Ao _ _ (Below.refl _ _)) (by rfl) (by rfl) (Rz b (b+1+1+1+1+1+1+1))).mono ?_;rintro e w5 ⟨rfl,hb⟩;have hb:=A8 (Ac _ _) hb;have HC5:=hid (A8 HC4.out hb);have HQL5:=hid (A5 hb HQL4.out);have HG5:=hid (A5 hb HG4.out);have HP5:=hid (A5 hb HP4.out);have HN5:=hid (A5 hb HN4.out);clear hb l0 l1 l2 l3 hlt1 hg0 hg1 hg2;go_wp2_with fail;go_ret;exact⟨rfl,A8 HB.out HC5.out⟩
end Go.Proofs.YtpohoannggdbjaaGreat
namespace Go.Proofs.YtpohoannggdbjaaGreat
open Lib (hid)
open Go.RowKit
set_option maxRecDepth 100000
theorem ET{w:World}{b o:Nat}{s:St}(h:∀ j v,(Ai s)[j]?=some v→w.cell? ⟨b,o+j,none⟩=some v):(Instr.loadAt 65 (.pointer (some ⟨b,o,none⟩))).run Tryz.prog w = .ok (.agg (Ai s).toArray) w:=run_loadAt_mid w b o 65 (Ai s) _ (fun j v hv=>h j v hv) Tryz.underlying65 rfl (by rw[AU];exact Bd)
theorem Jd(s:St)(w:World):(binOp .neq 65 (.agg (Ai s).toArray) (.agg (Ai s).toArray)).run Tryz.prog w = .ok (.bool false) w:=by
 have h:=Q5 s s w;rw[Dc.2 (rfl:BG s=BG s)] at h;exact h
theorem Fg(k n:Int)(w:World):(binOp .neq 44 (.agg #[.int .u64 k,.int .u32 n]) (.agg #[.int .u64 k,.int .u32 n])).run Tryz.prog w = .ok (.bool false) w:=by
 rw[run_neq_struct,GT];simp
theorem JQ{L:AM}{X:List Iv}{top:Nat}(h:DO L X top=true):Ck 300 L≤300:=by
 unfold DO at h;rw[Bool.and_eq_true,decide_eq_true_eq] at h;exact h.1
theorem IT{n i:Nat}(h:i<n):(List.range n)[i]?=some i:=List.getElem?_range h
theorem CH{n i:Nat}(h:i<n):¬ List.range n=[]:=fun e=>by rw[List.range_eq_nil] at e;omega
def JY(L:AM)(X:List Iv)(N:Nat)(w:World)(e:Ending)(r:Int):Prop:=∃ sa ca oa cb,e = .returned (.tuple #[.slice sa N ca,.slice oa N cb,.int .i64 r])∧AF 68 (fun j=>Ai (Cx (B6 L) X (j+1))) w sa (List.range N)∧AF 2 (EY (B6 L) X) w oa (List.range N)
theorem Dk{α:Type}{sz:Nat}{f:α→List Value}{w:World}{a:Option Addr}:AF sz f w a []:=.inl rfl
theorem GO(L:AM)(ra:Option Addr)(n rc:Nat)(X:List Iv)(w:World)(hL:B5 w L)(hX:AF 4 Jg w ra X)(hxn:X.length=n)(hxo:n≤400→∀ x∈X,DS w x∧x.len≤100000):∃(N:Nat) (r:Int),N≤400∧N≤n∧(∀ V,Below w.heap.size w V→Calls Tryz.prog 7 #[.agg #[L.se.v,L.po.v,L.sg.v,L.rt.v],.slice ra n rc] V fun e w'=>JY L X N w' e r∧Below V.heap.size V w')∧(∀ V,Below w.heap.size w V→Calls Tryz.prog 17 #[.agg #[L.se.v,L.po.v,L.sg.v,L.rt.v],.slice ra n rc] V fun e w'=>JY L X N w' e r∧Below V.heap.size V w'):=by
 obtain⟨c,hc⟩:∃ c,(Aq L).1=c:=⟨_,rfl⟩;by_cases h0:c=0
 ·subst h0;by_cases h4:n≤400
  ·refine⟨n,0,h4,Nat.le_refl _,fun V hV=>?_,fun V hV=>?_⟩
   ·refine(PW L ra n rc X V (hL.below hV) (hX.below hV) hxn (fun x hx=>⟨(hxo h4 x hx).1.below hV,(hxo h4 x hx).2⟩) h4 hc).mono ?_;rintro e w' ⟨gS,gO,rfl,h1,h2,hb⟩;exact⟨⟨_,_,_,_,rfl,Ex (fun j=>AU _) h1 rfl,Ex (G3 _ _) h2 rfl⟩,hb⟩
   ·refine(NR L ra n rc X V (hL.below hV) (hX.below hV) hxn (fun x hx=>⟨(hxo h4 x hx).1.below hV,(hxo h4 x hx).2⟩) h4 _ hc rfl).mono ?_;rintro e w' ⟨va,vb,rfl,h1,h2,hb⟩;obtain⟨sa,ca,rfl,hs⟩:=Er (f:=(fun j=>Ai (Cx (B6 L) X (j+1)))) (fun j=>AU _) List.length_range h1;obtain⟨oa,co,rfl,ho⟩:=Er (f:=(EY (B6 L) X)) (G3 _ _) List.length_range h2;exact⟨⟨_,_,_,_,rfl,hs.row,ho.row⟩,hb⟩
  ·refine⟨0,3,by omega,by omega,fun V hV=>?_,fun V hV=>?_⟩
   ·refine(Og L ra n rc V (hL.below hV) hc (by omega)).mono ?_;rintro e w' ⟨rfl,hb⟩;exact⟨⟨_,_,_,_,rfl,Dk,Dk⟩,hb⟩
   ·refine(Mr L ra n rc V (hL.below hV) _ hc rfl (by omega)).mono ?_;rintro e w' ⟨rfl,hb⟩;exact⟨⟨_,_,_,_,rfl,Dk,Dk⟩,hb⟩
 ·refine⟨0,c,by omega,by omega,fun V hV=>?_,fun V hV=>?_⟩
  ·refine(QK L ra n rc V (hL.below hV) c hc h0).mono ?_;rintro e w' ⟨rfl,hb⟩;exact⟨⟨_,_,_,_,rfl,Dk,Dk⟩,hb⟩
  ·refine(Pc L ra n rc V (hL.below hV) c _ hc rfl h0).mono ?_;rintro e w' ⟨rfl,hb⟩;exact⟨⟨_,_,_,_,rfl,Dk,Dk⟩,hb⟩
attribute [local irreducible] Sl.v Aa pw Ab Ax C4 Ai BG Cs Bi Bf B7 Cr BO AT Bk Bw BD Bh Bg BQ Bj BI BC BM AD AS AR Bc BB Bq CT Mc.tb BU AQ Aq AW
attribute [local irreducible] Bt Cp CR Dj AE Bz
attribute [local irreducible] B6 CQ Bs BN zS Iz Cx Gn Gw EY CA DO Ck Iq
set_option maxHeartbeats 16000000 in
theorem Hc(L:AM)(ra:Option Addr)(n rc:Nat)(X:List Iv)(w:World)(hL:B5 w L)(hX:B8 4 Jg w ⟨ra,rc,X⟩)(hxn:X.length=n)(hxo:∀ x∈X,DS w x) :
 Calls Tryz.prog 5 #[.agg #[L.se.v,L.po.v,L.sg.v,L.rt.v],.slice ra n rc] w fun e w'=>e = .returned (.bool true)∧Below w.heap.size w w':=by
 obtain⟨n1,hn1⟩:∃ n,L.se.l.length=n:=⟨_,rfl⟩;obtain⟨n2,hn2⟩:∃ n,L.po.l.length=n:=⟨_,rfl⟩;obtain⟨n3,hn3⟩:∃ n,L.sg.l.length=n:=⟨_,rfl⟩;obtain⟨n4,hn4⟩:∃ n,L.rt.l.length=n:=⟨_,rfl⟩;obtain⟨b1,hb1⟩:∃ b,DO L X 60=b:=⟨_,rfl⟩;obtain⟨z,hz⟩:∃ z,Ck 300 L=z:=⟨_,rfl⟩;have KF:Hid (∀ V,Below w.heap.size w V→Calls Tryz.prog 11 #[.agg #[L.se.v,L.po.v,L.sg.v,L.rt.v],.slice ra n rc,.int .i64 60] V fun e w'=>e = .returned (.bool b1)∧Below V.heap.size V w'):=hid (fun V hV=>Qh L ra n rc 60 X b1 V (hL.below hV) (hX.row.below hV) hxn (by omega) hb1);have KW:Hid (∀ V,Below w.heap.size w V→Calls Tryz.prog 16 #[.agg #[L.se.v,L.po.v,L.sg.v,L.rt.v],.int .i64 300] V fun e w'=>e = .returned (.int .i64 z)∧Below V.heap.size V w'):=hid (fun V hV=>hz ▸ (GP 300 L V (hL.below hV)).mono (fun _ _ h=>⟨h.1,h.2⟩));by_cases h4:n≤400
 ·have d:(n:Int)≤400:=by omega
  cases b1 with
  | false=>
    rw[Ak hn1,Ak hn2,Ak hn3,Ak hn4] at KF ⊢;clear hn1 hn2 hn3 hn4 hL hX hxn hxo hb1 h4 hz KW;go_enter Tryz.func5,Tryz.ntmps5;go_upto_region 1 with fail
    refine Ap (os:=[.cells #[.slice L.se.a n1 L.se.c,.slice L.po.a n2 L.po.c,.slice L.sg.a n3 L.sg.c,.slice L.rt.a n4 L.rt.c] 27]) (w0:=w) rfl ?_;intro W hat hbw;obtain⟨gl,hgl⟩:∃ g,g=w.heap.size:=⟨_,rfl⟩;have q0:=hat 0 _ rfl;rw[Nat.add_zero,← hgl] at q0;rw[← hgl];have HQl:=hid q0;have HB0:=hid hbw;clear hat hbw q0 hgl;have l0:=A4 HQl.out 0 _ rfl;have l1:=A4 HQl.out 1 _ rfl;have l2:=A4 HQl.out 2 _ rfl;have l3:=A4 HQl.out 3 _ rfl;go_wp2_with fail;refine(KF.out _ HB0.out).mono ?_;rintro e w1 ⟨rfl,hb⟩;have HB1:=hid (A8 HB0.out hb);have HL1:=hid (A5 hb HQl.out);clear hb l0 l1 l2 l3;go_wp2_with fail;refine(EM _).mono ?_;rintro e wz ⟨rfl,hbz⟩;have HBE:=hid (A8 HB1.out hbz);clear hbz;go_wp2_with fail;go_ret;exact⟨rfl,HBE.out⟩
  | true=>
    have hfew:=Ra hb1;have dz:¬ (300:Int)<z:=by have:=JQ hb1;omega
    obtain⟨N,r,hN4,hNn,hk1,hk2⟩:=GO L ra n rc X w hL hX.row hxn (fun _ x hx=>⟨hxo x hx,by have:=hfew.2 x hx;omega⟩);have KR:=hid hk1;have KD:=hid hk2;have HN4:=hid hN4;have HNn:=hid hNn;have HXN:=hid hxn;clear hk1 hk2 hN4 hNn;rw[Ak hn1,Ak hn2,Ak hn3,Ak hn4] at KF KW KR KD ⊢;clear hn1 hn2 hn3 hn4 hL hX hxn hxo hb1 h4 hz hfew;unfold JY at KR KD;go_enter Tryz.func5,Tryz.ntmps5;go_upto_region 1 with fail
    refine Ap (os:=[.cells #[.slice L.se.a n1 L.se.c,.slice L.po.a n2 L.po.c,.slice L.sg.a n3 L.sg.c,.slice L.rt.a n4 L.rt.c] 27]) (w0:=w) rfl ?_;intro W hat hbw;obtain⟨gl,hgl⟩:∃ g,g=w.heap.size:=⟨_,rfl⟩;have q0:=hat 0 _ rfl;rw[Nat.add_zero,← hgl] at q0;rw[← hgl];have HQl:=hid q0;have HB0:=hid hbw;clear hat hbw q0 hgl;have l0:=A4 HQl.out 0 _ rfl;have l1:=A4 HQl.out 1 _ rfl;have l2:=A4 HQl.out 2 _ rfl;have l3:=A4 HQl.out 3 _ rfl;go_wp2_with fail;refine(KF.out _ HB0.out).mono ?_;rintro e w1 ⟨rfl,hb⟩;have HB1:=hid (A8 HB0.out hb);have HL1:=hid (A5 hb HQl.out);clear hb l0 l1 l2 l3;have l0:=A4 HL1.out 0 _ rfl;have l1:=A4 HL1.out 1 _ rfl;have l2:=A4 HL1.out 2 _ rfl;have l3:=A4 HL1.out 3 _ rfl;go_wp2_with fail;refine(KW.out _ HB1.out).mono ?_;rintro e wa ⟨rfl,hb⟩;have HBa:=hid (A8 HB1.out hb);have HLa:=hid (A5 hb HL1.out);clear hb l0 l1 l2 l3;have l0:=A4 HLa.out 0 _ rfl;have l1:=A4 HLa.out 1 _ rfl;have l2:=A4 HLa.out 2 _ rfl;have l3:=A4 HLa.out 3 _ rfl;go_wp2_with fail;refine(KR.out _ HBa.out).mono ?_;rintro e w3 ⟨⟨sa,ca,oa,cb,rfl,h1,h2⟩,hb⟩;have HB3:=hid (A8 HBa.out hb);have HL3:=hid (A5 hb HLa.out);have HR1:=hid h1;have HR2:=hid h2;clear hb h1 h2 l0 l1 l2 l3;have l0:=A4 HL3.out 0 _ rfl;have l1:=A4 HL3.out 1 _ rfl;have l2:=A4 HL3.out 2 _ rfl;have l3:=A4 HL3.out 3 _ rfl;go_wp2_with fail;refine(KD.out _ HB3.out).mono ?_;rintro e w4 ⟨⟨sb,cc,ob,cd,rfl,h3,h4⟩,hb⟩;have HB4:=hid (A8 HB3.out hb);have HR1:=hid (HR1.out.below hb);have HR2:=hid (HR2.out.below hb);have HR3:=hid h3;have HR4:=hid h4;clear hb h3 h4 l0 l1 l2 l3;have hnn:(r != r)=false:=by simp
    have hNN:((N:Int) !=(N:Int))=false:=by simp
    go_upto_region 7 with fail
    clear hnn hNN;go_upto_region 8 with fail
    go_loopg [11] N (fun g v wr=>∃ i:Nat,i+g=N∧v = .int .i64 (i:Int)∧Below w4.heap.size w4 wr)
    case atStart=>exact⟨0,by omega,rfl,Below.refl _ _⟩
    case round=>
     obtain⟨i,hi,rfl,hbw⟩:=hrel;have HI:=hid hi;have HB:=hid hbw;have HBr:=hid (A8 HB4.out hbw);clear hi hbw;by_cases hlt:i<N
     ·skip
      have d1:(0:Int)≤i:=by omega
      have d2:(i:Int)<N:=by omega
      have e1:=Bp hlt (Nat.le_trans HN4.out (by decide));have HLT:=hid hlt;have hri:=IT hlt;obtain⟨x,hxi⟩:∃ x,X[i]?=some x:=⟨_,List.getElem?_eq_getElem (by rw[HXN.out];exact Nat.lt_of_lt_of_le hlt HNn.out)⟩;obtain⟨S,hS⟩:∃ S,Cx (B6 L) X (i+1)=S:=⟨_,rfl⟩;obtain⟨OP,PT,hol⟩:∃ P Q:Int,EY (B6 L) X i=[.int .u64 P,.int .u32 Q]:=⟨_,_,Fx hxi⟩;rcases HR1.out with hnil | ⟨b1,o1,ha1,hc1⟩
      ·exact absurd hnil (CH hlt)
      rcases HR2.out with hnil | ⟨b2,o2,ha2,hc2⟩
      ·exact absurd hnil (CH hlt)
      rcases HR3.out with hnil | ⟨b3,o3,ha3,hc3⟩
      ·exact absurd hnil (CH hlt)
      rcases HR4.out with hnil | ⟨b4,o4,ha4,hc4⟩
      ·exact absurd hnil (CH hlt)
      have HC1:Hid (∀ j v,(Ai S)[j]?=some v→wr.cell? ⟨b1,o1+i*68+j,none⟩=some v):=hid (fun j v hv=>cell_later HB.out (hc1 i i hri j v (by rw[← hS] at hv;exact hv)));have HC3:Hid (∀ j v,(Ai S)[j]?=some v→wr.cell? ⟨b3,o3+i*68+j,none⟩=some v):=hid (fun j v hv=>cell_later HB.out (hc3 i i hri j v (by rw[← hS] at hv;exact hv)));have p0:=cell_later HB.out (hc2 i i hri 0 (.int .u64 OP) (by rw[hol];rfl));have p1:=cell_later HB.out (hc2 i i hri 1 (.int .u32 PT) (by rw[hol];rfl));have q0:=cell_later HB.out (hc4 i i hri 0 (.int .u64 OP) (by rw[hol];rfl));have q1:=cell_later HB.out (hc4 i i hri 1 (.int .u32 PT) (by rw[hol];rfl));rw[Nat.add_zero] at p0 q0;have HP:=hid (And.intro p0 p1);have HQ:=hid (And.intro q0 q1);subst ha1;subst ha2;subst ha3;subst ha4;have heq1:=Jd S;have heq2:=Fg OP PT;clear hlt hri hxi hS hol hc1 hc2 hc3 hc4 p0 p1 q0 q1;go_upto_region 10 with fail
      refine Ae (by kernel_rfl) ?_ ?_
      ·kernel_rfl
      repeat first
       | go_big_quiet_skip
       | (go_big_quiet_want
          with_reducible refine Ad (o:=⟨some 74,_,_,_,_,_⟩) 65 _ rfl _ _ ?_ (fun w' hw'=>ET (fun j v hv=>cell_later hw' (HC1.out j v hv))) ?_
          ·rfl
          simp only[Act.put,List.setIfInBounds_toArray,List.set_cons_zero,List.set_cons_succ];go_big_quiet_on)
       | (go_big_quiet_want
          with_reducible refine Ad (o:=⟨some 78,_,_,_,_,_⟩) 65 _ rfl _ _ ?_ (fun w' hw'=>ET (fun j v hv=>cell_later hw' (HC3.out j v hv))) ?_
          ·rfl
          simp only[Act.put,List.setIfInBounds_toArray,List.set_cons_zero,List.set_cons_succ];go_big_quiet_on)
       | (go_big_quiet_want;go_big_quiet_op;go_big_quiet_on)
       | (with_reducible apply wpQuiet_step
          intro K hK;go_simp;first
           | (refine hK _ ?_;clear hK K)
           | (apply Exists.intro
              refine⟨fun w' hw'=>?_,hK _ ?_⟩
              ·
               (first
                | (have p0:=cell_later hw' HP.out.1
                   have p1:=cell_later hw' HP.out.2;go_simp;first | done | with_reducible exact rfl | with_reducible exact⟨rfl,rfl⟩)
                | (have q0:=cell_later hw' HQ.out.1
                   have q1:=cell_later hw' HQ.out.2;go_simp;first | done | with_reducible exact rfl | with_reducible exact⟨rfl,rfl⟩))
              clear hK K))
      refine wpQuiet_nil ?_;intro w7 hw7;have HB7:=hid (A8 HB.out hw7);clear hw7;clear heq1 heq2 d1 d2;go_wp2_with fail;go_roundg (N - (i+1))
      case rel=>exact⟨i+1,AK HI.out HLT.out,by go_num,HB7.out⟩
      case measure=>exact AL HI.out HLT.out
     ·have d2:¬ ((i:Int)<(N:Int)):=by omega
      clear hlt;go_upto_region 12 with fail
      go_wp2_with fail;refine(EM _).mono ?_;rintro e wz ⟨rfl,hbz⟩;have HBE:=hid (A8 HBr.out hbz);clear hbz;go_wp2_with fail;go_ret;exact⟨rfl,HBE.out⟩
 ·have d:¬ (n:Int)≤400:=by omega
  by_cases hz3:300<z
  ·rw[Ak hn1,Ak hn2,Ak hn3,Ak hn4] at KW ⊢;clear hn1 hn2 hn3 hn4 hL hX hxn hxo hb1 h4 hz KF;go_enter Tryz.func5,Tryz.ntmps5;go_upto_region 1 with fail
   refine Ap (os:=[.cells #[.slice L.se.a n1 L.se.c,.slice L.po.a n2 L.po.c,.slice L.sg.a n3 L.sg.c,.slice L.rt.a n4 L.rt.c] 27]) (w0:=w) rfl ?_;intro W hat hbw;obtain⟨gl,hgl⟩:∃ g,g=w.heap.size:=⟨_,rfl⟩;have q0:=hat 0 _ rfl;rw[Nat.add_zero,← hgl] at q0;rw[← hgl];have HQl:=hid q0;have HB0:=hid hbw;clear hat hbw q0 hgl;have l0:=A4 HQl.out 0 _ rfl;have l1:=A4 HQl.out 1 _ rfl;have l2:=A4 HQl.out 2 _ rfl;have l3:=A4 HQl.out 3 _ rfl;go_wp2_with fail;refine(KW.out _ HB0.out).mono ?_;rintro e w1 ⟨rfl,hb⟩;have HB1:=hid (A8 HB0.out hb);have HL1:=hid (A5 hb HQl.out);clear hb l0 l1 l2 l3;go_wp2_with fail;refine(EM _).mono ?_;rintro e wz ⟨rfl,hbz⟩;have HBE:=hid (A8 HB1.out hbz);clear hbz;go_wp2_with fail;go_ret;exact⟨rfl,HBE.out⟩
  ·have dz:¬ (300:Int)<z:=hz3;obtain⟨N,r,hN4,hNn,hk1,hk2⟩:=GO L ra n rc X w hL hX.row hxn (fun h=>absurd h h4);have KR:=hid hk1;have KD:=hid hk2;have HN4:=hid hN4;have HNn:=hid hNn;have HXN:=hid hxn;clear hk1 hk2 hN4 hNn;rw[Ak hn1,Ak hn2,Ak hn3,Ak hn4] at KW KR KD ⊢;clear hn1 hn2 hn3 hn4 hL hX hxn hxo hb1 h4 hz KF hz3;unfold JY at KR KD;go_enter Tryz.func5,Tryz.ntmps5;go_upto_region 1 with fail
   refine Ap (os:=[.cells #[.slice L.se.a n1 L.se.c,.slice L.po.a n2 L.po.c,.slice L.sg.a n3 L.sg.c,.slice L.rt.a n4 L.rt.c] 27]) (w0:=w) rfl ?_;intro W hat hbw;obtain⟨gl,hgl⟩:∃ g,g=w.heap.size:=⟨_,rfl⟩;have q0:=hat 0 _ rfl;rw[Nat.add_zero,← hgl] at q0;rw[← hgl];have HQl:=hid q0;have HB0:=hid hbw;clear hat hbw q0 hgl;have l0:=A4 HQl.out 0 _ rfl;have l1:=A4 HQl.out 1 _ rfl;have l2:=A4 HQl.out 2 _ rfl;have l3:=A4 HQl.out 3 _ rfl;go_wp2_with fail;refine(KW.out _ HB0.out).mono ?_;rintro e wa ⟨rfl,hb⟩;have HBa:=hid (A8 HB0.out hb);have HLa:=hid (A5 hb HQl.out);clear hb l0 l1 l2 l3;have l0:=A4 HLa.out 0 _ rfl;have l1:=A4 HLa.out 1 _ rfl;have l2:=A4 HLa.out 2 _ rfl;have l3:=A4 HLa.out 3 _ rfl;go_wp2_with fail;refine(KR.out _ HBa.out).mono ?_;rintro e w3 ⟨⟨sa,ca,oa,cb,rfl,h1,h2⟩,hb⟩;have HB3:=hid (A8 HBa.out hb);have HL3:=hid (A5 hb HLa.out);have HR1:=hid h1;have HR2:=hid h2;clear hb h1 h2 l0 l1 l2 l3;have l0:=A4 HL3.out 0 _ rfl;have l1:=A4 HL3.out 1 _ rfl;have l2:=A4 HL3.out 2 _ rfl;have l3:=A4 HL3.out 3 _ rfl;go_wp2_with fail;refine(KD.out _ HB3.out).mono ?_;rintro e w4 ⟨⟨sb,cc,ob,cd,rfl,h3,h4⟩,hb⟩;have HB4:=hid (A8 HB3.out hb);have HR1:=hid (HR1.out.below hb);have HR2:=hid (HR2.out.below hb);have HR3:=hid h3;have HR4:=hid h4;clear hb h3 h4 l0 l1 l2 l3;have hnn:(r != r)=false:=by simp
   have hNN:((N:Int) !=(N:Int))=false:=by simp
   go_upto_region 7 with fail
   clear hnn hNN;go_upto_region 8 with fail
   go_loopg [11] N (fun g v wr=>∃ i:Nat,i+g=N∧v = .int .i64 (i:Int)∧Below w4.heap.size w4 wr)
   case atStart=>exact⟨0,by omega,rfl,Below.refl _ _⟩
   case round=>
    obtain⟨i,hi,rfl,hbw⟩:=hrel;have HI:=hid hi;have HB:=hid hbw;have HBr:=hid (A8 HB4.out hbw);clear hi hbw;by_cases hlt:i<N
    ·skip
     have d1:(0:Int)≤i:=by omega
     have d2:(i:Int)<N:=by omega
     have e1:=Bp hlt (Nat.le_trans HN4.out (by decide));have HLT:=hid hlt;have hri:=IT hlt;obtain⟨x,hxi⟩:∃ x,X[i]?=some x:=⟨_,List.getElem?_eq_getElem (by rw[HXN.out];exact Nat.lt_of_lt_of_le hlt HNn.out)⟩;obtain⟨S,hS⟩:∃ S,Cx (B6 L) X (i+1)=S:=⟨_,rfl⟩;obtain⟨OP,PT,hol⟩:∃ P Q:Int,EY (B6 L) X i=[.int .u64 P,.int .u32 Q]:=⟨_,_,Fx hxi⟩;rcases HR1.out with hnil | ⟨b1,o1,ha1,hc1⟩
     ·exact absurd hnil (CH hlt)
     rcases HR2.out with hnil | ⟨b2,o2,ha2,hc2⟩
     ·exact absurd hnil (CH hlt)
     rcases HR3.out with hnil | ⟨b3,o3,ha3,hc3⟩
     ·exact absurd hnil (CH hlt)
     rcases HR4.out with hnil | ⟨b4,o4,ha4,hc4⟩
     ·exact absurd hnil (CH hlt)
     have HC1:Hid (∀ j v,(Ai S)[j]?=some v→wr.cell? ⟨b1,o1+i*68+j,none⟩=some v):=hid (fun j v hv=>cell_later HB.out (hc1 i i hri j v (by rw[← hS] at hv;exact hv)));have HC3:Hid (∀ j v,(Ai S)[j]?=some v→wr.cell? ⟨b3,o3+i*68+j,none⟩=some v):=hid (fun j v hv=>cell_later HB.out (hc3 i i hri j v (by rw[← hS] at hv;exact hv)));have p0:=cell_later HB.out (hc2 i i hri 0 (.int .u64 OP) (by rw[hol];rfl));have p1:=cell_later HB.out (hc2 i i hri 1 (.int .u32 PT) (by rw[hol];rfl));have q0:=cell_later HB.out (hc4 i i hri 0 (.int .u64 OP) (by rw[hol];rfl));have q1:=cell_later HB.out (hc4 i i hri 1 (.int .u32 PT) (by rw[hol];rfl));rw[Nat.add_zero] at p0 q0;have HP:=hid (And.intro p0 p1);have HQ:=hid (And.intro q0 q1);subst ha1;subst ha2;subst ha3;subst ha4;have heq1:=Jd S;have heq2:=Fg OP PT;clear hlt hri hxi hS hol hc1 hc2 hc3 hc4 p0 p1 q0 q1;go_upto_region 10 with fail
     refine Ae (by kernel_rfl) ?_ ?_
     ·kernel_rfl
     repeat first
      | go_big_quiet_skip
      | (go_big_quiet_want
         with_reducible refine Ad (o:=⟨some 74,_,_,_,_,_⟩) 65 _ rfl _ _ ?_ (fun w' hw'=>ET (fun j v hv=>cell_later hw' (HC1.out j v hv))) ?_
         ·rfl
         simp only[Act.put,List.setIfInBounds_toArray,List.set_cons_zero,List.set_cons_succ];go_big_quiet_on)
      | (go_big_quiet_want
         with_reducible refine Ad (o:=⟨some 78,_,_,_,_,_⟩) 65 _ rfl _ _ ?_ (fun w' hw'=>ET (fun j v hv=>cell_later hw' (HC3.out j v hv))) ?_
         ·rfl
         simp only[Act.put,List.setIfInBounds_toArray,List.set_cons_zero,List.set_cons_succ];go_big_quiet_on)
      | (go_big_quiet_want;go_big_quiet_op;go_big_quiet_on)
      | (with_reducible apply wpQuiet_step
         intro K hK;go_simp;first
          | (refine hK _ ?_;clear hK K)
          | (apply Exists.intro
             refine⟨fun w' hw'=>?_,hK _ ?_⟩
             ·
              (first
               | (have p0:=cell_later hw' HP.out.1
                  have p1:=cell_later hw' HP.out.2;go_simp;first | done | with_reducible exact rfl | with_reducible exact⟨rfl,rfl⟩)
               | (have q0:=cell_later hw' HQ.out.1
                  have q1:=cell_later hw' HQ.out.2;go_simp;first | done | with_reducible exact rfl | with_reducible exact⟨rfl,rfl⟩))
             clear hK K))
     refine wpQuiet_nil ?_;intro w7 hw7;have HB7:=hid (A8 HB.out hw7);clear hw7;clear heq1 heq2 d1 d2;go_wp2_with fail;go_roundg (N - (i+1))
     case rel=>exact⟨i+1,AK HI.out HLT.out,by go_num,HB7.out⟩
     case measure=>exact AL HI.out HLT.out
    ·have d2:¬ ((i:Int)<(N:Int)):=by omega
     clear hlt;go_upto_region 12 with fail
     go_wp2_with fail;refine(EM _).mono ?_;rintro e wz ⟨rfl,hbz⟩;have HBE:=hid (A8 HBr.out hbz);clear hbz;go_wp2_with fail;go_ret;exact⟨rfl,HBE.out⟩
theorem walk_ModelRuns(v0:Array Value)(a1:Option Addr)(len1 cap1:Nat)(w:World)(_s0:v0.size=Tryz.prog.cellsOf 27)(w0:Rd Tryz.prog w 27 v0.toList)(w1:Rd Tryz.prog w 36 [.slice a1 len1 cap1]) :
 Calls Tryz.prog 5 #[.agg v0,.slice a1 len1 cap1] w fun e w'=>e = .returned (.bool true)∧Below w.heap.size w w':=by
 obtain⟨L,hv,hL⟩:=QQ w0;obtain rfl:v0 = #[L.se.v,L.po.v,L.sg.v,L.rt.v]:=by apply Array.toList_inj.1;rw[hv]
 obtain⟨⟨xa,xc,X⟩,hx,hX,hxo⟩:=Qc w1;unfold Sl.v at hx;simp only[List.cons.injEq,Value.slice.injEq,and_true] at hx;obtain⟨rfl,rfl,rfl⟩:=hx;exact Hc L a1 X.length cap1 X w hL hX rfl hxo
end Go.Proofs.YtpohoannggdbjaaGreat
