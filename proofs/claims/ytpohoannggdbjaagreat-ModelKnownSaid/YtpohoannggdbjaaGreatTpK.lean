/- Walks: semaphorekit.Yard. -/
import Derived.Test.YtpohoannggdbjaaGreatCoF
set_option maxRecDepth 100000
set_option maxHeartbeats 200000000
namespace Go.Proofs.YtpohoannggdbjaaGreat
open Lib (hid)
open Go.RowKit
def Vx(b:Nat):Rt:=⟨⟨#[82,49]⟩,0,⟨(some ⟨b+4,0,none⟩),2,[1,2]⟩,⟨(some ⟨b+5,0,none⟩),2,[(0,false),(1,false)]⟩,⟨(some ⟨b+6,0,none⟩),1,[3]⟩,⟨none,0,[]⟩⟩
def VP(b:Nat):Rt:=⟨⟨#[82,50]⟩,0,⟨(some ⟨b+7,0,none⟩),2,[1,5]⟩,⟨(some ⟨b+8,0,none⟩),1,[(0,true)]⟩,⟨none,0,[]⟩,⟨none,0,[]⟩⟩
def VQ(b:Nat):Rt:=⟨⟨#[82,51]⟩,1,⟨(some ⟨b+9,0,none⟩),2,[3,2]⟩,⟨(some ⟨b+10,0,none⟩),1,[(1,false)]⟩,⟨none,0,[]⟩,⟨none,0,[]⟩⟩
def VR(b:Nat):Rt:=⟨⟨#[82,52]⟩,2,⟨(some ⟨b+11,0,none⟩),1,[4]⟩,⟨none,0,[]⟩,⟨none,0,[]⟩,⟨(some ⟨b+12,0,none⟩),1,[(1,true)]⟩⟩
def VS(b:Nat):Rt:=⟨⟨#[82,53]⟩,1,⟨(some ⟨b+13,0,none⟩),1,[3]⟩,⟨(some ⟨b+14,0,none⟩),1,[(1,true)]⟩,⟨(some ⟨b+15,0,none⟩),1,[5]⟩,⟨none,0,[]⟩⟩
def yS:List BA:=[⟨#[97]⟩,⟨#[98]⟩,⟨#[99]⟩,⟨#[100]⟩,⟨#[101]⟩,⟨#[102]⟩]
def yP:List (BA × Int):=[(⟨#[80]⟩,1),(⟨#[81]⟩,3)]
def yG:List (BA × Int):=[(⟨#[71]⟩,0),(⟨#[72]⟩,4),(⟨#[75]⟩,5)]
def Uq(b:Nat):List Rt:=[Vx b,VP b,VQ b,VR b,VS b]
def CW(b:Nat):AL:=⟨⟨(some ⟨b+1,0,none⟩),6,yS⟩,⟨(some ⟨b+2,0,none⟩),2,yP⟩,⟨(some ⟨b+3,0,none⟩),3,yG⟩,⟨(some ⟨b+16,0,none⟩),5,Uq b⟩⟩
def VK(b:Nat):Array Value := #[.string ⟨#[82,49]⟩,.int .i64 0,.slice (some ⟨b+4,0,none⟩) 2 2,.slice (some ⟨b+5,0,none⟩) 2 2,.slice (some ⟨b+6,0,none⟩) 1 1,.slice none 0 0,.string ⟨#[82,50]⟩,.int .i64 0,.slice (some ⟨b+7,0,none⟩) 2 2,.slice (some ⟨b+8,0,none⟩) 1 1,.slice none 0 0,.slice none 0 0,.string ⟨#[82,51]⟩,.int .i64 1,.slice (some ⟨b+9,0,none⟩) 2 2,.slice (some ⟨b+10,0,none⟩) 1 1,.slice none 0 0,.slice none 0 0,.string ⟨#[82,52]⟩,.int .i64 2,.slice (some ⟨b+11,0,none⟩) 1 1,.slice none 0 0,.slice none 0 0,.slice (some ⟨b+12,0,none⟩) 1 1,.string ⟨#[82,53]⟩,.int .i64 1,.slice (some ⟨b+13,0,none⟩) 1 1,.slice (some ⟨b+14,0,none⟩) 1 1,.slice (some ⟨b+15,0,none⟩) 1 1,.slice none 0 0]
def Qe(b:Nat):List Obj:=[
 .cells #[.slice (some ⟨b+1,0,none⟩) 6 6,.slice (some ⟨b+2,0,none⟩) 2 2,.slice (some ⟨b+3,0,none⟩) 3 3,.slice (some ⟨b+16,0,none⟩) 5 5] 27,
 .cells #[.string ⟨#[97]⟩,.string ⟨#[98]⟩,.string ⟨#[99]⟩,.string ⟨#[100]⟩,.string ⟨#[101]⟩,.string ⟨#[102]⟩] 9,
 .cells #[.string ⟨#[80]⟩,.int .i64 1,.string ⟨#[81]⟩,.int .i64 3] 68,
 .cells #[.string ⟨#[71]⟩,.int .i64 0,.string ⟨#[72]⟩,.int .i64 4,.string ⟨#[75]⟩,.int .i64 5] 69,
 .cells #[.int .i64 1,.int .i64 2] 3,
 .cells #[.int .i64 0,.bool false,.int .i64 1,.bool false] 71,
 .cells #[.int .i64 3] 3,
 .cells #[.int .i64 1,.int .i64 5] 3,
 .cells #[.int .i64 0,.bool true] 71,
 .cells #[.int .i64 3,.int .i64 2] 3,
 .cells #[.int .i64 1,.bool false] 71,
 .cells #[.int .i64 4] 3,
 .cells #[.int .i64 1,.bool true] 71,
 .cells #[.int .i64 3] 3,
 .cells #[.int .i64 1,.bool true] 71,
 .cells #[.int .i64 5] 3,
 .cells (VK b) 52]
def D0(w:World)(b:Nat):Prop:=∀ i o,(Qe b)[i]?=some o→w.heap[b+i]?=some o
theorem D0.below{w w':World}{b:Nat}(h:D0 w b)(hb:Below w.heap.size w w'):D0 w' b:=fun i o hi=>A5 hb (h i o hi)
theorem Sz{b:Nat}{w:World}(h:D0 w b):b+17≤w.heap.size:=Aj (h 16 _ rfl)
theorem F6{α:Type}{sz:Nat}{f:α→List Value}{X:Nat→Prop}{w:World}{g n:Nat}{cs:Array Value}{t:TypeId}{l:List α}(hf:∀ c,(f c).length=sz)(h:w.heap[g]?=some (.cells cs t (0,0)))(hcs:cs.toList=l.flatMap f)(hn:l.length=n)(hm:n≤maxLen)(hx:¬ X g):En sz f X w ⟨some ⟨g,0,none⟩,n,l⟩:=
 ⟨D2 hf h hcs hn hm,.inr ⟨g,0,rfl,Aj h,hx⟩,.inr ⟨g,0,rfl,fun i=>Aq h i⟩⟩
theorem Q9{X:Nat→Prop}{w:World}{b:Nat}(h:D0 w b)(hx:∀ i,i<16→¬ X (b+i)):LO X w (Vx b):=⟨by show(⟨#[82,49]⟩:BA).size≤maxLen;decide,F6 BD (h 4 _ rfl) rfl rfl (by decide) (hx 4 (by decide)),F6 CA (h 5 _ rfl) rfl rfl (by decide) (hx 5 (by decide)),F6 BD (h 6 _ rfl) rfl rfl (by decide) (hx 6 (by decide)),En.nil⟩
theorem Qa{X:Nat→Prop}{w:World}{b:Nat}(h:D0 w b)(hx:∀ i,i<16→¬ X (b+i)):LO X w (VP b):=⟨by show(⟨#[82,50]⟩:BA).size≤maxLen;decide,F6 BD (h 7 _ rfl) rfl rfl (by decide) (hx 7 (by decide)),F6 CA (h 8 _ rfl) rfl rfl (by decide) (hx 8 (by decide)),En.nil,En.nil⟩
theorem Qb{X:Nat→Prop}{w:World}{b:Nat}(h:D0 w b)(hx:∀ i,i<16→¬ X (b+i)):LO X w (VQ b):=⟨by show(⟨#[82,51]⟩:BA).size≤maxLen;decide,F6 BD (h 9 _ rfl) rfl rfl (by decide) (hx 9 (by decide)),F6 CA (h 10 _ rfl) rfl rfl (by decide) (hx 10 (by decide)),En.nil,En.nil⟩
theorem Qc{X:Nat→Prop}{w:World}{b:Nat}(h:D0 w b)(hx:∀ i,i<16→¬ X (b+i)):LO X w (VR b):=⟨by show(⟨#[82,52]⟩:BA).size≤maxLen;decide,F6 BD (h 11 _ rfl) rfl rfl (by decide) (hx 11 (by decide)),En.nil,En.nil,F6 CA (h 12 _ rfl) rfl rfl (by decide) (hx 12 (by decide))⟩
theorem Qd{X:Nat→Prop}{w:World}{b:Nat}(h:D0 w b)(hx:∀ i,i<16→¬ X (b+i)):LO X w (VS b):=⟨by show(⟨#[82,53]⟩:BA).size≤maxLen;decide,F6 BD (h 13 _ rfl) rfl rfl (by decide) (hx 13 (by decide)),F6 CA (h 14 _ rfl) rfl rfl (by decide) (hx 14 (by decide)),F6 BD (h 15 _ rfl) rfl rfl (by decide) (hx 15 (by decide)),En.nil⟩
theorem T3:∀ s∈yS,s.size≤maxLen:=by
 intro s hs;simp[yS] at hs;rcases hs with rfl | rfl | rfl | rfl | rfl | rfl<;>decide
theorem T2:∀ p∈yP,p.1.size≤maxLen:=by
 intro s hs;simp[yP] at hs;rcases hs with rfl | rfl<;>decide
theorem T1:∀ p∈yG,p.1.size≤maxLen:=by
 intro s hs;simp[yG] at hs;rcases hs with rfl | rfl | rfl<;>decide
theorem Ul{X:Nat→Prop}{w:World}{b:Nat}(h:D0 w b)(hx:∀ i,i<17→¬ X (b+i)):IQ X w (CW b):=by
 refine⟨F6 F2 (h 1 _ rfl) rfl rfl (by decide) (hx 1 (by decide)),F6 FZ (h 2 _ rfl) rfl rfl (by decide) (hx 2 (by decide)),F6 FZ (h 3 _ rfl) rfl rfl (by decide) (hx 3 (by decide)),F6 Lz (h 16 _ rfl) rfl rfl (by decide) (hx 16 (by decide)),T3,T2,T1,fun r hr=>?_⟩;have hx':∀ i,i<16→¬ X (b+i):=fun i hi=>hx i (by omega)
 have hr':r∈Uq b:=hr;simp[Uq] at hr';rcases hr' with rfl | rfl | rfl | rfl | rfl
 ·exact Q9 h hx'
 ·exact Qa h hx'
 ·exact Qb h hx'
 ·exact Qc h hx'
 ·exact Qd h hx'
theorem Sy{w:World}{b:Nat}(h:D0 w b):AO w (CW b):=(Ul (X:=fun _=>False) h (fun _ _ e=>e)).at_
theorem MV(w:World):Calls Tryz.prog 6 #[] w fun e w'=>∃ b,b=w.heap.size∧e = .returned (.agg #[.slice (some ⟨b+1,0,none⟩) 6 6,.slice (some ⟨b+2,0,none⟩) 2 2,.slice (some ⟨b+3,0,none⟩) 3 3,.slice (some ⟨b+16,0,none⟩) 5 5])∧D0 w' b∧Below w.heap.size w w':=by
 go_enter Tryz.func6,Tryz.ntmps6;go_wp2_with fail;obtain⟨b,hb⟩:=X0 w.heap.size;refine Ao (os:=Qe b) (w0:=w) (by rw[hb];rfl) ?_;intro W hat hbw;rw[← hb] at hat;have e:=hat 0 _ rfl;rw[Wa] at e;have e0:=A4 e 0 _ rfl;have e1:=A4 e 1 _ rfl;have e2:=A4 e 2 _ rfl;have e3:=A4 e 3 _ rfl;rw[hb] at e0 e1 e2 e3;refine bodyPost_ret (v:=.agg #[.slice (some ⟨w.heap.size+1,0,none⟩) 6 6,.slice (some ⟨w.heap.size+2,0,none⟩) 2 2,.slice (some ⟨w.heap.size+3,0,none⟩) 3 3,.slice (some ⟨w.heap.size+16,0,none⟩) 5 5]) (by simp[results,Tryz.results6,go_sem,e0,e1,e2,e3]) rfl ?_;exact⟨b,hb,by rw[hb],hat,hbw⟩
end Go.Proofs.YtpohoannggdbjaaGreat
