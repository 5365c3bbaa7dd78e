/- Layer 10: states stay within their bounds, plainly; the document's cycle is the machine's. -/
import Derived.Test.YtpohoannggdbjaaGreatIxM
import Derived.Test.YtpohoannggdbjaaGreatIxJ
set_option maxRecDepth 100000
set_option maxHeartbeats 200000000
namespace Go.Proofs.YtpohoannggdbjaaGreat
open Lib (hid)
open Go.RowKit
theorem TR(l:List (Int × Bool))(h:∀ n∈l,0≤n.1∧n.1≤31):∀ p,p<4294967296→CB l p<4294967296:=by
 induction l with
 | nil=>intro p hp;exact hp
 | cons a l ih=>
   intro p hp;unfold CB;rw[Wi];refine ih (fun n hn=>h n (WS _ hn)) _ ?_;have ha:=h a WM;split
   ·rw[By];exact Nat.or_lt_two_pow (n:=32) hp (Nat.pow_lt_pow_right (by omega) (by omega))
   ·exact Wr (Dx _ _) hp
theorem UT{T:Tb}(hT:Dc T){x:Rw}(hx:x∈T.rw){p:Nat}(hp:p<4294967296):CB x.nd p<4294967296:=
 TR _ (fun n hn=>by have h:=(hT.rw x hx).nd n hn;have:=hT.pn;omega) _ hp
theorem JA{T:Tb}(hT:Dc T){n:Nat}{x:Rw}(hx:T.rw[n]?=some x):n≤63:=by
 have:=(We.1 hx).1;have:=hT.rn;omega
theorem MI{T:Tb}(hT:Dc T){s:St}(h:s.ok)(oc:Nat){n:Nat}{x:Rw}(hx:T.rw[n]?=some x):(BQ T s oc n x).ok:=by
 unfold BQ;split
 ·exact⟨Cf _ _ (JA hT hx) h.lk,h.us,h.ca,h.tm,UT hT (Wf hx) h.pt⟩
 ·exact h
theorem Qt{T:Tb}(hT:Dc T){s:St}(h:s.ok)(oc:Nat){n:Nat}{x:Rw}(hx:T.rw[n]?=some x):(BB s oc n x).ok:=by
 unfold BB;split
 ·refine⟨h.lk,h.us,Cf _ _ (JA hT hx) h.ca,?_,h.pt⟩;dsimp only;split
  ·exact EM h.tm n (by omega)
  ·exact EM h.tm n (by omega)
 ·exact h
theorem Mr{T:Tb}(hT:Dc T){s:St}(h:s.ok)(oc:Nat){p:Nat}(hp:p<T.li.length):(BP T s oc p).ok:=by
 unfold BP;split
 ·exact⟨h.lk,h.us,h.ca,h.tm,GN (by have:=hT.pn;omega) h.pt⟩
 ·exact h
theorem QJ{T:Tb}(hT:Dc T){s:St}(h:s.ok)(oc:Nat)(c:Nat × Int):(D6 T s oc c).ok:=by
 unfold D6 Bo;split
 ·exact h
 ·split
  ·split
   ·exact Mr hT h oc (by assumption)
   ·exact h
  ·cases hx:T.rw[c.2.toNat]? with
   | none=>exact h
   | some x=>
     dsimp only;split
     ·exact MI hT h oc hx
     ·split
      ·exact Qt hT h oc hx
      ·exact h
theorem GF{T:Tb}(hT:Dc T)(oc:Nat):∀(l:List (Nat × Int)) (s:St),s.ok→(AY BB T oc l s).ok
 | [],_,h=>h
 | c :: l,s,h=>GF hT oc l (D6 T s oc c) (QJ hT h oc c)
theorem Pz{s:St}(h:s.ok)(n:Nat):(BL s n).ok:=
 ⟨Wr (Dx _ _) h.lk,Wr (Dx _ _) h.us,Wr (Dx _ _) h.ca,EM h.tm n (by omega),h.pt⟩
theorem TW{s:St}(h:s.ok)(oc u:Nat){n:Nat}(hn:n≤63)(x:Rw):(BF s oc u n x).ok:=by
 unfold BF;split
 ·split
  ·exact Pz h n
  ·exact h
 ·split
  ·exact⟨h.lk,Cf _ _ hn h.us,h.ca,h.tm,h.pt⟩
  ·split
   ·split
    ·exact⟨h.lk,h.us,h.ca,EM h.tm n (by have:=h.tm n;omega),h.pt⟩
    ·split
     ·exact Pz h n
     ·exact h
   ·exact h
theorem EW{T:Tb}(hT:Dc T)(oc u:Nat){s:St}(h:s.ok):∀ k,(AV T oc u s k).ok
 | 0=>h
 | k+1=>by
   have ih:=EW hT oc u h k;show(if _ then _ else _:St).ok;split
   ·cases hx:T.rw[k]? with
    | none=>exact ih
    | some x=>exact TW ih oc u (JA hT hx) x
   ·exact ih
def Zt(s:St):Prop:=∀ n,Aa s.ca n=false→s.tm n=0
theorem SC(N P:Nat)(s:St):Zt (AI N P s):=by
 intro n h;have h:Aa (s.ca &&& (s.lk &&& (pw N - 1))) n=false:=h;show(if Aa (s.ca &&& (s.lk &&& (pw N - 1))) n then min (s.tm n) 20 else 0)=0;rw[h];rfl
theorem Q5(f:Nat→Nat){n:Nat}(h:f n=0):BZ f n 0=f:=by
 funext k
 unfold BZ;by_cases e:k=n
 ·rw[if_pos e,e,h]
 ·rw[if_neg e]
theorem Od{s:St}(h:Zt s)(oc n:Nat)(x:Rw):BB s oc n x=Bp s oc n x:=by
 unfold BB Bp;cases hm:AU s n with
 | false=>rfl
 | true=>
   have hc:Aa s.ca n=false:=by
    unfold AU at hm;simp only[Wl,Bool.not_eq_true'] at hm;exact hm.2.2
   rw[Q5 _ (h n hc)]
theorem Up{T:Tb}{s:St}(h:Zt s)(oc n:Nat)(x:Rw):Zt (BQ T s oc n x):=by
 unfold BQ;split
 ·exact h
 ·exact h
theorem Um{s:St}(h:Zt s)(oc n:Nat)(x:Rw):Zt (Bp s oc n x):=by
 unfold Bp;split
 ·intro k hk;have hk:Aa (Ab s.ca n) k=false:=hk;rw[Kd,Bool.or_eq_false_iff,decide_eq_false_iff_not] at hk;dsimp only;split
  ·rw[Q3 _ _ (fun e=>hk.2 e.symm)];exact h k hk.1
  ·exact h k hk.1
 ·exact h
theorem Uo{T:Tb}{s:St}(h:Zt s)(oc p:Nat):Zt (BP T s oc p):=by
 unfold BP;split
 ·exact h
 ·exact h
theorem On{T:Tb}{s:St}(h:Zt s)(oc:Nat)(c:Nat × Int):D6 T s oc c=Dd T s oc c:=by
 unfold D6 Dd Bo;split
 ·rfl
 ·split
  ·rfl
  ·cases hx:T.rw[c.2.toNat]? with
   | none=>rfl
   | some x=>dsimp only;rw[Od h]
theorem Un{T:Tb}{s:St}(h:Zt s)(oc:Nat)(c:Nat × Int):Zt (Dd T s oc c):=by
 unfold Dd Bo;split
 ·exact h
 ·split
  ·split
   ·exact Uo h _ _
   ·exact h
  ·cases hx:T.rw[c.2.toNat]? with
   | none=>exact h
   | some x=>
     dsimp only;split
     ·exact Up h _ _ _
     ·split
      ·exact Um h _ _ _
      ·exact h
theorem If{T:Tb}(oc:Nat):∀(l:List (Nat × Int)) (s:St),Zt s→AY BB T oc l s=AY Bp T oc l s
 | [],_,_=>rfl
 | c :: l,s,h=>by
   show AY BB T oc l (D6 T s oc c)=AY Bp T oc l (Dd T s oc c);rw[On h,If oc l _ (Un h oc c)]
def Gd:=Bw BB
theorem NG(T:Tb)(s:St)(oc:Nat)(l:List (Nat × Int)):Gd T s oc l=El T s oc l:=by
 show Bw BB T s oc l=Bw Bp T s oc l;unfold Bw;rw[If oc _ _ (SC _ _ s)]
theorem Kq(T:Tb)(s:St)(oc:Nat)(l:List (Nat × Int)):Gd T s oc l=AV T oc (AI T.rw.length T.li.length s).us (AY BB T oc (l.take 8) (AI T.rw.length T.li.length s)) T.rw.length:=rfl
end Go.Proofs.YtpohoannggdbjaaGreat
