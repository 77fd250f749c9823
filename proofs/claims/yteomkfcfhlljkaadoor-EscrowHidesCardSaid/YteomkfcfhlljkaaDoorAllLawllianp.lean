/- Texts of this claim, put together: EscLp, EscLq, EscLr, EscLs, EscLt, EscLu -/
import Derived.Test.YteomkfcfhlljkaaDoorAllLawllkfjb
set_option linter.unusedVariables false
set_option maxRecDepth 100000
namespace Go.Sh
open Go.Fw Go.Gf Go.Sha Go.RowKit Go.Proofs.Tryd
theorem K_131{K:Nat}(hK:300≤K)(a b:F)(hb:b≠0):∀ (d i m:Nat),i+d=(a*b.inv).n→d<m→
  K_4r K m (bF a) (bF b) (i:Int)=some (.ret (bF (a*b.inv),())):=by
 have hlt:=(a*b.inv).lt
 have hab:a*b.inv*b=a:=by rw[F.mul_assoc,F.inv_mul hb,F.mul_one]
 intro d
 induction d with
 | zero=>
  intro i m hi hm
  obtain⟨m,rfl⟩:∃ q,m=q+1:=⟨m - 1,by omega⟩
  have ew:IntKind.u8.wrap (i:Int)=bF (a*b.inv):=by
   rw[w8 (by omega) (by omega)]
   show (i:Int)=(((a*b.inv).n:Nat):Int)
   omega
  show K_7v K (K_4r K m) (bF a) (bF b) (i:Int)=_
  unfold K_7v
  rw[if_pos (decide_eq_true (by omega)),ew,tm hK,J_bs,hab]
  dsimp only
  rw[if_pos (by simp)]
 | succ d ih=>
  intro i m hi hm
  obtain⟨m,rfl⟩:∃ q,m=q+1:=⟨m - 1,by omega⟩
  have e3:IntKind.i64.wrap ((i:Int)+1)=((i+1:Nat):Int):=by rw[w64 (by omega) (by omega)];rfl
  have hi8:i<256:=by omega
  have ew:IntKind.u8.wrap (i:Int)=bF ⟨i,hi8⟩:=by
   rw[w8 (by omega) (by omega)];rfl
  show K_7v K (K_4r K m) (bF a) (bF b) (i:Int)=_
  unfold K_7v
  rw[if_pos (decide_eq_true (by omega)),ew,tm hK,J_bs,if_neg,e3,ih (i+1) m (by omega) (by omega)]
  rw[beq_iff_eq]
  intro e
  have e:=K_zb e
  have:a*b.inv=⟨i,hi8⟩:=by rw[←e,F.mul_assoc,F.mul_inv hb,F.mul_one]
  have:=congrArg F.n this
  dsimp only at this
  omega
theorem K_15o{K:Nat}(hK:300≤K)(a b:F)(hb:b≠0):K_av K (bF a) (bF b)=some (bF (a*b.inv),()):=by
 have h:=K_131 hK a b hb (a*b.inv).n 0 K (by omega) (by have:=(a*b.inv).lt;omega)
 have h:K_4r K K (bF a) (bF b) 0=_:=h
 unfold K_av
 rw[h];rfl
def rngL(n:Nat)(f:Nat→F):List F:=(List.range n).map f
theorem K_17(n:Nat)(f:Nat→F):(rngL n f).length=n:=by simp[rngL]
theorem K_hn{n:Nat}{f:Nat→F}{j:Nat}(h:j<n):(rngL n f).getD j 0=f j:=by
 unfold rngL
 rw[K_81 f _ 0 0 (by simpa using h)]
 congr 1
 rw[J_gd,List.getElem?_range h];rfl
theorem K_i7{n:Nat}{f:Nat→F}{j:Nat}(h:j<(rngL n f).length):(rngL n f)[j]=f j:=by simp[rngL]
theorem K_25{n:Nat}{f g:Nat→F}(h:∀ j,j<n→f j=g j):rngL n f=rngL n g:=List.map_congr_left fun j hj=>h j (by simpa using hj)
theorem K_hp{n:Nat}{f:Nat→F}{i:Nat}(v:F):(rngL n f).set i v=rngL n fun j=>if j=i then v else f j:=by
 apply List.ext_getElem
 ·rw[List.length_set,K_17,K_17]
 ·intro j h1 h2
  rw[List.getElem_set,K_i7,K_i7]
  by_cases c:i=j
  ·rw[if_pos c,if_pos c.symm]
  ·rw[if_neg c,if_neg (fun e=>c e.symm)]
theorem K_1aa(l:List F):rngL l.length (fun j=>l.getD j 0)=l:=by
 apply List.ext_getElem
 ·rw[K_17]
 ·intro j h1 h2
  rw[K_i7,K_29 h2]
theorem K_t5(n:Nat):rngL n (fun _=>0)=List.replicate n 0:=by
 apply List.ext_getElem
 ·rw[K_17,List.length_replicate]
 ·intro j h1 h2
  rw[K_i7,List.getElem_replicate]
section
variable (x y:Nat→F)
def dv(k j:Nat):F:=dd x y (min k j) (j - min k j)
def dS(n k i:Nat):List F:=rngL n fun j=>if j<i then dv x y (k - 1) j else dv x y k j
def dF(n k:Nat):List F:=rngL n (dv x y k)
variable {x y}
theorem K_19h{k j:Nat}(h:j<k):dv x y (k - 1) j=dv x y k j:=by
 unfold dv
 rw[show min (k - 1) j=j by omega,show min k j=j by omega]
theorem K_18b{k c:Nat}(hk:1≤k)(hc:k≤c):dv x y k c=(dv x y (k - 1) c+dv x y (k - 1) (c - 1))*(x c+x (c - k)).inv:=by
 obtain⟨k,rfl⟩:∃ q,k=q+1:=⟨k - 1,by omega⟩
 unfold dv
 rw[Nat.add_sub_cancel,show min (k+1) c=k+1 by omega,show min k c=k by omega,show min k (c - 1)=k by omega]
 show (dd x y k (c - (k+1)+1)+dd x y k (c - (k+1)))*(x (c - (k+1)+k+1)+x (c - (k+1))).inv=_
 rw[show c - (k+1)+1=c - k by omega,show c - (k+1)+k+1=c by omega,show c - 1 - k=c - (k+1) by omega]
theorem K_193{n k:Nat}:dS x y n k n=dF x y n (k - 1):=K_25 fun j hj=>if_pos hj
theorem K_1ag{n k:Nat}:dS x y n k k=dF x y n k:=K_25 fun j hj=>by
 split
 ·rename_i h;exact K_19h h
 ·rfl
theorem K_19i{n k c:Nat}:(dS x y n k (c+1)).set c (dv x y k c)=dS x y n k c:=by
 unfold dS
 rw[K_hp]
 exact K_25 fun j hj=>by
  by_cases h:j=c
  ·rw[if_pos h,if_neg (by omega),h]
  ·rw[if_neg h]
   by_cases h2:j<c
   ·rw[if_pos (by omega),if_pos h2]
   ·rw[if_neg (by omega),if_neg h2]
theorem K_18e{n:Nat}:dF x y n 0=rngL n y:=K_25 fun j hj=>by unfold dv;rw[Nat.zero_min];rfl
end
theorem K_19a{K:Nat}(hK:300≤K){X:List F}{y:Nat→F}{n k:Nat}(hX:X.length=n)(hn:n≤1000)(hk:1≤k)(hd:∀ i j,i<n→j<n→i≠j→X.getD i 0≠X.getD j 0){x0 d6:Sl}(hne:∀ q,x0.a=some q→∀ k,d6.blk=some k→q.block≠k):
  ∀ (d c m:Nat) (w:World),c+1=k+d→c<n→d<m→BSrc w x0 X→OwnS 5 w d6 (fb (dS (X.getD · 0) y n k (c+1)))→
   ∃ w',K_3h K m x0 (n:Int) d6 (k:Int) (c:Int) w=some ((),w')∧OwnS 5 w' d6 (fb (dF (X.getD · 0) y n k))∧Upd (fun j=>d6.blk=some j) w w':=by
 intro d
 induction d with
 | zero=>
  intro c m w hc hcn hm hx ho
  obtain⟨m,rfl⟩:∃ q,m=q+1:=⟨m - 1,by omega⟩
  obtain rfl:c+1=k:=by omega
  rw[K_1ag]at ho
  refine⟨w,?_,ho,Upd.refl _ _⟩
  show K_5q K (K_3h K m) x0 (n:Int) d6 ((c+1:Nat):Int) (c:Int) w=_
  unfold K_5q
  rw[if_neg (by simp only[decide_eq_true_eq];omega)]
 | succ d ih=>
  intro c m w hc hcn hm hx ho
  obtain⟨m,rfl⟩:∃ q,m=q+1:=⟨m - 1,by omega⟩
  have hdl:d6.len=n:=by rw[ho.len,K_0];exact K_17 _ _
  have hxl:x0.len=n:=by rw[hx.len,K_0,hX]
  have ed:=ho.drew
  have hxd:=hx.upd0 ((Upd.refl none_ w).drew)
  obtain⟨p,p1,p2⟩:=K_6v ed (i:=c) (by unfold dS;rw[K_17];exact hcn)
  obtain⟨p',p1',p3⟩:=K_6v ed (i:=c - 1) (by unfold dS;rw[K_17];omega)
  obtain rfl:p'=p:=Option.some.inj (p1'.symm.trans p1)
  obtain⟨q,q1,q2⟩:=K_t hxd (i:=c) (by omega)
  obtain⟨q',q1',q3⟩:=K_t hxd (i:=c - k) (by omega)
  obtain rfl:q'=q:=Option.some.inj (q1'.symm.trans q1)
  rw[K_29 (by omega)]at q2 q3
  unfold dS at p2 p3
  rw[K_hn hcn,if_pos (by omega)]at p2
  rw[K_hn (by omega),if_pos (by omega)]at p3
  have e1:IntKind.i64.wrap ((c:Int) - 1)=((c - 1:Nat):Int):=by rw[w64 (by omega) (by omega)];omega
  have ek:IntKind.i64.wrap ((c:Int) - (k:Int))=((c - k:Nat):Int):=by rw[w64 (by omega) (by omega)];omega
  obtain⟨p'',w2,t1,t2,t3,t4⟩:=K_8e ed (i:=c) (by unfold dS;rw[K_17];exact hcn) (dv (X.getD · 0) y k c)
  obtain rfl:p''=p':=Option.some.inj (t1.symm.trans p1)
  rw[K_19i]at t3
  have hov:=K_15o hK (dv (X.getD · 0) y (k - 1) c+dv (X.getD · 0) y (k - 1) (c - 1)) (X.getD c 0+X.getD (c - k) 0) (F.add_ne_zero (hd _ _ hcn (by omega) (by omega)))
  rw[←K_18b hk (by omega)]at hov
  have t4:Upd (fun j=>d6.blk=some j) w w2:=t4.predrew
  have hx2:=K_1u hx t4 fun q hq _ e=>hne q hq _ e rfl
  obtain⟨w',k1,k2,k3⟩:=ih (c - 1) m w2 (by omega) (by omega) (by omega) hx2 (by rw[Nat.sub_add_cancel (by omega)];exact t3)
  refine⟨w',?_,k2,t4.trans' k3 fun _ _ e=>e⟩
  show K_5q K (K_3h K m) x0 (n:Int) d6 (k:Int) (c:Int) w=_
  unfold K_5q
  have c1:(0:Int)≤(c:Int)∧(c:Int)<((d6.len:Nat):Int):=by omega
  have c2:(0:Int)≤((c - 1:Nat):Int)∧((c - 1:Nat):Int)<((d6.len:Nat):Int):=by omega
  have c3:(0:Int)≤(c:Int)∧(c:Int)<((x0.len:Nat):Int):=by omega
  have c4:(0:Int)≤((c - k:Nat):Int)∧((c - k:Nat):Int)<((x0.len:Nat):Int):=by omega
  rw[if_pos (decide_eq_true (by omega)),e1,ek,p1,J_bs,if_pos c1,J_bs,if_pos c2,q1,J_bs,if_pos c3,J_bs,if_pos c4,J_tn,J_tn,J_tn,Nat.mul_one,Nat.mul_one,Nat.mul_one,p2,J_bs,p3,J_bs,q2,J_bs,q3,J_bs,addF,addF,hov,J_bs,J_bs,if_pos c1,t2,J_bs,k1]
theorem K_1ae{K:Nat}(hK:18446744073709551616≤K){X:List F}{y:Nat→F}{n:Nat}(hX:X.length=n)(hn:n≤1000)(hd:∀ i j,i<n→j<n→i≠j→X.getD i 0≠X.getD j 0){x0 d6:Sl}(hne:∀ q,x0.a=some q→∀ k,d6.blk=some k→q.block≠k):
  ∀ (d k m:Nat) (w:World),k+d=n→1≤k→d<m→BSrc w x0 X→OwnS 5 w d6 (fb (dF (X.getD · 0) y n (k - 1)))→
   ∃ w',K_2c K m x0 (n:Int) d6 (k:Int) w=some ((),w')∧OwnS 5 w' d6 (fb (dF (X.getD · 0) y n (n - 1)))∧Upd (fun j=>d6.blk=some j) w w':=by
 intro d
 induction d with
 | zero=>
  intro k m w hk hk1 hm hx ho
  obtain⟨m,rfl⟩:∃ q,m=q+1:=⟨m - 1,by omega⟩
  obtain rfl:k=n:=by omega
  refine⟨w,?_,ho,Upd.refl _ _⟩
  show K_5d K (K_2c K m) x0 (k:Int) d6 (k:Int) w=_
  unfold K_5d
  rw[if_neg (by simp)]
 | succ d ih=>
  intro k m w hk hk1 hm hx ho
  obtain⟨m,rfl⟩:∃ q,m=q+1:=⟨m - 1,by omega⟩
  have e1:IntKind.i64.wrap ((n:Int) - 1)=((n - 1:Nat):Int):=by rw[w64 (by omega) (by omega)];omega
  have e3:IntKind.i64.wrap ((k:Int)+1)=((k+1:Nat):Int):=by rw[w64 (by omega) (by omega)];rfl
  obtain⟨w1,a1,a2,a3⟩:=K_19a (K:=K) (by omega) hX hn hk1 hd hne (n - k) (n - 1) K w (by omega) (by omega) (by omega) hx (by rw[Nat.sub_add_cancel (by omega),K_193];exact ho)
  obtain⟨w',k1,k2,k3⟩:=ih (k+1) m w1 (by omega) (by omega) (by omega) (K_1u hx a3 fun q hq _ e=>hne q hq _ e rfl) a2
  refine⟨w',?_,k2,a3.trans' k3 fun _ _ e=>e⟩
  show K_5d K (K_2c K m) x0 (n:Int) d6 (k:Int) w=_
  unfold K_5d
  rw[if_pos (decide_eq_true (by omega)),e1,a1,bnd_ok,e3,k1]
end Go.Sh

namespace Go.Sh
open Go.Fw Go.Gf Go.Sha Go.RowKit Go.Proofs.Tryd
def upN(l:List F)(t:Nat):F:=if 0<t then l.getD (t - 1) 0 else 0
def mulN(l:List F)(r:F)(t:Nat):F:=upN l t+l.getD t 0*r
theorem K_1a1{K:Nat}{n:Nat}(hn:n≤1000){l:List F}(hl:l.length=n){l9 next:Sl}{f:Nat→F}{w:World}{j:Nat}(hj:j<n)(hf:f j=0)(h9:BSrc w l9 l)(ho:OwnS 5 w next (fb (rngL n f))):
  ∃ w',K_78 K l9 next (j:Int) (decide ((j:Int) > 0)) w=some ((),w')∧OwnS 5 w' next (fb (rngL n fun t=>if t=j then upN l j else f t))∧Upd (fun k=>next.blk=some k) w w':=by
 unfold K_78
 by_cases c:0<j
 ·have hnl:next.len=n:=by rw[ho.len,K_0];exact K_17 _ _
  have h9l:l9.len=n:=by rw[h9.len,K_0,hl]
  have e1:IntKind.i64.wrap ((j:Int) - 1)=((j - 1:Nat):Int):=by rw[w64 (by omega) (by omega)];omega
  obtain⟨q,q1,q2⟩:=K_t h9 (i:=j - 1) (by omega)
  rw[K_29 (by omega)]at q2
  obtain⟨p,w',t1,t2,t3,t4⟩:=K_8e ho (i:=j) (by rw[K_17];exact hj) (l.getD (j - 1) 0)
  rw[K_hp]at t3
  have c1:(0:Int)≤((j - 1:Nat):Int)∧((j - 1:Nat):Int)<((l9.len:Nat):Int):=by omega
  have c2:(0:Int)≤(j:Int)∧(j:Int)<((next.len:Nat):Int):=by omega
  have hu:upN l j=l.getD (j - 1) 0:=if_pos c
  refine⟨w',?_,by rw[hu];exact t3,t4⟩
  rw[if_pos (decide_eq_true (by omega)),q1,J_bs,e1,if_pos c1,J_tn,Nat.mul_one,q2,J_bs,t1,J_bs,if_pos c2,J_tn,Nat.mul_one,t2,J_bs]
 ·rw[if_neg (by simp only[decide_eq_true_eq];omega)]
  have hu:upN l j=0:=if_neg c
  refine⟨w,rfl,?_,Upd.refl _ _⟩
  have:rngL n (fun t=>if t=j then upN l j else f t)=rngL n f:=K_25 fun t _=>by
   by_cases e:t=j
   ·rw[if_pos e,hu,e,hf]
   ·rw[if_neg e]
  rw[this];exact ho
theorem K_198{K:Nat}(hK:300≤K){X l:List F}{n i:Nat}(hX:X.length=n)(hn:n≤1000)(hl:l.length=n)(hi:i<n){x0 d6 l9 next:Sl}(hx0:∀ q,x0.a=some q→∀ k,next.blk=some k→q.block≠k)(hl9:∀ q,l9.a=some q→∀ k,next.blk=some k→q.block≠k):
  ∀ (d j m:Nat) (w:World),j+d=n→d<m→BSrc w x0 X→BSrc w l9 l→OwnS 5 w next (fb (rngL n fun t=>if t<j then mulN l (X.getD i 0) t else 0))→
   ∃ w',K_2f K m x0 (n:Int) d6 l9 (i:Int) next (j:Int) w=some ((),w')∧OwnS 5 w' next (fb (rngL n (mulN l (X.getD i 0))))∧Upd (fun k=>next.blk=some k) w w':=by
 intro d
 induction d with
 | zero=>
  intro j m w hj hm hx h9 ho
  obtain⟨m,rfl⟩:∃ q,m=q+1:=⟨m - 1,by omega⟩
  obtain rfl:j=n:=by omega
  rw[K_25 (g:=mulN l (X.getD i 0)) fun t ht=>if_pos ht]at ho
  refine⟨w,?_,ho,Upd.refl _ _⟩
  show K_5i K (K_2f K m) x0 (j:Int) d6 l9 (i:Int) next (j:Int) w=_
  unfold K_5i
  rw[if_neg (by simp)]
 | succ d ih=>
  intro j m w hj hm hx h9 ho
  obtain⟨m,rfl⟩:∃ q,m=q+1:=⟨m - 1,by omega⟩
  have hjn:j<n:=by omega
  have e3:IntKind.i64.wrap ((j:Int)+1)=((j+1:Nat):Int):=by rw[w64 (by omega) (by omega)];rfl
  obtain⟨w1,a1,a2,a3⟩:=K_1a1 (K:=K) hn hl hjn (if_neg (Nat.lt_irrefl _)) h9 ho
  have hx1:=K_1u hx a3 fun q hq _ e=>hx0 q hq _ e rfl
  have h91:=K_1u h9 a3 fun q hq _ e=>hl9 q hq _ e rfl
  have ud:=(Upd.refl none_ w1).drew
  have hnl:next.len=n:=by rw[ho.len,K_0];exact K_17 _ _
  have h9l:l9.len=n:=by rw[h9.len,K_0,hl]
  have hxl:x0.len=n:=by rw[hx.len,K_0,hX]
  obtain⟨p,p1,p2⟩:=K_6v a2.drew (i:=j) (by rw[K_17];exact hjn)
  rw[K_hn hjn,if_pos rfl]at p2
  obtain⟨q,q1,q2⟩:=K_t (h91.upd0 ud) (i:=j) (by omega)
  obtain⟨r,r1,r2⟩:=K_t (hx1.upd0 ud) (i:=i) (by omega)
  rw[K_29 (by omega)]at q2 r2
  obtain⟨p',w2,t1,t2,t3,t4⟩:=K_8e a2.drew (i:=j) (by rw[K_17];exact hjn) (upN l j+l.getD j 0*X.getD i 0)
  obtain rfl:p'=p:=Option.some.inj (t1.symm.trans p1)
  have t4:Upd (fun k=>next.blk=some k) w1 w2:=t4.predrew
  have hset:((rngL n fun t=>if t=j then upN l j else if t<j then mulN l (X.getD i 0) t else 0).set j (upN l j+l.getD j 0*X.getD i 0))=rngL n fun t=>if t<j+1 then mulN l (X.getD i 0) t else 0:=by
   rw[K_hp]
   exact K_25 fun t _=>by
    by_cases e:t=j
    ·rw[if_pos e,if_pos (by omega),e];rfl
    ·rw[if_neg e,if_neg e]
     by_cases e2:t<j
     ·rw[if_pos e2,if_pos (by omega)]
     ·rw[if_neg e2,if_neg (by omega)]
  rw[hset]at t3
  obtain⟨w',k1,k2,k3⟩:=ih (j+1) m w2 (by omega) (by omega) (K_1u hx1 t4 fun q hq _ e=>hx0 q hq _ e rfl) (K_1u h91 t4 fun q hq _ e=>hl9 q hq _ e rfl) t3
  refine⟨w',?_,k2,(a3.trans' t4 fun _ _ e=>e).trans' k3 fun _ _ e=>e⟩
  have c1:(0:Int)≤(j:Int)∧(j:Int)<((next.len:Nat):Int):=by omega
  have c2:(0:Int)≤(j:Int)∧(j:Int)<((l9.len:Nat):Int):=by omega
  have c3:(0:Int)≤(i:Int)∧(i:Int)<((x0.len:Nat):Int):=by omega
  show K_5i K (K_2f K m) x0 (n:Int) d6 l9 (i:Int) next (j:Int) w=_
  unfold K_5i
  rw[if_pos (decide_eq_true (by omega)),a1,bnd_ok,p1,J_bs,if_pos c1,q1,J_bs,if_pos c2,r1,J_bs,if_pos c3,J_tn,J_tn,Nat.mul_one,Nat.mul_one,p2,J_bs,q2,J_bs,r2,J_bs,tm hK,J_bs,addF,J_bs,if_pos c1,t2,J_bs,e3,k1]
theorem K_15x{n:Nat}{r c:F}{l:List F}(hl:l.length=n)(h0:0<n):(rngL n (mulN l r)).set 0 (mulN l r 0+c)=horL n r c l:=by
 rw[K_hp]
 apply List.ext_getElem
 ·rw[K_17,K_z8 hl h0]
 ·intro j h1 h2
  rw[K_17]at h1
  rw[K_i7,K_29 h2,K_zi h1]
  by_cases e:j=0
  ·subst e
   rw[if_pos rfl,if_pos rfl];rfl
  ·rw[if_neg e,if_neg e,F.add_zero];rfl
theorem K_19v{K:Nat}(hK:18446744073709551616≤K){X:List F}{D:Nat→F}{n:Nat}(hX:X.length=n)(hn:n≤1000)(h0:0<n){x0 d6:Sl}:
  ∀ (d p m:Nat) (w:World) (l9:Sl),p+d=n→d<m→BSrc w x0 X→OwnS 5 w d6 (fb (rngL n D))→OwnS 5 w l9 (fb (hors n (X.getD · 0) D p))→
   ∃ l9' w',K_3i K m x0 (n:Int) d6 l9 ((n:Int) - 1 - (p:Int)) w=some ((l9',()),w')∧OwnS 5 w' l9' (fb (hors n (X.getD · 0) D n))∧Upd none_ w w'∧∀ k,l9'.blk=some k→l9.blk=some k∨w.heap.size≤k:=by
 intro d
 induction d with
 | zero=>
  intro p m w l9 hp hm hx hd h9
  obtain⟨m,rfl⟩:∃ q,m=q+1:=⟨m - 1,by omega⟩
  obtain rfl:p=n:=by omega
  refine⟨l9,w,?_,h9,Upd.refl _ _,fun k=>.inl⟩
  show K_5c K (K_3i K m) x0 (p:Int) d6 l9 ((p:Int) - 1 - (p:Int)) w=_
  unfold K_5c
  rw[if_neg (by simp only[decide_eq_true_eq];omega)]
 | succ d ih=>
  intro p m w l9 hp hm hx hd h9
  obtain⟨m,rfl⟩:∃ q,m=q+1:=⟨m - 1,by omega⟩
  have hi:n - 1 - p<n:=by omega
  have ei:(n:Int) - 1 - (p:Int)=((n - 1 - p:Nat):Int):=by omega
  have e3:IntKind.i64.wrap (((n - 1 - p:Nat):Int) - 1)=(n:Int) - 1 - ((p+1:Nat):Int):=by rw[w64 (by omega) (by omega)];omega
  have hhl:=K_in h0 (X.getD · 0) D p
  generalize hL:hors n (X.getD · 0) D p=l at h9 hhl
  obtain⟨w1,a1,a2,a3⟩:=K_iu w (n:=n) (by omega)
  have a2:OwnS 5 w1 ⟨some ⟨w.heap.size,0,none⟩,n,n⟩ (fb (rngL n fun t=>if t<0 then mulN l (X.getD (n - 1 - p) 0) t else 0)):=by
   have e:rngL n (fun t=>if t<0 then mulN l (X.getD (n - 1 - p) 0) t else 0)=List.replicate n 0:=by
    rw[←K_t5]
    exact K_25 fun t _=>if_neg (Nat.not_lt_zero _)
   rw[e]
   unfold fb
   rw[List.map_replicate]
   exact a2
  have hnew:∀ k,(⟨some ⟨w.heap.size,0,none⟩,n,n⟩:Sl).blk=some k→k=w.heap.size:=fun k hk=>(Option.some.inj hk).symm
  have hxlt:∀ q,x0.a=some q→∀ k,(⟨some ⟨w.heap.size,0,none⟩,n,n⟩:Sl).blk=some k→q.block≠k:=fun q hq k hk e=>by
   have h1:=hnew k hk
   have h2:=K_b0 hx q hq (fun e=>by rw[e]at hX;simp at hX;omega)
   omega
  have h9lt:∀ q,l9.a=some q→∀ k,(⟨some ⟨w.heap.size,0,none⟩,n,n⟩:Sl).blk=some k→q.block≠k:=fun q hq k hk e=>by
   have h1:=hnew k hk
   have h2:=K_8r h9 q hq
   omega
  obtain⟨w2,b1,b2,b3⟩:=K_198 (K:=K) (by omega) (d6:=d6) hX hn hhl hi hxlt h9lt n 0 K w1 (by omega) (by omega) (hx.upd0 a3) ((h9.upd0 a3).src (K_m _)) a2
  have b1:K_2f K K x0 (n:Int) d6 l9 ((n - 1 - p:Nat):Int) ⟨some ⟨w.heap.size,0,none⟩,n,n⟩ 0 w1=_:=b1
  have u2:Upd none_ w w2:=a3.trans' b3 fun k hk e=>by have:=hnew k e;omega
  have ud:Upd none_ w2 w2.drew:=(Upd.refl _ _).drew
  have hd2:=(hd.upd0 u2).upd0 ud
  obtain⟨q,q1,q2⟩:=K_6v hd2 (i:=n - 1 - p) (by rw[K_17];exact hi)
  rw[K_hn hi]at q2
  obtain⟨r,r1,r2⟩:=K_6v b2.drew (i:=0) (by rw[K_17];exact h0)
  rw[K_hn h0]at r2
  obtain rfl:(⟨w.heap.size,0,none⟩:Addr)=r:=Option.some.inj r1
  obtain⟨r',w3,t1,t2,t3,t4⟩:=K_8e b2.drew (i:=0) (by rw[K_17];exact h0) (mulN l (X.getD (n - 1 - p) 0) 0+D (n - 1 - p))
  obtain rfl:(⟨w.heap.size,0,none⟩:Addr)=r':=Option.some.inj t1
  rw[K_15x hhl h0]at t3
  have t4:Upd (fun k=>(⟨some ⟨w.heap.size,0,none⟩,n,n⟩:Sl).blk=some k) w2 w3:=t4.predrew
  have hnext:horL n (X.getD (n - 1 - p) 0) (D (n - 1 - p)) l=hors n (X.getD · 0) D (p+1):=by rw[←hL];rfl
  rw[hnext]at t3
  have u3:Upd none_ w w3:=u2.trans' t4 fun k hk e=>by have:=hnew k e;omega
  obtain⟨l9',w',k1,k2,k3,k4⟩:=ih (p+1) m w3 ⟨some ⟨w.heap.size,0,none⟩,n,n⟩ (by omega) (by omega) (hx.upd0 u3) (hd.upd0 u3) t3
  have z3:=u3.size
  refine⟨l9',w',?_,k2,u3.and0 k3,fun k hk=>.inr ((k4 k hk).elim (fun e=>by have:=hnew k e;omega) fun e=>by omega)⟩
  have hdl:d6.len=n:=by rw[hd.len,K_0];exact K_17 _ _
  have c0:(0:Int)≤0∧(0:Int)<((n:Nat):Int):=by omega
  have c1:(0:Int)≤((n - 1 - p:Nat):Int)∧((n - 1 - p:Nat):Int)<((d6.len:Nat):Int):=by omega
  show K_5c K (K_3i K m) x0 (n:Int) d6 l9 ((n:Int) - 1 - (p:Int)) w=_
  unfold K_5c
  have r2:ldI .u8 ((⟨w.heap.size,0,none⟩:Addr).add 0) w2.drew=_:=r2
  have t2:stC ((⟨w.heap.size,0,none⟩:Addr).add 0) (.int .u8 (bF (mulN l (X.getD (n - 1 - p) 0) 0+D (n - 1 - p)))) w2.drew=_:=t2
  rw[if_pos (decide_eq_true (by omega)),a1,bnd_ok,ei,b1,bnd_ok,J_bs]
  dsimp only
  rw[if_pos c0,q1,J_bs,if_pos c1,J_tn,Nat.mul_one,Nat.mul_one,r2,J_bs,q2,J_bs,J_bs,if_pos c0,addF,t2,J_bs,e3,k1]
def newt(X Y:List F):List F:=hors X.length (X.getD · 0) (fun i=>dd (X.getD · 0) (Y.getD · 0) i 0) X.length
theorem K_160{X:List F}(h:0<X.length)(Y:List F):(newt X Y).length=X.length:=K_in h _ _ _
theorem K_11c{X:List F}(Y:List F)(hd:∀ i j,i<X.length→j<X.length→i≠j→X.getD i 0≠X.getD j 0){j:Nat}(hj:j<X.length):ev (newt X Y) (X.getD j 0)=Y.getD j 0:=
 K_17e (x:=(X.getD · 0)) (y:=(Y.getD · 0)) hd (by omega) hj
theorem K_133{K:Nat}(hK:18446744073709551616≤K){w:World}{X Y:List F}(h0:0<X.length)(hn:X.length≤1000)(hY:Y.length=X.length)(hd:∀ i j,i<X.length→j<X.length→i≠j→X.getD i 0≠X.getD j 0){x0 y1:Sl}(hx:BSrc w x0 X)(hy:BSrc w y1 Y):
  ∃ s' w',K_7j K x0 y1 w=some ((s',()),w')∧OwnS 5 w' s' (fb (newt X Y))∧Upd none_ w w'∧Fresh w.heap.size s':=by
 obtain⟨w1,a1,a2,a3⟩:=K_w0 sliceB w
 have hyl:y1.len=X.length:=by rw[hy.len,K_0,hY]
 obtain⟨d6,w2,b1,b2,b3,b4,b5⟩:=K_4e sliceB a2 (hy.upd0 a3) (by show (0+y1.len)*1≤_;omega)
 rw[List.nil_append]at b3
 have b3:OwnS 5 w2 d6 (fb Y):=b3
 have z1:=a3.size
 have hdb:∀ k,d6.blk=some k→w.heap.size≤k:=fun k hk=>by
  rcases b5 with e | e
  ·rw[e]at hk;have e2:w.heap.size=k:=Option.some.inj hk;omega
  ·rw[e]at hk;have e2:w1.heap.size=k:=Option.some.inj hk;omega
 have u2:Upd none_ w w2:=a3.trans' b4 fun k hk e=>by have e2:w.heap.size=k:=Option.some.inj e;omega
 have hxlt:∀ q,x0.a=some q→∀ k,d6.blk=some k→q.block≠k:=fun q hq k hk e=>by
  have h1:=hdb k hk
  have h2:=K_b0 hx q hq (fun e=>by rw[e]at h0;simp at h0)
  omega
 have hd0:dF (X.getD · 0) (Y.getD · 0) X.length 0=Y:=by
  rw[K_18e,←hY];exact K_1aa Y
 obtain⟨w3,c1,c2,c3⟩:=K_1ae hK (y:=(Y.getD · 0)) rfl hn hd hxlt (X.length - 1) 1 K w2 (by omega) (Nat.le_refl _) (by omega) (hx.upd0 u2) (by rw[Nat.sub_self,hd0];exact b3)
 have c1:K_2c K K x0 ((X.length:Nat):Int) d6 1 w2=_:=c1
 have u3:Upd none_ w w3:=u2.trans' c3 fun k hk e=>by have:=hdb k e;omega
 have hDF:dF (X.getD · 0) (Y.getD · 0) X.length (X.length - 1)=rngL X.length (fun i=>dd (X.getD · 0) (Y.getD · 0) i 0):=K_25 fun j hj=>by
  unfold dv
  rw[show min (X.length - 1) j=j by omega,Nat.sub_self]
 rw[hDF]at c2
 obtain⟨w4,e1,e2,e3⟩:=K_iu w3 (n:=X.length) (by omega)
 have e2:OwnS 5 w4 ⟨some ⟨w3.heap.size,0,none⟩,X.length,X.length⟩ (fb (hors X.length (X.getD · 0) (fun i=>dd (X.getD · 0) (Y.getD · 0) i 0) 0)):=by
  show OwnS 5 w4 _ (fb (List.replicate X.length 0))
  unfold fb
  rw[List.map_replicate]
  exact e2
 obtain⟨s',w5,k1,k2,k3,k4⟩:=K_19v hK (D:=fun i=>dd (X.getD · 0) (Y.getD · 0) i 0) rfl hn h0 (x0:=x0) (d6:=d6) X.length 0 K w4 ⟨some ⟨w3.heap.size,0,none⟩,X.length,X.length⟩ (by omega) (by omega) ((hx.upd0 u3).upd0 e3) (c2.upd0 e3) e2
 have hxl:x0.len=X.length:=by rw[hx.len,K_0]
 have ew:IntKind.i64.wrap ((X.length:Int) - 1)=(X.length:Int) - 1 - ((0:Nat):Int):=by rw[w64 (by omega) (by omega)];omega
 have z3:=u3.size
 have z4:=e3.size
 refine⟨s',w5,?_,k2,(u3.and0 e3).and0 k3,fun k hk=>(k4 k hk).elim (fun e=>by have e2:w3.heap.size=k:=Option.some.inj e;omega) fun e=>by omega⟩
 unfold K_7j
 rw[a1,bnd_ok]
 dsimp only
 rw[b1,bnd_ok,hxl,c1,bnd_ok,e1,bnd_ok,ew,k1,bnd_ok]
end Go.Sh

namespace Go.Sh
open Go.Fw Go.Gf Go.Sha Go.RowKit Go.Proofs.Tryd
def ptX(from_:Int)(n k:Nat):List F:=0 :: (xsX from_ n k).map b8
theorem K_8h(from_:Int)(n k:Nat):(ptX from_ n k).length=k+1:=by unfold ptX;rw[List.length_cons,List.length_map,K_rn]
theorem K_if{from_:Int}{n k j:Nat}(h:j<k):(ptX from_ n k).getD (j+1) 0=b8 (atX from_ n j+1):=by
 unfold ptX xsX
 rw[List.getD_cons_succ,K_81 b8 _ 0 0 (by simpa using h),K_81 (fun i=>atX from_ n i+1) _ 0 0 (by simpa using h)]
 congr 2
 rw[J_gd,List.getElem?_range h];rfl
theorem b8_ne{a:Nat}(h:1≤a)(h2:a≤255):b8 a≠0:=fun e=>by
 have h1:=congrArg F.n e
 have h1:a % 256=0:=h1
 omega
theorem K_tq{from_:Int}{n k:Nat}(hn:n≤255)(hk:k≤n):∀ i j,i<(ptX from_ n k).length→j<(ptX from_ n k).length→i≠j→(ptX from_ n k).getD i 0≠(ptX from_ n k).getD j 0:=by
 intro i j hi hj hij
 rw[K_8h]at hi hj
 cases i with
 | zero=>
  cases j with
  | zero=>exact absurd rfl hij
  | succ j=>
   rw[K_if (by omega)]
   have:=K_qe from_ j (n:=n) (by omega)
   exact fun e=>b8_ne (by omega) (by omega) e.symm
 | succ i=>
  rw[K_if (by omega)]
  have h1:=K_qe from_ i (n:=n) (by omega)
  cases j with
  | zero=>exact b8_ne (by omega) (by omega)
  | succ j=>
   rw[K_if (by omega)]
   have h2:=K_qe from_ j (n:=n) (by omega)
   intro e
   have:=K_13a (by omega) (by omega) e
   exact hij (by rw[K_174 (from_:=from_) (n:=n) (by omega) (by omega) (by omega:atX from_ n i=atX from_ n j)])
def yX(rows:List (List F))(row2:List F)(from_:Int)(n k i:Nat):List F:=row2.getD i 0 :: (xsX from_ n k).map fun a=>(valsAt rows (b8 a)).getD i 0
theorem K_1af(rows:List (List F))(row2:List F)(from_:Int)(n k i:Nat):(yX rows row2 from_ n k i).length=k+1:=by unfold yX;rw[List.length_cons,List.length_map,K_rn]
theorem K_17q{rows:List (List F)}{row2:List F}{from_:Int}{n k i j:Nat}(h:j<k):(yX rows row2 from_ n k i).getD (j+1) 0=(valsAt rows (b8 (atX from_ n j+1))).getD i 0:=by
 unfold yX xsX
 rw[List.getD_cons_succ,K_81 (fun a=>(valsAt rows (b8 a)).getD i 0) _ 0 0 (by simpa using h),K_81 (fun i=>atX from_ n i+1) _ 0 0 (by simpa using h)]
 congr 4
 rw[J_gd,List.getElem?_range h];rfl
def cX(rows:List (List F))(row2:List F)(from_:Int)(n k i:Nat):List F:=newt (ptX from_ n k) (yX rows row2 from_ n k i)
theorem K_qb(rows:List (List F))(row2:List F)(from_:Int)(n k i:Nat):(cX rows row2 from_ n k i).length=k+1:=by
 unfold cX
 rw[K_160 (by rw[K_8h];omega),K_8h]
theorem K_171{rows:List (List F)}{row2:List F}{from_:Int}{n k i:Nat}(hn:n≤255)(hk:k≤n):(cX rows row2 from_ n k i).getD 0 0=row2.getD i 0:=by
 have h:=K_11c (yX rows row2 from_ n k i) (K_tq (from_:=from_) hn hk) (j:=0) (by rw[K_8h];omega)
 have h:ev (cX rows row2 from_ n k i) 0=row2.getD i 0:=h
 rw[←K_118 (by rw[K_qb];omega),h]
theorem cX_at{rows:List (List F)}{row2:List F}{from_:Int}{n k i j:Nat}(hn:n≤255)(hk:k≤n)(hj:j<k):ev (cX rows row2 from_ n k i) (b8 (atX from_ n j+1))=(valsAt rows (b8 (atX from_ n j+1))).getD i 0:=by
 have h:=K_11c (yX rows row2 from_ n k i) (K_tq (from_:=from_) hn hk) (j:=j+1) (by rw[K_8h];omega)
 rw[K_if hj,K_17q hj]at h
 exact h
def rX(rows:List (List F))(row2:List F)(from_:Int)(n k m:Nat):List F:=rngL (k*m) fun t=>(cX rows row2 from_ n k (t % m)).getD (t / m+1) 0
theorem K_164{rows:List (List F)}{row2:List F}{from_:Int}{n k i:Nat}(hn:n≤255)(hk:k≤n)(hi:i<row2.length):lineC row2 (rX rows row2 from_ n k row2.length) (k+1) i=cX rows row2 from_ n k i:=by
 apply List.ext_getElem
 ·unfold lineC
  rw[List.length_cons,K_kr,K_qb];rfl
 ·intro t h1 h2
  rw[K_qb]at h2
  rw[K_29 (l:=cX rows row2 from_ n k i) (by rw[K_qb];exact h2),K_29 h1]
  unfold lineC
  cases t with
  | zero=>rw[K_171 hn hk];rfl
  | succ t=>
   rw[List.getD_cons_succ]
   unfold colL
   rw[K_81 (fun j=>(rX rows row2 from_ n k row2.length).getD (j*row2.length+i) 0) _ 0 0 (by rw[List.length_range];omega)]
   have hr:(List.range (k+1 - 1)).getD t 0=t:=by rw[J_gd,List.getElem?_range (by omega)];rfl
   rw[hr]
   unfold rX
   have hlt:t*row2.length+i<k*row2.length:=by
    have:(t+1)*row2.length≤k*row2.length:=Nat.mul_le_mul_right _ (by omega)
    rw[Nat.add_mul,Nat.one_mul]at this
    omega
   rw[K_hn hlt]
   have e1:(t*row2.length+i) % row2.length=i:=by rw[Nat.mul_comm,Nat.mul_add_mod,Nat.mod_eq_of_lt hi]
   have e2:(t*row2.length+i) / row2.length=t:=by rw[Nat.mul_comm,Nat.mul_add_div (by omega),Nat.div_eq_of_lt hi,Nat.add_zero]
   rw[e1,e2]
theorem K_16e{rows:List (List F)}{row2:List F}{from_:Int}{n k j:Nat}(hn:n≤255)(hk:k≤n)(hj:j<k)(hr:rows.length=row2.length):valsAt (linesC row2 (rX rows row2 from_ n k row2.length) (k+1)) (b8 (atX from_ n j+1))=valsAt rows (b8 (atX from_ n j+1)):=by
 apply List.ext_getElem
 ·rw[K_1x,K_1x,K_1y,hr]
 ·intro i h1 h2
  rw[K_h9]
  rw[K_1x,K_1y]at h1
  have hl:=K_nz row2 (rX rows row2 from_ n k row2.length) (k+1) i h1
  rw[J_gd,J_ge (by rw[K_1y];exact h1)]at hl
  have hl:(linesC row2 (rX rows row2 from_ n k row2.length) (k+1))[i]'(by rw[K_1y];exact h1)=_:=hl
  rw[hl,K_164 hn hk h1,cX_at hn hk hj,K_29 h2]
theorem K_zu{rows:List (List F)}(h:∀ c∈rows,c.length=1)(x z:F):valsAt rows x=valsAt rows z:=by
 unfold valsAt
 exact List.map_congr_left fun c hc=>by
  have:=h c hc
  match c,this with
  | [a],_=>rw[K_20,K_20,K_i5,K_i5,F.mul_zero,F.mul_zero]
end Go.Sh

namespace Go.Sh
open Go.Fw Go.Gf Go.Sha Go.RowKit Go.Proofs.Tryd
theorem K_14c{O:List F}{t:Nat}(h:O.length≤t):O.getD t 0=0:=by
 rw[J_gd,List.getElem?_eq_none h];rfl
theorem K_1a3{K:Nat}{O:List F}{n:Nat}(hn:n≤1000){other secret l7:Sl}{from_:Int}{d3:Addr}(hne:∀ q,other.a=some q→O≠[]→∀ k,secret.blk=some k→q.block≠k):
  ∀ (d i m:Nat) (w:World),i+d=min n O.length→d<m→BSrc w other O→OwnS 5 w secret (fb (rngL n fun t=>if t<i then O.getD t 0 else 0))→
   ∃ w',K_1c K m other from_ d3 l7 (n:Int) secret (i:Int) w=some ((),w')∧OwnS 5 w' secret (fb (rngL n (O.getD · 0)))∧Upd (fun k=>secret.blk=some k) w w':=by
 intro d
 induction d with
 | zero=>
  intro i m w hi hm ho hs
  obtain⟨m,rfl⟩:∃ q,m=q+1:=⟨m - 1,by omega⟩
  have hol:other.len=O.length:=by rw[ho.len,K_0]
  rw[K_25 (g:=(O.getD · 0)) fun t ht=>by
   by_cases c:t<i
   ·rw[if_pos c]
   ·rw[if_neg c,K_14c (by omega)]]at hs
  refine⟨w,?_,hs,Upd.refl _ _⟩
  have hs2:K_1v K other (n:Int) (i:Int) w=some ((false,()),w):=by
   unfold K_1v
   by_cases c:i<n
   ·rw[if_pos (decide_eq_true (by omega)),decide_eq_false (by omega)]
   ·rw[if_neg (by simp only[decide_eq_true_eq];omega)]
  show K_38 K (K_1c K m) other from_ d3 l7 (n:Int) secret (i:Int) w=_
  unfold K_38
  rw[hs2,bnd_ok,if_neg (by decide)]
 | succ d ih=>
  intro i m w hi hm ho hs
  obtain⟨m,rfl⟩:∃ q,m=q+1:=⟨m - 1,by omega⟩
  have hol:other.len=O.length:=by rw[ho.len,K_0]
  have hin:i<n:=by omega
  have hiO:i<O.length:=by omega
  have hsl:secret.len=n:=by rw[hs.len,K_0];exact K_17 _ _
  have e3:IntKind.i64.wrap ((i:Int)+1)=((i+1:Nat):Int):=by rw[w64 (by omega) (by omega)];rfl
  have hs2:K_1v K other (n:Int) (i:Int) w=some ((true,()),w):=by
   unfold K_1v
   rw[if_pos (decide_eq_true (by omega)),decide_eq_true (by omega)]
  obtain⟨q,q1,q2⟩:=K_t ho hiO
  rw[K_29 hiO]at q2
  obtain⟨p,w2,t1,t2,t3,t4⟩:=K_8e hs (i:=i) (by rw[K_17];exact hin) (O.getD i 0)
  have hset:(rngL n fun t=>if t<i then O.getD t 0 else 0).set i (O.getD i 0)=rngL n fun t=>if t<i+1 then O.getD t 0 else 0:=by
   rw[K_hp]
   exact K_25 fun t _=>by
    by_cases e:t=i
    ·rw[if_pos e,if_pos (by omega),e]
    ·rw[if_neg e]
     by_cases e2:t<i
     ·rw[if_pos e2,if_pos (by omega)]
     ·rw[if_neg e2,if_neg (by omega)]
  rw[hset]at t3
  obtain⟨w',k1,k2,k3⟩:=ih (i+1) m w2 (by omega) (by omega) (K_1u ho t4 fun q hq h0 e=>hne q hq h0 _ e rfl) t3
  refine⟨w',?_,k2,t4.trans' k3 fun _ _ e=>e⟩
  show K_38 K (K_1c K m) other from_ d3 l7 (n:Int) secret (i:Int) w=_
  unfold K_38
  have c1:(0:Int)≤(i:Int)∧(i:Int)<((other.len:Nat):Int):=by omega
  have c2:(0:Int)≤(i:Int)∧(i:Int)<((secret.len:Nat):Int):=by omega
  rw[hs2,bnd_ok,if_pos rfl,q1,J_bs,if_pos c1,J_tn,Nat.mul_one,q2,J_bs,t1,J_bs,if_pos c2,t2,J_bs,e3,k1]
theorem cutV{w:World}{b:Sl}{set need idx size:Nat}{vals:List F}(KL:OkL set need idx size vals)(h:BSrc w b (lineL set need idx size vals)):5+(size+4)≤b.len∧b.len≤b.cap∧BSrc w ⟨sla b.a 5 b.cap 1,5+(size+4) - 5,b.cap - 5⟩ vals:=by
 have hl:b.len=(lineL set need idx size vals).length:=by rw[h.len,K_0]
 have h2:=K_an (set:=set) (need:=need) (idx:=idx) KL.hv
 have hc:=h.cap
 have h3:=h.cut (n:=5+(size+4)) (by omega)
 have h4:=K_ug h3 (lo:=5) (by rw[List.length_take,K_0];omega)
 have hv:=K_nd KL
 unfold valsP at hv
 rw[(K_3e KL).2.2.2]at hv
 have e:((fb (lineL set need idx size vals)).take (5+(size+4))).drop 5=fb vals:=by
  rw[K_hm,K_vw,List.drop_take,show 5+(size+4) - 5=size+4 by omega,hv]
 rw[e]at h4
 exact⟨by omega,hc,h4⟩
theorem K_18u{K:Nat}{w:World}{b:Sl}{set need idx size:Nat}{vals:List F}(KL:OkL set need idx size vals)(h:BSrc w b (lineL set need idx size vals)){a:Nat}(ha:idx=a+1):
  K_4i K (size:Int) (a:Int) b true w=some ((false,()),w)∧∃ p,b.a=some p∧ldI .u8 (p.add (3*1)) w=some (bF (b8 idx)):=by
 obtain⟨h1,h2,h3⟩:=cutV KL h
 have hz:=KL.hz
 have hx:=KL.hi
 obtain⟨p,p1,p2⟩:=K_t h (i:=3) (by rw[K_an KL.hv];omega)
 rw[K_29 (by rw[K_an KL.hv];omega)]at p2
 have h3:((lineL set need idx size vals).getD 3 0).n=idx:=(K_3e KL).2.2.1
 have hb:(lineL set need idx size vals).getD 3 0=b8 idx:=F.ext' (by rw[h3];show idx=idx % 256;omega)
 rw[hb]at p2
 have p2:ldI .u8 (p.add (3*1)) w=some (bF (b8 idx)):=p2
 refine⟨?_,p,p1,p2⟩
 have e1:IntKind.i64.wrap ((IntKind.i64.wrap (5+(size:Int)))+4)=((5+(size+4):Nat):Int):=by rw[w64 (by rw[w64 (by omega) (by omega)];omega) (by rw[w64 (by omega) (by omega)];omega),w64 (by omega) (by omega)];omega
 have c3:(0:Int)≤3∧(3:Int)<((b.len:Nat):Int):=by omega
 have hv:bF (b8 idx)=(idx:Int):=by show (((idx % 256:Nat)):Int)=_;omega
 unfold K_4i
 rw[if_neg (by decide),e1,if_neg (by simp only[decide_eq_true_eq];omega),p1,J_bs,if_pos c3,p2,J_bs,hv,w64 (by omega) (by omega),w64 (by omega) (by omega)]
 congr 3
 rw[bne_eq_false_iff_eq]
 omega
structure KnownAt(N:Nat) (w:World) (x kn:Sl) (xs:List F) (ss:List Sl) (R:List (List F)):Prop where
 out:OutAt N w kn ss R
 xo:OwnS 5 w x (fb xs)
 xb:∀ k,x.blk=some k→N≤k
 xk:∀ k,x.blk=some k→kn.blk≠some k
 xr:∀ i,i<R.length→∀ q,(ss.getD i nilF).a=some q→x.blk≠some q.block
theorem KnownAt.upd0{N:Nat}{w w':World}{x kn:Sl}{xs:List F}{ss:List Sl}{R:List (List F)}(h:KnownAt N w x kn xs ss R)(u:Upd none_ w w'):KnownAt N w' x kn xs ss R:=⟨h.out.upd0 u,h.xo.upd0 u,h.xb,h.xk,h.xr⟩
theorem KnownAt.push{N:Nat}{w:World}{x kn:Sl}{xs:List F}{ss:List Sl}{R:List (List F)}(h:KnownAt N w x kn xs ss R)(hN:N≤w.heap.size)(hR:R.length≤1000)(hxs:xs.length≤1000)(v:F){s:Sl}{r:List F}(hs:BSrc w s r)(hf:∀ q,s.a=some q→x.blk≠some q.block∧kn.blk≠some q.block∧N≤q.block∧q.block<w.heap.size):
  ∃ w1 x' w2 w3 kn' w4,bldS prog 23 1 #[(0,(.int .u8 (bF v)))] w=some (⟨some ⟨w.heap.size,0,none⟩,1,1⟩,w1)∧apd prog 23 23 (.slice x.a x.len x.cap) (.slice (some ⟨w.heap.size,0,none⟩) 1 1) w1=some (x',w2)∧bldS prog 67 1 #[(0,slF s)] w2=some (⟨some ⟨w2.heap.size,0,none⟩,1,1⟩,w3)∧apd prog 67 67 (.slice kn.a kn.len kn.cap) (.slice (some ⟨w2.heap.size,0,none⟩) 1 1) w3=some (kn',w4)∧KnownAt N w4 x' kn' (xs ++ [v]) (ss ++ [s]) (R ++ [r])∧Upd (fun k=>N≤k) w w4:=by
 obtain⟨w1,x',w2,a1,a2,a3,a4,a5⟩:=K_hs h.xo (by omega) v
 have z2:=a4.size
 have hkl:∀ k,kn.blk=some k→k<w.heap.size:=fun k hk=>h.out.own.lt hk
 have hxl:∀ k,x.blk=some k→k<w.heap.size:=fun k hk=>h.xo.lt hk
 have hx'l:∀ k,x'.blk=some k→k<w2.heap.size:=fun k hk=>a3.lt hk
 have o2:=h.out.updS a4 (fun k hk e=>h.xk k e hk) fun i hi q hq e=>h.xr i hi q hq e
 have s2:BSrc w2 s r:=Fw.Src.upd hs a4 fun q hq e=>(hf q hq).1 e
 obtain⟨w3,kn',w4,b1,b2,b3,b4,b5⟩:=o2.push (by omega) (by omega) s2 fun q hq=>⟨(hf q hq).2.1,(hf q hq).2.2.1,by have:=(hf q hq).2.2.2;omega⟩
 have hr1:[r].length=1:=rfl
 refine⟨w1,x',w2,w3,kn',w4,a1,a2,b1,b2,⟨b3,a3.upd b4 fun k hk e=>(a5 k hk).elim (fun e2=>h.xk k e2 e) fun e2=>by have:=hkl k e;omega,fun k hk=>(a5 k hk).elim (h.xb k) fun e=>by omega,fun k hk e=>(b5 k e).elim (fun e2=>(a5 k hk).elim (fun e3=>h.xk k e3 e2) fun e3=>by have:=hkl k e2;omega) fun e2=>by have:=hx'l k hk;omega,fun i hi q hq e=>?_⟩,(a4.mono (T:=fun k=>N≤k) fun k _ e=>h.xb k e).trans' b4 fun k _ e=>h.out.low k e⟩
 rw[List.length_append]at hi
 by_cases c:i<R.length
 ·rw[K_7n _ _ _ _ (by rw[h.out.len];exact c)]at hq
  exact(a5 _ e).elim (h.xr i c q hq) fun e2=>by have:=(h.out.off i c q hq).2.2;omega
 ·have:i=R.length:=by omega
  rw[this,K_b1 _ _ _ h.out.len]at hq
  exact(a5 _ e).elim (hf q hq).1 fun e2=>by have:=(hf q hq).2.2.2;omega
theorem K_18v{K:Nat}(hK:18446744073709551616≤K){C S:List Int}{set set' need size n N g:Nat}{sec:List F}{rows:List (List F)}(D:Dealt C S set need size sec rows)(hn:1≤n∧n≤255){from_:Int}{s r l7 secret row:Sl}{cnt:Int}{own:Bool}(hg:g<N):
  ∀ (d i m:Nat) (w:World) (x kn:Sl) (ss:List Sl),i+d=need - 1→d<m→N≤w.heap.size→Bk 25 w g (dlL (set':Int) s (need:Int) cnt own r)→OwnS 9 w l7 (tx (dealN set need size rows n))→(∀ k,l7.blk=some k→k<N)→KnownAt N w x kn (ptX from_ n i) ss ((xsX from_ n i).map fun a=>valsAt rows (b8 a))→
   ∃ x' kn' ss' w',K_19 K m from_ ⟨g,0,none⟩ l7 (size:Int) secret row x kn (i:Int) w=some (.norm (x',kn',()),w')∧KnownAt N w' x' kn' (ptX from_ n (need - 1)) ss' ((xsX from_ n (need - 1)).map fun a=>valsAt rows (b8 a))∧Upd (fun k=>N≤k) w w':=by
 have hneed:=D.dneed
 have hsize:=D.dsize
 intro d
 induction d with
 | zero=>
  intro i m w x kn ss hi hm hN hb hL hsl hM
  obtain⟨m,rfl⟩:∃ q,m=q+1:=⟨m - 1,by omega⟩
  obtain rfl:i=need - 1:=by omega
  refine⟨x,kn,ss,w,?_,hM,Upd.refl _ _⟩
  show K_37 K (K_19 K m) from_ ⟨g,0,none⟩ l7 (size:Int) secret row x kn ((need - 1:Nat):Int) w=_
  unfold K_37
  rw[(K_3n hb).2.2.1,J_bs,w64 (by omega) (by omega),if_neg (by simp only[decide_eq_true_eq];omega)]
 | succ d ih=>
  intro i m w x kn ss hi hm hN hb hL hsl hM
  obtain⟨m,rfl⟩:∃ q,m=q+1:=⟨m - 1,by omega⟩
  have e3:IntKind.i64.wrap ((i:Int)+1)=((i+1:Nat):Int):=by rw[w64 (by omega) (by omega)];rfl
  have hsll:l7.len=n:=by rw[hL.len,K_2b];exact K_1p _ _ _ _ _
  have hai:=K_qe from_ i (n:=n) (by omega)
  have c0:IntKind.u64.wrap ((l7.len:Nat):Int)≠0:=by rw[hsll,K_hr (by omega)];omega
  have c00:((l7.len:Nat):Int)≠0:=by omega
  have eA:Int.tmod (IntKind.i64.wrap (IntKind.u64.wrap ((Int.tmod (IntKind.u64.wrap from_) (IntKind.u64.wrap ((l7.len:Nat):Int)))+(IntKind.u64.wrap (i:Int))))) ((l7.len:Nat):Int)=((atX from_ n i:Nat):Int):=by
   obtain⟨u,h1,h2⟩:=K_10u from_
   have ha:=K_i1 from_ (n:=n) (by omega)
   rw[hsll,K_hr (n:=n) (by omega),h1,K_hr (n:=i) (by omega)]
   have e1:Int.tmod (u:Int) (n:Int)=((idxU from_ n:Nat):Int):=by unfold idxU;rw[h2];rfl
   rw[e1,←Int.natCast_add,K_hr (by omega),w64 (by omega) (by omega)]
   rfl
  have cA:(0:Int)≤((atX from_ n i:Nat):Int)∧((atX from_ n i:Nat):Int)<((l7.len:Nat):Int):=by omega
  obtain⟨q,q1,q2⟩:=tx_at (hL.src (K_ft _)) (i:=atX from_ n i) (by rw[K_1p];exact hai)
  have htx:(dealN set need size rows n)[atX from_ n i]'(by rw[K_1p];exact hai)=textOf (lineX set need size rows (atX from_ n i+1)):=by
   have:=K_wz (set:=set) (need:=need) (size:=size) (rows:=rows) hai
   rw[J_gd,J_ge (by rw[K_1p];exact hai)]at this
   exact this
  rw[htx]at q2
  have hx:1≤atX from_ n i+1∧atX from_ n i+1≤255:=by omega
  have KL:=D.ok hx
  obtain⟨mm,hm1,hm2,hm3⟩:=K_na KL
  have hm1:(lineX set need size rows (atX from_ n i+1)).length=2*mm:=hm1
  obtain⟨b,w1,a1,a2,a3,a4⟩:=K_wx hK w hm1 (by omega) (by omega)
  have hbs:BSrc w1 b (lineL set need (atX from_ n i+1) size (valsAt rows (b8 (atX from_ n i+1)))):=a2.src (K_m _)
  obtain⟨f1,p,p1,p2⟩:=K_18u (K:=K) KL hbs (a:=atX from_ n i) rfl
  obtain⟨v1,v2,v3⟩:=cutV KL hbs
  have z1:=a3.size
  have hM1:=hM.upd0 a3
  have hxl:∀ k,x.blk=some k→k<w.heap.size:=fun k hk=>hM.xo.lt hk
  have hkl:∀ k,kn.blk=some k→k<w.heap.size:=fun k hk=>hM.out.own.lt hk
  obtain⟨w2,x',w3,w4,kn',w5,g1,g2,g3,g4,g5,g6⟩:=hM1.push (by omega) (by rw[List.length_map,K_rn];omega) (by rw[K_8h];omega) (b8 (atX from_ n i+1)) v3 (fun q hq=>by
   obtain⟨p',h1,h2⟩:=K_ub hq
   have h3:=a4 p'.block (by unfold Sl.blk;rw[h1];rfl)
   have h4:=K_8r a2 p' h1
   rw[h2]
   exact⟨fun e=>by have:=hxl _ e;omega,fun e=>by have:=hkl _ e;omega,by omega,h4⟩)
  have hX:ptX from_ n i ++ [b8 (atX from_ n i+1)]=ptX from_ n (i+1):=by
   unfold ptX xsX
   rw[List.range_succ,List.map_append,List.map_append,List.cons_append];rfl
  have hRR:((xsX from_ n i).map fun a=>valsAt rows (b8 a)) ++ [valsAt rows (b8 (atX from_ n i+1))]=(xsX from_ n (i+1)).map fun a=>valsAt rows (b8 a):=by
   unfold xsX
   rw[List.range_succ,List.map_append,List.map_append];rfl
  rw[hX,hRR]at g5
  have u5:Upd (fun k=>N≤k) w w5:=(a3.mono (T:=fun k=>N≤k) fun _ _ e=>e.elim).trans' g6 fun _ _ e=>e
  obtain⟨x'',kn'',ss'',w',k1,k2,k3⟩:=ih (i+1) m w5 x' kn' _ (by omega) (by omega) (by have:=u5.size;omega) (hb.upd u5 fun e=>by omega) (hL.upd u5 fun k hk e=>by have:=hsl k hk;omega) hsl g5
  refine⟨x'',kn'',ss'',w',?_,k2,u5.trans' k3 fun _ _ e=>e⟩
  have e5:IntKind.i64.wrap ((IntKind.i64.wrap (5+(size:Int)))+4)=((5+(size+4):Nat):Int):=by rw[w64 (by rw[w64 (by omega) (by omega)];omega) (by rw[w64 (by omega) (by omega)];omega),w64 (by omega) (by omega)];omega
  have c3:(0:Int)≤3∧(3:Int)<((b.len:Nat):Int):=by omega
  have c5:(0:Int)≤((5+(size+4):Nat):Int)∧((5+(size+4):Nat):Int)≤((b.cap:Nat):Int):=by omega
  have c6:(0:Int)≤5∧(5:Int)≤((5+(size+4):Nat):Int):=by omega
  have a1:K_6k K (textOf (lineX set need size rows (atX from_ n i+1))) w=_:=a1
  show K_37 K (K_19 K m) from_ ⟨g,0,none⟩ l7 (size:Int) secret row x kn (i:Int) w=_
  unfold K_37
  rw[(K_3n hb).2.2.1,J_bs,w64 (n:=(need:Int) - 1) (by omega) (by omega),if_pos (decide_eq_true (by omega)),if_pos c0,if_pos c00,q1,J_bs,eA,if_pos cA,J_tn,Nat.mul_one,q2,J_bs,a1,bnd_ok]
  dsimp only
  rw[f1,bnd_ok]
  dsimp only
  rw[if_neg (by decide),p1,J_bs,if_pos c3,p2,J_bs,g1,bnd_ok]
  dsimp only
  rw[g2,bnd_ok,e5,if_pos c5,J_tn,if_pos c6]
  rw[p1]at g3
  have g3:bldS prog 67 1 #[(0,(.slice (sla (some p) 5 b.cap 1) (5+(size+4) - 5) (b.cap - 5)))] w3=_:=g3
  rw[g3,bnd_ok]
  dsimp only
  rw[g4,bnd_ok,e3,k1]
end Go.Sh

namespace Go.Sh
open Go.Fw Go.Gf Go.Sha Go.RowKit Go.Proofs.Tryd
theorem K_194{K:Nat}{M i:Nat}{R:List (List F)}(hR:∀ j,j<R.length→i<(R.getD j []).length)(hRl:R.length≤100){c0:F}{d3:Addr}{l7 secret row x kn rnd:Sl}{n9:Int}{ss:List Sl}:
  ∀ (d j f:Nat) (w:World) (y:Sl),j+d=R.length→d<f→RowsJ M w kn ss R→OwnS 5 w y (fb (c0 :: (R.take j).map (·.getD i 0)))→(∀ k,y.blk=some k→M≤k)→M≤w.heap.size→
   ∃ y' w',K_1d K f d3 l7 n9 secret row x kn rnd (i:Int) y (j:Int) w=some ((y',()),w')∧OwnS 5 w' y' (fb (c0 :: R.map (·.getD i 0)))∧Upd (fun k=>y.blk=some k) w w':=by
 intro d
 induction d with
 | zero=>
  intro j f w y hj hf hK hy hyb hM
  obtain⟨f,rfl⟩:∃ q,f=q+1:=⟨f - 1,by omega⟩
  have hkl:=hK.size
  rw[List.take_of_length_le (by omega)]at hy
  refine⟨y,w,?_,hy,Upd.refl _ _⟩
  show K_39 K (K_1d K f) d3 l7 n9 secret row x kn rnd (i:Int) y (j:Int) w=_
  unfold K_39
  rw[if_neg (by simp only[decide_eq_true_eq];omega)]
 | succ d ih=>
  intro j f w y hj hf hK hy hyb hM
  obtain⟨f,rfl⟩:∃ q,f=q+1:=⟨f - 1,by omega⟩
  have hkl:=hK.size
  have hjR:j<R.length:=by omega
  have e3:IntKind.i64.wrap ((j:Int)+1)=((j+1:Nat):Int):=by rw[w64 (by omega) (by omega)];rfl
  obtain⟨p,p1,p2⟩:=hK.ld hjR
  have hrow:=hK.row j hjR
  have hil:=hR j hjR
  have hsl:(ss.getD j nilF).len=(R.getD j []).length:=by rw[hrow.len,K_0]
  obtain⟨q,q1,q2⟩:=K_t hrow hil
  rw[K_29 hil]at q2
  obtain⟨w1,y1,w2,a1,a2,a3,a4,a5⟩:=K_hs hy (by rw[List.length_cons,List.length_map,List.length_take];omega) ((R.getD j []).getD i 0)
  have e:(c0 :: (R.take j).map (·.getD i 0)) ++ [(R.getD j []).getD i 0]=c0 :: (R.take (j+1)).map (·.getD i 0):=by
   rw[List.take_succ_eq_append_getElem hjR,List.map_append,List.cons_append]
   congr 3
   rw[J_gd (l:=R),J_ge hjR];rfl
  rw[e]at a3
  have z2:=a4.size
  obtain⟨y',w',k1,k2,k3⟩:=ih (j+1) f w2 y1 (by omega) (by omega) (hK.upd a4 fun k hk e=>by have:=hyb k e;omega) a3 (fun k hk=>(a5 k hk).elim (hyb k) fun e=>by omega) (by omega)
  refine⟨y',w',?_,k2,a4.trans' k3 fun k hk e=>(a5 k e).elim id fun e2=>absurd hk (by omega)⟩
  have c1:(0:Int)≤(j:Int)∧(j:Int)<((kn.len:Nat):Int):=by omega
  have c2:(0:Int)≤(i:Int)∧(i:Int)<(((ss.getD j nilF).len:Nat):Int):=by omega
  show K_39 K (K_1d K f) d3 l7 n9 secret row x kn rnd (i:Int) y (j:Int) w=_
  unfold K_39
  rw[if_pos (decide_eq_true (by omega)),p1,J_bs,if_pos c1,J_tn,Nat.mul_one,p2,J_bs,q1,J_bs,if_pos c2,J_tn,Nat.mul_one,q2,J_bs,a1,bnd_ok]
  dsimp only
  rw[a2,bnd_ok,e3,k1]
def stR(Cf:Nat→List F)(m i j t:Nat):F:=if t % m<i∨(t % m=i∧t / m+1<j) then(Cf (t % m)).getD (t / m+1) 0 else 0
theorem K_173{Cf:Nat→List F}{n m i j:Nat}(hi:i<m)(hj:1≤j):(rngL n (stR Cf m i j)).set ((j - 1)*m+i) ((Cf i).getD j 0)=rngL n (stR Cf m i (j+1)):=by
 rw[K_hp]
 exact K_25 fun t _=>by
  have e1:((j - 1)*m+i) % m=i:=by rw[Nat.mul_comm,Nat.mul_add_mod,Nat.mod_eq_of_lt hi]
  have e2:((j - 1)*m+i) / m=j - 1:=by rw[Nat.mul_comm,Nat.mul_add_div (by omega),Nat.div_eq_of_lt hi,Nat.add_zero]
  by_cases e:t=(j - 1)*m+i
  ·rw[if_pos e]
   unfold stR
   rw[e,e1,e2,if_pos (by omega),Nat.sub_add_cancel hj]
  ·rw[if_neg e]
   unfold stR
   have hne:¬(t % m=i∧t / m+1=j):=fun h=>e (by
    have:=Nat.div_add_mod t m
    rw[h.1,show t / m=j - 1 by omega]at this
    rw[←this,Nat.mul_comm])
   by_cases c:t % m<i∨(t % m=i∧t / m+1<j)
   ·rw[if_pos c,if_pos (by omega)]
   ·rw[if_neg c,if_neg (by omega)]
theorem K_15p{Cf:Nat→List F}{m i need:Nat}(hm:0<m):rngL ((need - 1)*m) (stR Cf m i need)=rngL ((need - 1)*m) (stR Cf m (i+1) 1):=K_25 fun t ht=>by
 have h1:t / m<need - 1:=Nat.div_lt_of_lt_mul (by rw[Nat.mul_comm];exact ht)
 unfold stR
 generalize t / m=e at h1 ⊢
 generalize t % m=o
 by_cases c:o<i+1
 ·rw[if_pos (by omega),if_pos (.inl c)]
 ·rw[if_neg (by omega),if_neg (by omega)]
theorem K_17k{Cf:Nat→List F}{m n:Nat}(hm:0<m):rngL n (stR Cf m m 1)=rngL n fun t=>(Cf (t % m)).getD (t / m+1) 0:=K_25 fun t _=>by
 unfold stR
 rw[if_pos (.inl (Nat.mod_lt _ hm))]
theorem K_19l{K:Nat}{Cf:Nat→List F}{need size i g:Nat}(hneed:1≤need∧need≤16)(hsize:size≤64)(hi:i<size+4)(hC:(Cf i).length=need){set':Nat}{s r l7 secret row x kn rnd c:Sl}{cnt:Int}{own:Bool}(hrg:rnd.blk≠some g)(hrc:∀ q,c.a=some q→rnd.blk≠some q.block):
  ∀ (d j f:Nat) (w:World),j+d=need→1≤j→d<f→Bk 25 w g (dlL (set':Int) s (need:Int) cnt own r)→BSrc w c (Cf i)→OwnS 5 w rnd (fb (rngL ((need - 1)*(size+4)) (stR Cf (size+4) i j)))→
   ∃ w',K_18 K f ⟨g,0,none⟩ l7 (size:Int) secret row x kn rnd (i:Int) c (j:Int) w=some ((),w')∧OwnS 5 w' rnd (fb (rngL ((need - 1)*(size+4)) (stR Cf (size+4) i need)))∧Upd (fun k=>rnd.blk=some k) w w':=by
 intro d
 induction d with
 | zero=>
  intro j f w hj hj1 hf hb hc ho
  obtain⟨f,rfl⟩:∃ q,f=q+1:=⟨f - 1,by omega⟩
  obtain rfl:j=need:=by omega
  refine⟨w,?_,ho,Upd.refl _ _⟩
  show K_36 K (K_18 K f) ⟨g,0,none⟩ l7 (size:Int) secret row x kn rnd (i:Int) c (j:Int) w=_
  unfold K_36
  rw[(K_3n hb).2.2.1,J_bs,if_neg (by simp)]
 | succ d ih=>
  intro j f w hj hj1 hf hb hc ho
  obtain⟨f,rfl⟩:∃ q,f=q+1:=⟨f - 1,by omega⟩
  have e3:IntKind.i64.wrap ((j:Int)+1)=((j+1:Nat):Int):=by rw[w64 (by omega) (by omega)];rfl
  have hjn:j<need:=by omega
  have hcl:c.len=need:=by rw[hc.len,K_0,hC]
  have hlt:(j - 1)*(size+4)+i<(need - 1)*(size+4):=by
   have:(j - 1+1)*(size+4)≤(need - 1)*(size+4):=Nat.mul_le_mul_right _ (by omega)
   rw[Nat.add_mul,Nat.one_mul]at this
   omega
  have hbig:(need - 1)*(size+4)≤15*68:=Nat.mul_le_mul (by omega) (by omega)
  have hrl:rnd.len=(need - 1)*(size+4):=by rw[ho.len,K_0];exact K_17 _ _
  obtain⟨q,q1,q2⟩:=K_t hc (i:=j) (by omega)
  rw[K_29 (by omega)]at q2
  obtain⟨p,w2,t1,t2,t3,t4⟩:=K_8e ho (i:=(j - 1)*(size+4)+i) (by rw[K_17];exact hlt) ((Cf i).getD j 0)
  rw[K_173 hi hj1]at t3
  obtain⟨w',k1,k2,k3⟩:=ih (j+1) f w2 (by omega) (by omega) (by omega) (hb.upd t4 fun e=>hrg e) (Fw.Src.upd hc t4 fun q hq e=>hrc q hq e) t3
  refine⟨w',?_,k2,t4.trans' k3 fun _ _ e=>e⟩
  have eI:IntKind.i64.wrap ((IntKind.i64.wrap ((IntKind.i64.wrap ((j:Int) - 1))*(IntKind.i64.wrap ((size:Int)+4))))+(i:Int))=(((j - 1)*(size+4)+i:Nat):Int):=by
   have h1:IntKind.i64.wrap ((j:Int) - 1)=((j - 1:Nat):Int):=by rw[w64 (by omega) (by omega)];omega
   have h2:IntKind.i64.wrap ((size:Int)+4)=((size+4:Nat):Int):=by rw[w64 (by omega) (by omega)];rfl
   rw[h1,h2,←Int.natCast_mul]
   generalize (j - 1)*(size+4)=P at hlt ⊢
   rw[w64 (n:=(P:Int)) (by omega) (by omega),w64 (by omega) (by omega)];rfl
  have c1:(0:Int)≤(j:Int)∧(j:Int)<((c.len:Nat):Int):=by omega
  have c2:(0:Int)≤(((j - 1)*(size+4)+i:Nat):Int)∧(((j - 1)*(size+4)+i:Nat):Int)<((rnd.len:Nat):Int):=⟨Int.natCast_nonneg _,Int.ofNat_lt.2 (by rw[hrl];exact hlt)⟩
  show K_36 K (K_18 K f) ⟨g,0,none⟩ l7 (size:Int) secret row x kn rnd (i:Int) c (j:Int) w=_
  unfold K_36
  rw[(K_3n hb).2.2.1,J_bs,if_pos (decide_eq_true (by omega)),q1,J_bs,if_pos c1,J_tn,Nat.mul_one,q2,J_bs,t1,J_bs,eI,if_pos c2,J_tn,Nat.mul_one,t2,J_bs,e3,k1]
theorem K_19d{K:Nat}(hK:18446744073709551616≤K){rows:List (List F)}{row2:List F}{from_:Int}{need size n g M:Nat}(hneed:2≤need∧need≤16)(hsize:size≤64)(hn:n≤255)(hnn:need≤n)(hrows:rows.length=size+4)(hrow2:row2.length=size+4){set':Nat}{s r l7 secret row x kn rnd:Sl}{cnt:Int}{own:Bool}{ss:List Sl}(hg:g<M)(hrw:∀ q,row.a=some q→q.block<M)(hxM:∀ q,x.a=some q→q.block<M)(hrM:∀ k,rnd.blk=some k→M≤k):
  ∀ (d i f:Nat) (w:World),i+d=size+4→d<f→M≤w.heap.size→Bk 25 w g (dlL (set':Int) s (need:Int) cnt own r)→BSrc w row row2→BSrc w x (ptX from_ n (need - 1))→RowsJ M w kn ss ((xsX from_ n (need - 1)).map fun a=>valsAt rows (b8 a))→OwnS 5 w rnd (fb (rngL ((need - 1)*(size+4)) (stR (cX rows row2 from_ n (need - 1)) (size+4) i 1)))→
   ∃ w',K_1b K f ⟨g,0,none⟩ l7 (size:Int) secret row x kn rnd (i:Int) w=some ((),w')∧OwnS 5 w' rnd (fb (rX rows row2 from_ n (need - 1) (size+4)))∧Upd (fun k=>rnd.blk=some k) w w':=by
 intro d
 induction d with
 | zero=>
  intro i f w hi hf hMw hb hrow hx hR ho
  obtain⟨f,rfl⟩:∃ q,f=q+1:=⟨f - 1,by omega⟩
  obtain rfl:i=size+4:=by omega
  rw[K_17k (by omega)]at ho
  refine⟨w,?_,ho,Upd.refl _ _⟩
  have e4:IntKind.i64.wrap ((size:Int)+4)=((size+4:Nat):Int):=by rw[w64 (by omega) (by omega)];rfl
  show K_35 K (K_1b K f) ⟨g,0,none⟩ l7 (size:Int) secret row x kn rnd ((size+4:Nat):Int) w=_
  unfold K_35
  rw[e4,if_neg (by simp)]
 | succ d ih=>
  intro i f w hi hf hMw hb hrow hx hR ho
  obtain⟨f,rfl⟩:∃ q,f=q+1:=⟨f - 1,by omega⟩
  have him:i<size+4:=by omega
  have e3:IntKind.i64.wrap ((i:Int)+1)=((i+1:Nat):Int):=by rw[w64 (by omega) (by omega)];rfl
  have e4:IntKind.i64.wrap ((size:Int)+4)=((size+4:Nat):Int):=by rw[w64 (by omega) (by omega)];rfl
  have hrl:row.len=size+4:=by rw[hrow.len,K_0,hrow2]
  have hRl:((xsX from_ n (need - 1)).map fun a=>valsAt rows (b8 a)).length=need - 1:=by rw[List.length_map,K_rn]
  obtain⟨p,p1,p2⟩:=K_t hrow (i:=i) (by omega)
  rw[K_29 (by omega)]at p2
  obtain⟨w1,a1,a2,a3,a4⟩:=K_48 sliceB (.int .u8 (bF (row2.getD i 0))) rfl w
  have a2:OwnS 5 w1 ⟨some ⟨w.heap.size,0,none⟩,1,1⟩ (fb (row2.getD i 0 :: (((xsX from_ n (need - 1)).map fun a=>valsAt rows (b8 a)).take 0).map (·.getD i 0))):=a2
  have z1:=a3.size
  obtain⟨y,w2,b1,b2,b3⟩:=K_194 (K:=K) (M:=M) (i:=i) (R:=(xsX from_ n (need - 1)).map fun a=>valsAt rows (b8 a)) (fun j hj=>by
   have hm:=K_ni ([]:List F) hj
   obtain⟨a,_,ha⟩:=List.mem_map.1 hm
   rw[←ha,K_1x,hrows];exact him) (by omega) (d3:=⟨g,0,none⟩) (l7:=l7) (secret:=secret) (row:=row) (x:=x) (rnd:=rnd) (n9:=(size:Int)) (need - 1) 0 K w1 ⟨some ⟨w.heap.size,0,none⟩,1,1⟩ (by omega) (by omega) (hR.upd0 a3) a2 (fun k hk=>by have e2:w.heap.size=k:=Option.some.inj hk;omega) (by omega)
  have b1:K_1d K K ⟨g,0,none⟩ l7 (size:Int) secret row x kn rnd (i:Int) ⟨some ⟨w.heap.size,0,none⟩,1,1⟩ 0 w1=_:=b1
  have hY:row2.getD i 0 :: ((xsX from_ n (need - 1)).map fun a=>valsAt rows (b8 a)).map (·.getD i 0)=yX rows row2 from_ n (need - 1) i:=by
   unfold yX;rw[List.map_map];rfl
  rw[hY]at b2
  have u2:Upd none_ w w2:=a3.trans' b3 fun k hk e=>by have e2:w.heap.size=k:=Option.some.inj e;omega
  have hxl:=K_8h from_ n (need - 1)
  obtain⟨c,w3,c1,c2,c3,c4⟩:=K_133 hK (X:=ptX from_ n (need - 1)) (Y:=yX rows row2 from_ n (need - 1) i) (by omega) (by omega) (by rw[K_1af,hxl]) (K_tq hn (by omega)) (hx.upd0 u2) (b2.src (K_m _))
  have c2:OwnS 5 w3 c (fb (cX rows row2 from_ n (need - 1) i)):=c2
  have u3:=u2.and0 c3
  have z2:=u2.size
  have hrl2:∀ k,rnd.blk=some k→k<w.heap.size:=fun k hk=>ho.lt hk
  obtain⟨w4,d1,d2,d3⟩:=K_19l (K:=K) (Cf:=cX rows row2 from_ n (need - 1)) (by omega) hsize him (by rw[K_qb];omega) (l7:=l7) (secret:=secret) (row:=row) (x:=x) (kn:=kn) (rnd:=rnd) (c:=c) (g:=g) (set':=set') (s:=s) (r:=r) (cnt:=cnt) (own:=own) (fun e=>by have:=hrM g e;omega) (fun q hq e=>by
   have h1:=c4 q.block (by unfold Sl.blk;rw[hq];rfl)
   have h2:=hrl2 _ e
   omega) (need - 1) 1 K w3 (by omega) (Nat.le_refl _) (by omega) (hb.upd0 u3) (c2.src (K_m _)) (ho.upd0 u3)
  have d1:K_18 K K ⟨g,0,none⟩ l7 (size:Int) secret row x kn rnd (i:Int) c 1 w3=_:=d1
  rw[K_15p (by omega)]at d2
  have u4:Upd (fun k=>rnd.blk=some k) w w4:=(u3.mono (T:=fun k=>rnd.blk=some k) fun _ _ e=>e.elim).trans' d3 fun _ _ e=>e
  have z4:=u4.size
  obtain⟨w',k1,k2,k3⟩:=ih (i+1) f w4 (by omega) (by omega) (by omega) (hb.upd u4 fun e=>by have:=hrM _ e;omega) (Fw.Src.upd hrow u4 fun q hq e=>by have:=hrw q hq;have:=hrM _ e;omega) (Fw.Src.upd hx u4 fun q hq e=>by have:=hxM q hq;have:=hrM _ e;omega) (hR.upd u4 fun k hk e=>by have:=hrM _ e;omega) d2
  refine⟨w',?_,k2,u4.trans' k3 fun _ _ e=>e⟩
  have cc:(0:Int)≤(i:Int)∧(i:Int)<((row.len:Nat):Int):=by omega
  show K_35 K (K_1b K f) ⟨g,0,none⟩ l7 (size:Int) secret row x kn rnd (i:Int) w=_
  unfold K_35
  rw[e4,if_pos (decide_eq_true (by omega)),p1,J_bs,if_pos cc,J_tn,Nat.mul_one,p2,J_bs,a1,bnd_ok,b1,bnd_ok,c1,bnd_ok,d1,bnd_ok,e3,k1]
theorem K_17j{K:Nat}{rows rows2:List (List F)}{from_:Int}{set need size n k:Nat}(hn:n≤255)(hk:k≤n)(hsame:∀ j,j<k→valsAt rows2 (b8 (atX from_ n j+1))=valsAt rows (b8 (atX from_ n j+1))){l7 x m28:Sl}:
  ∀ (d i f:Nat) (w:World),i+d=k+1→1≤i→d<f→BSrc w x (ptX from_ n k)→OwnS 9 w l7 (tx (dealN set need size rows n))→OwnS 9 w m28 (tx (dealN set need size rows2 n))→
   ∃ w',K_12 K f l7 x m28 (i:Int) w=some (.norm (),w')∧Upd none_ w w':=by
 intro d
 induction d with
 | zero=>
  intro i f w hi hi1 hf hx hl hm
  obtain⟨f,rfl⟩:∃ q,f=q+1:=⟨f - 1,by omega⟩
  have hxl:x.len=k+1:=by rw[hx.len,K_0,K_8h]
  refine⟨w,?_,Upd.refl _ _⟩
  show K_2l K (K_12 K f) l7 x m28 (i:Int) w=_
  unfold K_2l
  rw[if_neg (by simp only[decide_eq_true_eq];omega)]
 | succ d ih=>
  intro i f w hi hi1 hf hx hl hm
  obtain⟨f,rfl⟩:∃ q,f=q+1:=⟨f - 1,by omega⟩
  have hxl:x.len=k+1:=by rw[hx.len,K_0,K_8h]
  have hll:l7.len=n:=by rw[hl.len,K_2b];exact K_1p _ _ _ _ _
  have hml:m28.len=n:=by rw[hm.len,K_2b];exact K_1p _ _ _ _ _
  have e3:IntKind.i64.wrap ((i:Int)+1)=((i+1:Nat):Int):=by rw[w64 (by omega) (by omega)];rfl
  have ud:=(Upd.refl none_ w).drew
  obtain⟨j,rfl⟩:∃ j,i=j+1:=⟨i - 1,by omega⟩
  have hjk:j<k:=by omega
  obtain⟨p,p1,p2⟩:=K_t (hx.upd0 ud) (i:=j+1) (by rw[K_8h];omega)
  rw[K_29 (by rw[K_8h];omega),K_if hjk]at p2
  have hai:=K_qe from_ j (n:=n) (by omega)
  have hs:=hsame j hjk
  generalize atX from_ n j=a at p2 hai hs
  have hv:bF (b8 (a+1))=((a+1:Nat):Int):=by show ((((a+1) % 256:Nat)):Int)=_;omega
  rw[hv]at p2
  have ei:IntKind.i64.wrap ((IntKind.i64.wrap ((a+1:Nat):Int)) - 1)=((a:Nat):Int):=by rw[w64 (n:=((a+1:Nat):Int)) (by omega) (by omega),w64 (by omega) (by omega)];omega
  have cell:∀ {t:Sl} {rs:List (List F)},OwnS 9 w t (tx (dealN set need size rs n))→∃ q,t.a=some q∧ldStr (q.add a) w.drew=some (textOf (lineX set need size rs (a+1))):=fun {t rs} ht=>by
   obtain⟨q,q1,q2⟩:=tx_at (ht.drew.src (K_ft _)) (i:=a) (by rw[K_1p];exact hai)
   have htx:(dealN set need size rs n)[a]'(by rw[K_1p];exact hai)=textOf (lineX set need size rs (a+1)):=by
    have:=K_wz (set:=set) (need:=need) (size:=size) (rows:=rs) hai
    rw[J_gd,J_ge (by rw[K_1p];exact hai)]at this
    exact this
   rw[htx]at q2
   exact⟨q,q1,q2⟩
  obtain⟨q,q1,q2⟩:=cell hm
  obtain⟨r,r1,r2⟩:=cell hl
  have heq:lineX set need size rows2 (a+1)=lineX set need size rows (a+1):=by unfold lineX;rw[hs]
  rw[heq]at q2
  obtain⟨w',k1,k2⟩:=ih (j+1+1) f w.drew (by omega) (by omega) (by omega) (hx.upd0 ud) hl.drew hm.drew
  refine⟨w',?_,ud.and0 k2⟩
  have c1:(0:Int)≤((j+1:Nat):Int)∧((j+1:Nat):Int)<((x.len:Nat):Int):=by omega
  have c2:(0:Int)≤(a:Int)∧(a:Int)<((m28.len:Nat):Int):=by omega
  have c3:(0:Int)≤(a:Int)∧(a:Int)<((l7.len:Nat):Int):=by omega
  show K_2l K (K_12 K f) l7 x m28 ((j+1:Nat):Int) w=_
  unfold K_2l
  rw[if_pos (decide_eq_true (by omega)),p1,J_bs,if_pos c1,J_bs,if_pos c1,J_tn,Nat.mul_one,p2,J_bs,q1,J_bs,ei,if_pos c2,J_tn,Nat.mul_one,q2,J_bs,J_bs,r1,J_bs,ei,if_pos c3,J_tn,Nat.mul_one,r2,J_bs,K_186,decide_eq_true rfl]
  rw[if_neg (by decide),e3,k1]
end Go.Sh

namespace Go.Sh
open Go.Fw Go.Gf Go.Sha Go.RowKit Go.Proofs.Tryd
theorem K_wn{K:Nat}(hK:18446744073709551616≤K){C S:List Int}{W:World}(T:Tabs W C S){set:Nat}(hset:set<65536){s r ot:Sl}{need count:Int}{own:Bool}{ss rs os:List Int}(P:BytesIn W s ss)(Q:BytesIn W r rs)(R:BytesIn W ot os)(from_:Int):
  ∃ w2,K_88 K (dlC (set:Int) s need count own r) ot from_ W=some ((true,()),w2)∧Upd none_ W w2:=by
 obtain⟨l,rfl⟩:=K_tx P.inn
 obtain⟨L,rfl⟩:=K_tx Q.inn
 obtain⟨O,rfl⟩:=K_tx R.inn
 have hs:BSrc W s l:=P.src
 have hr:BSrc W r L:=Q.src
 have hot:BSrc W ot O:=R.src
 obtain⟨w1,a1,a2,a3,a4⟩:=K_l (dlC (set:Int) s need count own r) 25 W
 have a2:Bk 25 w1 W.heap.size (dlL (set:Int) s need count own r):=a2
 have hA:=a2.ldA (i:=0) (n:=6) (by simp[dlL])
 have hA:ldA 6 ⟨W.heap.size,0,none⟩ w1=some (dlC (set:Int) s need count own r):=hA
 obtain⟨s2,sl,w2,c1,c2,c3,c4,c5,c6,c7⟩:=K_16j hK (T.upd0 a3) hset (need:=need) (count:=count) (own:=own) (hs.upd0 a3) (hr.upd0 a3)
 obtain⟨w3,e1,e2,e3⟩:=(a2.upd0 c2).stA (o:=0) (vs:=dlC (set:Int) s2 ((needD need:Nat):Int) ((cntD need count:Nat):Int) false r) (by simp[dlL,dlC]) (fun v hv=>by
  simp only[dlC,dlL,List.mem_cons,List.not_mem_nil,or_false]at hv
  rcases hv with rfl | rfl | rfl | rfl | rfl | rfl <;> rfl)
 have e2:Bk 25 w3 W.heap.size (dlL (set:Int) s2 ((needD need:Nat):Int) ((cntD need count:Nat):Int) false r):=e2
 have hz6:(dlC (set:Int) s2 ((needD need:Nat):Int) ((cntD need count:Nat):Int) false r).size=6:=rfl
 have z1:=a3.size
 have u2:=a3.and0 c2
 have u3:Upd none_ W w3:=u2.trans' e3 fun k hk e=>by omega
 obtain⟨w4,f1,f2⟩:=K_177 hK (T.upd0 u3)
 have hs0:K_4c K true w3=some ((false,()),w4):=by
  unfold K_4c
  rw[f1,bnd_ok]
  dsimp only
  rw[if_neg (by decide)];rfl
 have u4:=u3.and0 f2
 have hsec:=K_zz l
 have hneed:=K_t8 need
 have hcnt:=K_11j need count
 have D:Dealt C S set (needD need) (secD l).length (secD l) (rowsD C S set l L need):=K_ts C S hset hneed hsec
 have hsl3:OwnS 9 w3 sl (tx (textsD C S set l L need count)):=c4.upd e3 fun k hk e=>by have:=c6 k hk;omega
 have hs23:BSrc w3 s2 (secD l):=Fw.Src.upd c3 e3 fun q hq e=>by have:=c5 q.block (by simp[Sl.blk,hq]);omega
 have hs2l:s2.len=(secD l).length:=by rw[hs23.len,K_0]
 have hslk:∀ k,sl.blk=some k→k<w4.heap.size:=fun k hk=>(hsl3.upd0 f2).lt hk
 have hsl4:=hsl3.upd0 f2
 have hb4:=e2.upd0 f2
 have hgW:=hb4.lt
 unfold textsD at hsl4
 generalize rowsD C S set l L need=rows at hsl4 D
 generalize hsz:(secD l).length=size at hs2l hsec D hsl4
 generalize needD need=nd at*
 generalize cntD need count=ct at*
 obtain⟨w5,g1,g2,g3⟩:=K_iu w4 (n:=size) (by omega)
 have hblk:∀ k,(⟨some ⟨w4.heap.size,0,none⟩,size,size⟩:Sl).blk=some k→k=w4.heap.size:=fun k hk=>(Option.some.inj hk).symm
 have g2:OwnS 5 w5 ⟨some ⟨w4.heap.size,0,none⟩,size,size⟩ (fb (rngL size fun t=>if t<0 then O.getD t 0 else 0)):=by
  have e:rngL size (fun t=>if t<0 then O.getD t 0 else 0)=List.replicate size 0:=by
   rw[←K_t5]
   exact K_25 fun t _=>if_neg (Nat.not_lt_zero _)
  rw[e]
  unfold fb
  rw[List.map_replicate]
  exact g2
 have u5:=u4.and0 g3
 obtain⟨w6,i1,i2,i3⟩:=K_1a3 (K:=K) (O:=O) (n:=size) (by omega) (l7:=sl) (from_:=from_) (d3:=⟨W.heap.size,0,none⟩) (secret:=⟨some ⟨w4.heap.size,0,none⟩,size,size⟩) (fun q hq h0 k hk e=>by
  have h1:=hblk k hk
  have h2:=K_b0 hot q hq h0
  have h3:=u4.size
  omega) (min size O.length) 0 K w5 (by omega) (by omega) (hot.upd0 u5) g2
 have i1:K_1c K K ot from_ ⟨W.heap.size,0,none⟩ sl (size:Int) ⟨some ⟨w4.heap.size,0,none⟩,size,size⟩ 0 w5=_:=i1
 have u46:Upd none_ w4 w6:=g3.trans' i3 fun k hk e=>by have:=hblk k e;omega
 have u6:=u4.and0 u46
 have hs2n:(rngL size (O.getD · 0)).length=size:=K_17 _ _
 generalize hsec2:rngL size (O.getD · 0)=sec2 at i2 hs2n
 have hb6:=hb4.upd0 u46
 obtain⟨m0,m1,m2,m3,_,_⟩:=K_3n hb6
 unfold K_88
 rw[a1,bnd_ok,hA,J_bs,c1,bnd_ok]
 dsimp only
 rw[if_pos hz6,e1,J_bs,hs0,bnd_ok]
 dsimp only
 rw[if_neg (by decide),(K_3n hb4).2.1,J_bs,hs2l,g1,bnd_ok,i1,bnd_ok,m2,J_bs]
 by_cases hn1:nd=1
 ·rw[if_pos (by rw[hn1];rfl)]
  exact⟨w6,rfl,u6⟩
 rw[if_neg (by rw[beq_iff_eq];omega),m0,J_bs]
 have hnil:BSrc w6 ⟨none,0,0⟩ []:=⟨rfl,Nat.le_refl _,.inl ⟨rfl,rfl,rfl⟩,fun v hv=>by cases hv⟩
 obtain⟨sl1,w7,k1,k2,k3,k4⟩:=K_rs hK (T.upd0 u6) hset (need:=1) (count:=1) (i2.src (K_m _)) hnil
 have hE1:dealE sec2.length ((1:Nat):Int) ((1:Nat):Int) 0=0:=K_iz (by omega) (by omega) (by omega) (by omega) (by omega) (by omega) (by simp)
 have hE1:dealE sec2.length 1 1 0=0:=hE1
 have hT1:dealT C S set sec2 ((1:Nat):Int) ((1:Nat):Int) []=_:=K_nh (by omega) (by omega) (by omega) (by omega) (by omega) (by omega) (by simp)
 have hT1:dealT C S set sec2 1 1 []=dealN set 1 sec2.length (linesC (rowP C S set sec2) [] 1) 1:=hT1
 have k1:K_34 K (set:Int) ⟨some ⟨w4.heap.size,0,none⟩,size,size⟩ 1 1 ⟨none,0,0⟩ w6=some ((sl1,dealE sec2.length 1 1 0,()),w7):=k1
 rw[hE1]at k1
 rw[hT1]at k2
 have D1:Dealt C S set 1 sec2.length sec2 (linesC (rowP C S set sec2) [] 1):=K_ts C S hset (by omega) (by omega)
 have hrow2:(rowP C S set sec2).length=size+4:=by rw[K_rr,hs2n]
 have hconst:valsAt (linesC (rowP C S set sec2) [] 1) (b8 1)=rowP C S set sec2:=by rw[K_zu D1.dpol (b8 1) 0,D1.dzero]
 have KL1:=D1.ok (x:=1) (by omega)
 rw[hconst,hs2n]at KL1
 have hline1:lineX set 1 sec2.length (linesC (rowP C S set sec2) [] 1) 1=lineL set 1 1 size (rowP C S set sec2):=by unfold lineX;rw[hconst,hs2n]
 have hd1:dealN set 1 sec2.length (linesC (rowP C S set sec2) [] 1) 1=[textOf (lineX set 1 sec2.length (linesC (rowP C S set sec2) [] 1) 1)]:=rfl
 rw[hd1,hline1]at k2
 generalize hrow:rowP C S set sec2=row2 at k2 KL1 hrow2
 have hsl1:sl1.len=1:=by rw[k2.len];rfl
 have u7:=u6.and0 k3
 obtain⟨p,p1,p2⟩:=tx_at (k2.src (K_ft _)) (i:=0) (by simp)
 have p2:ldStr (p.add (0*1)) w7=some (textOf (lineL set 1 1 size row2)):=p2
 have hs3:K_4k K sl1 0 w7=some ((false,()),w7):=by
  unfold K_4k K_2x
  rw[J_bs]
  dsimp only
  rw[if_neg (by decide),hsl1];rfl
 obtain⟨mm,hm1,hm2,hm3⟩:=K_na KL1
 obtain⟨b,w8,n1,n2,n3,n4⟩:=K_wx hK w7 hm1 (by omega) (by omega)
 have hbs:BSrc w8 b (lineL set 1 1 size row2):=n2.src (K_m _)
 obtain⟨v1,v2,v3⟩:=cutV KL1 hbs
 have e5:IntKind.i64.wrap ((IntKind.i64.wrap (5+(size:Int)))+4)=((5+(size+4):Nat):Int):=by rw[w64 (by rw[w64 (by omega) (by omega)];omega) (by rw[w64 (by omega) (by omega)];omega),w64 (by omega) (by omega)];omega
 have hs4:K_4j K (size:Int) b true w8=some ((false,()),w8):=by
  unfold K_4j
  rw[if_neg (by decide),e5,decide_eq_false (by omega)]
 have u8:=u7.and0 n3
 have u48:=(u46.and0 k3).and0 n3
 obtain⟨w9,o1,o2,o3,o4⟩:=K_48 sliceB (.int .u8 (bF 0)) rfl w8
 have o1:bldS prog 23 1 #[(0,(.int .u8 0))] w8=some (⟨some ⟨w8.heap.size,0,none⟩,1,1⟩,w9):=o1
 have o2:OwnS 5 w9 ⟨some ⟨w8.heap.size,0,none⟩,1,1⟩ (fb (ptX from_ ct 0)):=o2
 have z48:=u48.size
 have z9:=o3.size
 have hb9:=hb4.upd0 (u48.and0 o3)
 have hsl9:=hsl4.upd0 (u48.and0 o3)
 have hKn:KnownAt w8.heap.size w9 ⟨some ⟨w8.heap.size,0,none⟩,1,1⟩ nilF (ptX from_ ct 0) [] ((xsX from_ ct 0).map fun a=>valsAt rows (b8 a)):=⟨OutAt.nil _ _,o2,fun k hk=>by have e2:w8.heap.size=k:=Option.some.inj hk;omega,(fun k _ e=>by cases e),fun i hi=>absurd hi (Nat.not_lt_zero i)⟩
 obtain⟨x',kn',ss',w10,q1,q2,q3⟩:=K_18v hK D (n:=ct) (N:=w8.heap.size) (g:=W.heap.size) (by omega) (from_:=from_) (s:=s2) (r:=r) (l7:=sl) (secret:=⟨some ⟨w4.heap.size,0,none⟩,size,size⟩) (row:=⟨sla b.a 5 b.cap 1,5+(size+4) - 5,b.cap - 5⟩) (set':=set) (cnt:=(ct:Int)) (own:=false) (by omega) (nd - 1) 0 K w9 ⟨some ⟨w8.heap.size,0,none⟩,1,1⟩ nilF [] (by omega) (by omega) (by omega) hb9 hsl9 (fun k hk=>by have:=hslk k hk;omega) hKn
 have q1:K_19 K K from_ ⟨W.heap.size,0,none⟩ sl (size:Int) ⟨some ⟨w4.heap.size,0,none⟩,size,size⟩ ⟨sla b.a 5 b.cap 1,5+(size+4) - 5,b.cap - 5⟩ ⟨some ⟨w8.heap.size,0,none⟩,1,1⟩ ⟨none,0,0⟩ 0 w9=_:=q1
 have u810:Upd none_ w8 w10:=o3.trans' q3 fun k hk e=>by omega
 have u410:=u48.and0 u810
 have u10:=u4.and0 u410
 have hbig:(nd - 1)*(size+4)≤15*68:=Nat.mul_le_mul (by omega) (by omega)
 obtain⟨w11,r1,r2,r3⟩:=K_iu w10 (n:=(nd - 1)*(size+4)) (by omega)
 have hblk2:∀ k,(⟨some ⟨w10.heap.size,0,none⟩,(nd - 1)*(size+4),(nd - 1)*(size+4)⟩:Sl).blk=some k→k=w10.heap.size:=fun k hk=>(Option.some.inj hk).symm
 have r2:OwnS 5 w11 ⟨some ⟨w10.heap.size,0,none⟩,(nd - 1)*(size+4),(nd - 1)*(size+4)⟩ (fb (rngL ((nd - 1)*(size+4)) (stR (cX rows row2 from_ ct (nd - 1)) (size+4) 0 1))):=by
  have e:rngL ((nd - 1)*(size+4)) (stR (cX rows row2 from_ ct (nd - 1)) (size+4) 0 1)=List.replicate ((nd - 1)*(size+4)) 0:=by
   rw[←K_t5]
   exact K_25 fun t _=>by
    unfold stR
    rw[if_neg]
    rintro(h | ⟨_,h⟩)
    ·exact Nat.not_lt_zero _ h
    ·exact Nat.not_lt_zero _ (Nat.lt_of_succ_lt_succ h)
  rw[e]
  unfold fb
  rw[List.map_replicate]
  exact r2
 have hq2:=q2.upd0 r3
 have z11:=r3.size
 have z410:=u410.size
 have z810:=u810.size
 have hb11:=hb4.upd0 (u410.and0 r3)
 have hv11:BSrc w11 ⟨sla b.a 5 b.cap 1,5+(size+4) - 5,b.cap - 5⟩ row2:=(v3.upd0 u810).upd0 r3
 have hRJ:RowsJ w10.heap.size w11 kn' ss' ((xsX from_ ct (nd - 1)).map fun a=>valsAt rows (b8 a)):=by
  have h:=q2.out.rows.upd0 r3
  exact h
 obtain⟨w12,t1,t2,t3⟩:=K_19d hK (rows:=rows) (row2:=row2) (from_:=from_) (need:=nd) (size:=size) (n:=ct) (g:=W.heap.size) (M:=w10.heap.size) (by omega) (by omega) (by omega) (by omega) D.drows hrow2 (set':=set) (s:=s2) (r:=r) (l7:=sl) (secret:=⟨some ⟨w4.heap.size,0,none⟩,size,size⟩) (row:=⟨sla b.a 5 b.cap 1,5+(size+4) - 5,b.cap - 5⟩) (x:=x') (kn:=kn') (rnd:=⟨some ⟨w10.heap.size,0,none⟩,(nd - 1)*(size+4),(nd - 1)*(size+4)⟩) (cnt:=(ct:Int)) (own:=false) (ss:=ss') (by omega) (fun q hq=>by
   obtain⟨p',h1,h2⟩:=K_ub hq
   have h4:=K_8r n2 p' h1
   omega) (fun q hq=>K_8r q2.xo q hq) (fun k hk=>by have:=hblk2 k hk;omega) (size+4) 0 K w11 (by omega) (by omega) z11 hb11 hv11 (hq2.xo.src (K_m _)) hRJ r2
 have t1:K_1b K K ⟨W.heap.size,0,none⟩ sl (size:Int) ⟨some ⟨w4.heap.size,0,none⟩,size,size⟩ ⟨sla b.a 5 b.cap 1,5+(size+4) - 5,b.cap - 5⟩ x' kn' ⟨some ⟨w10.heap.size,0,none⟩,(nd - 1)*(size+4),(nd - 1)*(size+4)⟩ 0 w11=_:=t1
 have u1012:Upd none_ w10 w12:=r3.trans' t3 fun k hk e=>by have:=hblk2 k e;omega
 have u412:=u410.and0 u1012
 have u12:=u4.and0 u412
 have hb12:=hb4.upd0 u412
 obtain⟨y0,y1,y2,y3,_,_⟩:=K_3n hb12
 have hsec12:BSrc w12 ⟨some ⟨w4.heap.size,0,none⟩,size,size⟩ sec2:=((((i2.upd0 k3).upd0 n3).upd0 u810).upd0 u1012).src (K_m _)
 obtain⟨m28,w13,x1,x2,x3,x4⟩:=K_rs hK (T.upd0 u12) hset (need:=(nd:Int)) (count:=(ct:Int)) hsec12 (t2.src (K_m _))
 have hRl:(rX rows row2 from_ ct (nd - 1) (size+4)).length=(nd - 1)*(sec2.length+4):=by unfold rX;rw[K_17,hs2n]
 rw[K_iz hneed.1 hneed.2 (by omega) (by omega) hcnt.1 (by omega) hRl]at x1
 rw[K_nh hneed.1 hneed.2 (by omega) (by omega) hcnt.1 (by omega) hRl,hrow,hs2n]at x2
 have hsame:=fun j (hj:j<nd - 1)=>K_16e (rows:=rows) (row2:=row2) (from_:=from_) (n:=ct) (k:=nd - 1) (by omega) (by omega) hj (by rw[hrow2];exact D.drows)
 rw[hrow2,Nat.sub_add_cancel hneed.1]at hsame
 have hm28:m28.len=ct:=by rw[x2.len,K_2b];exact K_1p _ _ _ _ _
 have hsll:sl.len=ct:=by rw[hsl4.len,K_2b];exact K_1p _ _ _ _ _
 have hs10:K_3z K sl m28 0 w13=some ((false,()),w13):=by
  unfold K_3z K_2x
  rw[J_bs]
  dsimp only
  rw[if_neg (by decide),hm28,hsll]
  simp
 have hx13:BSrc w13 x' (ptX from_ ct (nd - 1)):=((q2.xo.upd0 u1012).upd0 x3).src (K_m _)
 have hsl13:=(hsl4.upd0 u412).upd0 x3
 obtain⟨w14,b1,b2⟩:=K_17j (K:=K) (rows:=rows) (from_:=from_) (set:=set) (need:=nd) (size:=size) (n:=ct) (k:=nd - 1) (by omega) (by omega) hsame (l7:=sl) (x:=x') (m28:=m28) (nd - 1) 1 K w13 (by omega) (Nat.le_refl _) (by omega) hx13 hsl13 x2
 have b1:K_12 K K sl x' m28 1 w13=_:=b1
 refine⟨w14,?_,(u12.and0 x3).and0 b2⟩
 have cc0:(0:Int)≤0∧(0:Int)<((sl1.len:Nat):Int):=by omega
 have c5':(0:Int)≤((5+(size+4):Nat):Int)∧((5+(size+4):Nat):Int)≤((b.cap:Nat):Int):=by omega
 have c6':(0:Int)≤5∧(5:Int)≤((5+(size+4):Nat):Int):=by omega
 have eR:IntKind.i64.wrap ((IntKind.i64.wrap ((nd:Int) - 1))*(IntKind.i64.wrap ((size:Int)+4)))=(((nd - 1)*(size+4):Nat):Int):=by
  have h1:IntKind.i64.wrap ((nd:Int) - 1)=((nd - 1:Nat):Int):=by rw[w64 (by omega) (by omega)];omega
  have h2:IntKind.i64.wrap ((size:Int)+4)=((size+4:Nat):Int):=by rw[w64 (by omega) (by omega)];rfl
  rw[h1,h2,←Int.natCast_mul]
  generalize (nd - 1)*(size+4)=Z at hbig ⊢
  rw[w64 (by omega) (by omega)]
 rw[k1,bnd_ok]
 dsimp only
 rw[hs3,bnd_ok]
 dsimp only
 rw[if_neg (by decide),p1,J_bs,if_pos cc0,p2,J_bs,n1,bnd_ok]
 dsimp only
 rw[hs4,bnd_ok]
 dsimp only
 rw[if_neg (by decide),e5,if_pos c5',J_tn,if_pos c6',o1,bnd_ok,q1,bnd_ok]
 dsimp only
 rw[(K_3n (hb4.upd0 u410)).2.2.1,J_bs,eR,r1,bnd_ok,t1,bnd_ok,y0,J_bs,y2,J_bs,y3,J_bs,x1,bnd_ok]
 dsimp only
 rw[hs10,bnd_ok]
 dsimp only
 rw[if_neg (by decide),b1,bnd_ok]
end Go.Sh
