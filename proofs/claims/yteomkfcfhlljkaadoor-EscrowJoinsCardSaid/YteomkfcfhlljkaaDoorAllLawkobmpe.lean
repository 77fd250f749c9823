/- Texts of this claim, put together: EscJ, EscK, EscL, EscM, EscN, EscO, EscP, EscQ, EscR, EscS, EscT, EscU, EscV, EscPw, BookD, EscW, Spec32, Spec64, Fed, Bv -/
import Derived.Test.YteomkfcfhlljkaaDoorAllLawbdmgnh
import Derived.Test.YteomkfcfhlljkaaDoorAllFwbgdbhh
import Derived.Test.YteomkfcfhlljkaaDoorAllShkogldk
import Derived.Laws.Bits64
set_option linter.unusedVariables false
set_option maxRecDepth 100000
namespace Go.Sh
open Go.Fw Go.Gf Go.RowKit Go.Proofs.Tryd
def elimP(R:List (List F))(c i:Nat):List (List F):=R.mapIdx fun j r=>if j<i∧j≠c then Gf.lessR (R.getD c []) c r else r
theorem K_11(R:List (List F))(c i:Nat):(elimP R c i).length=R.length:=by simp[elimP]
theorem K_bo{R:List (List F)}{c i j:Nat}(hj:j<R.length):(elimP R c i).getD j []=if j<i∧j≠c then Gf.lessR (R.getD c []) c (R.getD j []) else R.getD j []:=by
 unfold elimP
 rw[J_gd,List.getElem?_mapIdx,J_ge hj]
 simp[J_gd,J_ge hj]
theorem K_g5{A B:List (List F)}(h:A.length=B.length)(hg:∀ j,j<A.length→A.getD j []=B.getD j []):A=B:=by
 apply List.ext_getElem h
 intro j h1 h2
 have:=hg j h1
 rwa [J_gd,J_gd,J_ge h1,J_ge h2]at this
theorem K_1dz(R:List (List F))(c:Nat):elimP R c 0=R:=K_g5 (K_11 _ _ _) fun j hj=>by
 rw[K_11]at hj
 rw[K_bo hj,if_neg (by omega)]
theorem K_1fe(R:List (List F))(c:Nat):elimP R c R.length=Gf.elimR R c:=K_g5 (by rw[K_11,Gf.elim_length]) fun j hj=>by
 rw[K_11]at hj
 rw[K_bo hj,Gf.elim_get hj]
 by_cases e:j=c
 ·rw[if_neg (by omega),if_pos e]
 ·rw[if_pos ⟨hj,e⟩,if_neg e]
theorem K_17p:∀ {l m:List F},l.length=m.length→xorR l (m.map ((0:F)* ·))=l
 | [],[],_=>rfl
 | a :: l,b :: m,h=>by
  show (a+0*b) :: xorR l (m.map ((0:F)* ·))=a :: l
  rw[F.zero_mul,F.add_zero,K_17p (by simpa using h)]
 | [],_ :: _,h=>by simp at h
 | _ :: _,[],h=>by simp at h
theorem K_143{R:List (List F)}{c i:Nat}(hi:i<R.length)(h:i=c∨(Gf.E R i c=0∧(R.getD i []).length=(R.getD c []).length)):elimP R c (i+1)=elimP R c i:=K_g5 (by rw[K_11,K_11]) fun j hj=>by
 rw[K_11]at hj
 rw[K_bo hj,K_bo hj]
 by_cases e:j=i
 ·subst e
  rcases h with h | ⟨h1,h2⟩
  ·rw[if_neg (by omega),if_neg (by omega)]
  ·rw[if_neg (show ¬(j<j∧j≠c) by omega)]
   by_cases ec:j=c
   ·rw[if_neg (by omega)]
   ·rw[if_pos ⟨by omega,ec⟩]
    unfold Gf.lessR
    have:(R.getD j []).getD c 0=0:=h1
    rw[this,K_17p h2]
 ·by_cases c1:j<i∧j≠c
  ·rw[if_pos c1,if_pos ⟨by omega,c1.2⟩]
  ·rw[if_neg c1,if_neg (by omega)]
theorem K_1ez{R:List (List F)}{c i:Nat}(hi:i<R.length)(hic:i≠c):elimP R c (i+1)=(elimP R c i).set i (Gf.lessR (R.getD c []) c (R.getD i [])):=K_g5 (by rw[K_11,List.length_set,K_11]) fun j hj=>by
 rw[K_11]at hj
 rw[K_bo hj,K_7z _ _ (by rw[K_11];exact hi),K_bo hj]
 by_cases e:j=i
 ·subst e
  rw[if_pos ⟨by omega,hic⟩,if_pos rfl]
 ·rw[if_neg e]
  by_cases c1:j<i∧j≠c
  ·rw[if_pos c1,if_pos ⟨by omega,c1.2⟩]
  ·rw[if_neg c1,if_neg (by omega)]
theorem K_1eh{K:Nat}(hK:18446744073709551616≤K){rs x7:Sl}{ss:List Sl}{n B N c:Nat}{R:List (List F)}(hc:c<R.length)(hcn:c<n+1)(hn:n≤4096)(hR:R.length≤4096)(hrl:∀ i,i<R.length→(R.getD i []).length=n+1):
  ∀ (d i f:Nat) (w:World),i+d=R.length→d<f→RowsAt w rs ss (elimP R c i) (n+1) B N→
   ∃ w',K_3d K f (n:Int) rs x7 (c:Int) (i:Int) w=some ((),w')∧RowsAt w' rs ss (Gf.elimR R c) (n+1) B N∧Upd (fun k=>B≤k∧k<N) w w':=by
 intro d
 induction d with
 | zero=>
  intro i f w hi hf h
  obtain⟨f,rfl⟩:∃ q,f=q+1:=⟨f - 1,by omega⟩
  have hsz:=h.size
  rw[K_11]at hsz
  refine⟨w,?_,by rw[show i=R.length by omega,K_1fe]at h;exact h,Upd.refl _ _⟩
  show K_8s K (K_3d K f) (n:Int) rs x7 (c:Int) (i:Int) w=_
  unfold K_8s
  rw[if_neg (by rw[hsz];simp only[decide_eq_true_eq];omega)]
 | succ d ih=>
  intro i f w hi hf h
  obtain⟨f,rfl⟩:∃ q,f=q+1:=⟨f - 1,by omega⟩
  have hil:i<R.length:=by omega
  have hsz:=h.size
  rw[K_11]at hsz
  have e3:IntKind.i64.wrap ((i:Int)+1)=((i+1:Nat):Int):=by rw[w64 (by omega) (by omega)];rfl
  have hip:i<(elimP R c i).length:=by rw[K_11];exact hil
  have hcp:c<(elimP R c i).length:=by rw[K_11];exact hc
  have hgi:(elimP R c i).getD i []=R.getD i []:=by rw[K_bo hil,if_neg (by omega)]
  have hgc:(elimP R c i).getD c []=R.getD c []:=by rw[K_bo hc,if_neg (by omega)]
  have c1:(0:Int)≤(i:Int)∧(i:Int)<((rs.len:Nat):Int):=by omega
  show ∃ w',K_8s K (K_3d K f) (n:Int) rs x7 (c:Int) (i:Int) w=some ((),w')∧_
  unfold K_8s K_ei
  rw[if_pos (decide_eq_true (show (i:Int)<((rs.len:Nat):Int) by omega)),e3]
  by_cases hic:i=c
  ·rw[if_pos (by rw[hic];simp),bnd_ok,if_pos rfl]
   exact ih (i+1) f w (by omega) (by omega) (by rw[K_143 hil (.inl hic)];exact h)
  ·obtain⟨p,p1,p2⟩:=h.ld hip
   obtain⟨q,q1,q2⟩:=h.cell hip hcn
   have hsl:=h.slen hip
   have hE:Gf.E (elimP R c i) i c=Gf.E R i c:=by unfold Gf.E;rw[hgi]
   rw[hE]at q2
   have c2:(0:Int)≤(c:Int)∧(c:Int)<(((ss.getD i nilF).len:Nat):Int):=by omega
   rw[if_neg (by rw[beq_iff_eq];omega),p1,J_bs,if_pos c1,J_tn,Nat.mul_one,p2,J_bs,q1,J_bs,if_pos c2,J_tn,Nat.mul_one,q2,J_bs,bnd_ok]
   dsimp only
   by_cases hz:Gf.E R i c=0
   ·rw[if_pos (by rw[K_kh];exact hz)]
    exact ih (i+1) f w (by omega) (by omega) (by rw[K_143 hil (.inr ⟨hz,by rw[hrl i hil,hrl c hc]⟩)];exact h)
   ·rw[if_neg (by rw[K_kh];exact hz),J_bs,if_pos c1,p2,J_bs,q1,J_bs,if_pos c2,q2,J_bs]
    have h0:RowsAt w rs ss ((elimP R c i).set i (pless 0 ((elimP R c i).getD i []) ((elimP R c i).getD c []) (Gf.E R i c))) (n+1) B N:=by
     have e0:pless 0 ((elimP R c i).getD i []) ((elimP R c i).getD c []) (Gf.E R i c)=(elimP R c i).getD i []:=by simp[pless,xorR]
     rw[e0]
     have:(elimP R c i).set i ((elimP R c i).getD i [])=elimP R c i:=by
      rw[J_gd,J_ge hip]
      exact List.set_getElem_self hip
     rw[this];exact h
    obtain⟨w1,a1,a2,a3⟩:=K_1dv (K:=K) (by omega) (x7:=x7) hcp hip hic (by rw[hgc];exact hrl c hc) (by rw[hgi];exact hrl i hil) hn (by rw[K_11];exact hR) (n+1) 0 K w (by omega) (by omega) h0
    have a1:K_4v K K (n:Int) rs x7 (c:Int) (i:Int) (bF (Gf.E R i c)) 0 w=some ((),w1):=a1
    rw[hgi,hgc]at a2
    have hst:(elimP R c i).set i (xorR (R.getD i []) ((R.getD c []).map (Gf.E R i c* ·)))=elimP R c (i+1):=(K_1ez hil hic).symm
    rw[hst]at a2
    obtain⟨w2,b1,b2,b3⟩:=ih (i+1) f w1 (by omega) (by omega) a2
    exact⟨w2,by rw[a1,bnd_ok,b1],b2,a3.trans' b3 fun _ _ e=>e⟩
theorem K_1j8{K:Nat}(hK:18446744073709551616≤K){rs:Sl}{n B N:Nat}(hn:n≤4096):
  ∀ (d c f:Nat) (w:World) (ss:List Sl) (R:List (List F)) (x:Sl),c+d=n→d<f→R.length≤4096→RowsAt w rs ss R (n+1) B N→B≤N→N≤w.heap.size→OwnS 5 w x (fb (List.replicate c 0))→(∀ k,x.blk=some k→N≤k)→
   match Gf.solveG R d c with
   | none=>∃ w',K_w K f (n:Int) rs x (c:Int) w=some (.ret (nilF,false,()),w')∧Upd (fun k=>B≤k) w w'
   | some R'=>∃ x' ss' w',K_w K f (n:Int) rs x (c:Int) w=some (.norm (x',()),w')∧RowsAt w' rs ss' R' (n+1) B N∧OwnS 5 w' x' (fb (List.replicate n 0))∧(∀ k,x'.blk=some k→N≤k)∧Upd (fun k=>B≤k) w w':=by
 intro d
 induction d with
 | zero=>
  intro c f w ss R x hc hf hR h hBN hN hx hxN
  obtain⟨f,rfl⟩:∃ q,f=q+1:=⟨f - 1,by omega⟩
  obtain rfl:c=n:=by omega
  refine⟨x,ss,w,?_,h,hx,hxN,Upd.refl _ _⟩
  show K_8y K (K_w K f) (c:Int) rs x (c:Int) w=_
  unfold K_8y
  rw[if_neg (by simp)]
 | succ d ih=>
  intro c f w ss R x hc hf hR h hBN hN hx hxN
  obtain⟨f,rfl⟩:∃ q,f=q+1:=⟨f - 1,by omega⟩
  have hcn:c<n:=by omega
  have hsz:=h.size
  have e3:IntKind.i64.wrap ((c:Int)+1)=((c+1:Nat):Int):=by rw[w64 (by omega) (by omega)];rfl
  obtain⟨w1,x2,w2,a1,a2,a3,a4,a5⟩:=K_ez hx (by rw[List.length_replicate];omega) 0
  have a1:bldS prog 23 1 #[(0,(.int .u8 0))] w=some (⟨some ⟨w.heap.size,0,none⟩,1,1⟩,w1):=a1
  have erep:List.replicate c (0:F) ++ [0]=List.replicate (c+1) 0:=by rw[←List.replicate_succ']
  rw[erep]at a3
  have q2:=a4.size
  have hx2:∀ k,x2.blk=some k→N≤k:=fun k hk=>(a5 k hk).elim (hxN k) fun e=>by omega
  have h2:=h.upd a4 fun k h1 h2 e=>by have:=hxN k e;omega
  have u2:Upd (fun k=>B≤k) w w2:=a4.mono fun k _ e=>by have:=hxN k e;omega
  have hun:K_w K (f+1) (n:Int) rs x (c:Int) w=K_8y K (K_w K f) (n:Int) rs x (c:Int) w:=rfl
  have hsg:Gf.solveG R (d+1) c=(Gf.stepS R c).bind fun r=>Gf.solveG r d (c+1):=rfl
  rw[hun,hsg]
  unfold K_8y
  rw[if_pos (decide_eq_true (show (c:Int)<(n:Int) by omega)),a1,bnd_ok]
  dsimp only
  rw[a2,bnd_ok]
  by_cases hcR:c<R.length
  ·have hpv:=K_1cf (K:=K) (x7:=x2) (n4:=(n:Int)) h2 (c:=c) (by omega) hR (R.length - c) c K (by omega) (by omega)
   rw[hpv,bnd_ok]
   unfold Gf.stepS
   cases hp:Gf.pivotG R c (R.length - c) c with
   | none=>
    exact⟨w2,by rw[if_pos (by decide)],u2⟩
   | some a=>
    obtain⟨ha1,ha2,ha3⟩:=Gf.pivot_some _ _ _ hp
    have haR:a<R.length:=by omega
    have eat:atI (some a)=(a:Int):=rfl
    rw[eat]
    dsimp only
    have ca:(0:Int)≤(a:Int)∧(a:Int)<((rs.len:Nat):Int):=by omega
    have cc:(0:Int)≤(c:Int)∧(c:Int)<((rs.len:Nat):Int):=by omega
    obtain⟨p,p1,p2⟩:=h2.drew.ld haR
    obtain⟨p',p1',p3⟩:=h2.drew.ld hcR
    obtain rfl:p'=p:=Option.some.inj (p1'.symm.trans p1)
    obtain⟨q,w3,w4,ss',s1,s2,s3,s4,s5⟩:=h2.drew.swap hcR haR
    obtain rfl:q=p':=Option.some.inj (s1.symm.trans p1)
    have hcS:c<(Gf.swapR R c a).length:=by rw[Gf.swap_length];exact hcR
    obtain⟨r,r1,r2⟩:=s4.ld hcS
    obtain rfl:r=q:=Option.some.inj (r1.symm.trans p1)
    obtain⟨z,z1,z2⟩:=s4.cell hcS (t:=c) (by omega)
    have hsl:=s4.slen hcS
    have hEc:Gf.E (Gf.swapR R c a) c c=Gf.E R a c:=by
     unfold Gf.E
     rw[Gf.swap_get hcR haR]
     by_cases e:c=a
     ·rw[if_pos e,e]
     ·rw[if_neg e,if_pos rfl]
    have hne:Gf.E (Gf.swapR R c a) c c≠0:=by rw[hEc];exact ha3
    have hov:=K_1hv (K:=K) (by omega) 1 hne
    rw[F.one_mul]at hov
    have hov:K_aa K 1 (bF (Gf.E (Gf.swapR R c a) c c))=some (bF (Gf.E (Gf.swapR R c a) c c).inv,()):=hov
    have c2:(0:Int)≤(c:Int)∧(c:Int)<(((ss'.getD c nilF).len:Nat):Int):=by omega
    have u4:Upd (fun k=>B≤k) w w4:=u2.trans' (s5.predrew.mono (T:=fun k=>B≤k) fun _ _ e=>e.1) fun _ _ e=>e
    have h0:RowsAt w4 rs ss' ((Gf.swapR R c a).set c (pnorm 0 ((Gf.swapR R c a).getD c []) (Gf.E (Gf.swapR R c a) c c).inv)) (n+1) B N:=by
     have e0:pnorm 0 ((Gf.swapR R c a).getD c []) (Gf.E (Gf.swapR R c a) c c).inv=(Gf.swapR R c a).getD c []:=by simp[pnorm]
     rw[e0]
     have:(Gf.swapR R c a).set c ((Gf.swapR R c a).getD c [])=Gf.swapR R c a:=by
      rw[J_gd,J_ge hcS]
      exact List.set_getElem_self hcS
     rw[this];exact s4
    obtain⟨w5,b1,b2,b3⟩:=K_1ek (K:=K) (by omega) (x7:=x2) hcS (s4.rlen c hcS) hn (by rw[Gf.swap_length];exact hR) (n+1) 0 K w4 (by omega) (by omega) h0
    have b1:K_37 K K (n:Int) rs x2 (c:Int) (bF (Gf.E (Gf.swapR R c a) c c).inv) 0 w4=some ((),w5):=b1
    have b2:RowsAt w5 rs ss' (Gf.normR (Gf.swapR R c a) c) (n+1) B N:=b2
    have hNl:(Gf.normR (Gf.swapR R c a) c).length=R.length:=by rw[Gf.norm_length,Gf.swap_length]
    obtain⟨w6,d1,d2,d3⟩:=K_1eh hK (x7:=x2) (rs:=rs) (ss:=ss') (R:=Gf.normR (Gf.swapR R c a) c) (by rw[hNl];exact hcR) (show c<n+1 by omega) hn (by rw[hNl];exact hR) (fun i hi=>b2.rlen i hi) R.length 0 K w5 (by rw[hNl];omega) (by omega) (by rw[K_1dz];exact b2)
    have d1:K_3d K K (n:Int) rs x2 (c:Int) 0 w5=some ((),w6):=d1
    have u26:Upd (fun k=>B≤k∧k<N) w2 w6:=(s5.predrew.trans' b3 fun _ _ e=>e).trans' d3 fun _ _ e=>e
    have q6:=u26.size
    have hx6:=a3.upd u26 fun k hk e=>by have:=hx2 k hk;omega
    have u6:Upd (fun k=>B≤k) w w6:=u2.trans' (u26.mono (T:=fun k=>B≤k) fun _ _ e=>e.1) fun _ _ e=>e
    have hEl:(Gf.elimR (Gf.normR (Gf.swapR R c a) c) c).length=R.length:=by rw[Gf.elim_length,hNl]
    have hrec:=ih (c+1) f w6 ss' _ x2 (by omega) (by omega) (by rw[hEl];exact hR) d2 hBN (by omega) hx6 hx2
    have hrun:(if decide ((a:Int)<0)=true then some (.ret (nilF,false,()),w2) else((rs.a).bind fun p_27=>
 if (0:Int)≤(a:Int)∧(a:Int)<((rs.len:Nat):Int) then((rs.a).bind fun p_28=>
 if (0:Int)≤(c:Int)∧(c:Int)<((rs.len:Nat):Int) then((ldS (p_27.add ((Int.toNat (a:Int))*1)) w2.drew).bind fun v_29=>
 (ldS (p_28.add ((Int.toNat (c:Int))*1)) w2.drew).bind fun v_30=>
 (rs.a).bind fun p_31=>
 if (0:Int)≤(c:Int)∧(c:Int)<((rs.len:Nat):Int) then((stC (p_31.add ((Int.toNat (c:Int))*1)) (.slice v_29.a v_29.len v_29.cap) w2.drew).bind fun w_32=>
 (rs.a).bind fun p_33=>
 if (0:Int)≤(a:Int)∧(a:Int)<((rs.len:Nat):Int) then((stC (p_33.add ((Int.toNat (a:Int))*1)) (.slice v_30.a v_30.len v_30.cap) w_32).bind fun w_34=>
 (rs.a).bind fun p_35=>
 if (0:Int)≤(c:Int)∧(c:Int)<((rs.len:Nat):Int) then((ldS (p_35.add ((Int.toNat (c:Int))*1)) w_34).bind fun v_36=>
 (v_36.a).bind fun p_37=>
 if (0:Int)≤(c:Int)∧(c:Int)<((v_36.len:Nat):Int) then((ldI .u8 (p_37.add ((Int.toNat (c:Int))*1)) w_34).bind fun v_38=>
 (K_aa K 1 v_38).bind fun r_39=>
 bnd (K_37 K K (n:Int) rs x2 (c:Int) r_39.1 0 w_34) fun y_49 w_50=>
 bnd (K_3d K K (n:Int) rs x2 (c:Int) 0 w_50) fun y_76 w_77=>
 K_w K f (n:Int) rs x2 (IntKind.i64.wrap ((c:Int)+1)) w_77) else none) else none) else none) else none) else none) else none))=K_w K f (n:Int) rs x2 ((c+1:Nat):Int) w6:=by
     rw[if_neg (by simp only[decide_eq_true_eq];omega),p1,J_bs,if_pos ca,J_bs,if_pos cc,J_tn,Nat.mul_one,p2,J_bs,J_tn,Nat.mul_one,p3,J_bs,J_bs,if_pos cc]
     rw[s2,J_bs,J_bs,if_pos ca,s3,J_bs,J_bs,if_pos cc,r2,J_bs,z1,J_bs,if_pos c2,z2,J_bs,hov,J_bs]
     dsimp only
     rw[b1,bnd_ok,d1,bnd_ok,e3]
    rw[hrun,Option.map_some,J_bs]
    cases hs:Gf.solveG (Gf.elimR (Gf.normR (Gf.swapR R c a) c) c) d (c+1) with
    | none=>
     rw[hs]at hrec
     obtain⟨w7,k1,k2⟩:=hrec
     exact⟨w7,k1,u6.trans' k2 fun _ _ e=>e⟩
    | some R'=>
     rw[hs]at hrec
     obtain⟨x',ss'',w7,k1,k2,k3,k4,k5⟩:=hrec
     exact⟨x',ss'',w7,k1,k2,k3,k4,u6.trans' k5 fun _ _ e=>e⟩
  ·have hlz:R.length - c=0:=by omega
   have hpv:K_1w K K (n:Int) rs x2 (c:Int) (-1) (c:Int) w2=some ((-1,()),w2):=by
    obtain⟨k,hk⟩:∃ k,K=k+1:=⟨K - 1,by omega⟩
    have gen:∀ m,m=k+1→K_1w K m (n:Int) rs x2 (c:Int) (-1) (c:Int) w2=some ((-1,()),w2):=fun m hm=>by
     rw[hm]
     show K_29 K (K_1w K k) (n:Int) rs x2 (c:Int) (-1) (c:Int) w2=_
     unfold K_29 K_49
     rw[if_neg (by rw[hsz];simp only[decide_eq_true_eq];omega),bnd_ok,if_neg (by decide)]
    exact gen K hk
   have hss:Gf.stepS R c=none:=by unfold Gf.stepS;rw[hlz];rfl
   rw[hpv,bnd_ok,hss]
   exact⟨w2,by rw[if_pos (by decide)],u2⟩
end Go.Sh

namespace Go.Sh
open Go.Fw Go.Gf Go.RowKit Go.Proofs.Tryd
theorem K_1f7{K:Nat}{rs x7:Sl}{ss:List Sl}{R:List (List F)}{n B N:Nat}{w:World}(hR:R.length≤4096)(h:RowsAt w rs ss R (n+1) B N):
  ∀ (d i f:Nat),i+d=R.length∨(d=0∧R.length≤i∧i≤4096)→d<f→K_4p K f (n:Int) rs x7 (i:Int) w=some (if Gf.restG R n d i=true then(.norm (),w) else(.ret (nilF,false,()),w)):=by
 have hsz:=h.size
 intro d
 induction d with
 | zero=>
  intro i f hi hf
  obtain⟨f,rfl⟩:∃ q,f=q+1:=⟨f - 1,by omega⟩
  show K_8w K (K_4p K f) (n:Int) rs x7 (i:Int) w=_
  unfold K_8w
  rw[if_neg (by rw[hsz];simp only[decide_eq_true_eq];omega)]
  rfl
 | succ d ih=>
  intro i f hi hf
  obtain⟨f,rfl⟩:∃ q,f=q+1:=⟨f - 1,by omega⟩
  have hil:i<R.length:=by omega
  have e3:IntKind.i64.wrap ((i:Int)+1)=((i+1:Nat):Int):=by rw[w64 (by omega) (by omega)];rfl
  obtain⟨p,p1,p2⟩:=h.ld hil
  obtain⟨q,q1,q2⟩:=h.cell hil (t:=n) (by omega)
  have hsl:=h.slen hil
  have c1:(0:Int)≤(i:Int)∧(i:Int)<((rs.len:Nat):Int):=by omega
  have c2:(0:Int)≤(n:Int)∧(n:Int)<(((ss.getD i nilF).len:Nat):Int):=by omega
  show K_8w K (K_4p K f) (n:Int) rs x7 (i:Int) w=_
  unfold K_8w
  rw[if_pos (decide_eq_true (show (i:Int)<((rs.len:Nat):Int) by omega)),p1,J_bs,if_pos c1,J_tn,Nat.mul_one,p2,J_bs,q1,J_bs,if_pos c2,J_tn,Nat.mul_one,q2,J_bs,e3]
  have hg:Gf.restG R n (d+1) i=if Gf.E R i n=0 then Gf.restG R n d (i+1) else false:=rfl
  rw[hg]
  by_cases hz:Gf.E R i n=0
  ·rw[if_neg (by rw[K_xt];exact fun e=>e hz),if_pos hz]
   exact ih (i+1) f (by omega) (by omega)
  ·rw[if_pos (by rw[K_xt];exact hz),if_neg hz,if_neg (by decide)]
theorem K_1g8{K:Nat}{rs x7:Sl}{ss:List Sl}{R:List (List F)}{n B N:Nat}(hn:n≤4096)(hRn:n≤R.length)(hR:R.length≤4096)(hxN:∀ k,x7.blk=some k→N≤k):
  ∀ (d c f:Nat) (w:World) (x:List F),c+d=n→d<f→RowsAt w rs ss R (n+1) B N→x.length=n→OwnS 5 w x7 (fb x)→
   ∃ w',K_38 K f (n:Int) rs x7 (c:Int) w=some ((),w')∧OwnS 5 w' x7 (fb (x.take c ++ ((List.range n).map fun c=>Gf.E R c n).drop c))∧Upd (fun k=>x7.blk=some k) w w':=by
 intro d
 induction d with
 | zero=>
  intro c f w x hc hf h hxl hx
  obtain⟨f,rfl⟩:∃ q,f=q+1:=⟨f - 1,by omega⟩
  refine⟨w,?_,?_,Upd.refl _ _⟩
  ·show K_93 K (K_38 K f) (n:Int) rs x7 (c:Int) w=_
   unfold K_93
   rw[if_neg (by simp only[decide_eq_true_eq];omega)]
  ·rw[List.take_of_length_le (by omega),List.drop_eq_nil_of_le (by simp;omega),List.append_nil]
   exact hx
 | succ d ih=>
  intro c f w x hc hf h hxl hx
  obtain⟨f,rfl⟩:∃ q,f=q+1:=⟨f - 1,by omega⟩
  have hcR:c<R.length:=by omega
  have hsz:=h.size
  have e3:IntKind.i64.wrap ((c:Int)+1)=((c+1:Nat):Int):=by rw[w64 (by omega) (by omega)];rfl
  obtain⟨p,p1,p2⟩:=h.ld hcR
  obtain⟨q,q1,q2⟩:=h.cell hcR (t:=n) (by omega)
  have hsl:=h.slen hcR
  obtain⟨z,w1,s1,s2,s3,s4⟩:=K_eu hx (i:=c) (by omega) (Gf.E R c n)
  have c1:(0:Int)≤(c:Int)∧(c:Int)<((rs.len:Nat):Int):=by omega
  have c2:(0:Int)≤(n:Int)∧(n:Int)<(((ss.getD c nilF).len:Nat):Int):=by omega
  have hxlen:x7.len=n:=by rw[hx.len,K_1,hxl]
  have c3:(0:Int)≤(c:Int)∧(c:Int)<((x7.len:Nat):Int):=by omega
  obtain⟨w2,k1,k2,k3⟩:=ih (c+1) f w1 _ (by omega) (by omega) (h.upd s4 fun k h1 h2 e=>by have:=hxN k e;omega) (by rw[List.length_set];exact hxl) s3
  refine⟨w2,?_,?_,s4.trans' k3 fun _ _ e=>e⟩
  ·show K_93 K (K_38 K f) (n:Int) rs x7 (c:Int) w=_
   unfold K_93
   rw[if_pos (decide_eq_true (show (c:Int)<(n:Int) by omega)),p1,J_bs,if_pos c1,J_tn,Nat.mul_one,p2,J_bs,q1,J_bs,if_pos c2,J_tn,Nat.mul_one,q2,J_bs,s1,J_bs,if_pos c3,s2,J_bs,e3,k1]
  ·have e1:(x.set c (Gf.E R c n)).take (c+1)=x.take c ++ [Gf.E R c n]:=by
    rw[List.take_succ_eq_append_getElem (by rw[List.length_set];omega)]
    simp[List.take_set_of_le]
   have e2:((List.range n).map fun c=>Gf.E R c n).drop c=Gf.E R c n :: ((List.range n).map fun c=>Gf.E R c n).drop (c+1):=by
    rw[List.drop_eq_getElem_cons (by simp;omega)]
    simp
   rw[e1,List.append_assoc]at k2
   rw[e2]
   exact k2
theorem K_181{K:Nat}(hK:18446744073709551616≤K){w:World}{m0:Sl}{ms:List Sl}{R:List (List F)}{n:Nat}(hm:RowsIn w m0 ms R (n+1))(hR0:0<R.length)(hR:R.length≤4096)(hn:n≤4095)(h1:∀ k,m0.blk=some k→k<w.heap.size)(h2:∀ i,i<R.length→∀ k,(ms.getD i nilF).blk=some k→k<w.heap.size):
  ∃ s v w',K_81 K m0 w=some ((s,v,()),w')∧Upd none_ w w'∧(match Gf.solve n R with | some y=>v=true∧OwnS 5 w' s (fb y)∧Fresh w.heap.size s∧y.length=n | none=>v=false):=by
 have hms:=hm.size
 obtain⟨p,p1,p2⟩:=hm.ld hR0
 have hrow:=hm.row 0 hR0
 have hsl:(ms.getD 0 nilF).len=n+1:=by rw[hrow.len,K_1,hm.rlen 0 hR0]
 obtain⟨rs,ss,w1,a1,a2,a3⟩:=K_1ev hK (n4:=(n:Int)) hR (by omega) (B:=w.heap.size) R.length 0 K w nilF [] (by omega) (by omega) (RowsAt.nil w (n+1) w.heap.size) (Nat.le_refl _) hm (fun k hk e=>by have:=h1 k e;omega) (fun i hi k hk e=>by have:=h2 i hi k e;omega)
 have a1:K_4y K K m0 (n:Int) nilF 0 w=some ((rs,()),w1):=a1
 have q1:=a3.size
 have u1:Upd none_ w w1:=a3.mono fun k hk e=>by omega
 have hl1:=K_1j8 hK (rs:=rs) (n:=n) (B:=w.heap.size) (N:=w1.heap.size) (by omega) n 0 K w1 ss R nilF (by omega) (by omega) hR a2 (by omega) (Nat.le_refl _) (OwnS.nil _ _) (fun k hk=>by cases hk)
 have c0:(0:Int)≤0∧(0:Int)<((m0.len:Nat):Int):=by omega
 have en:IntKind.i64.wrap ((((ms.getD 0 nilF).len:Nat):Int) - 1)=(n:Int):=by rw[hsl,w64 (by omega) (by omega)];omega
 have run:K_81 K m0 w=bnd (K_w K K (n:Int) rs nilF 0 w1) fun y_78 w_79=>
 (match y_78 with
 | .norm z_80n=>(bnd (K_4p K K (n:Int) rs z_80n.1 (n:Int) w_79) fun y_85 w_86=>
 (match y_85 with
 | .norm z_87n=>(bnd (K_38 K K (n:Int) rs z_80n.1 0 w_86) fun y_94 w_95=>
 some ((z_80n.1,true,()),w_95))
 | .ret z_87r=>(some ((z_87r.1,z_87r.2.1,()),w_86))))
 | .ret z_80r=>(some ((z_80r.1,z_80r.2.1,()),w_79))):=by
  unfold K_81
  rw[if_neg (by rw[beq_iff_eq];omega),p1,J_bs,if_pos c0,Nat.zero_mul]
  have p2':ldS (p.add 0) w=some (ms.getD 0 nilF):=p2
  rw[p2',J_bs,en,a1,bnd_ok]
  rfl
 rw[run]
 unfold Gf.solve
 cases hs:Gf.solveG R n 0 with
 | none=>
  rw[hs]at hl1
  obtain⟨w2,b1,b2⟩:=hl1
  have b1:K_w K K (n:Int) rs nilF 0 w1=_:=b1
  exact⟨nilF,false,w2,by rw[b1,bnd_ok],u1.trans' b2 fun k hk e=>by omega,rfl⟩
 | some R'=>
  rw[hs]at hl1
  obtain⟨x',ss',w2,b1,b2,b3,b4,b5⟩:=hl1
  have b1:K_w K K (n:Int) rs nilF 0 w1=_:=b1
  have u2:Upd none_ w w2:=u1.trans' b5 fun k hk e=>by omega
  rw[b1,bnd_ok,J_bs]
  dsimp only
  have hshape:R'.length=R.length∧n≤R'.length:=by
   have:∀ (d c:Nat) (A A':List (List F)),c+d=n→(d=0→c≤A.length)→Gf.solveG A d c=some A'→A'.length=A.length∧(0<d→n≤A'.length):=by
    intro d
    induction d with
    | zero=>intro c A A' _ _ h;obtain rfl:=Option.some.inj h;exact⟨rfl,fun h=>by omega⟩
    | succ d ih=>
     intro c A A' hcd _ h
     have h:(Gf.stepS A c).bind (fun r=>Gf.solveG r d (c+1))=some A':=h
     unfold Gf.stepS at h
     cases hp:Gf.pivotG A c (A.length - c) c with
     | none=>rw[hp]at h;cases h
     | some a=>
      rw[hp,Option.map_some,J_bs]at h
      obtain⟨x1,x2,_⟩:=Gf.pivot_some _ _ _ hp
      have hEl:(Gf.elimR (Gf.normR (Gf.swapR A c a) c) c).length=A.length:=by rw[Gf.elim_length,Gf.norm_length,Gf.swap_length]
      obtain⟨y1,y2⟩:=ih (c+1) _ A' (by omega) (fun _=>by rw[hEl];omega) h
      refine⟨by rw[y1,hEl],fun _=>?_⟩
      by_cases hd:d=0
      ·rw[y1,hEl];omega
      ·exact y2 (by omega)
   obtain⟨y1,y2⟩:=this n 0 R R' (by omega) (fun _=>by omega) hs
   refine⟨y1,?_⟩
   by_cases h0:n=0
   ·omega
   ·exact y2 (by omega)
  have h8:=K_1f7 (K:=K) (x7:=x') (by rw[hshape.1];exact hR) b2 (R'.length - n) n K (by omega) (by omega)
  rw[h8]
  by_cases hr:Gf.restG R' n (R'.length - n) n=true
  ·rw[if_pos hr,if_pos hr,bnd_ok]
   dsimp only
   obtain⟨w3,c1,c2,c3⟩:=K_1g8 (K:=K) (x7:=x') (by omega) hshape.2 (by rw[hshape.1];exact hR) b4 n 0 K w2 _ (by omega) (by omega) b2 (List.length_replicate ..) b3
   have c1:K_38 K K (n:Int) rs x' 0 w2=some ((),w3):=c1
   rw[List.take_zero,List.nil_append,List.drop_zero]at c2
   exact⟨x',true,w3,by rw[c1,bnd_ok],u2.trans' c3 fun k hk e=>by have:=b4 k e;omega,rfl,c2,fun k hk=>by have:=b4 k hk;omega,by simp⟩
  ·rw[if_neg hr,if_neg hr,bnd_ok]
   exact⟨nilF,false,w2,rfl,u2,rfl⟩
theorem K_1kt(S:Nat→F):∀ {j:Nat},j<4→(fb [S 0,S 1,S 2,S 3])[j]? =some (.int .u8 (bF (S j)))
 | 0,_=>rfl
 | 1,_=>rfl
 | 2,_=>rfl
 | 3,_=>rfl
 | j+4,h=>by omega
theorem K_1gi{K:Nat}(hK:18446744073709551616≤K){b ps:Sl}{g:Nat}{e:TypeId}{S:Nat→F}{B:Nat}(hgB:g<B)(hpB:∀ q,ps.a=some q→q.block<B):
  ∀ (d j f:Nat) (w:World) (rs:Sl) (ss:List Sl) (R:List (List F)),j+d=4→d<f→R.length=j→RowsAt w rs ss R 5 B w.heap.size→B≤w.heap.size→Bk e w g (fb [S 0,S 1,S 2,S 3])→BSrc w ps (powL 255)→
   ∃ rs' ss' w',K_4o K f b ⟨g,0,none⟩ ps rs (j:Int) w=some ((rs',()),w')∧RowsAt w' rs' ss' (R ++ (List.range' j d).map (Gf.eqnR S)) 5 B w'.heap.size∧Upd (fun k=>B≤k) w w':=by
 intro d
 induction d with
 | zero=>
  intro j f w rs ss R hj hf hRl h hB hb hp
  obtain⟨f,rfl⟩:∃ q,f=q+1:=⟨f - 1,by omega⟩
  refine⟨rs,ss,w,?_,by simpa using h,Upd.refl _ _⟩
  show K_91 K (K_4o K f) b ⟨g,0,none⟩ ps rs (j:Int) w=_
  unfold K_91
  rw[if_neg (by simp only[decide_eq_true_eq];omega)]
 | succ d ih=>
  intro j f w rs ss R hj hf hRl h hB hb hp
  obtain⟨f,rfl⟩:∃ q,f=q+1:=⟨f - 1,by omega⟩
  have hpl:ps.len=255:=by rw[hp.len,K_1,K_15]
  have ud:=(Upd.refl none_ w).drew
  have hpw:=hp.upd0 ud
  have e3:IntKind.i64.wrap ((j:Int)+1)=((j+1:Nat):Int):=by rw[w64 (by omega) (by omega)];rfl
  have e33:IntKind.i64.wrap (3*(j:Int))=((3*j:Nat):Int):=by rw[w64 (by omega) (by omega)];omega
  have e22:IntKind.i64.wrap (2*(j:Int))=((2*j:Nat):Int):=by rw[w64 (by omega) (by omega)];omega
  obtain⟨p,p1,p2⟩:=K_1a hpw (i:=3*j) (by rw[K_15];omega)
  obtain⟨p',p1',p3⟩:=K_1a hpw (i:=2*j) (by rw[K_15];omega)
  obtain⟨p'',p1'',p4⟩:=K_1a hpw (i:=j) (by rw[K_15];omega)
  obtain rfl:p'=p:=Option.some.inj (p1'.symm.trans p1)
  obtain rfl:p''=p':=Option.some.inj (p1''.symm.trans p1)
  rw[K_gl (by omega)]at p2 p3 p4
  have hc:ldI .u8 (⟨g,j,none⟩:Addr) w.drew=some (bF (S j)):=hb.drew.ldI (K_1kt S (by omega))
  obtain⟨w2,b1,b2,b3,b4⟩:=K_87 sliceB (fb (Gf.eqnR S j)) (fun v hv=>by obtain⟨x,_,rfl⟩:=List.mem_map.1 hv;rfl) (by rw[K_1];simp[Gf.eqnR]) (by rw[K_1];simp[Gf.eqnR]) w.drew
  have b1:bldS prog 23 5 #[(0,(.int .u8 (bF (tj (3*j))))),(1,(.int .u8 (bF (tj (2*j))))),(2,(.int .u8 (bF (tj j)))),(3,(.int .u8 1)),(4,(.int .u8 (bF (S j))))] w.drew=some (⟨some ⟨w.heap.size,0,none⟩,5,5⟩,w2):=b1
  have b2:OwnS 5 w2 ⟨some ⟨w.heap.size,0,none⟩,5,5⟩ (fb (Gf.eqnR S j)):=b2
  have u2:Upd none_ w w2:=b3.predrew
  have q2:=u2.size
  obtain⟨w3,rs',w4,c2,c3,c4,c5⟩:=(h.upd0 u2).push (by omega) b2 rfl (fun k hk=>by have e2:w.heap.size=k:=Option.some.inj hk;omega) q2 hB
  have q4:=c5.size
  have u4:Upd (fun k=>B≤k) w w4:=(u2.mono (T:=fun k=>B≤k) fun _ _ e=>e.elim).trans' c5 fun k _ e=>e.1
  obtain⟨rs'',ss'',w5,d1,d2,d3⟩:=ih (j+1) f w4 rs' _ _ (by omega) (by omega) (by rw[List.length_append,hRl];rfl) c4 (by omega) (hb.upd u4 (by omega)) (K_59 hp u4 fun q hq _=>by have:=hpB q hq;omega)
  refine⟨rs'',ss'',w5,?_,?_,u4.trans' d3 fun _ _ e=>e⟩
  ·have c1:(0:Int)≤((3*j:Nat):Int)∧((3*j:Nat):Int)<((ps.len:Nat):Int):=by omega
   have c1b:(0:Int)≤((2*j:Nat):Int)∧((2*j:Nat):Int)<((ps.len:Nat):Int):=by omega
   have c1c:(0:Int)≤(j:Int)∧(j:Int)<((ps.len:Nat):Int):=by omega
   have c1d:(0:Int)≤(j:Int)∧(j:Int)<((4:Nat):Int):=by omega
   show K_91 K (K_4o K f) b ⟨g,0,none⟩ ps rs (j:Int) w=_
   unfold K_91
   rw[if_pos (decide_eq_true (show (j:Int)<4 by omega)),p1,J_bs,e33,if_pos c1,J_bs,e22,if_pos c1b,J_bs,if_pos c1c,if_pos c1d,J_tn,Nat.mul_one,p2,J_bs,J_tn,Nat.mul_one,p3,J_bs,J_tn,Nat.mul_one,p4,J_bs,add_lit,Nat.zero_add,hc,J_bs,b1,bnd_ok]
   dsimp only
   rw[c2,bnd_ok]
   dsimp only
   rw[c3,bnd_ok,e3,d1]
  ·have er:(List.range' j (d+1)).map (Gf.eqnR S)=Gf.eqnR S j :: (List.range' (j+1) d).map (Gf.eqnR S):=by rw[List.range'_succ,List.map_cons]
   rw[er]
   rw[List.append_assoc]at d2
   exact d2
theorem K_186{K:Nat}(hK:18446744073709551616≤K){w:World}{b:Sl}{l:List F}(hs:BSrc w b l)(hl:l.length≤1073741824):
  ∃ s' w',K_ae K b w=some ((s',()),w')∧OwnS 5 w' s' (fb (codedP l))∧Upd none_ w w'∧Fresh w.heap.size s':=by
 have hbl:b.len=l.length:=by rw[hs.len,K_1]
 have hlt:=K_h5 hs
 obtain⟨w1,a1,a2,a3⟩:=K_n1 sliceB w
 obtain⟨s2,w2,b1,b2,b3,b4,b5⟩:=K_1e sliceB a2 (hs.upd0 a3) (by show (0+b.len)*1≤_;omega)
 have b2:s2.len=l.length:=by rw[b2,hbl];show 0+l.length=_;omega
 have b3:OwnS 5 w2 s2 (fb l):=b3
 have q1:=a3.size
 have u2:Upd none_ w w2:=a3.trans' b4 fun j hj e=>by have e2:w.heap.size=j:=Option.some.inj e;omega
 have hf2:∀ k,s2.blk=some k→w.heap.size≤k:=fun k hk=>by
  rcases b5 with e | e
  ·rw[e]at hk;have e2:w.heap.size=k:=Option.some.inj hk;omega
  ·rw[e]at hk;have e2:w1.heap.size=k:=Option.some.inj hk;omega
 obtain⟨w3,c1,c2,c3,c4⟩:=K_87 sliceB (fb [0,0,0,0]) (fun v hv=>by obtain⟨x,_,rfl⟩:=List.mem_map.1 hv;rfl) (by rw[K_1];decide) (by rw[K_1];decide) w2
 have c1:bldS prog 23 4 #[(0,(.int .u8 0)),(1,(.int .u8 0)),(2,(.int .u8 0)),(3,(.int .u8 0))] w2=some (⟨some ⟨w2.heap.size,0,none⟩,4,4⟩,w3):=c1
 have c2:OwnS 5 w3 ⟨some ⟨w2.heap.size,0,none⟩,4,4⟩ (fb [0,0,0,0]):=c2
 obtain⟨s4,w4,d1,d2,d3,d4,d5⟩:=K_1e sliceB (b3.upd0 c3) (c2.src K_f) (by rw[b2];show (l.length+4)*1≤_;omega)
 rw[←K_4s]at d3
 have q2:=u2.size
 have q3:=c3.size
 have u4:Upd none_ w w4:=(u2.and0 c3).trans' d4 fun j hj e=>by have:=hf2 j e;omega
 have q4:=u4.size
 obtain⟨w5,e1,u5⟩:=K_1ba hK (d3.src K_f) (by rw[List.length_append];show l.length+4≤_;omega)
 obtain⟨w6,f1,f2,f3,f4⟩:=K_9 z153 153 w5
 have f2:Bk 153 w6 w5.heap.size (fb [0,0,0,0]):=f2
 obtain⟨w7,g1,g2,g3⟩:=f2.stA (o:=0) (vs:=(fb (sumsL (l ++ [0,0,0,0]))).toArray) (by simp[fb,ints,sumsL]) (fun v hv=>K_k _ v hv)
 have g2:Bk 153 w7 w5.heap.size (fb [sj (l ++ [0,0,0,0]) 0,sj (l ++ [0,0,0,0]) 1,sj (l ++ [0,0,0,0]) 2,sj (l ++ [0,0,0,0]) 3]):=g2
 have q5:=u5.size
 have u7:Upd none_ w w7:=((u4.and0 u5).and0 f3).trans' g3 fun j hj e=>by omega
 obtain⟨sp,w8,h1,h2,h3,h4⟩:=K_tt hK w7 (n:=255) (by omega)
 have u8:=u7.and0 h3
 have q7:=u7.size
 have q8:=h3.size
 have hg8:=(g2.upd0 h3)
 obtain⟨rs,ss,w9,i1,i2,i3⟩:=K_1gi hK (b:=b) (S:=fun j=>sj (l ++ [0,0,0,0]) j) (B:=w8.heap.size) hg8.lt (K_rn h2) 4 0 K w8 nilF [] [] (by omega) (by omega) rfl (RowsAt.nil w8 5 w8.heap.size) (Nat.le_refl _) hg8 (h2.src (K_k _))
 have i1:K_4o K K b ⟨w5.heap.size,0,none⟩ sp nilF 0 w8=some ((rs,()),w9):=i1
 have i2:RowsAt w9 rs ss (Gf.eqnsR fun j=>hor (tj j) (l ++ [0,0,0,0])) 5 w8.heap.size w9.heap.size:=i2
 have u9:Upd none_ w w9:=u8.trans' i3 fun j hj e=>by omega
 have hEq:(Gf.eqnsR fun j=>hor (tj j) (l ++ [0,0,0,0])).length=4:=rfl
 obtain⟨sx,v,w10,j1,j2,j3⟩:=K_181 hK (n:=4) i2.into (by rw[hEq];omega) (by rw[hEq];omega) (by omega) (fun k hk=>(i2.low.1 k hk).2) (fun i hi k hk=>(i2.low.2 i hi k hk).2)
 rw[Gf.solve_coded]at j3
 obtain⟨_,k1,k2,k3⟩:=j3
 have u10:=u9.and0 j2
 have q10:=u10.size
 obtain⟨w11,l1,l2,l3⟩:=K_n1 sliceB w10
 obtain⟨s12,w12,m1,m2,m3,m4,m5⟩:=K_1e sliceB l2 (hs.upd0 (u10.and0 l3)) (by show (0+b.len)*1≤_;omega)
 have m3:OwnS 5 w12 s12 (fb l):=m3
 have q11:=l3.size
 have u12:Upd none_ w10 w12:=l3.trans' m4 fun j hj e=>by have e2:w10.heap.size=j:=Option.some.inj e;omega
 have hf12:∀ k,s12.blk=some k→w10.heap.size≤k:=fun k hk=>by
  rcases m5 with e | e
  ·rw[e]at hk;have e2:w10.heap.size=k:=Option.some.inj hk;omega
  ·rw[e]at hk;have e2:w11.heap.size=k:=Option.some.inj hk;omega
 have h12l:=m3.len
 rw[K_1]at h12l
 have hsxl:=k1.len
 rw[K_1,k3]at hsxl
 obtain⟨s13,w13,n1,n2,n3,n4,n5⟩:=K_1e sliceB m3 ((k1.upd0 u12).src (K_k _)) (by rw[h12l,hsxl];omega)
 rw[←K_4s]at n3
 have q12:=u12.size
 refine⟨s13,w13,?_,n3,(u10.and0 u12).trans' n4 fun j hj e=>by have:=hf12 j e;omega,fun j hj=>?_⟩
 ·unfold K_ae
  have h1:K_2y K 255 w7=some ((sp,()),w8):=h1
  rw[a1,bnd_ok]
  dsimp only
  rw[b1,bnd_ok,c1,bnd_ok]
  dsimp only
  rw[d1,bnd_ok,e1,bnd_ok,f1,bnd_ok,if_pos (by simp[fb,ints,sumsL]),g1,J_bs,h1,bnd_ok]
  dsimp only
  rw[i1,bnd_ok,j1,bnd_ok,l1,bnd_ok]
  dsimp only
  rw[m1,bnd_ok,n1,bnd_ok]
 ·rcases n5 with e | e
  ·rw[e]at hj;have:=hf12 j hj;omega
  ·rw[e]at hj;have e2:w12.heap.size=j:=Option.some.inj hj;omega
end Go.Sh

namespace Go.Sh
open Go.Fw Go.Gf Go.RowKit Go.Proofs.Tryd
theorem tj_nz(j:Nat):tj j≠0:=K_15v j
theorem K_1cx{w:World}{b:Sl}{l:List F}(hs:BSrc w b l)(hl:l.length≤1073741824):
  ∃ w1 s' w',bldS prog 23 0 #[] w=some (⟨some ⟨w.heap.size,0,none⟩,0,0⟩,w1)∧apd prog 23 23 (.slice (some ⟨w.heap.size,0,none⟩) 0 0) (.slice b.a b.len b.cap) w1=some (s',w')∧OwnS 5 w' s' (fb l)∧Upd none_ w w'∧Fresh w.heap.size s':=by
 have hbl:b.len=l.length:=by rw[hs.len,K_1]
 obtain⟨w1,a1,a2,a3⟩:=K_n1 sliceB w
 obtain⟨s2,w2,b1,b2,b3,b4,b5⟩:=K_1e sliceB a2 (hs.upd0 a3) (by show (0+b.len)*1≤_;omega)
 have q1:=a3.size
 refine⟨w1,s2,w2,a1,b1,b3,a3.trans' b4 fun j hj e=>by have e2:w.heap.size=j:=Option.some.inj e;omega,fun k hk=>?_⟩
 rcases b5 with e | e
 ·rw[e]at hk;have e2:w.heap.size=k:=Option.some.inj hk;omega
 ·rw[e]at hk;have e2:w1.heap.size=k:=Option.some.inj hk;omega
theorem K_1l3{K:Nat}(hK:300≤K){w:World}{g:Nat}{e:TypeId}{c0 c1 c2 c3:F}(b:Bk e w g (fb [c0,c1,c2,c3]))(x:F):
  ∃ w',K_cl K ⟨g,0,none⟩ (bF x) (bF (x*x)) w=some ((decide (c1=c0*x∧c2=c0*(x*x)∧c3=c0*(x*(x*x))),()),w')∧Upd none_ w w':=by
 obtain⟨d0,d1,d2,d3⟩:=cells4 hK b.drew
 refine⟨w.drew,?_,(Upd.refl _ _).drew⟩
 have bq:∀ a c:F,(bF a == bF c)=decide (a=c):=fun a c=>by rw[Bool.eq_iff_iff,beq_iff_eq,bF_eq,decide_eq_true_eq]
 unfold K_cl
 simp only[Nat.mul_one,add_lit,Nat.zero_add,d0,d1,d2,d3,J_bs,rtimes hK,bq,decide_eq_true_eq]
 by_cases h1:c1=c0*x
 ·rw[if_pos h1]
  by_cases h2:c2=c0*(x*x)
  ·rw[if_pos h2];simp[h1,h2]
  ·rw[if_neg h2];simp[h1,h2]
 ·rw[if_neg h1];simp[h1]
theorem K_1k5{K:Nat}(hK:18446744073709551616≤K){b ps:Sl}{l:List F}{g:Nat}{e:TypeId}(hl:l.length≤255):
  ∀ (d i f:Nat) (w:World),i+d=l.length→d<f→BSrc w b l→Bk e w g (fb [sj l 0,sj l 1,sj l 2,sj l 3])→BSrc w ps (powL 255)→
   match (List.range' i d).findSome? (Gf.try1 l) with
   | none=>∃ w',K_1d K f b ⟨g,0,none⟩ ((l.length:Nat):Int) ps (i:Int) w=some (.norm (),w')∧Upd none_ w w'
   | some c=>∃ s w',K_1d K f b ⟨g,0,none⟩ ((l.length:Nat):Int) ps (i:Int) w=some (.ret (s,1,(bF (sj l 0) != 0),()),w')∧Upd none_ w w'∧OwnS 5 w' s (fb c)∧Fresh w.heap.size s:=by
 intro d
 induction d with
 | zero=>
  intro i f w hi hf hs hb hp
  obtain⟨f,rfl⟩:∃ q,f=q+1:=⟨f - 1,by omega⟩
  refine⟨w,?_,Upd.refl _ _⟩
  show K_9x K (K_1d K f) b ⟨g,0,none⟩ ((l.length:Nat):Int) ps (i:Int) w=_
  unfold K_9x
  rw[if_neg (by simp only[decide_eq_true_eq];omega)]
 | succ d ih=>
  intro i f w hi hf hs hb hp
  obtain⟨f,rfl⟩:∃ q,f=q+1:=⟨f - 1,by omega⟩
  have hil:i<l.length:=by omega
  have hpl:ps.len=255:=by rw[hp.len,K_1,K_15]
  have e3:IntKind.i64.wrap ((i:Int)+1)=((i+1:Nat):Int):=by rw[w64 (by omega) (by omega)];rfl
  have e1:IntKind.i64.wrap (((l.length:Nat):Int) - 1)=((l.length - 1:Nat):Int):=by rw[w64 (by omega) (by omega)];omega
  have e2:IntKind.i64.wrap (((l.length - 1:Nat):Int) - (i:Int))=((l.length - 1 - i:Nat):Int):=by rw[w64 (by omega) (by omega)];omega
  obtain⟨w1,s1,w2,a1,a2,a3,a4,a5⟩:=K_1cx hs (by omega)
  have hsl:s1.len=l.length:=by rw[a3.len,K_1]
  have b2:=(hb.upd0 a4).drew
  obtain⟨d0,d1,d2,d3⟩:=cells4 (show 300≤K by omega) b2
  have a3d:=a3.upd0 (Upd.refl none_ w2).drew
  obtain⟨p,p1,p2⟩:=K_ah a3d hil
  obtain⟨p',w3,t1,t2,t3,t4⟩:=K_eu a3d (i:=i) hil (l.getD i 0+sj l 0)
  obtain rfl:p'=p:=Option.some.inj (t1.symm.trans p1)
  rw[←K_nc]at t3
  have u3:Upd none_ w w3:=(a4.drew).trans' t4 fun k hk e=>by have:=a5 k e;omega
  obtain⟨q,q1,q2⟩:=K_1a (hp.upd0 u3) (i:=l.length - 1 - i) (by rw[K_15];omega)
  rw[K_gl (by omega)]at q2
  obtain⟨w4,h1,u4⟩:=K_1l3 (K:=K) (by omega) (hb.upd0 u3) (tj (l.length - 1 - i))
  have u04:=u3.and0 u4
  have c1:(0:Int)≤(i:Int)∧(i:Int)<((s1.len:Nat):Int):=by omega
  have c2:(0:Int)≤((l.length - 1 - i:Nat):Int)∧((l.length - 1 - i:Nat):Int)<((ps.len:Nat):Int):=by omega
  have hun:K_1d K (f+1) b ⟨g,0,none⟩ ((l.length:Nat):Int) ps (i:Int) w=K_9x K (K_1d K f) b ⟨g,0,none⟩ ((l.length:Nat):Int) ps (i:Int) w:=rfl
  have run:K_1d K (f+1) b ⟨g,0,none⟩ ((l.length:Nat):Int) ps (i:Int) w=if decide (sj l 1=sj l 0*tj (l.length - 1 - i)∧sj l 2=sj l 0*(tj (l.length - 1 - i)*tj (l.length - 1 - i))∧sj l 3=sj l 0*(tj (l.length - 1 - i)*(tj (l.length - 1 - i)*tj (l.length - 1 - i))))=true then some (.ret (s1,1,(bF (sj l 0) != 0),()),w4.drew) else K_1d K f b ⟨g,0,none⟩ ((l.length:Nat):Int) ps ((i+1:Nat):Int) w4:=by
   rw[hun]
   unfold K_9x
   obtain⟨x0,_,_,_⟩:=cells4 (show 300≤K by omega) (hb.upd0 u04).drew
   rw[if_pos (decide_eq_true (show (i:Int)<((l.length:Nat):Int) by omega)),a1,bnd_ok]
   dsimp only
   rw[a2,bnd_ok,p1,J_bs,if_pos c1,J_tn,Nat.mul_one,p2,J_bs,Nat.zero_mul,add_lit,Nat.zero_add,d0,J_bs,J_bs,if_pos c1,addF,t2,J_bs,q1,J_bs,e1,e2,if_pos c2,J_tn,Nat.mul_one,q2,J_bs,rtimes (by omega),J_bs]
   dsimp only
   rw[h1,bnd_ok,x0,e3]
   rfl
  rw[run]
  have ht1:Gf.try1 l i=if sj l 1=sj l 0*tj (l.length - 1 - i)∧sj l 2=sj l 0*(tj (l.length - 1 - i)*tj (l.length - 1 - i))∧sj l 3=sj l 0*(tj (l.length - 1 - i)*(tj (l.length - 1 - i)*tj (l.length - 1 - i))) then some (putX l i (sj l 0)) else none:=rfl
  rw[List.range'_succ,List.findSome?_cons,ht1]
  by_cases hc:sj l 1=sj l 0*tj (l.length - 1 - i)∧sj l 2=sj l 0*(tj (l.length - 1 - i)*tj (l.length - 1 - i))∧sj l 3=sj l 0*(tj (l.length - 1 - i)*(tj (l.length - 1 - i)*tj (l.length - 1 - i)))
  ·rw[if_pos hc,if_pos (decide_eq_true hc)]
   exact⟨s1,w4.drew,rfl,u04.drew,(t3.upd0 u4).upd0 (Upd.refl none_ w4).drew,a5⟩
  ·rw[if_neg hc,if_neg (fun h=>hc (of_decide_eq_true h))]
   have hrec:=ih (i+1) f w4 (by omega) (by omega) (hs.upd0 u04) (hb.upd0 u04) (hp.upd0 u04)
   have q:=u04.size
   dsimp only
   cases hs2:(List.range' (i+1) d).findSome? (Gf.try1 l) with
   | none=>
    rw[hs2]at hrec
    obtain⟨w',x1,x2⟩:=hrec
    exact⟨w',x1,u04.and0 x2⟩
   | some c=>
    rw[hs2]at hrec
    obtain⟨s,w',x1,x2,x3,x4⟩:=hrec
    exact⟨s,w',x1,u04.and0 x2,x3,fun k hk=>by have:=x4 k hk;omega⟩
def powIter:Nat→F→List F
 | 0,_=>[]
 | n+1,v=>v :: powIter n (v*F.three)
theorem K_157:∀ (n:Nat) (v:F) (x:F),x∈powIter n v→∃ j,j<n∧x=v*tj j
 | 0,_,_,h=>by simp[powIter]at h
 | n+1,v,x,h=>by
  rcases List.mem_cons.1 h with h | h
  ·exact⟨0,by omega,by rw[h];show v=v*F.pow F.three 0;rw[F.pow_zero,F.mul_one]⟩
  ·obtain⟨j,h1,h2⟩:=K_157 n _ x h
   refine⟨j+1,by omega,?_⟩
   rw[h2,F.mul_assoc]
   show v*(F.three*F.pow F.three j)=v*F.pow F.three (j+1)
   rw[F.pow_succ,F.mul_comm F.three]
def maskL:List F→Nat→Nat
 | [],m=>m
 | x :: l,m=>maskL l (m ||| 2 ^ x.n)
theorem K_17r:∀ (l:List F) (m n:Nat),(maskL l m).testBit n=true→m.testBit n=true∨∃ x∈l,x.n=n
 | [],m,n,h=>.inl h
 | x :: l,m,n,h=>by
  rcases K_17r l _ n h with h | ⟨y,h1,h2⟩
  ·rw[Nat.testBit_or,Nat.testBit_two_pow]at h
   simp only[Bool.or_eq_true,decide_eq_true_eq]at h
   rcases h with h | h
   ·exact .inl h
   ·exact .inr ⟨x,by simp,h⟩
  ·exact .inr ⟨y,by simp[h1],h2⟩
theorem K_1je:maskL (powIter 255 1) 0=2 ^ 256 - 2:=by decide+kernel
theorem K_1jk{x:F}(h:x≠0):∃ j,j<255∧tj j=x:=by
 have hb:(2 ^ 256 - 2:Nat).testBit x.n=true:=by
  have key:∀ n,n<256→n≠0→(2 ^ 256 - 2:Nat).testBit n=true:=by decide+kernel
  exact key x.n x.lt fun e=>h (F.ext' e)
 rw[←K_1je]at hb
 rcases K_17r _ _ _ hb with h1 | ⟨y,h1,h2⟩
 ·simp at h1
 ·obtain⟨j,j1,j2⟩:=K_157 255 1 y h1
  rw[F.one_mul]at j2
  exact⟨j,j1,by rw[←j2];exact F.ext' h2⟩
def InvT(T:List F)(i:Nat):Prop:=T.length=256∧T.getD 0 0=0∧∀ j,j<i→T.getD (tj j).n 0=(tj j).inv
theorem K_1hu{T:List F}(h:InvT T 255)(x:F):T.getD x.n 0=x.inv:=by
 by_cases hx:x=0
 ·rw[hx,F.inv_zero];exact h.2.1
 ·obtain⟨j,j1,j2⟩:=K_1jk hx
  rw[←j2];exact h.2.2 j j1
theorem K_1k3{K:Nat}(hK:300≤K){b ps:Sl}{s5:Addr}{n7:Int}{g:Nat}{e:TypeId}(hgp:∀ q,ps.a=some q→q.block≠g):
  ∀ (d i f:Nat) (w:World) (T:List F),i+d=255→d<f→Bk e w g (fb T)→InvT T i→BSrc w ps (powL 255)→
   ∃ w' T',K_5k K f b s5 n7 ps ⟨g,0,none⟩ (i:Int) w=some ((),w')∧Bk e w' g (fb T')∧InvT T' 255∧Upd (· =g) w w':=by
 intro d
 induction d with
 | zero=>
  intro i f w T hi hf hb hT hp
  obtain⟨f,rfl⟩:∃ q,f=q+1:=⟨f - 1,by omega⟩
  refine⟨w,T,?_,hb,by rw[←show i=255 by omega];exact hT,Upd.refl _ _⟩
  show K_9t K (K_5k K f) b s5 n7 ps ⟨g,0,none⟩ (i:Int) w=_
  unfold K_9t
  rw[if_neg (by simp only[decide_eq_true_eq];omega)]
 | succ d ih=>
  intro i f w T hi hf hb hT hp
  obtain⟨f,rfl⟩:∃ q,f=q+1:=⟨f - 1,by omega⟩
  have hi255:i<255:=by omega
  have hpl:ps.len=255:=by rw[hp.len,K_1,K_15]
  have e3:IntKind.i64.wrap ((i:Int)+1)=((i+1:Nat):Int):=by rw[w64 (by omega) (by omega)];rfl
  have e1:IntKind.i64.wrap (255 - (i:Int))=((255 - i:Nat):Int):=by rw[w64 (by omega) (by omega)];omega
  have e5:Int.tmod ((255 - i:Nat):Int) 255=(((255 - i) % 255:Nat):Int):=rfl
  have hlt:(255 - i) % 255<255:=Nat.mod_lt _ (by decide)
  have ud:=(Upd.refl none_ w).drew
  obtain⟨p,p1,p2⟩:=K_1a (hp.upd0 ud) (i:=i) (by rw[K_15];omega)
  obtain⟨p',p1',p3⟩:=K_1a (hp.upd0 ud) (i:=(255 - i) % 255) (by rw[K_15];exact hlt)
  obtain rfl:p'=p:=Option.some.inj (p1'.symm.trans p1)
  rw[K_gl hi255]at p2
  rw[K_gl hlt]at p3
  have hinv:tj ((255 - i) % 255)=(tj i).inv:=by
   have h0:tj ((255 - i) % 255)=tj (255 - i):=K_12d _
   rw[h0]
   refine F.eq_inv ?_
   show F.pow F.three i*F.pow F.three (255 - i)=1
   rw[←F.pow_add,show i+(255 - i)=255 by omega,K_1ah]
  rw[hinv]at p3
  have hvl:=(tj i).lt
  obtain⟨w1,s1,s2,s3⟩:=hb.drew.stC (i:=(tj i).n) (by rw[K_1,hT.1];exact hvl) (.int .u8 (bF (tj i).inv))
  rw[K_147]at s2
  have hT':InvT (T.set (tj i).n (tj i).inv) (i+1):=by
   refine⟨by rw[List.length_set];exact hT.1,?_,fun j hj=>?_⟩
   ·rw[K_7z _ _ (by rw[hT.1];exact hvl),if_neg (show ¬0=(tj i).n from fun h=>tj_nz i (F.ext' h.symm))]
    exact hT.2.1
   ·rw[K_7z _ _ (by rw[hT.1];exact hvl)]
    by_cases hji:j=i
    ·rw[if_pos (by rw[hji]),hji]
    ·rw[if_neg (show ¬(tj j).n=(tj i).n from fun h=>hji (K_jg (by omega) (by omega) (F.ext' h)))]
     exact hT.2.2 j (by omega)
  obtain⟨w2,T2,k1,k2,k3,k4⟩:=ih (i+1) f w1 _ (by omega) (by omega) s2 hT' (K_59 hp s3.predrew fun q hq _=>hgp q hq)
  have c1:(0:Int)≤(i:Int)∧(i:Int)<((ps.len:Nat):Int):=by omega
  have c2:(0:Int)≤(((255 - i) % 255:Nat):Int)∧(((255 - i) % 255:Nat):Int)<((ps.len:Nat):Int):=by rw[hpl];exact⟨Int.natCast_nonneg _,Int.ofNat_lt.2 hlt⟩
  have c3:(0:Int)≤bF (tj i)∧bF (tj i)<((256:Nat):Int):=⟨Int.natCast_nonneg _,Int.ofNat_lt.2 hvl⟩
  have c4:Int.toNat (bF (tj i))=(tj i).n:=J_tn _
  refine⟨w2,T2,?_,k2,k3,s3.predrew.trans' k4 fun _ _ e=>e⟩
  show K_9t K (K_5k K f) b s5 n7 ps ⟨g,0,none⟩ (i:Int) w=_
  unfold K_9t
  rw[if_pos (decide_eq_true (show (i:Int)<255 by omega)),p1,J_bs,if_pos c1,J_bs,e1,e5,if_pos c2,J_tn,Nat.mul_one,p2,J_bs,J_tn,Nat.mul_one,p3,J_bs,if_pos c3,c4,Nat.mul_one,add_lit,Nat.zero_add,s1,J_bs,e3,k1]
end Go.Sh

namespace Go.Sh
open Go.Fw Go.Gf Go.RowKit Go.Proofs.Tryd
theorem K_1kh{K:Nat}(hK:300≤K){w:World}{g:Nat}{e:TypeId}{c0 c1 c2 c3:F}(b:Bk e w g (fb [c0,c1,c2,c3]))(x y ww v:F):
  K_cj K ⟨g,0,none⟩ (bF x) (bF y) (bF ww) (bF v) w=some ((decide (c2≠v*(x*x)+ww*(y*y)∨c3≠v*(x*(x*x))+ww*(y*(y*y))∨v=0∨ww=0),()),w.drew):=by
 obtain⟨d0,d1,d2,d3⟩:=cells4 hK b.drew
 have bq:∀ a c:F,(bF a != bF c)=decide (a≠c):=fun a c=>by rw[Bool.eq_iff_iff,bne_iff_ne,ne_eq,bF_eq,decide_eq_true_eq]
 have bz:∀ a:F,(bF a == 0)=decide (a=0):=fun a=>by rw[Bool.eq_iff_iff,K_kh,decide_eq_true_eq]
 unfold K_cj
 simp only[Nat.mul_one,add_lit,Nat.zero_add,d2,d3,J_bs,rtimes hK,addF,bq,bz,decide_eq_true_eq]
 by_cases h1:c2≠v*(x*x)+ww*(y*y)
 ·rw[if_pos h1,decide_eq_true (Or.inl h1)]
 ·rw[if_neg h1]
  by_cases h2:c3≠v*(x*(x*x))+ww*(y*(y*y))
  ·rw[if_pos h2,decide_eq_true (Or.inr (Or.inl h2))]
  ·rw[if_neg h2]
   by_cases h3:v=0
   ·rw[if_pos h3,decide_eq_true (Or.inr (Or.inr (Or.inl h3)))]
   ·rw[if_neg h3]
    have:decide (ww=0)=decide (c2≠v*(x*x)+ww*(y*y)∨c3≠v*(x*(x*x))+ww*(y*(y*y))∨v=0∨ww=0):=by
     rw[decide_eq_decide]
     constructor
     ·intro h;exact .inr (.inr (.inr h))
     ·rintro(h | h | h | h)
      ·exact absurd h h1
      ·exact absurd h h2
      ·exact absurd h h3
      ·exact h
    rw[this]
theorem K_1jp{K:Nat}(hK:18446744073709551616≤K){b ps:Sl}{l:List F}{g gi:Nat}{e e':TypeId}{T:List F}(hT:InvT T 255)(hl:l.length≤255){i:Nat}(hi:i<l.length):
  ∀ (d k f:Nat) (w:World),k+d=l.length→d<f→i<k→BSrc w b l→Bk e w g (fb [sj l 0,sj l 1,sj l 2,sj l 3])→Bk e' w gi (fb T)→BSrc w ps (powL 255)→
   match (List.range' k d).findSome? (Gf.try2 l i) with
   | none=>∃ w',K_44 K f b ⟨g,0,none⟩ ((l.length:Nat):Int) ps ⟨gi,0,none⟩ (i:Int) (bF (tj (l.length - 1 - i))) (k:Int) w=some (.norm (),w')∧Upd none_ w w'
   | some c=>∃ s w',K_44 K f b ⟨g,0,none⟩ ((l.length:Nat):Int) ps ⟨gi,0,none⟩ (i:Int) (bF (tj (l.length - 1 - i))) (k:Int) w=some (.ret (s,2,true,()),w')∧Upd none_ w w'∧OwnS 5 w' s (fb c)∧Fresh w.heap.size s:=by
 intro d
 induction d with
 | zero=>
  intro k f w hk hf hik hs hb hg hp
  obtain⟨f,rfl⟩:∃ q,f=q+1:=⟨f - 1,by omega⟩
  refine⟨w,?_,Upd.refl _ _⟩
  show K_9q K (K_44 K f) b ⟨g,0,none⟩ ((l.length:Nat):Int) ps ⟨gi,0,none⟩ (i:Int) (bF (tj (l.length - 1 - i))) (k:Int) w=_
  unfold K_9q
  rw[if_neg (by simp only[decide_eq_true_eq];omega)]
 | succ d ih=>
  intro k f w hk hf hik hs hb hg hp
  obtain⟨f,rfl⟩:∃ q,f=q+1:=⟨f - 1,by omega⟩
  have hkl:k<l.length:=by omega
  have hpl:ps.len=255:=by rw[hp.len,K_1,K_15]
  have e3:IntKind.i64.wrap ((k:Int)+1)=((k+1:Nat):Int):=by rw[w64 (by omega) (by omega)];rfl
  have e1:IntKind.i64.wrap (((l.length:Nat):Int) - 1)=((l.length - 1:Nat):Int):=by rw[w64 (by omega) (by omega)];omega
  have e2:IntKind.i64.wrap (((l.length - 1:Nat):Int) - (k:Int))=((l.length - 1 - k:Nat):Int):=by rw[w64 (by omega) (by omega)];omega
  obtain⟨X,hX⟩:∃ X,X=tj (l.length - 1 - i):=⟨_,rfl⟩
  obtain⟨Y,hY⟩:∃ Y,Y=tj (l.length - 1 - k):=⟨_,rfl⟩
  obtain⟨q,q1,q2⟩:=K_1a hp (i:=l.length - 1 - k) (by rw[K_15];omega)
  rw[K_gl (by omega),←hY]at q2
  have hxy:=(X+Y).lt
  have c3:(0:Int)≤bF (X+Y)∧bF (X+Y)<((256:Nat):Int):=⟨Int.natCast_nonneg _,Int.ofNat_lt.2 hxy⟩
  have c4:Int.toNat (bF (X+Y))=(X+Y).n:=J_tn _
  obtain⟨d0,d1,d2,d3⟩:=cells4 (show 300≤K by omega) hb.drew
  have hti:ldI .u8 (⟨gi,(X+Y).n,none⟩:Addr) w.drew=some (bF (X+Y).inv):=by
   have:=K_gf hg.drew (j:=(X+Y).n) (by rw[hT.1];exact hxy)
   rw[this]
   have h2:=K_1hu hT (X+Y)
   rw[J_gd,J_ge (by rw[hT.1];exact hxy)]at h2
   have h2:T[(X+Y).n]'(by rw[hT.1];exact hxy)=(X+Y).inv:=h2
   rw[h2]
  obtain⟨W,hW⟩:∃ W,W=Gf.wOf (sj l 0) (sj l 1) X Y:=⟨_,rfl⟩
  have hW':(sj l 1+sj l 0*X)*(X+Y).inv=W:=hW.symm
  have h5:=K_1kh (K:=K) (by omega) hb.drew X Y W (sj l 0+W)
  have c2:(0:Int)≤((l.length - 1 - k:Nat):Int)∧((l.length - 1 - k:Nat):Int)<((ps.len:Nat):Int):=by omega
  have hun:K_44 K (f+1) b ⟨g,0,none⟩ ((l.length:Nat):Int) ps ⟨gi,0,none⟩ (i:Int) (bF (tj (l.length - 1 - i))) (k:Int) w=K_9q K (K_44 K f) b ⟨g,0,none⟩ ((l.length:Nat):Int) ps ⟨gi,0,none⟩ (i:Int) (bF X) (k:Int) w:=by rw[hX];rfl
  have ht2:Gf.try2 l i k=if sj l 2≠(sj l 0+W)*(X*X)+W*(Y*Y)∨sj l 3≠(sj l 0+W)*(X*(X*X))+W*(Y*(Y*Y))∨sj l 0+W=0∨W=0 then none else some (putX (putX l i (sj l 0+W)) k W):=by
   rw[hW,hX,hY];rfl
  rw[hun,List.range'_succ,List.findSome?_cons,ht2]
  unfold K_9q
  rw[if_pos (decide_eq_true (show (k:Int)<((l.length:Nat):Int) by omega)),q1,J_bs,e1,e2,if_pos c2,J_tn,Nat.mul_one,q2,J_bs,addF,if_pos c3,Nat.mul_one,Nat.zero_mul,add_lit,add_lit,Nat.zero_add,Nat.zero_add,d1,J_bs,d0,J_bs,rtimes (by omega),J_bs,c4,Nat.mul_one,add_lit,Nat.zero_add,hti,J_bs]
  dsimp only
  rw[addF,rtimes (by omega),hW',J_bs,J_bs]
  dsimp only
  rw[addF,h5,bnd_ok,e3]
  have u0:Upd none_ w w.drew.drew:=((Upd.refl none_ w).drew).drew
  by_cases hc:sj l 2≠(sj l 0+W)*(X*X)+W*(Y*Y)∨sj l 3≠(sj l 0+W)*(X*(X*X))+W*(Y*(Y*Y))∨sj l 0+W=0∨W=0
  ·rw[if_pos hc,if_pos (decide_eq_true hc),hX]
   have hrec:=ih (k+1) f w.drew.drew (by omega) (by omega) (by omega) (hs.upd0 u0) (hb.upd0 u0) (hg.upd0 u0) (hp.upd0 u0)
   dsimp only
   cases hs2:(List.range' (k+1) d).findSome? (Gf.try2 l i) with
   | none=>
    rw[hs2]at hrec
    obtain⟨w',x1,x2⟩:=hrec
    exact⟨w',x1,u0.and0 x2⟩
   | some c=>
    rw[hs2]at hrec
    obtain⟨s,w',x1,x2,x3,x4⟩:=hrec
    exact⟨s,w',x1,u0.and0 x2,x3,x4⟩
  ·rw[if_neg hc,if_neg (fun h=>hc (of_decide_eq_true h))]
   dsimp only
   obtain⟨w1,s1,w2,a1,a2,a3,a4,a5⟩:=K_1cx (hs.upd0 u0) (by omega)
   have hsl:s1.len=l.length:=by rw[a3.len,K_1]
   obtain⟨p,p1,p2⟩:=K_ah a3 hi
   obtain⟨p',w3,t1,t2,t3,t4⟩:=K_eu a3 (i:=i) hi (l.getD i 0+(sj l 0+W))
   obtain rfl:p'=p:=Option.some.inj (t1.symm.trans p1)
   rw[←K_nc]at t3
   obtain⟨r,r1,r2⟩:=K_ah t3 (i:=k) (by rw[K_1n];exact hkl)
   obtain rfl:r=p':=Option.some.inj (r1.symm.trans p1)
   obtain⟨r',w4,v1,v2,v3,v4⟩:=K_eu t3 (i:=k) (by rw[K_1n];exact hkl) ((putX l i (sj l 0+W)).getD k 0+W)
   obtain rfl:r'=r:=Option.some.inj (v1.symm.trans r1)
   rw[←K_nc]at v3
   have ci:(0:Int)≤(i:Int)∧(i:Int)<((s1.len:Nat):Int):=by omega
   have ck:(0:Int)≤(k:Int)∧(k:Int)<((s1.len:Nat):Int):=by omega
   have u4:Upd none_ w w4:=((u0.and0 a4).trans' t4 fun j hj e=>by have:=a5 j e;have:w.heap.size≤j:=this;omega).trans' v4 fun j hj e=>by have:=a5 j e;have:w.heap.size≤j:=this;omega
   have a1:bldS prog 23 0 #[] w.drew.drew=some (⟨some ⟨w.drew.drew.heap.size,0,none⟩,0,0⟩,w1):=a1
   refine⟨s1,w4,?_,u4,v3,a5⟩
   rw[a1,bnd_ok]
   dsimp only
   rw[a2,bnd_ok,p1,J_bs,if_pos ci,J_tn,Nat.mul_one,p2,J_bs,J_bs,if_pos ci,addF,t2,J_bs,J_bs,if_pos ck,J_tn,Nat.mul_one,r2,J_bs,J_bs,if_pos ck,addF,v2,J_bs]
theorem K_1ka{K:Nat}(hK:18446744073709551616≤K){b ps:Sl}{l:List F}{g gi:Nat}{e e':TypeId}{T:List F}(hT:InvT T 255)(hl:l.length≤255):
  ∀ (d i f:Nat) (w:World),i+d=l.length→d<f→BSrc w b l→Bk e w g (fb [sj l 0,sj l 1,sj l 2,sj l 3])→Bk e' w gi (fb T)→BSrc w ps (powL 255)→
   match Gf.first2 l i d with
   | none=>∃ w',K_2a K f b ⟨g,0,none⟩ ((l.length:Nat):Int) ps ⟨gi,0,none⟩ (i:Int) w=some (.norm (),w')∧Upd none_ w w'
   | some c=>∃ s w',K_2a K f b ⟨g,0,none⟩ ((l.length:Nat):Int) ps ⟨gi,0,none⟩ (i:Int) w=some (.ret (s,2,true,()),w')∧Upd none_ w w'∧OwnS 5 w' s (fb c)∧Fresh w.heap.size s:=by
 intro d
 induction d with
 | zero=>
  intro i f w hi hf hs hb hg hp
  obtain⟨f,rfl⟩:∃ q,f=q+1:=⟨f - 1,by omega⟩
  refine⟨w,?_,Upd.refl _ _⟩
  show K_9k K (K_2a K f) b ⟨g,0,none⟩ ((l.length:Nat):Int) ps ⟨gi,0,none⟩ (i:Int) w=_
  unfold K_9k
  rw[if_neg (by simp only[decide_eq_true_eq];omega)]
 | succ d ih=>
  intro i f w hi hf hs hb hg hp
  obtain⟨f,rfl⟩:∃ q,f=q+1:=⟨f - 1,by omega⟩
  have hil:i<l.length:=by omega
  have hpl:ps.len=255:=by rw[hp.len,K_1,K_15]
  have e3:IntKind.i64.wrap ((i:Int)+1)=((i+1:Nat):Int):=by rw[w64 (by omega) (by omega)];rfl
  have e1:IntKind.i64.wrap (((l.length:Nat):Int) - 1)=((l.length - 1:Nat):Int):=by rw[w64 (by omega) (by omega)];omega
  have e2:IntKind.i64.wrap (((l.length - 1:Nat):Int) - (i:Int))=((l.length - 1 - i:Nat):Int):=by rw[w64 (by omega) (by omega)];omega
  obtain⟨q,q1,q2⟩:=K_1a hp (i:=l.length - 1 - i) (by rw[K_15];omega)
  rw[K_gl (by omega)]at q2
  have c2:(0:Int)≤((l.length - 1 - i:Nat):Int)∧((l.length - 1 - i:Nat):Int)<((ps.len:Nat):Int):=by omega
  have h4:=K_1jp hK hT hl hil (l.length - (i+1)) (i+1) K w (by omega) (by omega) (by omega) hs hb hg hp
  have hun:K_2a K (f+1) b ⟨g,0,none⟩ ((l.length:Nat):Int) ps ⟨gi,0,none⟩ (i:Int) w=K_9k K (K_2a K f) b ⟨g,0,none⟩ ((l.length:Nat):Int) ps ⟨gi,0,none⟩ (i:Int) w:=rfl
  have hfs:Gf.first2 l i (d+1)=(match Gf.first2in l i (i+1) (l.length - (i+1)) with | some c=>some c | none=>Gf.first2 l (i+1) d):=by
   unfold Gf.first2
   rw[List.range'_succ,List.findSome?_cons]
   cases Gf.first2in l i (i+1) (l.length - (i+1)) <;> rfl
  rw[hun,hfs]
  unfold K_9k Gf.first2in
  rw[if_pos (decide_eq_true (show (i:Int)<((l.length:Nat):Int) by omega)),q1,J_bs,e1,e2,if_pos c2,J_tn,Nat.mul_one,q2,J_bs,e3]
  cases hs4:(List.range' (i+1) (l.length - (i+1))).findSome? (Gf.try2 l i) with
  | some c=>
   rw[hs4]at h4
   obtain⟨s,w',x1,x2,x3,x4⟩:=h4
   exact⟨s,w',by rw[x1,bnd_ok],x2,x3,x4⟩
  | none=>
   rw[hs4]at h4
   obtain⟨w1,x1,x2⟩:=h4
   rw[x1,bnd_ok]
   dsimp only
   have hrec:=ih (i+1) f w1 (by omega) (by omega) (hs.upd0 x2) (hb.upd0 x2) (hg.upd0 x2) (hp.upd0 x2)
   have q:=x2.size
   cases hs2:Gf.first2 l (i+1) d with
   | none=>
    rw[hs2]at hrec
    obtain⟨w',y1,y2⟩:=hrec
    exact⟨w',y1,x2.and0 y2⟩
   | some c=>
    rw[hs2]at hrec
    obtain⟨s,w',y1,y2,y3,y4⟩:=hrec
    exact⟨s,w',y1,x2.and0 y2,y3,fun k hk=>by have:=y4 k hk;omega⟩
theorem und153:prog.underlying 153=some (.array 4 5):=by kernel_rfl
theorem built153:prog.built 153 []=some (fb [0,0,0,0]).toArray:=by kernel_rfl
theorem eq153{l m:List F}(hl:l.length=4)(hm:m.length=4):eqA prog 153 (fb l).toArray (fb m).toArray=some (decide (l=m)):=by
 unfold eqA
 rw[und153]
 dsimp only
 rw[und5']
 dsimp only
 rw[if_pos ⟨by rw[List.size_toArray,K_1,hl],by rw[List.size_toArray,K_1,hm],K_z6 l,K_z6 m⟩,K_z5,K_z5]
 rw[decide_eq_decide.2 K_18a]
theorem K_1lc:z188=(fb (List.replicate 256 0)).toArray:=by kernel_rfl
theorem K_1jv{K:Nat}(hK:18446744073709551616≤K){w:World}{b:Sl}{l:List F}(hs:BSrc w b l)(hl:l.length≤255):
  ∃ s n v w',K_ev K b w=some ((s,n,v,()),w')∧Upd none_ w w'∧(match Gf.nearP l with | some r=>v=true∧n=((r.2:Nat):Int)∧BSrc w' s r.1∧(s=b∨Fresh w.heap.size s) | none=>v=false):=by
 have hK3:300≤K:=by omega
 have hbl:b.len=l.length:=by rw[hs.len,K_1]
 obtain⟨w1,a1,u1⟩:=K_1ba hK hs (by omega)
 obtain⟨w2,b1,b2,b3,b4⟩:=K_9 z153 153 w1
 have b2:Bk 153 w2 w1.heap.size (fb [0,0,0,0]):=b2
 obtain⟨w3,c1,c2,c3⟩:=b2.stA (o:=0) (vs:=(fb (sumsL l)).toArray) (by simp[fb,ints,sumsL]) (fun v hv=>K_k _ v hv)
 have c2:Bk 153 w3 w1.heap.size (fb [sj l 0,sj l 1,sj l 2,sj l 3]):=c2
 have q1:=u1.size
 have q2:=b3.size
 have q3:=c3.size
 have u3:Upd none_ w w3:=(u1.and0 b3).trans' c3 fun k hk e=>by omega
 obtain⟨w4,d1,d2,d3,d4⟩:=K_9 z153 153 w3
 have d2:Bk 153 w4 w3.heap.size (fb [0,0,0,0]):=d2
 obtain⟨w5,e1,e2,e3⟩:=d2.stA (o:=0) (vs:=(fb [0,0,0,0]).toArray) (by simp[fb,ints]) (fun v hv=>K_k _ v hv)
 have e2:Bk 153 w5 w3.heap.size (fb [0,0,0,0]):=e2
 have hlt3:=c2.lt
 have c5:=(c2.upd0 d3).upd e3 (by omega)
 have u5:Upd none_ w w5:=(u3.and0 d3).trans' e3 fun k hk e=>by omega
 have g1:=c5.ldA (i:=0) (n:=4) (by rw[K_1];simp)
 have g1:ldA 4 ⟨w1.heap.size,0,none⟩ w5=some (fb (sumsL l)).toArray:=g1
 have g2:=e2.ldA (i:=0) (n:=4) (by rw[K_1];simp)
 have g2:ldA 4 ⟨w3.heap.size,0,none⟩ w5=some (fb [0,0,0,0]).toArray:=g2
 unfold K_ev
 rw[a1,bnd_ok,b1,bnd_ok,if_pos (by simp[fb,ints,sumsL]),c1,J_bs,built153,J_bs,d1,bnd_ok,if_pos (by simp[fb,ints]),e1,J_bs,g1,J_bs,g2,J_bs,eq153 rfl rfl,J_bs]
 unfold Gf.nearP
 by_cases hr:Right l
 ·rw[if_pos (decide_eq_true ((K_el l).2 hr)),if_pos hr]
  exact⟨b,0,true,w5,rfl,u5,rfl,rfl,hs.upd0 u5,.inl rfl⟩
 ·rw[if_neg (fun h=>hr ((K_el l).1 (of_decide_eq_true h))),if_neg hr]
  obtain⟨sp,w6,f1,f2,f3,f4⟩:=K_tt hK w5 (n:=255) (by omega)
  have f1:K_2y K 255 w5=some ((sp,()),w6):=f1
  have u6:=u5.and0 f3
  have h0:=K_1k5 hK (b:=b) (ps:=sp) (g:=w1.heap.size) (e:=153) hl l.length 0 K w6 (by omega) (by omega) (hs.upd0 u6) (c5.upd0 f3) (f2.src (K_k _))
  have e0:K_1d K K b ⟨w1.heap.size,0,none⟩ ((b.len:Nat):Int) sp 0 w6=K_1d K K b ⟨w1.heap.size,0,none⟩ ((l.length:Nat):Int) sp ((0:Nat):Int) w6:=by rw[hbl];rfl
  rw[f1,bnd_ok]
  dsimp only
  rw[e0]
  have q6:=u6.size
  unfold Gf.first1
  cases hf1:(List.range' 0 l.length).findSome? (Gf.try1 l) with
  | some c=>
   rw[hf1]at h0
   obtain⟨s,w7,x1,x2,x3,x4⟩:=h0
   rw[x1,bnd_ok]
   refine⟨s,1,(bF (sj l 0) != 0),w7,rfl,u6.and0 x2,?_,rfl,x3.src (K_k _),.inr fun k hk=>by have:=x4 k hk;omega⟩
   obtain⟨i,hi,ht⟩:=List.exists_of_findSome?_eq_some hf1
   rw[K_xt]
   intro hz
   unfold Gf.try1 at ht
   simp only at ht
   split at ht
   ·rename_i hc
    refine hr ((K_el l).1 ?_)
    obtain⟨y1,y2,y3⟩:=hc
    rw[hz,F.zero_mul]at y1 y2 y3
    simp[sumsL,hz,y1,y2,y3]
   ·cases ht
  | none=>
   rw[hf1]at h0
   obtain⟨w7,x1,x2⟩:=h0
   rw[x1,bnd_ok]
   dsimp only
   have u7:=u6.and0 x2
   obtain⟨w8,i1,i2,i3,i4⟩:=K_9 z188 188 w7
   have i2:Bk 188 w8 w7.heap.size (fb (List.replicate 256 0)):=by
    rw[K_1lc]at i2;exact i2
   have u8:=u7.and0 i3
   have q7:=x2.size
   have f8:=(f2.upd0 x2).upd0 i3
   have hsp:∀ q,sp.a=some q→q.block≠w7.heap.size:=fun q hq=>by have:=K_rn f2 q hq;omega
   obtain⟨w9,T,j1,j2,j3,j4⟩:=K_1k3 (K:=K) hK3 (b:=b) (s5:=⟨w1.heap.size,0,none⟩) (n7:=((b.len:Nat):Int)) hsp 255 0 K w8 _ (by omega) (by omega) i2 ⟨by rw[List.length_replicate],by rfl,fun j hj=>by omega⟩ (f8.src (K_k _))
   have j1:K_5k K K b ⟨w1.heap.size,0,none⟩ ((b.len:Nat):Int) sp ⟨w7.heap.size,0,none⟩ 0 w8=some ((),w9):=j1
   have u9:Upd none_ w w9:=u8.trans' j4 fun k hk e=>by omega
   have c9:=(((c5.upd0 f3).upd0 x2).upd0 i3).upd j4 (by have:=c5.lt;have:=f3.size;omega)
   have h3:=K_1ka hK (b:=b) (ps:=sp) (g:=w1.heap.size) (gi:=w7.heap.size) (e:=153) (e':=188) j3 hl l.length 0 K w9 (by omega) (by omega) (hs.upd0 u9) c9 j2 (K_59 (f8.src (K_k _)) j4 fun q hq _=>hsp q hq)
   have e3':K_2a K K b ⟨w1.heap.size,0,none⟩ ((b.len:Nat):Int) sp ⟨w7.heap.size,0,none⟩ 0 w9=K_2a K K b ⟨w1.heap.size,0,none⟩ ((l.length:Nat):Int) sp ⟨w7.heap.size,0,none⟩ ((0:Nat):Int) w9:=by rw[hbl];rfl
   have q9:=u9.size
   rw[i1,bnd_ok,j1,bnd_ok,e3']
   cases hf2:Gf.first2 l 0 l.length with
   | some c=>
    rw[hf2]at h3
    obtain⟨s,w10,y1,y2,y3,y4⟩:=h3
    rw[y1,bnd_ok]
    exact⟨s,2,true,w10,rfl,u9.and0 y2,rfl,rfl,y3.src (K_k _),.inr fun k hk=>by have:=y4 k hk;omega⟩
   | none=>
    rw[hf2]at h3
    obtain⟨w10,y1,y2⟩:=h3
    rw[y1,bnd_ok]
    exact⟨_,_,_,w10,rfl,u9.and0 y2,rfl⟩
end Go.Sh

namespace Go.Sh
open Go.Fw Go.Gf Go.RowKit Go.Proofs.Tryd
def letC(k:Nat):Int:=(((str1[k]?).getD 0).toNat:Int)
def letV(k:Nat):Int:=(((str2[k]?).getD 0).toNat:Int)
theorem K_n4{k:Nat}(h:k<16):∃ b:UInt8,str1[k]? =some b∧((b.toNat:Nat):Int)=letC k:=by
 have:k<str1.size:=h
 exact⟨str1[k],getElem?_pos str1 k this,by rw[letC,getElem?_pos str1 k this];rfl⟩
theorem K_za{k:Nat}(h:k<4):∃ b:UInt8,str2[k]? =some b∧((b.toNat:Nat):Int)=letV k:=by
 have:k<str2.size:=h
 exact⟨str2[k],getElem?_pos str2 k this,by rw[letV,getElem?_pos str2 k this];rfl⟩
def five(v:Nat):List Int:=[letC (v / 4096),letV (v / 1024 % 4),letC (v / 64 % 16),letV (v / 16 % 4),letC (v % 16)]
def wordsL(bs:List Nat):Nat→Nat→List Int→List Int
 | 0,_,acc=>acc
 | d+1,i,acc=>if i+1<bs.length then wordsL bs d (i+2) (acc ++ (if 0<i then [32] else []) ++ five (bs.getD i 0*256+bs.getD (i+1) 0)) else acc
theorem K_jn{w:World}{s:Sl}{xs:List Int}(h:RdS .u8 w s xs):b2sQ prog s.a s.len s.cap w=some (bytesOf xs):=by
 have h1:b2s prog s.a s.len s.cap w=some (bytesOf xs,w):=K_1ma h
 unfold b2s at h1
 split at h1
 ·rename_i s2 w2 hr
  obtain⟨rfl,rfl⟩:=Prod.mk.inj (Option.some.inj h1)
  unfold b2sQ
  rw[hr]
  dsimp only
  rw[if_pos rfl]
 ·cases h1
theorem K_12t(v:Nat):(five v).length=5:=rfl
theorem K_1lh{a b:Nat}(ha:a<256)(hb:b<256):bits .or .i64 (IntKind.i64.wrap ((IntKind.i64.wrap (a:Int))*2 ^ 8)) (IntKind.i64.wrap (b:Int))=((a*256+b:Nat):Int):=by
 rw[wn64 (by omega),wn64 (by omega)]
 have e:((a:Nat):Int)*2 ^ 8=((a*2 ^ 8:Nat):Int):=by simp
 rw[e,wn64 (by omega),K_1ha (by omega) 8 (by decide) (by omega)]
theorem K_1md{a b:Nat}(ha:a<256)(hb:b<256):IntKind.i64.wrap ((IntKind.i64.wrap ((IntKind.i64.wrap (a:Int))*256))+(IntKind.i64.wrap (b:Int)))=((a*256+b:Nat):Int):=by
 rw[wn64 (by omega),wn64 (by omega)]
 have e:((a:Nat):Int)*256=((a*256:Nat):Int):=by simp
 rw[e,wn64 (by omega)]
 have e:((a*256:Nat):Int)+(b:Int)=((a*256+b:Nat):Int):=by simp
 rw[e,wn64 (by omega)]
theorem K_1cg(K B:Nat){s:Sl}{acc:List Int}{w:World}(i:Nat)(ho:OwnS 5 w s (ints .u8 acc))(ha:acc.length≤4398046511104)(hB:B≤w.heap.size)(hf:Fresh B s):
  ∃ s' w',K_6t K s (decide ((i:Int) > 0)) w=some ((s',()),w')∧OwnS 5 w' s' (ints .u8 (acc ++ if 0<i then [32] else []))∧Below B w w'∧Fresh B s':=by
 have hl:s.len=acc.length:=by rw[ho.len];simp
 by_cases hi:0<i
 ·obtain⟨w1,h1,o1,u1,z1⟩:=K_87 sliceB (ints .u8 [32]) (by simp[ints,Value.cells]) (by simp) (by simp) w
  obtain⟨s2,w2,h2,l2,o2,u2,b2⟩:=K_1e sliceB (ho.upd0 u1) (o1.src K_f) (by show (s.len+1)*1≤_;omega)
  rw[←K_51]at o2
  have bl1:Below B w w1:=u1.below hB fun _ _=>id
  refine⟨s2,w2,?_,by simpa[hi] using o2,K_z0 bl1 u2 (by omega) fun k hk e=>(by have:=hf k e;omega),?_⟩
  ·have hd:decide ((i:Int) > 0)=true:=by simp;omega
   have h1':bldS prog 23 1 #[(0,(.int .u8 32))] w=_:=h1
   have h2':apd prog 23 23 (.slice s.a s.len s.cap) (.slice (some ⟨w.heap.size,0,none⟩) 1 1) w1=_:=h2
   unfold K_6t
   rw[hd,if_pos rfl,h1',bnd_ok]
   show bnd (apd prog 23 23 (.slice s.a s.len s.cap) (.slice (some ⟨w.heap.size,0,none⟩) 1 1) w1) _=_
   rw[h2',bnd_ok]
  ·intro k hk
   rcases b2 with e | e
   ·exact hf k (e ▸ hk)
   ·rw[e]at hk;have:=Option.some.inj hk;omega
 ·refine⟨s,w,?_,by simpa[hi] using ho,Below.refl B w,hf⟩
  have hd:decide ((i:Int) > 0)=false:=by simp;omega
  unfold K_6t
  rw[hd,if_neg (by decide)]
theorem K_1e0(K B:Nat){b:Sl}{bs:List Nat}(hb:∀ x∈bs,x<256)(hs:bs.length≤1099511627776):
  ∀ (d i n:Nat) (w:World) (s:Sl) (acc:List Int),bs.length≤i+d→i≤bs.length+1→d+1<n→RdS .u8 w b (bs.map Int.ofNat)→(∀ p,b.a=some p→p.block<B)→OwnS 5 w s (ints .u8 acc)→acc.length≤3*i→B≤w.heap.size→Fresh B s→
   ∃ s' w',K_3u K n b s (i:Int) w=some ((s',()),w')∧OwnS 5 w' s' (ints .u8 (wordsL bs (d+1) i acc))∧Below B w w':=by
 intro d
 induction d using Nat.strongRecOn with
 | _ d ih=>
 intro i n w s acc hd hib hn hr hp ho ha hB hf
 obtain⟨n,rfl⟩:∃ m,n=m+1:=⟨n - 1,by omega⟩
 have hlen:(bs.map Int.ofNat).length=bs.length:=List.length_map ..
 have hw1:IntKind.i64.wrap ((i:Int)+1)=((i+1:Nat):Int):=by rw[w64 (by omega) (by omega)];rfl
 have hw2:IntKind.i64.wrap ((i:Int)+2)=((i+2:Nat):Int):=by rw[w64 (by omega) (by omega)];rfl
 by_cases hc:i+1<bs.length
 ·have i1:i<bs.length:=by omega
  obtain⟨s1,w1,h1,o1,bl1,hf1⟩:=K_1cg K B i ho (by omega) hB hf
  have hr1:=(hr.belowB bl1 hp).drew
  obtain⟨p,hpa,hpl⟩:=hr1.ld
  have hne:bs.map Int.ofNat≠[]:=by intro e;have:=congrArg List.length e;simp at this;subst this;simp at i1
  have hA:bs[i]<256:=hb _ (List.getElem_mem i1)
  have hC:bs[i+1]<256:=hb _ (List.getElem_mem hc)
  have l1:ldI .u8 (p.add i) w1.drew=some ((bs[i]:Nat):Int):=by have:=hpl i (by omega);simpa using this
  have l2:ldI .u8 (p.add (i+1)) w1.drew=some ((bs[i+1]:Nat):Int):=by have:=hpl (i+1) (by omega);simpa using this
  have hv:bs.getD i 0*256+bs.getD (i+1) 0=bs[i] *256+bs[i+1]:=by
   rw[J_gd,J_gd,J_ge i1,J_ge hc];rfl
  obtain⟨v,hvv⟩:∃ v,bs[i] *256+bs[i+1]=v:=⟨_,rfl⟩
  rw[hvv]at hv
  have hv16:v<65536:=by omega
  obtain⟨c1,e1,d1⟩:=K_n4 (k:=v / 2 ^ 12) (by omega)
  obtain⟨c2,e2,d2⟩:=K_za (k:=v / 2 ^ 10 % 4) (by omega)
  obtain⟨c3,e3,d3⟩:=K_n4 (k:=v / 2 ^ 6 % 16) (by omega)
  obtain⟨c4,e4,d4⟩:=K_za (k:=v / 2 ^ 4 % 4) (by omega)
  obtain⟨c5,e5,d5⟩:=K_n4 (k:=v % 16) (by omega)
  obtain⟨w2,h2,o2,u2,z2⟩:=K_87 sliceB (ints .u8 (five v)) (by simp[ints,five,Value.cells]) (by simp[five]) (by simp[five]) w1.drew.drew
  have hl1:s1.len≤acc.length+1:=by rw[o1.len];simp;split <;> simp
  obtain⟨s3,w3,h3,l3,o3,u3,b3⟩:=K_1e sliceB (o1.drew.drew.upd0 u2) (o2.src K_f) (by show (s1.len+5)*1≤_;omega)
  rw[←K_51]at o3
  have bl2:Below B w w2:=bl1.trans ((Below.refl B w1).drew.drew.trans (u2.below (by have:=bl1.size;exact Nat.le_trans hB this) fun _ _=>id))
  have bl3:Below B w w3:=K_z0 bl2 u3 (by have:=bl2.size;omega) fun k hk e=>(by have:=hf1 k e;omega)
  have hf3:Fresh B s3:=by
   intro k hk
   rcases b3 with e | e
   ·exact hf1 k (e ▸ hk)
   ·rw[e]at hk;have:=Option.some.inj hk;have:=bl2.size;omega
  obtain⟨d',rfl⟩:∃ m,d=m+1:=⟨d - 1,by omega⟩
  obtain⟨s4,w4,h4,o4,bl4⟩:=ih d' (by omega) (i+2) n w3 s3 (acc ++ (if 0<i then [32] else []) ++ five v) (by omega) (by omega) (by omega) (hr.belowB bl3 hp) hp o3
   (by simp[K_12t];split <;> simp <;> omega) (by have:=bl3.size;omega) hf3
  refine⟨s4,w4,?_,?_,bl3.trans bl4⟩
  ·show K_7h K (K_3u K n) b s (i:Int) w=_
   unfold K_7h
   have k1:decide (((i+1:Nat):Int)<((bs.length:Nat):Int))=true:=by simp;omega
   have k2:(0:Int)≤(i:Int)∧(i:Int)<((bs.length:Nat):Int):=by omega
   have k3:(0:Int)≤((i+1:Nat):Int)∧((i+1:Nat):Int)<((bs.length:Nat):Int):=by omega
   have h2':bldS prog 23 5 #[(0,(.int .u8 (letC (v / 2 ^ 12)))),(1,(.int .u8 (letV (v / 2 ^ 10 % 4)))),(2,(.int .u8 (letC (v / 2 ^ 6 % 16)))),(3,(.int .u8 (letV (v / 2 ^ 4 % 4)))),(4,(.int .u8 (letC (v % 16))))] w1.drew.drew=_:=h2
   have h3':apd prog 23 23 (.slice s1.a s1.len s1.cap) (.slice (some ⟨w1.drew.drew.heap.size,0,none⟩) 5 5) w2=_:=h3
   rw[hw1,hr.len,hlen,k1,if_pos rfl,h1,bnd_ok,hpa hne,J_bs,if_pos k2,J_bs,if_pos k3]
   simp only[J_tn,Nat.mul_one,l1,l2,J_bs,K_1lh hA hC,hvv,K_jf]
   rw[K_1ae (by omega),K_17m (by omega),K_1ae (by omega),K_17m (by omega)]
   simp only[J_tn,e1,e2,e3,e4,e5,J_bs,d1,d2,d3,d4,d5,Int.natCast_nonneg,if_true]
   rw[h2',bnd_ok]
   show bnd (apd prog 23 23 (.slice s1.a s1.len s1.cap) (.slice (some ⟨w1.drew.drew.heap.size,0,none⟩) 5 5) w2) _=_
   rw[h3',bnd_ok,hw2,h4]
  ·rw[wordsL,if_pos hc,hv];exact o4
 ·refine⟨s,w,?_,?_,Below.refl B w⟩
  ·show K_7h K (K_3u K n) b s (i:Int) w=_
   unfold K_7h
   rw[hw1,hr.len,hlen,if_neg (by simp;omega)]
  ·simp only[wordsL,hc,if_false];exact ho
theorem K_1fv(K:Nat){acc:List Int}{w:World}(i:Nat)(ha:acc.length≤4398046511104):
  K_84 K (bytesOf acc) (decide ((i:Int) > 0)) w=some ((bytesOf (acc ++ if 0<i then [32] else []),()),w):=by
 by_cases hi:0<i
 ·have hd:decide ((i:Int) > 0)=true:=by simp;omega
  have h3:str3=bytesOf [32]:=rfl
  unfold K_84
  rw[hd,if_pos rfl,h3,if_pos (by rw[K_hh,K_hh];simp;omega),←K_s3]
  simp[hi]
 ·have hd:decide ((i:Int) > 0)=false:=by simp;omega
  unfold K_84
  rw[hd,if_neg (by decide)]
  simp[hi]
theorem K_1ih(K:Nat){b:Sl}{bs:List Nat}(hb:∀ x∈bs,x<256)(hs:bs.length≤1099511627776):
  ∀ (d i n:Nat) (w:World) (acc:List Int),bs.length≤i+d→i≤bs.length+1→d+1<n→RdS .u8 w b (bs.map Int.ofNat)→acc.length≤3*i→
   ∃ w',K_4k K n b (bytesOf acc) (i:Int) w=some ((bytesOf (wordsL bs (d+1) i acc),()),w')∧Upd none_ w w':=by
 intro d
 induction d using Nat.strongRecOn with
 | _ d ih=>
 intro i n w acc hd hib hn hr ha
 obtain⟨n,rfl⟩:∃ m,n=m+1:=⟨n - 1,by omega⟩
 have hlen:(bs.map Int.ofNat).length=bs.length:=List.length_map ..
 have hw1:IntKind.i64.wrap ((i:Int)+1)=((i+1:Nat):Int):=by rw[w64 (by omega) (by omega)];rfl
 have hw2:IntKind.i64.wrap ((i:Int)+2)=((i+2:Nat):Int):=by rw[w64 (by omega) (by omega)];rfl
 by_cases hc:i+1<bs.length
 ·have i1:i<bs.length:=by omega
  have hr1:=hr.drew
  obtain⟨p,hpa,hpl⟩:=hr1.ld
  have hne:bs.map Int.ofNat≠[]:=by intro e;have:=congrArg List.length e;simp at this;subst this;simp at i1
  have hA:bs[i]<256:=hb _ (List.getElem_mem i1)
  have hC:bs[i+1]<256:=hb _ (List.getElem_mem hc)
  have l1:ldI .u8 (p.add i) w.drew=some ((bs[i]:Nat):Int):=by have:=hpl i (by omega);simpa using this
  have l2:ldI .u8 (p.add (i+1)) w.drew=some ((bs[i+1]:Nat):Int):=by have:=hpl (i+1) (by omega);simpa using this
  have hv:bs.getD i 0*256+bs.getD (i+1) 0=bs[i] *256+bs[i+1]:=by
   rw[J_gd,J_gd,J_ge i1,J_ge hc];rfl
  obtain⟨v,hvv⟩:∃ v,bs[i] *256+bs[i+1]=v:=⟨_,rfl⟩
  rw[hvv]at hv
  have hv16:v<65536:=by omega
  obtain⟨c1,e1,d1⟩:=K_n4 (k:=v / 4096) (by omega)
  obtain⟨c2,e2,d2⟩:=K_za (k:=v / 1024 % 4) (by omega)
  obtain⟨c3,e3,d3⟩:=K_n4 (k:=v / 64 % 16) (by omega)
  obtain⟨c4,e4,d4⟩:=K_za (k:=v / 16 % 4) (by omega)
  obtain⟨c5,e5,d5⟩:=K_n4 (k:=v % 16) (by omega)
  obtain⟨w2,h2,o2,u2,z2⟩:=K_87 sliceB (ints .u8 (five v)) (by simp[ints,five,Value.cells]) (by simp[five]) (by simp[five]) w.drew.drew
  have hal:(acc ++ if 0<i then [32] else []:List Int).length≤acc.length+1:=by split <;> simp
  obtain⟨d',rfl⟩:∃ m,d=m+1:=⟨d - 1,by omega⟩
  obtain⟨w4,h4,u4⟩:=ih d' (by omega) (i+2) n w2 (acc ++ (if 0<i then [32] else []) ++ five v) (by omega) (by omega) (by omega) (hr.drew.drew.upd0 u2)
   (by simp[K_12t];split <;> simp <;> omega)
  refine⟨w4,?_,u2.predrew.predrew.and0 u4⟩
  ·show K_8v K (K_4k K n) b (bytesOf acc) (i:Int) w=_
   unfold K_8v
   have k1:decide (((i+1:Nat):Int)<((bs.length:Nat):Int))=true:=by simp;omega
   have k2:(0:Int)≤(i:Int)∧(i:Int)<((bs.length:Nat):Int):=by omega
   have k3:(0:Int)≤((i+1:Nat):Int)∧((i+1:Nat):Int)<((bs.length:Nat):Int):=by omega
   have h2':bldS prog 23 5 #[(0,(.int .u8 (letC (v / 4096)))),(1,(.int .u8 (letV (v / 1024 % 4)))),(2,(.int .u8 (letC (v / 64 % 16)))),(3,(.int .u8 (letV (v / 16 % 4)))),(4,(.int .u8 (letC (v % 16))))] w.drew.drew=_:=h2
   have t1:Int.tdiv (v:Int) 4096=((v / 4096:Nat):Int):=K_ed v 4096
   have t2:Int.tdiv (v:Int) 1024=((v / 1024:Nat):Int):=K_ed v 1024
   have t3:Int.tdiv (v:Int) 64=((v / 64:Nat):Int):=K_ed v 64
   have t4:Int.tdiv (v:Int) 16=((v / 16:Nat):Int):=K_ed v 16
   have m2:Int.tmod ((v / 1024:Nat):Int) 4=((v / 1024 % 4:Nat):Int):=K_63 (v / 1024) 4
   have m3:Int.tmod ((v / 64:Nat):Int) 16=((v / 64 % 16:Nat):Int):=K_63 (v / 64) 16
   have m4:Int.tmod ((v / 16:Nat):Int) 4=((v / 16 % 4:Nat):Int):=K_63 (v / 16) 4
   have m5:Int.tmod (v:Int) 16=((v % 16:Nat):Int):=K_63 v 16
   have n1:IntKind.i64.wrap ((v / 4096:Nat):Int)=((v / 4096:Nat):Int):=wn64 (by omega)
   have n2:IntKind.i64.wrap ((v / 1024:Nat):Int)=((v / 1024:Nat):Int):=wn64 (by omega)
   have n3:IntKind.i64.wrap ((v / 64:Nat):Int)=((v / 64:Nat):Int):=wn64 (by omega)
   have n4:IntKind.i64.wrap ((v / 16:Nat):Int)=((v / 16:Nat):Int):=wn64 (by omega)
   rw[hw1,hr.len,hlen,k1,if_pos rfl,hpa hne,J_bs,if_pos k2,J_bs,if_pos k3]
   simp only[J_tn,Nat.mul_one,l1,l2,J_bs,K_1md hA hC,hvv]
   simp only[t1,t2,t3,t4,n1,n2,n3,n4,m2,m3,m4,m5,J_tn,e1,e2,e3,e4,e5,J_bs,d1,d2,d3,d4,d5,Int.natCast_nonneg,if_true]
   rw[h2',bnd_ok,K_1fv K i (by omega),bnd_ok]
   dsimp only
   have hb5:=K_jn o2.rd
   dsimp only at hb5
   rw[hb5,J_bs,if_pos (by rw[K_hh,K_hh,K_12t];omega)]
   have hW:wordsL bs (d'+1+1) i acc=wordsL bs (d'+1) (i+2) (acc ++ (if 0<i then [32] else []) ++ five v):=by rw[wordsL,if_pos hc,hv]
   rw[←K_s3,hw2,h4,hW]
 ·refine⟨w,?_,Upd.refl _ w⟩
  show K_8v K (K_4k K n) b (bytesOf acc) (i:Int) w=_
  unfold K_8v
  rw[hw1,hr.len,hlen,if_neg (by simp;omega)]
  simp only[wordsL,hc,if_false]
def textOf(l:List F):ByteArray:=bytesOf (wordsL (l.map F.n) (l.length+1) 0 [])
theorem K_14v(l:List F):l.map bF=(l.map F.n).map Int.ofNat:=by rw[List.map_map];rfl
theorem K_1ia{K:Nat}(hK:18446744073709551616≤K){w:World}{b:Sl}{l:List F}(hs:BSrc w b l)(hl:l.length≤1099511627776)(hlt:∀ q,b.a=some q→q.block<w.heap.size):
  ∃ w',K_bc K b w=some ((textOf l,()),w')∧Upd none_ w w':=by
 have hr:RdS .u8 w b ((l.map F.n).map Int.ofNat):=by rw[←K_14v];exact hs.rds
 obtain⟨s2,w2,h2,o2,bl2⟩:=K_1e0 K w.heap.size (bs:=l.map F.n) (fun x hx=>by obtain⟨a,_,rfl⟩:=List.mem_map.1 hx;exact a.lt) (by rw[List.length_map];exact hl) l.length 0 K w ⟨none,0,0⟩ [] (by rw[List.length_map];omega) (by omega) (by omega) hr hlt (OwnS.nil _ _) (by simp) (Nat.le_refl _) (fun k hk=>by cases hk)
 have h2:K_3u K K b ⟨none,0,0⟩ 0 w=some ((s2,()),w2):=h2
 refine⟨w2,?_,Upd.of_below bl2⟩
 unfold K_bc
 rw[h2,bnd_ok]
 dsimp only
 rw[K_jn o2.rd,J_bs]
 rfl
theorem K_1fm{K:Nat}(hK:18446744073709551616≤K){w:World}{b:Sl}{l:List F}(hs:BSrc w b l)(hl:l.length≤1099511627776):
  ∃ w',K_cu K b w=some ((textOf l,()),w')∧Upd none_ w w':=by
 have hr:RdS .u8 w b ((l.map F.n).map Int.ofNat):=by rw[←K_14v];exact hs.rds
 obtain⟨w2,h2,u2⟩:=K_1ih K (bs:=l.map F.n) (fun x hx=>by obtain⟨a,_,rfl⟩:=List.mem_map.1 hx;exact a.lt) (by rw[List.length_map];exact hl) l.length 0 K w [] (by rw[List.length_map];omega) (by omega) (by omega) hr (by simp)
 have h2:K_4k K K b str0 0 w=some ((textOf l,()),w2):=h2
 refine⟨w2,?_,u2⟩
 unfold K_cu
 rw[h2,bnd_ok]
end Go.Sh

namespace Go.Sh
open Go.Fw Go.Gf Go.RowKit Go.Proofs.Tryd
def setC:List Nat:=[98,100,102,103,104,106,107,108,109,110,112,114,115,116,118,122]
def setV:List Nat:=[97,105,111,117]
def IsText(t:ByteArray)(T:List Nat):Prop:=t.size=T.length∧∀ k,k<T.length→∃ b:UInt8,t[k]? =some b∧b.toNat=T.getD k 0
theorem K_1ky(t:ByteArray):IsText t (t.data.toList.map UInt8.toNat):=by
 have hs:t.size=(t.data.toList.map UInt8.toNat).length:=by
  rw[List.length_map,Array.length_toList];rfl
 refine⟨hs,fun k hk=>?_⟩
 have hk':k<t.size:=by omega
 refine⟨t[k],getElem?_pos t k hk',?_⟩
 rw[J_gd,J_ge hk]
 simp[ByteArray.getElem_eq_getElem_data]
theorem isC:IsText str1 setC:=⟨rfl,fun k hk=>by
 have key:∀ k,k<16→(str1[k]?).map UInt8.toNat=some (setC.getD k 0):=by decide+kernel
 obtain⟨b,h1,h2⟩:=Option.map_eq_some_iff.1 (key k hk)
 exact⟨b,h1,h2⟩⟩
theorem isV:IsText str2 setV:=⟨rfl,fun k hk=>by
 have key:∀ k,k<4→(str2[k]?).map UInt8.toNat=some (setV.getD k 0):=by decide+kernel
 obtain⟨b,h1,h2⟩:=Option.map_eq_some_iff.1 (key k hk)
 exact⟨b,h1,h2⟩⟩
def plG:List Nat→Nat→Nat→Option Nat
 | [],_,_=>none
 | x :: xs,c,k=>if x=c then some k else plG xs c (k+1)
theorem K_1fq:∀ (S:List Nat) (c k j:Nat),plG S c k=some j→j<k+S.length
 | [],_,_,_,h=>by cases h
 | x :: xs,c,k,j,h=>by
  unfold plG at h
  split at h
  ·obtain rfl:=Option.some.inj h;simp
  ·have:=K_1fq xs c (k+1) j h
   simp;omega
def setOf(i:Nat):List Nat:=if i % 2=1 then setV else setC
def mulOf(i:Nat):Nat:=if i % 2=1 then 4 else 16
def wvG:List Nat→Nat→Nat→Option Nat
 | [],_,v=>some v
 | c :: cs,i,v=>(plG (setOf i) c 0).bind fun k=>wvG cs (i+1) (v*mulOf i+k)
def worthN(wd:List Nat):Nat:=(wvG wd 0 0).getD 0
def bdW:Nat→Nat
 | 0=>1
 | 1=>16
 | 2=>64
 | 3=>1024
 | 4=>4096
 | _=>65536
theorem K_16d{i v k:Nat}(hi:i<5)(hv:v<bdW i)(hk:k<mulOf i):v*mulOf i+k<bdW (i+1):=by
 match i,hi with
 | 0,_=>simp only[bdW,mulOf]at*;simp at*;omega
 | 1,_=>simp only[bdW,mulOf]at*;simp at*;omega
 | 2,_=>simp only[bdW,mulOf]at*;simp at*;omega
 | 3,_=>simp only[bdW,mulOf]at*;simp at*;omega
 | 4,_=>simp only[bdW,mulOf]at*;simp at*;omega
theorem bd_le(i:Nat):bdW i≤65536:=by
 unfold bdW
 split <;> omega
theorem K_16w(i:Nat):(setOf i).length=mulOf i:=by unfold setOf mulOf;split <;> rfl
theorem K_1b3{i c k:Nat}(h:plG (setOf i) c 0=some k):k<mulOf i:=by
 have:=K_1fq _ _ _ _ h
 rw[K_16w]at this;omega
theorem K_1ip{K:Nat}{v c bits:Nat}{a9:Sl}{a10 a11:Int}{str:ByteArray}{S:List Nat}(hS:IsText str S)(hb:bits≤10)(hSl:S.length≤2 ^ bits)(hv:v<65536)(hSn:S.length≤256):
  ∀ (d k f:Nat) (w:World),k+d=S.length→d<f→
   K_3j K f (v:Int) (c:Int) str (bits:Int) a9 a10 a11 ((str.size:Nat):Int) (k:Int) w=some (match plG (S.drop k) c k with | some j=>(.ret (((v*2 ^ bits+j:Nat):Int),()),w) | none=>(.norm (),w)):=by
 intro d
 have hsz:=hS.1
 induction d with
 | zero=>
  intro k f w hk hf
  obtain⟨f,rfl⟩:∃ q,f=q+1:=⟨f - 1,by omega⟩
  show K_7t K (K_3j K f) (v:Int) (c:Int) str (bits:Int) a9 a10 a11 ((str.size:Nat):Int) (k:Int) w=_
  unfold K_7t
  rw[if_neg (by simp only[decide_eq_true_eq];omega),List.drop_eq_nil_of_le (by omega)]
  rfl
 | succ d ih=>
  intro k f w hk hf
  obtain⟨f,rfl⟩:∃ q,f=q+1:=⟨f - 1,by omega⟩
  have hkS:k<S.length:=by omega
  obtain⟨b,b1,b2⟩:=hS.2 k hkS
  have e3:IntKind.i64.wrap ((k:Int)+1)=((k+1:Nat):Int):=by rw[w64 (by omega) (by omega)];rfl
  have hg:S.getD k 0=S[k]:=by rw[J_gd,J_ge hkS];rfl
  rw[hg]at b2
  show K_7t K (K_3j K f) (v:Int) (c:Int) str (bits:Int) a9 a10 a11 ((str.size:Nat):Int) (k:Int) w=_
  unfold K_7t
  rw[if_pos (decide_eq_true (show (k:Int)<((str.size:Nat):Int) by omega)),if_pos (Int.natCast_nonneg _),J_tn,b1,J_bs,List.drop_eq_getElem_cons hkS]
  by_cases hc:S[k]=c
  ·have hq:(((b.toNat:Nat):Int) == (c:Int))=true:=by rw[b2,hc];simp
   have hm:min (Int.toNat (bits:Int)) IntKind.i64.bits=bits:=by rw[J_tn];show min bits 64=bits;omega
   have hp:2 ^ bits≤2 ^ 10:=Nat.pow_le_pow_right (by decide) hb
   have hvp:v*2 ^ bits≤65536*2 ^ 10:=Nat.mul_le_mul (by omega) hp
   have e5:((v:Nat):Int)*2 ^ bits=((v*2 ^ bits:Nat):Int):=by simp
   have e6:IntKind.i64.wrap ((v:Int)*2 ^ bits)=((v*2 ^ bits:Nat):Int):=by rw[e5,w64 (by omega) (by omega)]
   rw[if_pos hq,if_pos (Int.natCast_nonneg _),hm,e6,K_1ha (by omega) bits hb (by omega)]
   unfold plG
   rw[if_pos hc]
  ·have hq:¬(((b.toNat:Nat):Int) == (c:Int))=true:=by rw[b2,beq_iff_eq];omega
   rw[if_neg hq,e3,ih (k+1) f w (by omega) (by omega)]
   unfold plG
   rw[if_neg hc]
   cases S.drop (k+1) <;> rfl
theorem K_1ht{K:Nat}(hK:18446744073709551616≤K){a9:Sl}{wd:List Nat}(hw5:wd.length=5)(hwb:∀ c∈wd,c<256):
  ∀ (d i f v:Nat) (w:World),i+d=5→d<f→v<bdW i→RdS .u8 w a9 (wd.map Int.ofNat)→
   K_3k K f (v:Int) a9 ((wd.length:Nat):Int) (i:Int) w=some (match wvG (wd.drop i) i v with | some j=>(.norm (((j:Nat):Int),()),w) | none=>(.ret (0,()),w)):=by
 intro d
 induction d with
 | zero=>
  intro i f v w hi hf hv hr
  obtain⟨f,rfl⟩:∃ q,f=q+1:=⟨f - 1,by omega⟩
  show K_7f K (K_3k K f) (v:Int) a9 ((wd.length:Nat):Int) (i:Int) w=_
  unfold K_7f
  rw[if_neg (by simp only[decide_eq_true_eq];omega),List.drop_eq_nil_of_le (by omega)]
  rfl
 | succ d ih=>
  intro i f v w hi hf hv hr
  obtain⟨f,rfl⟩:∃ q,f=q+1:=⟨f - 1,by omega⟩
  have hiw:i<wd.length:=by omega
  have hlen:a9.len=wd.length:=by rw[hr.len,List.length_map]
  have e3:IntKind.i64.wrap ((i:Int)+1)=((i+1:Nat):Int):=by rw[w64 (by omega) (by omega)];rfl
  obtain⟨p,p1,p2⟩:=hr.ld
  have hne:wd.map Int.ofNat≠[]:=fun e=>by have:=congrArg List.length e;simp at this;rw[this]at hiw;simp at hiw
  have p1:=p1 hne
  have l1:=p2 i (by rw[List.length_map];exact hiw)
  have hge:(wd.map Int.ofNat)[i]'(by rw[List.length_map];exact hiw)=((wd[i]:Nat):Int):=by simp
  rw[hge]at l1
  have c1:(0:Int)≤(i:Int)∧(i:Int)<((a9.len:Nat):Int):=by omega
  have hvb:=bd_le i
  have hl2:=fun {str S bits} (hS:IsText str S) (hb:bits≤10) (hSl:S.length≤2 ^ bits) (hSn:S.length≤256)=>K_1ip (K:=K) (v:=v) (c:=wd[i]) (a9:=a9) (a10:=((wd.length:Nat):Int)) (a11:=(i:Int)) hS hb hSl (by omega) hSn S.length 0 K w (by omega) (by omega)
  have hwv:wvG (wd.drop i) i v=(plG (setOf i) wd[i] 0).bind fun k=>wvG (wd.drop (i+1)) (i+1) (v*mulOf i+k):=by
   rw[List.drop_eq_getElem_cons hiw];rfl
  have hs1:∃ (str:ByteArray) (bits:Nat),K_a5 K str1 4 ((Int.tmod (i:Int) 2) == 1) w=some ((str,(bits:Int),()),w)∧IsText str (setOf i)∧mulOf i=2 ^ bits∧bits≤10:=by
   have hm:Int.tmod (i:Int) 2=((i % 2:Nat):Int):=rfl
   unfold K_a5 setOf mulOf
   rw[hm]
   by_cases h1:i % 2=1
   ·exact⟨str2,2,by rw[if_pos (by rw[h1];rfl)];rfl,by rw[if_pos h1];exact isV,by rw[if_pos h1],by omega⟩
   ·exact⟨str1,4,by rw[if_neg (by rw[beq_iff_eq];omega)];rfl,by rw[if_neg h1];exact isC,by rw[if_neg h1],by omega⟩
  obtain⟨str,bits,s1,s2,s3,s4⟩:=hs1
  have hsl:=K_16w i
  have hmn:mulOf i≤16:=by unfold mulOf;split <;> omega
  have h2:=hl2 s2 s4 (by rw[hsl,s3];exact Nat.le_refl _) (by omega)
  have h2:K_3j K K (v:Int) ((wd[i]:Nat):Int) str (bits:Int) a9 ((wd.length:Nat):Int) (i:Int) ((str.size:Nat):Int) 0 w=_:=h2
  show K_7f K (K_3k K f) (v:Int) a9 ((wd.length:Nat):Int) (i:Int) w=_
  unfold K_7f
  rw[if_pos (decide_eq_true (show (i:Int)<((wd.length:Nat):Int) by omega)),p1,J_bs,if_pos c1,J_tn,Nat.mul_one,l1,J_bs,s1,bnd_ok]
  dsimp only
  rw[h2,List.drop_zero,hwv]
  cases hp:plG (setOf i) wd[i] 0 with
  | none=>rw[bnd_ok];rfl
  | some k=>
   rw[bnd_ok,J_bs]
   dsimp only
   rw[←s3,e3]
   exact ih (i+1) f _ w (by omega) (by omega) (K_16d (by omega) hv (K_1b3 hp)) hr
theorem K_1a2:∀ (wd:List Nat) (i v j:Nat),i+wd.length≤5→v<bdW i→wvG wd i v=some j→j<bdW (i+wd.length)
 | [],i,v,j,_,hv,h=>by obtain rfl:=Option.some.inj h;simpa using hv
 | c :: cs,i,v,j,hi,hv,h=>by
  simp only[List.length_cons]at hi
  have h:((plG (setOf i) c 0).bind fun k=>wvG cs (i+1) (v*mulOf i+k))=some j:=h
  cases hp:plG (setOf i) c 0 with
  | none=>rw[hp]at h;cases h
  | some k=>
   rw[hp,J_bs]at h
   have:=K_1a2 cs (i+1) _ j (by omega) (K_16d (by omega) hv (K_1b3 hp)) h
   simpa[Nat.add_assoc,Nat.add_comm 1] using this
theorem K_17f{wd:List Nat}(h:wd.length=5):worthN wd<65536:=by
 unfold worthN
 cases hw:wvG wd 0 0 with
 | none=>decide
 | some j=>have:=K_1a2 wd 0 0 j (by omega) (by decide) hw;rw[h]at this;exact this
theorem K_1io{K:Nat}(hK:18446744073709551616≤K){w:World}{a9:Sl}{wd:List Nat}(hw5:wd.length=5)(hwb:∀ c∈wd,c<256)(hr:RdS .u8 w a9 (wd.map Int.ofNat)):
  K_b9 K a9 w=some ((((worthN wd:Nat):Int),()),w):=by
 have hlen:a9.len=wd.length:=by rw[hr.len,List.length_map]
 have h0:=K_1ht hK hw5 hwb 5 0 K 0 w (by omega) (by omega) (by decide) hr
 have h0:K_3k K K 0 a9 ((wd.length:Nat):Int) 0 w=_:=h0
 unfold K_b9 worthN
 rw[hlen,h0,List.drop_zero]
 cases wvG wd 0 0 with
 | none=>rw[bnd_ok];rfl
 | some j=>rw[bnd_ok];rfl
def worthB(wd:List Nat):List F:=[⟨worthN wd / 256 % 256,Nat.mod_lt _ (by decide)⟩,⟨worthN wd % 256,Nat.mod_lt _ (by decide)⟩]
theorem K_1ib{K:Nat}{c:Nat}{str:ByteArray}{S:List Nat}(hS:IsText str S)(hSn:S.length≤256):
  ∀ (d k f:Nat),k+d=S.length→d<f→
   K_4n K f str (c:Int) (k:Int)=some (match plG (S.drop k) c k with | some j=>.ret (((j:Nat):Int),()) | none=>.norm ()):=by
 intro d
 have hsz:=hS.1
 induction d with
 | zero=>
  intro k f hk hf
  obtain⟨f,rfl⟩:∃ q,f=q+1:=⟨f - 1,by omega⟩
  show K_8z K (K_4n K f) str (c:Int) (k:Int)=_
  unfold K_8z
  rw[if_neg (by simp only[decide_eq_true_eq];omega),List.drop_eq_nil_of_le (by omega)]
  rfl
 | succ d ih=>
  intro k f hk hf
  obtain⟨f,rfl⟩:∃ q,f=q+1:=⟨f - 1,by omega⟩
  have hkS:k<S.length:=by omega
  obtain⟨b,b1,b2⟩:=hS.2 k hkS
  have e3:IntKind.i64.wrap ((k:Int)+1)=((k+1:Nat):Int):=by rw[w64 (by omega) (by omega)];rfl
  have hg:S.getD k 0=S[k]:=by rw[J_gd,J_ge hkS];rfl
  rw[hg]at b2
  show K_8z K (K_4n K f) str (c:Int) (k:Int)=_
  unfold K_8z
  rw[if_pos (decide_eq_true (show (k:Int)<((str.size:Nat):Int) by omega)),if_pos (Int.natCast_nonneg _),J_tn,b1,J_bs,List.drop_eq_getElem_cons hkS]
  by_cases hc:S[k]=c
  ·have hq:(((b.toNat:Nat):Int) == (c:Int))=true:=by rw[b2,hc];simp
   rw[if_pos hq]
   unfold plG
   rw[if_pos hc]
  ·have hq:¬(((b.toNat:Nat):Int) == (c:Int))=true:=by rw[b2,beq_iff_eq];omega
   rw[if_neg hq,e3,ih (k+1) f (by omega) (by omega)]
   unfold plG
   rw[if_neg hc]
   cases S.drop (k+1) <;> rfl
theorem K_12e{K:Nat}(hK:300≤K)(c:Nat){str:ByteArray}{S:List Nat}(hS:IsText str S)(hSn:S.length≤256):K_34 K str (c:Int)=some (atI (plG S c 0),()):=by
 have h:=K_1ib (K:=K) (c:=c) hS hSn S.length 0 K (by omega) (by omega)
 have h:K_4n K K str (c:Int) 0=_:=h
 unfold K_34
 rw[h,List.drop_zero]
 cases plG S c 0 <;> rfl
end Go.Sh

namespace Go.Sh
open Go.Fw Go.Gf Go.RowKit Go.Proofs.Tryd
def gapB(c:Nat):Bool:=c == 32 || c == 9 || c == 10 || c == 13 || c == 45
def lowN(c:Nat):Nat:=if 65≤c∧c≤90 then c+32 else c
def endW(wd:List Nat)(O:List F):Option (List F):=if wd=[] then some O else if wd.length≠5 then none else some (O ++ worthB wd)
def rdP:List Nat→List Nat→List F→Option (List F)
 | [],wd,O=>endW wd O
 | c :: cs,wd,O=>if gapB c=true then(endW wd O).bind fun O'=>rdP cs [] O' else rdP cs (wd ++ [lowN c]) O
structure UW(w:World) (go gw gk B:Nat) (so sw:Sl) (O:List F) (wd:List Nat):Prop where
 bo:Bk 23 w go [slF so]
 bw:Bk 23 w gw [slF sw]
 bk:Bk 4 w gk [.bool true]
 oo:OwnS 5 w so (fb O)
 ow:OwnS 5 w sw (ints .u8 (wd.map Int.ofNat))
 wb:∀ c∈wd,c<256
 sep:∀ k,so.blk=some k→sw.blk≠some k
 d:go≠gw∧go≠gk∧gw≠gk
 so1:∀ k,so.blk=some k→B≤k∧k≠go∧k≠gw∧k≠gk
 sw1:∀ k,sw.blk=some k→B≤k∧k≠go∧k≠gw∧k≠gk
 low:B≤go∧B≤gw∧B≤gk
 lenO:O.length≤1000000
 lenW:wd.length≤1000000
theorem K_o9{e:TypeId}{w:World}{g:Nat}{s:Sl}(b:Bk e w g [slF s]):ldS ⟨g,0,none⟩ w=some s:=b.ldS rfl
theorem K_1d8{K:Nat}(hK:18446744073709551616≤K){w:World}{go gw gk B:Nat}{so sw:Sl}{O:List F}{wd:List Nat}(U:UW w go gw gk B so sw O wd)(hO:O.length+2≤1000000):
  match endW wd O with
  | some O'=>∃ so' sw' w',K_3g K (some ⟨gw,0,none⟩) (some ⟨gk,0,none⟩) (some ⟨go,0,none⟩) w=some ((),w')∧UW w' go gw gk B so' sw' O' []∧Upd (fun k=>B≤k) w w'∧O'.length≤O.length+2
  | none=>∃ w',K_3g K (some ⟨gw,0,none⟩) (some ⟨gk,0,none⟩) (some ⟨go,0,none⟩) w=some ((),w')∧Bk 4 w' gk [.bool false]∧Bk 23 w' go [slF so]∧Upd (fun k=>B≤k) w w':=by
 have hl:sw.len=wd.length:=by rw[U.ow.len,K_3,List.length_map]
 obtain⟨d1,d2,d3⟩:=U.d
 unfold endW K_3g
 rw[J_bs,K_o9 U.bw,J_bs,hl]
 by_cases h0:wd=[]
 ·rw[if_pos h0,if_pos (by rw[h0];rfl)]
  subst h0
  exact⟨so,sw,w,rfl,U,Upd.refl _ _,by omega⟩
 ·have hpos:0<wd.length:=List.length_pos_iff.2 h0
  rw[if_neg h0,if_neg (show ¬(((wd.length:Nat):Int) == 0)=true by rw[beq_iff_eq];omega),J_bs,K_o9 U.bw,J_bs,hl]
  by_cases h5:wd.length=5
  ·rw[if_neg (show ¬wd.length≠5 by omega),if_neg (show ¬(((wd.length:Nat):Int) != 5)=true by rw[h5];decide),J_bs,K_o9 U.bw,J_bs,K_1io hK h5 U.wb U.ow.rd,bnd_ok,J_bs,K_o9 U.bo,J_bs]
   have hv:=K_17f h5
   obtain⟨w1,a1,a2,a3,a4⟩:=K_87 sliceB (fb (worthB wd)) (fun v hv=>by obtain⟨x,_,rfl⟩:=List.mem_map.1 hv;rfl) (by rw[K_1];simp[worthB]) (by rw[K_1];simp[worthB]) w
   have e1:IntKind.u8.wrap (Int.fdiv ((worthN wd:Nat):Int) (2 ^ 8))=(((worthN wd / 256 % 256:Nat)):Int):=by
    have:Int.fdiv ((worthN wd:Nat):Int) (2 ^ 8)=((worthN wd / 256:Nat):Int):=K_jf _ 8
    rw[this,IntKind.wrap_u8];rfl
   have e2:IntKind.u8.wrap ((worthN wd:Nat):Int)=((worthN wd % 256:Nat):Int):=by rw[IntKind.wrap_u8];rfl
   have a1:bldS prog 23 2 #[(0,(.int .u8 ((worthN wd / 256 % 256:Nat):Int))),(1,(.int .u8 ((worthN wd % 256:Nat):Int)))] w=some (⟨some ⟨w.heap.size,0,none⟩,2,2⟩,w1):=a1
   have a2:OwnS 5 w1 ⟨some ⟨w.heap.size,0,none⟩,2,2⟩ (fb (worthB wd)):=a2
   have hol:=U.oo.len
   rw[K_1]at hol
   obtain⟨s2,w2,b1,b2,b3,b4,b5⟩:=K_1e sliceB (U.oo.upd0 a3) (a2.src K_f) (by show (so.len+2)*1≤_;omega)
   rw[←K_4s]at b3
   have q1:=a3.size
   have q2:=b4.size
   have u2:Upd (fun k=>so.blk=some k) w w2:=(a3.mono (T:=fun k=>so.blk=some k) fun _ _ e=>e.elim).trans' b4 fun _ _ e=>e
   have hgo:=U.bo.lt
   have hgw:=U.bw.lt
   have hgk:=U.bk.lt
   have hBw:B≤w.heap.size:=by have:=U.low.1;omega
   have hs2:∀ k,s2.blk=some k→(so.blk=some k∨w.heap.size≤k)∧k<w2.heap.size:=fun k hk=>by
    refine⟨?_,b3.lt hk⟩
    rcases b5 with e | e
    ·rw[e]at hk;exact .inl hk
    ·rw[e]at hk;have e2:w1.heap.size=k:=Option.some.inj hk;exact .inr (by omega)
   have hs2':∀ k,s2.blk=some k→B≤k∧k≠go∧k≠gw∧k≠gk:=fun k hk=>by
    rcases(hs2 k hk).1 with e | e
    ·exact U.so1 k e
    ·omega
   have bo2:=U.bo.upd u2 fun e=>(U.so1 _ e).2.1 rfl
   have bw2:=U.bw.upd u2 fun e=>(U.so1 _ e).2.2.1 rfl
   have bk2:=U.bk.upd u2 fun e=>(U.so1 _ e).2.2.2 rfl
   obtain⟨w3,c1,c2,c3⟩:=bo2.stC (i:=0) (by simp) (slF s2)
   obtain⟨w4,f1,f2,f3⟩:=(bw2.upd c3 (fun e=>d1 e.symm)).stC (i:=0) (by simp) (slF nilF)
   have u4:Upd (fun k=>B≤k) w w4:=((u2.mono (T:=fun k=>B≤k) fun k _ e=>(U.so1 k e).1).trans' c3 fun k _ e=>by rw[e];exact U.low.1).trans' f3 fun k _ e=>by rw[e];exact U.low.2.1
   have own4:=(b3.upd c3 fun k hk e=>(hs2' k hk).2.1 e).upd f3 fun k hk e=>(hs2' k hk).2.2.1 e
   refine⟨s2,nilF,w4,?_,⟨?_,?_,?_,own4,OwnS.nil _ _,fun c hc=>(by simp at hc),fun k hk e=>(by cases e),U.d,hs2',fun k hk=>(by cases hk),U.low,by rw[List.length_append];show O.length+2≤_;omega,by simp⟩,u4,by rw[List.length_append];exact Nat.le_refl _⟩
   ·dsimp only
    rw[e1,e2,a1,bnd_ok]
    dsimp only
    rw[b1,bnd_ok,J_bs,c1,J_bs,J_bs]
    have f1:stC ⟨gw,0,none⟩ (.slice none 0 0) w3=some w4:=f1
    rw[f1,J_bs]
   ·exact c2.upd f3 (fun e=>d1 e)
   ·exact f2
   ·exact(bk2.upd c3 (fun e=>d2 e.symm)).upd f3 (fun e=>d3 e.symm)
  ·rw[if_pos (show wd.length≠5 from h5),if_pos (show (((wd.length:Nat):Int) != 5)=true by rw[bne_iff_ne];omega),J_bs]
   obtain⟨w1,a1,a2,a3⟩:=U.bk.stC (i:=0) (by simp) (.bool false)
   exact⟨w1,by rw[a1,J_bs],a2,U.bo.upd a3 (fun e=>d2 e),a3.mono fun k _ e=>by rw[e];exact U.low.2.2⟩
abbrev endV(go gw gk:Nat):Value:=.func (.func 120) #[] #[.pointer (some ⟨gw,0,none⟩),.pointer (some ⟨gk,0,none⟩),.pointer (some ⟨go,0,none⟩)]
theorem K_1dr{β:Type}(K:Nat)(go gw gk:Nat)(w:World)(k:Value→World→Option β):
  dyn (tab (K_am K)) (endV go gw gk) [] w k=bnd (K_3g K (some ⟨gw,0,none⟩) (some ⟨gk,0,none⟩) (some ⟨go,0,none⟩) w) fun _ w'=>k (.tuple #[]) w':=rfl
theorem K_1mk(K:Nat)(c:Nat)(w:World):K_6q K (c:Int) ((c:Int) == 32) w=some ((gapB c,()),w):=by
 have e32:((c:Int) == 32)=(c == 32):=by rw[Bool.eq_iff_iff,beq_iff_eq,beq_iff_eq];omega
 have e9:((c:Int) == 9)=(c == 9):=by rw[Bool.eq_iff_iff,beq_iff_eq,beq_iff_eq];omega
 have e10:((c:Int) == 10)=(c == 10):=by rw[Bool.eq_iff_iff,beq_iff_eq,beq_iff_eq];omega
 have e13:((c:Int) == 13)=(c == 13):=by rw[Bool.eq_iff_iff,beq_iff_eq,beq_iff_eq];omega
 have e45:((c:Int) == 45)=(c == 45):=by rw[Bool.eq_iff_iff,beq_iff_eq,beq_iff_eq];omega
 unfold K_6q gapB
 rw[e32,e9,e10,e13,e45]
 cases h1:c == 32 <;> cases h2:c == 9 <;> cases h3:c == 10 <;> cases h4:c == 13 <;> cases h5:c == 45 <;> rfl
theorem K_1ln(K:Nat)(c:Nat)(w:World):K_6p K (c:Int) w=some ((decide (65≤c∧c≤90),()),w):=by
 unfold K_6p
 by_cases h1:65≤c
 ·rw[if_pos (decide_eq_true (show (c:Int)≥65 by omega))]
  have:decide ((c:Int)≤90)=decide (65≤c∧c≤90):=by rw[decide_eq_decide];omega
  rw[this]
 ·rw[if_neg (by simp only[decide_eq_true_eq];omega),decide_eq_false (show ¬(65≤c∧c≤90) by omega)]
theorem K_1cq{w:World}{go gw gk B:Nat}{so sw:Sl}{O:List F}{wd:List Nat}(U:UW w go gw gk B so sw O wd)(hW:wd.length+1≤1000000){c:Nat}(hc:c<256):
  ∃ w1 s2 w2 w3,bldS prog 23 1 #[(0,(.int .u8 (c:Int)))] w=some (⟨some ⟨w.heap.size,0,none⟩,1,1⟩,w1)∧apd prog 23 23 (.slice sw.a sw.len sw.cap) (.slice (some ⟨w.heap.size,0,none⟩) 1 1) w1=some (s2,w2)∧stC ⟨gw,0,none⟩ (.slice s2.a s2.len s2.cap) w2=some w3∧UW w3 go gw gk B so s2 O (wd ++ [c])∧Upd (fun k=>B≤k) w w3:=by
 obtain⟨d1,d2,d3⟩:=U.d
 obtain⟨w1,a1,a2,a3,a4⟩:=K_8u sliceB (.int .u8 (c:Int)) rfl w
 have a2:OwnS 5 w1 ⟨some ⟨w.heap.size,0,none⟩,1,1⟩ (ints .u8 [(c:Int)]):=a2
 have hwl:=U.ow.len
 rw[K_3,List.length_map]at hwl
 obtain⟨s2,w2,b1,b2,b3,b4,b5⟩:=K_1e sliceB (U.ow.upd0 a3) (a2.src K_f) (by show (sw.len+1)*1≤_;omega)
 rw[←K_51]at b3
 have em:wd.map Int.ofNat ++ [(c:Int)]=(wd ++ [c]).map Int.ofNat:=by rw[List.map_append];rfl
 rw[em]at b3
 have q1:=a3.size
 have q2:=b4.size
 have u2:Upd (fun k=>sw.blk=some k) w w2:=(a3.mono (T:=fun k=>sw.blk=some k) fun _ _ e=>e.elim).trans' b4 fun _ _ e=>e
 have hgo:=U.bo.lt
 have hgw:=U.bw.lt
 have hgk:=U.bk.lt
 have hs2:∀ k,s2.blk=some k→sw.blk=some k∨w.heap.size≤k:=fun k hk=>by
  rcases b5 with e | e
  ·rw[e]at hk;exact .inl hk
  ·rw[e]at hk;have e2:w1.heap.size=k:=Option.some.inj hk;exact .inr (by omega)
 have hBw:B≤w.heap.size:=by have:=U.low.1;omega
 have hs2':∀ k,s2.blk=some k→B≤k∧k≠go∧k≠gw∧k≠gk:=fun k hk=>by
  rcases hs2 k hk with e | e
  ·exact U.sw1 k e
  ·omega
 have bo2:=U.bo.upd u2 fun e=>(U.sw1 _ e).2.1 rfl
 have bw2:=U.bw.upd u2 fun e=>(U.sw1 _ e).2.2.1 rfl
 have bk2:=U.bk.upd u2 fun e=>(U.sw1 _ e).2.2.2 rfl
 have oo2:=U.oo.upd u2 fun k hk e=>U.sep k hk e
 obtain⟨w3,c1,c2,c3⟩:=bw2.stC (i:=0) (by simp) (slF s2)
 refine⟨w1,s2,w2,w3,a1,b1,c1,⟨bo2.upd c3 (fun e=>d1 e),c2,bk2.upd c3 (fun e=>d3 e.symm),oo2.upd c3 fun k hk e=>(U.so1 k hk).2.2.1 e,b3.upd c3 fun k hk e=>(hs2' k hk).2.2.1 e,fun x hx=>?_,fun k hk e=>?_,U.d,U.so1,hs2',U.low,U.lenO,by rw[List.length_append];exact hW⟩,(u2.mono (T:=fun k=>B≤k) fun k _ e=>(U.sw1 k e).1).trans' c3 fun k _ e=>by rw[e];exact U.low.2.1⟩
 ·rcases List.mem_append.1 hx with h | h
  ·exact U.wb x h
  ·simp only[List.mem_singleton]at h;omega
 ·rcases hs2 k e with e2 | e2
  ·exact U.sep k hk e2
  ·have:=U.oo.lt hk;omega
theorem K_1m9{c:Nat}(h:c<256):lowN c<256:=by unfold lowN;split <;> omega
theorem K_1cb{K:Nat}(hK:18446744073709551616≤K){t:ByteArray}{T:List Nat}(hT:IsText t T)(hTb:∀ c∈T,c<256)(hTl:T.length≤1024){go gw gk B:Nat}:
  ∀ (d i f:Nat) (w:World) (so sw:Sl) (O:List F) (wd:List Nat),i+d=T.length→d<f→UW w go gw gk B so sw O wd→O.length≤2*i→wd.length≤i→
   (∃ w',K_u K f t ⟨go,0,none⟩ ⟨gw,0,none⟩ ⟨gk,0,none⟩ (endV go gw gk) ((t.size:Nat):Int) (i:Int) w=some (.ret (nilF,false,()),w')∧Upd (fun k=>B≤k) w w'∧rdP (T.drop i) wd O=none)∨
   (∃ so' sw' O' wd' w',K_u K f t ⟨go,0,none⟩ ⟨gw,0,none⟩ ⟨gk,0,none⟩ (endV go gw gk) ((t.size:Nat):Int) (i:Int) w=some (.norm (),w')∧UW w' go gw gk B so' sw' O' wd'∧Upd (fun k=>B≤k) w w'∧rdP (T.drop i) wd O=endW wd' O'∧O'.length≤2*T.length):=by
 have hsz:=hT.1
 intro d
 induction d with
 | zero=>
  intro i f w so sw O wd hi hf U hO hW
  obtain⟨f,rfl⟩:∃ q,f=q+1:=⟨f - 1,by omega⟩
  right
  refine⟨so,sw,O,wd,w,?_,U,Upd.refl _ _,by rw[List.drop_eq_nil_of_le (by omega)];rfl,by omega⟩
  show K_57 K (K_u K f) t ⟨go,0,none⟩ ⟨gw,0,none⟩ ⟨gk,0,none⟩ (endV go gw gk) ((t.size:Nat):Int) (i:Int) w=_
  unfold K_57
  rw[if_neg (by simp only[decide_eq_true_eq];omega)]
 | succ d ih=>
  intro i f w so sw O wd hi hf U hO hW
  obtain⟨f,rfl⟩:∃ q,f=q+1:=⟨f - 1,by omega⟩
  have hiT:i<T.length:=by omega
  obtain⟨b,b1,b2⟩:=hT.2 i hiT
  have hg:T.getD i 0=T[i]:=by rw[J_gd,J_ge hiT];rfl
  rw[hg]at b2
  have hc256:=hTb _ (List.getElem_mem hiT)
  have e3:IntKind.i64.wrap ((i:Int)+1)=((i+1:Nat):Int):=by rw[w64 (by omega) (by omega)];rfl
  have hun:K_u K (f+1) t ⟨go,0,none⟩ ⟨gw,0,none⟩ ⟨gk,0,none⟩ (endV go gw gk) ((t.size:Nat):Int) (i:Int) w=K_57 K (K_u K f) t ⟨go,0,none⟩ ⟨gw,0,none⟩ ⟨gk,0,none⟩ (endV go gw gk) ((t.size:Nat):Int) (i:Int) w:=rfl
  have hrd:rdP (T.drop i) wd O=if gapB T[i]=true then(endW wd O).bind fun O'=>rdP (T.drop (i+1)) [] O' else rdP (T.drop (i+1)) (wd ++ [lowN T[i]]) O:=by
   rw[List.drop_eq_getElem_cons hiT];rfl
  rw[hun,hrd]
  unfold K_57 K_9n
  rw[if_pos (decide_eq_true (show (i:Int)<((t.size:Nat):Int) by omega)),if_pos (Int.natCast_nonneg _),J_tn,b1,J_bs,b2,K_1mk,bnd_ok]
  dsimp only
  by_cases hgp:gapB T[i]=true
  ·rw[if_pos hgp,if_pos hgp,K_1dr]
   have he:=K_1d8 hK U (by omega)
   cases hE:endW wd O with
   | none=>
    rw[hE]at he
    obtain⟨w1,x1,x2,x3,x4⟩:=he
    left
    refine⟨w1,?_,x4,rfl⟩
    rw[x1,bnd_ok,bnd_ok,x2.ldB (i:=0) rfl,J_bs,if_pos (by decide)]
   | some O'=>
    rw[hE]at he
    obtain⟨so',sw',w1,x1,x2,x3,x4⟩:=he
    rw[x1,bnd_ok,bnd_ok,x2.bk.ldB (i:=0) rfl,J_bs,if_neg (by decide),J_bs,e3]
    rcases ih (i+1) f w1 so' sw' O' [] (by omega) (by omega) x2 (by omega) (by simp) with ⟨w',y1,y2,y3⟩ | ⟨a,b',c,dd,w',y1,y2,y3,y4,y5⟩
    ·exact .inl ⟨w',y1,x3.trans' y2 fun _ _ e=>e,y3⟩
    ·exact .inr ⟨a,b',c,dd,w',y1,y2,x3.trans' y3 fun _ _ e=>e,y4,y5⟩
  ·rw[if_neg hgp,if_neg hgp,K_1ln,bnd_ok]
   dsimp only
   obtain⟨w1,s2,w2,w3,p1,p2,p3,p4,p5⟩:=K_1cq U (by omega) (K_1m9 hc256)
   have hld:=K_o9 U.bw
   have run:(if decide (65≤T[i]∧T[i]≤90)=true then((ldS ⟨gw,0,none⟩ w).bind fun v_15=>
     bnd (bldS prog 23 1 #[(0,(.int .u8 (IntKind.u8.wrap (((T[i]:Nat):Int)+32))))] w) fun s_16 w_17=>
     bnd (apd prog 23 23 (.slice v_15.a v_15.len v_15.cap) (.slice s_16.a s_16.len s_16.cap) w_17) fun s_18 w_19=>
     (stC ⟨gw,0,none⟩ (.slice s_18.a s_18.len s_18.cap) w_19).bind fun w_20=>
     some (((),w_20):Unit×World)) else((ldS ⟨gw,0,none⟩ w).bind fun v_21=>
     bnd (bldS prog 23 1 #[(0,(.int .u8 ((T[i]:Nat):Int)))] w) fun s_22 w_23=>
     bnd (apd prog 23 23 (.slice v_21.a v_21.len v_21.cap) (.slice s_22.a s_22.len s_22.cap) w_23) fun s_24 w_25=>
     (stC ⟨gw,0,none⟩ (.slice s_24.a s_24.len s_24.cap) w_25).bind fun w_26=>
     some (((),w_26):Unit×World)))=some ((),w3):=by
    unfold lowN at p1
    by_cases hu:65≤T[i]∧T[i]≤90
    ·rw[if_pos hu]at p1
     have e32:IntKind.u8.wrap (((T[i]:Nat):Int)+32)=((T[i] +32:Nat):Int):=by rw[IntKind.wrap_u8];omega
     rw[if_pos (decide_eq_true hu),hld,J_bs,e32,p1,bnd_ok]
     dsimp only
     rw[p2,bnd_ok,p3,J_bs]
    ·rw[if_neg hu]at p1
     rw[if_neg (fun h=>hu (of_decide_eq_true h)),hld,J_bs,p1,bnd_ok]
     dsimp only
     rw[p2,bnd_ok,p3,J_bs]
   rw[run,bnd_ok,p4.bk.ldB (i:=0) rfl,J_bs,if_neg (by decide),e3]
   rcases ih (i+1) f w3 so s2 O _ (by omega) (by omega) p4 (by omega) (by rw[List.length_append];show wd.length+1≤_;omega) with ⟨w',y1,y2,y3⟩ | ⟨a,b',c,dd,w',y1,y2,y3,y4,y5⟩
   ·exact .inl ⟨w',y1,p5.trans' y2 fun _ _ e=>e,y3⟩
   ·exact .inr ⟨a,b',c,dd,w',y1,y2,p5.trans' y3 fun _ _ e=>e,y4,y5⟩
theorem K_1cr{K:Nat}(hK:18446744073709551616≤K)(w:World){t:ByteArray}{T:List Nat}(hT:IsText t T)(hTb:∀ c∈T,c<256)(hTl:T.length≤1024):
  ∃ s v w',K_71 K t w=some ((s,v,()),w')∧Upd none_ w w'∧(match rdP T [] [] with | some l=>v=true∧OwnS 5 w' s (fb l)∧Fresh w.heap.size s∧l.length≤2*T.length+2 | none=>v=false):=by
 obtain⟨w1,a1,a2,a3,a4⟩:=K_9 z23 23 w
 obtain⟨w2,b1,b2,b3,b4⟩:=K_9 z23 23 w1
 obtain⟨w3,c1,c2,c3,c4⟩:=K_9 z4 4 w2
 have a2:Bk 23 w1 w.heap.size [slF nilF]:=a2
 have b2:Bk 23 w2 w1.heap.size [slF nilF]:=b2
 have c2:Bk 4 w3 w2.heap.size [.bool false]:=c2
 obtain⟨w4,d1,d2,d3⟩:=c2.stC (i:=0) (by simp) (.bool true)
 have d2:Bk 4 w4 w2.heap.size [.bool true]:=d2
 have u4:Upd none_ w w4:=((a3.and0 b3).and0 c3).trans' d3 fun k hk e=>by omega
 have hgo:=((a2.upd0 b3).upd0 c3).upd d3 (by omega)
 have hgw:=(b2.upd0 c3).upd d3 (by omega)
 have U:UW w4 w.heap.size w1.heap.size w2.heap.size w.heap.size nilF nilF [] []:=⟨hgo,hgw,d2,OwnS.nil _ _,OwnS.nil _ _,fun c hc=>(by simp at hc),fun k hk=>(by cases hk),⟨by omega,by omega,by omega⟩,fun k hk=>(by cases hk),fun k hk=>(by cases hk),⟨Nat.le_refl _,by omega,by omega⟩,by simp,by simp⟩
 have hrun:=K_1cb hK hT hTb hTl T.length 0 K w4 nilF nilF [] [] (by omega) (by omega) U (by simp) (by simp)
 rw[List.drop_zero]at hrun
 unfold K_71
 rw[a1,bnd_ok,b1,bnd_ok,c1,bnd_ok,d1,J_bs]
 rcases hrun with ⟨w5,y1,y2,y3⟩ | ⟨so,sw,O,wd,w5,y1,y2,y3,y4,y5⟩
 ·have y1:K_u K K t ⟨w.heap.size,0,none⟩ ⟨w1.heap.size,0,none⟩ ⟨w2.heap.size,0,none⟩ (.func (.func 120) #[] #[.pointer (some ⟨w1.heap.size,0,none⟩),.pointer (some ⟨w2.heap.size,0,none⟩),.pointer (some ⟨w.heap.size,0,none⟩)]) ((t.size:Nat):Int) 0 w4=_:=y1
  rw[y1,bnd_ok,y3]
  exact⟨nilF,false,w5,rfl,u4.trans' y2 fun k hk e=>by omega,rfl⟩
 ·have y1:K_u K K t ⟨w.heap.size,0,none⟩ ⟨w1.heap.size,0,none⟩ ⟨w2.heap.size,0,none⟩ (.func (.func 120) #[] #[.pointer (some ⟨w1.heap.size,0,none⟩),.pointer (some ⟨w2.heap.size,0,none⟩),.pointer (some ⟨w.heap.size,0,none⟩)]) ((t.size:Nat):Int) 0 w4=_:=y1
  have u5:Upd none_ w w5:=u4.trans' y3 fun k hk e=>by omega
  have hd:=K_1dr (β:=(Sl×Bool×Unit)×World) K w.heap.size w1.heap.size w2.heap.size w5
  have he:=K_1d8 hK y2 (by omega)
  rw[y1,bnd_ok,y4]
  dsimp only
  rw[hd]
  cases hE:endW wd O with
  | none=>
   rw[hE]at he
   obtain⟨w6,x1,x2,x3,x4⟩:=he
   rw[x1,bnd_ok]
   refine⟨so,false,w6.drew,?_,(u5.trans' x4 fun k hk e=>by omega).drew,rfl⟩
   rw[K_o9 x3.drew,J_bs,x2.drew.ldB (i:=0) rfl,J_bs]
  | some O'=>
   rw[hE]at he
   obtain⟨so',sw',w6,x1,x2,x3,x4⟩:=he
   rw[x1,bnd_ok]
   refine⟨so',true,w6.drew,?_,(u5.trans' x3 fun k hk e=>by omega).drew,rfl,x2.oo.upd0 (Upd.refl none_ w6).drew,fun k hk=>(x2.so1 k hk).1,by omega⟩
   rw[K_o9 x2.bo.drew,J_bs,x2.bk.drew.ldB (i:=0) rfl,J_bs]
end Go.Sh

namespace Go.Sh
open Go.Fw Go.Gf Go.RowKit Go.Proofs.Tryd
theorem K_14k:∀ (W R wd:List Nat) (O:List F),(∀ c∈W,gapB c=false)→rdP (W ++ R) wd O=rdP R (wd ++ W.map lowN) O
 | [],R,wd,O,_=>by simp
 | c :: W,R,wd,O,h=>by
  show (if gapB c=true then _ else rdP (W ++ R) (wd ++ [lowN c]) O)=_
  rw[if_neg (by rw[h c (by simp)];decide),K_14k W R _ O fun x hx=>h x (by simp[hx])]
  simp
theorem K_1m0{R wd:List Nat}(hR:R=[]∨∃ c R',R=c :: R'∧gapB c=true)(O:List F):rdP R wd O=(endW wd O).bind fun O'=>rdP R [] O':=by
 rcases hR with rfl | ⟨c,R',rfl,hc⟩
 ·show endW wd O=(endW wd O).bind fun O'=>endW [] O'
  cases endW wd O <;> rfl
 ·have e:∀ wd O,rdP (c :: R') wd O=(endW wd O).bind fun O'=>rdP R' [] O':=fun wd O=>by
   show (if gapB c=true then(endW wd O).bind (fun O'=>rdP R' [] O') else _)=_
   rw[if_pos hc]
  rw[e]
  congr 1
  funext O'
  rw[e];rfl
theorem rgap(c:Nat):K_ec (c:Int)=some (gapB c,()):=by
 have e32:((c:Int) == 32)=(c == 32):=by rw[Bool.eq_iff_iff,beq_iff_eq,beq_iff_eq];omega
 have e9:((c:Int) == 9)=(c == 9):=by rw[Bool.eq_iff_iff,beq_iff_eq,beq_iff_eq];omega
 have e10:((c:Int) == 10)=(c == 10):=by rw[Bool.eq_iff_iff,beq_iff_eq,beq_iff_eq];omega
 have e13:((c:Int) == 13)=(c == 13):=by rw[Bool.eq_iff_iff,beq_iff_eq,beq_iff_eq];omega
 have e45:((c:Int) == 45)=(c == 45):=by rw[Bool.eq_iff_iff,beq_iff_eq,beq_iff_eq];omega
 unfold K_ec gapB
 rw[e32,e9,e10,e13,e45]
 cases h1:c == 32 <;> cases h2:c == 9 <;> cases h3:c == 10 <;> cases h4:c == 13 <;> cases h5:c == 45 <;> rfl
theorem K_zb{t:ByteArray}{T:List Nat}(hT:IsText t T){i:Nat}(hi:i<T.length):∃ b:UInt8,t[i]? =some b∧b.toNat=T[i]:=by
 obtain⟨b,b1,b2⟩:=hT.2 i hi
 refine⟨b,b1,?_⟩
 rw[b2,J_gd,J_ge hi];rfl
def scanN(T:List Nat):Nat→Nat→Nat
 | 0,i=>i
 | d+1,i=>if gapB (T.getD i 0)=true then i else scanN T d (i+1)
theorem K_185(T:List Nat):∀ (d i:Nat),i+d=T.length→i≤scanN T d i∧scanN T d i≤T.length∧(∀ k,i≤k→k<scanN T d i→gapB (T.getD k 0)=false)∧(scanN T d i<T.length→gapB (T.getD (scanN T d i) 0)=true)
 | 0,i,h=>⟨Nat.le_refl _,by show i≤_;omega,fun k h1 h2=>by have:k<i:=h2;omega,fun h2=>by have:i<T.length:=h2;omega⟩
 | d+1,i,h=>by
  unfold scanN
  by_cases hg:gapB (T.getD i 0)=true
  ·rw[if_pos hg]
   exact⟨Nat.le_refl _,by omega,fun k h1 h2=>by omega,fun _=>hg⟩
  ·rw[if_neg hg]
   obtain⟨a,b,c,e⟩:=K_185 T d (i+1) (by omega)
   refine⟨by omega,b,fun k h1 h2=>?_,e⟩
   by_cases hk:k=i
   ·rw[hk];simpa using hg
   ·exact c k (by omega) h2
theorem K_1ko{K:Nat}{t:ByteArray}{T:List Nat}(hT:IsText t T)(hTl:T.length≤1024){out:Sl}{fr:Int}(w:World):
  ∀ (d i f:Nat),i+d=T.length→d<f→K_72 K f t out (i:Int) fr w=some ((((scanN T d i:Nat):Int),()),w):=by
 intro d
 have hsz:=hT.1
 induction d with
 | zero=>
  intro i f hi hf
  obtain⟨f,rfl⟩:∃ q,f=q+1:=⟨f - 1,by omega⟩
  show K_9m K (K_72 K f) t out (i:Int) fr w=_
  unfold K_9m
  rw[if_neg (by simp only[decide_eq_true_eq];omega)]
  rfl
 | succ d ih=>
  intro i f hi hf
  obtain⟨f,rfl⟩:∃ q,f=q+1:=⟨f - 1,by omega⟩
  have hiT:i<T.length:=by omega
  obtain⟨b,b1,b2⟩:=K_zb hT hiT
  have hg:T.getD i 0=T[i]:=by rw[J_gd,J_ge hiT];rfl
  have e3:IntKind.i64.wrap ((i:Int)+1)=((i+1:Nat):Int):=by rw[w64 (by omega) (by omega)];rfl
  show K_9m K (K_72 K f) t out (i:Int) fr w=_
  unfold K_9m scanN
  rw[if_pos (decide_eq_true (show (i:Int)<((t.size:Nat):Int) by omega)),if_pos (Int.natCast_nonneg _),J_tn,b1,J_bs,b2,rgap,J_bs,hg]
  dsimp only
  by_cases hgp:gapB T[i]=true
  ·rw[if_neg (by rw[hgp];decide),if_pos hgp]
  ·rw[if_pos (by simpa using hgp),if_neg hgp,e3]
   exact ih (i+1) f (by omega) (by omega)
theorem K_1i8{K:Nat}(hK:300≤K){t:ByteArray}{T:List Nat}(hT:IsText t T)(hTb:∀ c∈T,c<256)(hTl:T.length≤1024){out:Sl}{i5:Int}{fr:Nat}(hfr:fr+5≤T.length)(w:World):
  ∀ (d k f:Nat) (v:Int),k+d=5→d<f→∃ v',K_j K f t out i5 (fr:Int) v false (k:Int) w=some ((v',false,()),w):=by
 intro d
 have hsz:=hT.1
 induction d with
 | zero=>
  intro k f v hk hf
  obtain⟨f,rfl⟩:∃ q,f=q+1:=⟨f - 1,by omega⟩
  refine⟨v,?_⟩
  show K_2l K (K_j K f) t out i5 (fr:Int) v false (k:Int) w=_
  unfold K_2l
  rw[if_neg (by simp only[decide_eq_true_eq];omega)]
 | succ d ih=>
  intro k f v hk hf
  obtain⟨f,rfl⟩:∃ q,f=q+1:=⟨f - 1,by omega⟩
  obtain⟨b,b1,b2⟩:=K_zb hT (i:=fr+k) (by omega)
  have e3:IntKind.i64.wrap ((k:Int)+1)=((k+1:Nat):Int):=by rw[w64 (by omega) (by omega)];rfl
  have e4:IntKind.i64.wrap ((fr:Int)+(k:Int))=((fr+k:Nat):Int):=by rw[w64 (by omega) (by omega)];rfl
  have hs4:∃ c:Nat,bnd (K_5j K ((b.toNat:Nat):Int) w) (fun y_8 w_9=>K_5q K ((b.toNat:Nat):Int) y_8.1 w_9)=some (((c:Int),()),w):=by
   unfold K_5j K_5q
   have hb:b.toNat<256:=b.toNat_lt
   by_cases h1:65≤b.toNat
   ·rw[if_pos (decide_eq_true (show ((b.toNat:Nat):Int)≥65 by omega)),bnd_ok]
    by_cases h2:b.toNat≤90
    ·refine⟨b.toNat+32,?_⟩
     rw[if_pos (decide_eq_true (show ((b.toNat:Nat):Int)≤90 by omega))]
     have:IntKind.u8.wrap (((b.toNat:Nat):Int)+32)=((b.toNat+32:Nat):Int):=by rw[IntKind.wrap_u8];omega
     rw[this]
    ·exact⟨b.toNat,by rw[if_neg (by simp only[decide_eq_true_eq];omega)]⟩
   ·exact⟨b.toNat,by rw[if_neg (by simp only[decide_eq_true_eq];omega),bnd_ok,if_neg (by decide)]⟩
  obtain⟨c,hc⟩:=hs4
  have hrun:∀ (v:Int) (wl:Bool),K_j K (f+1) t out i5 (fr:Int) v wl (k:Int) w=(if ((Int.tmod (k:Int) 2) == 0)=true then((K_34 K str1 (c:Int)).bind fun r_12=>
 bnd (K_9b K wl r_12.1 w) fun y_13 w_14=>
 K_j K f t out i5 (fr:Int) (IntKind.i64.wrap ((IntKind.i64.wrap (v*16))+r_12.1)) y_13.1 (IntKind.i64.wrap ((k:Int)+1)) w_14) else((K_34 K str2 (c:Int)).bind fun r_15=>
 bnd (K_9i K wl r_15.1 w) fun y_16 w_17=>
 K_j K f t out i5 (fr:Int) (IntKind.i64.wrap ((IntKind.i64.wrap (v*4))+r_15.1)) y_16.1 (IntKind.i64.wrap ((k:Int)+1)) w_17)):=fun v wl=>by
   show K_2l K (K_j K f) t out i5 (fr:Int) v wl (k:Int) w=_
   unfold K_2l
   rw[if_pos (decide_eq_true (show (k:Int)<5 by omega)),e4,if_pos (Int.natCast_nonneg _),J_tn,b1,J_bs]
   have h:=hc
   cases hs3:K_5j K ((b.toNat:Nat):Int) w with
   | none=>rw[hs3]at h;cases h
   | some y=>
    rw[hs3]at h
    obtain⟨y,w9⟩:=y
    have h:K_5q K ((b.toNat:Nat):Int) y.1 w9=some (((c:Int),()),w):=h
    rw[bnd_ok,h,bnd_ok]
  rw[hrun,e3]
  split
  ·rw[K_12e hK c isC (by decide),J_bs]
   unfold K_9b
   rw[if_neg (by decide),bnd_ok]
   exact ih (k+1) f _ (by omega) (by omega)
  ·rw[K_12e hK c isV (by decide),J_bs]
   unfold K_9i
   rw[if_neg (by decide),bnd_ok]
   exact ih (k+1) f _ (by omega) (by omega)
theorem K_1k9{K:Nat}(hK:300≤K){t:ByteArray}{T:List Nat}(hT:IsText t T)(hTb:∀ c∈T,c<256)(hTl:T.length≤1024){out:Sl}{i5:Int}{fr:Nat}(hfr:fr+5≤T.length)(w:World):
  ∀ (d k f v:Nat),k+d=5→d<f→v<bdW k→∃ v' wl,K_j K f t out i5 (fr:Int) (v:Int) true (k:Int) w=some ((v',wl,()),w)∧
   (match wvG ((((T.drop fr).take 5).map lowN).drop k) k v with | some j=>wl=true∧v'=(j:Int) | none=>wl=false):=by
 intro d
 have hsz:=hT.1
 have hwl:(((T.drop fr).take 5).map lowN).length=5:=by rw[List.length_map,List.length_take,List.length_drop];omega
 induction d with
 | zero=>
  intro k f v hk hf hv
  obtain⟨f,rfl⟩:∃ q,f=q+1:=⟨f - 1,by omega⟩
  refine⟨v,true,?_,?_⟩
  ·show K_2l K (K_j K f) t out i5 (fr:Int) (v:Int) true (k:Int) w=_
   unfold K_2l
   rw[if_neg (by simp only[decide_eq_true_eq];omega)]
  ·rw[List.drop_eq_nil_of_le (by omega)]
   exact⟨rfl,rfl⟩
 | succ d ih=>
  intro k f v hk hf hv
  obtain⟨f,rfl⟩:∃ q,f=q+1:=⟨f - 1,by omega⟩
  obtain⟨b,b1,b2⟩:=K_zb hT (i:=fr+k) (by omega)
  have e3:IntKind.i64.wrap ((k:Int)+1)=((k+1:Nat):Int):=by rw[w64 (by omega) (by omega)];rfl
  have e4:IntKind.i64.wrap ((fr:Int)+(k:Int))=((fr+k:Nat):Int):=by rw[w64 (by omega) (by omega)];rfl
  have hc256:=hTb _ (List.getElem_mem (show fr+k<T.length by omega))
  have hs3:K_5j K ((b.toNat:Nat):Int) w=some ((decide (65≤b.toNat∧b.toNat≤90),()),w):=by
   unfold K_5j
   by_cases h1:65≤b.toNat
   ·rw[if_pos (decide_eq_true (show ((b.toNat:Nat):Int)≥65 by omega))]
    have:decide (((b.toNat:Nat):Int)≤90)=decide (65≤b.toNat∧b.toNat≤90):=by rw[decide_eq_decide];omega
    rw[this]
   ·rw[if_neg (by simp only[decide_eq_true_eq];omega),decide_eq_false (show ¬(65≤b.toNat∧b.toNat≤90) by omega)]
  have hs4:K_5q K ((b.toNat:Nat):Int) (decide (65≤b.toNat∧b.toNat≤90)) w=some ((((lowN T[fr+k]:Nat):Int),()),w):=by
   unfold K_5q lowN
   rw[←b2]
   by_cases h1:65≤b.toNat∧b.toNat≤90
   ·rw[if_pos (decide_eq_true h1),if_pos h1]
    have:IntKind.u8.wrap (((b.toNat:Nat):Int)+32)=((b.toNat+32:Nat):Int):=by rw[IntKind.wrap_u8];omega
    rw[this]
   ·rw[if_neg (fun h=>h1 (of_decide_eq_true h)),if_neg h1]
  have hwk:(((T.drop fr).take 5).map lowN).drop k=lowN T[fr+k] :: (((T.drop fr).take 5).map lowN).drop (k+1):=by
   rw[List.drop_eq_getElem_cons (by omega)]
   simp
  have hvb:=bd_le k
  rw[hwk]
  have hwv:wvG (lowN T[fr+k] :: (((T.drop fr).take 5).map lowN).drop (k+1)) k v=(plG (setOf k) (lowN T[fr+k]) 0).bind fun j=>wvG ((((T.drop fr).take 5).map lowN).drop (k+1)) (k+1) (v*mulOf k+j):=rfl
  rw[hwv]
  have hrun:K_j K (f+1) t out i5 (fr:Int) (v:Int) true (k:Int) w=(if ((Int.tmod (k:Int) 2) == 0)=true then((K_34 K str1 ((lowN T[fr+k]:Nat):Int)).bind fun r_12=>
 bnd (K_9b K true r_12.1 w) fun y_13 w_14=>
 K_j K f t out i5 (fr:Int) (IntKind.i64.wrap ((IntKind.i64.wrap ((v:Int)*16))+r_12.1)) y_13.1 (IntKind.i64.wrap ((k:Int)+1)) w_14) else((K_34 K str2 ((lowN T[fr+k]:Nat):Int)).bind fun r_15=>
 bnd (K_9i K true r_15.1 w) fun y_16 w_17=>
 K_j K f t out i5 (fr:Int) (IntKind.i64.wrap ((IntKind.i64.wrap ((v:Int)*4))+r_15.1)) y_16.1 (IntKind.i64.wrap ((k:Int)+1)) w_17)):=by
   show K_2l K (K_j K f) t out i5 (fr:Int) (v:Int) true (k:Int) w=_
   unfold K_2l
   rw[if_pos (decide_eq_true (show (k:Int)<5 by omega)),e4,if_pos (Int.natCast_nonneg _),J_tn,b1,J_bs,hs3,bnd_ok]
   dsimp only
   rw[hs4,bnd_ok]
  have key:∃ S:ByteArray,IsText S (setOf k)∧K_j K (f+1) t out i5 (fr:Int) (v:Int) true (k:Int) w=(K_34 K S ((lowN T[fr+k]:Nat):Int)).bind fun r=>K_j K f t out i5 (fr:Int) (IntKind.i64.wrap ((IntKind.i64.wrap ((v:Int)*((mulOf k:Nat):Int)))+r.1)) (decide (r.1≥0)) ((k+1:Nat):Int) w:=by
   rw[hrun,e3]
   have hm:Int.tmod (k:Int) 2=((k % 2:Nat):Int):=rfl
   rw[hm]
   unfold setOf mulOf
   by_cases h1:k % 2=1
   ·refine⟨str2,by rw[if_pos h1];exact isV,?_⟩
    rw[if_neg (by rw[h1];decide),if_pos h1]
    rfl
   ·refine⟨str1,by rw[if_neg h1];exact isC,?_⟩
    rw[if_pos (by rw[beq_iff_eq];omega),if_neg h1]
    rfl
  obtain⟨S,hS,hk2⟩:=key
  have hsm:=K_16w k
  have hmn:mulOf k≤16:=by unfold mulOf;split <;> omega
  rw[hk2,K_12e hK _ hS (by rw[hsm];omega),J_bs]
  cases hp:plG (setOf k) (lowN T[fr+k]) 0 with
  | none=>
   have ea:atI none= -1:=rfl
   rw[ea]
   dsimp only
   obtain⟨v',h⟩:=K_1i8 hK hT hTb hTl (out:=out) (i5:=i5) hfr w d (k+1) f (IntKind.i64.wrap ((IntKind.i64.wrap ((v:Int)*((mulOf k:Nat):Int)))+ -1)) (by omega) (by omega)
   exact⟨v',false,h,rfl⟩
  | some j=>
   have ea:atI (some j)=(j:Int):=rfl
   rw[ea,J_bs]
   dsimp only
   have hj:=K_1b3 hp
   have hvm:v*mulOf k≤65536*16:=Nat.mul_le_mul (by omega) hmn
   have e5:IntKind.i64.wrap ((v:Int)*((mulOf k:Nat):Int))=((v*mulOf k:Nat):Int):=by rw[←Int.natCast_mul,w64 (by omega) (by omega)]
   have e6:IntKind.i64.wrap (((v*mulOf k:Nat):Int)+(j:Int))=((v*mulOf k+j:Nat):Int):=by rw[w64 (by omega) (by omega)];rfl
   rw[e5,e6,decide_eq_true (show ((j:Nat):Int)≥0 by omega)]
   exact ih (k+1) f _ (by omega) (by omega) (K_16d (by omega) hv hj)
theorem K_1ks{K:Nat}(hK:18446744073709551616≤K){t:ByteArray}{T:List Nat}(hT:IsText t T)(hTb:∀ c∈T,c<256)(hTl:T.length≤1024):
  ∀ (d i f:Nat) (w:World) (so:Sl) (O:List F),i+d=T.length→d<f→OwnS 5 w so (fb O)→O.length≤2*i→
   match rdP (T.drop i) [] O with
   | none=>∃ w',K_35 K f t so (i:Int) w=some (.ret (nilF,false,()),w')∧Upd (fun k=>so.blk=some k) w w'
   | some l=>∃ s' w',K_35 K f t so (i:Int) w=some (.norm (s',()),w')∧OwnS 5 w' s' (fb l)∧Upd (fun k=>so.blk=some k) w w'∧(∀ k,s'.blk=some k→so.blk=some k∨w.heap.size≤k)∧l.length≤2*T.length:=by
 have hsz:=hT.1
 intro d
 induction d using Nat.strongRecOn with
 | _ d ih=>
 intro i f w so O hi hf ho hO
 obtain⟨f,rfl⟩:∃ q,f=q+1:=⟨f - 1,by omega⟩
 have hun:K_35 K (f+1) t so (i:Int) w=K_i4 K (K_35 K f) t so (i:Int) w:=rfl
 rw[hun]
 unfold K_i4
 by_cases hiT:i<T.length
 ·obtain⟨b,b1,b2⟩:=K_zb hT hiT
  have e3:IntKind.i64.wrap ((i:Int)+1)=((i+1:Nat):Int):=by rw[w64 (by omega) (by omega)];rfl
  have hg:T.getD i 0=T[i]:=by rw[J_gd,J_ge hiT];rfl
  rw[if_pos (decide_eq_true (show (i:Int)<((t.size:Nat):Int) by omega)),if_pos (Int.natCast_nonneg _),J_tn,b1,J_bs,b2,rgap,J_bs]
  dsimp only
  by_cases hgp:gapB T[i]=true
  ·rw[if_pos hgp,e3]
   have hrd:rdP (T.drop i) [] O=rdP (T.drop (i+1)) [] O:=by
    rw[List.drop_eq_getElem_cons hiT]
    show (if gapB T[i]=true then _ else _)=_
    rw[if_pos hgp];rfl
   rw[hrd]
   exact ih (d - 1) (by omega) (i+1) f w so O (by omega) (by omega) ho (by omega)
  ·rw[if_neg hgp,K_1ko hT hTl w d i K hi (by omega),bnd_ok]
   dsimp only
   obtain⟨sc1,sc2,sc3,sc4⟩:=K_185 T d i hi
   have hsi:i<scanN T d i:=by
    rcases Nat.lt_or_ge i (scanN T d i) with h | h
    ·exact h
    ·have he:scanN T d i=i:=by omega
     have:=sc4 (by omega)
     rw[he,hg]at this
     exact absurd this hgp
   obtain⟨E,hE⟩:∃ E,E=scanN T d i:=⟨_,rfl⟩
   rw[←hE]at sc1 sc2 sc3 sc4 hsi ⊢
   obtain⟨W,hW⟩:∃ W,W=(T.drop i).take (E - i):=⟨_,rfl⟩
   have hWl:W.length=E - i:=by rw[hW,List.length_take,List.length_drop];omega
   have hsplit:T.drop i=W ++ T.drop E:=by
    rw[hW]
    conv=>lhs;rw[←List.take_append_drop (E - i) (T.drop i)]
    rw[List.drop_drop,show i+(E - i)=E by omega]
   have hWg:∀ c∈W,gapB c=false:=fun c hc=>by
    obtain⟨k,hk,rfl⟩:=List.getElem_of_mem hc
    have hk':i+k<T.length:=by omega
    have:=sc3 (i+k) (by omega) (by omega)
    rw[J_gd,J_ge hk']at this
    have e:W[k]=T[i+k]:=by simp[hW]
    rw[e];exact this
   have hR:T.drop E=[]∨∃ c R',T.drop E=c :: R'∧gapB c=true:=by
    by_cases h:E<T.length
    ·right
     refine⟨T[E],T.drop (E+1),List.drop_eq_getElem_cons h,?_⟩
     have:=sc4 h
     rwa [J_gd,J_ge h]at this
    ·left;exact List.drop_eq_nil_of_le (by omega)
   have hrd:rdP (T.drop i) [] O=(endW (W.map lowN) O).bind fun O'=>rdP (T.drop E) [] O':=by
    rw[hsplit,K_14k W _ _ _ hWg,List.nil_append,K_1m0 hR]
   rw[hrd]
   have hWne:W.map lowN≠[]:=fun e=>by have:=congrArg List.length e;simp at this;rw[this]at hWl;simp at hWl;omega
   have e5:IntKind.i64.wrap (((E:Nat):Int) - (i:Int))=((E - i:Nat):Int):=by rw[w64 (by omega) (by omega)];omega
   rw[e5]
   unfold endW
   rw[if_neg hWne,List.length_map,hWl]
   by_cases h5:E - i=5
   ·rw[if_neg (show ¬((((E - i:Nat)):Int) != 5)=true by rw[h5];decide),if_neg (show ¬(E - i≠5) by omega),J_bs]
    have hW5:(T.drop i).take 5=W:=by rw[hW,h5]
    obtain⟨v',wl,l1,l2⟩:=K_1k9 (K:=K) (by omega) hT hTb hTl (out:=so) (i5:=((E:Nat):Int)) (fr:=i) (by omega) w 5 0 K 0 (by omega) (by omega) (by decide)
    rw[hW5,List.drop_zero]at l2
    have l1:K_j K K t so ((E:Nat):Int) (i:Int) 0 true 0 w=some ((v',wl,()),w):=l1
    have hwN:K_cp K v' (!wl) w=some ((((worthN (W.map lowN):Nat):Int),()),w):=by
     unfold K_cp worthN
     cases hw:wvG (W.map lowN) 0 0 with
     | none=>rw[hw]at l2;rw[l2,if_pos (by rfl)];rfl
     | some j=>rw[hw]at l2;rw[l2.1,l2.2,if_neg (by decide)];rfl
    have hlt:=K_17f (wd:=W.map lowN) (by rw[List.length_map,hWl,h5])
    rw[l1,bnd_ok]
    dsimp only
    rw[hwN,bnd_ok]
    dsimp only
    obtain⟨w1,a1,a2,a3,a4⟩:=K_87 sliceB (fb (worthB (W.map lowN))) (fun v hv=>by obtain⟨x,_,rfl⟩:=List.mem_map.1 hv;rfl) (by rw[K_1];simp[worthB]) (by rw[K_1];simp[worthB]) w
    have g1:IntKind.u8.wrap (IntKind.i64.wrap (Int.tdiv ((worthN (W.map lowN):Nat):Int) 256))=((worthN (W.map lowN) / 256 % 256:Nat):Int):=by
     have:Int.tdiv ((worthN (W.map lowN):Nat):Int) 256=((worthN (W.map lowN) / 256:Nat):Int):=rfl
     rw[this,w64 (by omega) (by omega),IntKind.wrap_u8];rfl
    have g2:IntKind.u8.wrap (Int.tmod ((worthN (W.map lowN):Nat):Int) 256)=((worthN (W.map lowN) % 256:Nat):Int):=by
     have:Int.tmod ((worthN (W.map lowN):Nat):Int) 256=((worthN (W.map lowN) % 256:Nat):Int):=rfl
     rw[this,IntKind.wrap_u8];omega
    have a1:bldS prog 23 2 #[(0,(.int .u8 ((worthN (W.map lowN) / 256 % 256:Nat):Int))),(1,(.int .u8 ((worthN (W.map lowN) % 256:Nat):Int)))] w=some (⟨some ⟨w.heap.size,0,none⟩,2,2⟩,w1):=a1
    have a2:OwnS 5 w1 ⟨some ⟨w.heap.size,0,none⟩,2,2⟩ (fb (worthB (W.map lowN))):=a2
    have hol:=ho.len
    rw[K_1]at hol
    obtain⟨s2,w2,c1,c2,c3,c4,c5⟩:=K_1e sliceB (ho.upd0 a3) (a2.src K_f) (by show (so.len+2)*1≤_;omega)
    rw[←K_4s]at c3
    have q1:=a3.size
    have u2:Upd (fun k=>so.blk=some k) w w2:=(a3.mono (T:=fun k=>so.blk=some k) fun _ _ e=>e.elim).trans' c4 fun _ _ e=>e
    have q2:=u2.size
    have hs2:∀ k,s2.blk=some k→so.blk=some k∨w.heap.size≤k:=fun k hk=>by
     rcases c5 with e | e
     ·rw[e]at hk;exact .inl hk
     ·rw[e]at hk;have e2:w1.heap.size=k:=Option.some.inj hk;exact .inr (by omega)
    have hrec:=ih (T.length - E) (by omega) E f w2 s2 _ (by omega) (by omega) c3 (by rw[List.length_append];show O.length+2≤_;omega)
    rw[g1,g2,a1,bnd_ok]
    dsimp only
    rw[c1,bnd_ok]
    cases hrr:rdP (T.drop E) [] (O ++ worthB (W.map lowN)) with
    | none=>
     rw[hrr]at hrec
     obtain⟨w',y1,y2⟩:=hrec
     exact⟨w',y1,u2.trans' y2 fun k hk e=>(hs2 k e).elim id fun e2=>absurd hk (by omega)⟩
    | some l=>
     rw[hrr]at hrec
     obtain⟨s',w',y1,y2,y3,y4,y5⟩:=hrec
     exact⟨s',w',y1,y2,u2.trans' y3 (fun k hk e=>(hs2 k e).elim id fun e2=>absurd hk (by omega)),fun k hk=>(y4 k hk).elim (hs2 k) fun e=>.inr (by omega),y5⟩
   ·rw[if_pos (show ((((E - i:Nat)):Int) != 5)=true by rw[bne_iff_ne];omega),if_pos (show E - i≠5 from h5),Option.bind_none]
    exact⟨w,rfl,Upd.refl _ _⟩
 ·rw[if_neg (by simp only[decide_eq_true_eq];omega),List.drop_eq_nil_of_le (by omega)]
  exact⟨so,w,rfl,ho,Upd.refl _ _,fun k hk=>.inl hk,by omega⟩
theorem K_1kl{K:Nat}(hK:18446744073709551616≤K)(w:World){t:ByteArray}{T:List Nat}(hT:IsText t T)(hTb:∀ c∈T,c<256)(hTl:T.length≤1024):
  ∃ s v w',K_ey K t w=some ((s,v,()),w')∧Upd none_ w w'∧(match rdP T [] [] with | some l=>v=true∧OwnS 5 w' s (fb l)∧Fresh w.heap.size s∧l.length≤2*T.length | none=>v=false):=by
 have h:=K_1ks hK hT hTb hTl T.length 0 K w nilF [] (by omega) (by omega) (OwnS.nil _ _) (by simp)
 rw[List.drop_zero]at h
 unfold K_ey
 cases hr:rdP T [] [] with
 | none=>
  rw[hr]at h
  obtain⟨w',y1,y2⟩:=h
  have y1:K_35 K K t nilF 0 w=_:=y1
  exact⟨nilF,false,w',by rw[y1,bnd_ok],y2.mono (fun k _ e=>by cases e),rfl⟩
 | some l=>
  rw[hr]at h
  obtain⟨s',w',y1,y2,y3,y4,y5⟩:=h
  have y1:K_35 K K t nilF 0 w=_:=y1
  exact⟨s',true,w',by rw[y1,bnd_ok],y3.mono (fun k _ e=>by cases e),rfl,y2,fun k hk=>(y4 k hk).elim (fun e=>by cases e) id,y5⟩
end Go.Sh

namespace Go.Sh
open Go.Fw Go.Gf Go.RowKit Go.Proofs.Tryd
def bAt(c:List F)(i:Nat):Nat:=(c.getD i 0).n
theorem K_2u(c:List F)(i:Nat):bAt c i<256:=(c.getD i 0).lt
def setN(c:List F):Nat:=bAt c 0*256+bAt c 1
def shL(s need idx size:Nat):List Value:=[.int .u16 (s:Int),.int .i64 (need:Int),.int .i64 (idx:Int),.int .i64 (size:Int)]
def fitB(c:List F):Bool:=decide (1≤bAt c 2∧bAt c 2≤16∧1≤bAt c 3∧1≤bAt c 4∧bAt c 4≤64∧c.length=5+(bAt c 4+4)+(5+(bAt c 4+4)) % 2+4∧((5+(bAt c 4+4)) % 2=1→bAt c (5+(bAt c 4+4))=0))
def valsP(c:List F):List F:=(c.drop 5).take (bAt c 4+4)
theorem K_1a3(c:List F):fitB c=true↔(1≤bAt c 2∧bAt c 2≤16∧1≤bAt c 3∧1≤bAt c 4∧bAt c 4≤64∧c.length=5+(bAt c 4+4)+(5+(bAt c 4+4)) % 2+4∧((5+(bAt c 4+4)) % 2=1→bAt c (5+(bAt c 4+4))=0)):=by unfold fitB;rw[decide_eq_true_eq]
theorem K_ns{c:List F}(h:fitB c=true):(valsP c).length=bAt c 4+4:=by
 obtain⟨_,_,_,_,_,h6,_⟩:=(K_1a3 c).1 h
 unfold valsP
 rw[List.length_take,List.length_drop];omega
theorem built84(a b c d:Int):prog.built 84 [(0,(.int .u16 a)),(1,(.int .i64 b)),(2,(.int .i64 c)),(3,(.int .i64 d))]=some #[.int .u16 a,.int .i64 b,.int .i64 c,.int .i64 d]:=by kernel_rfl
theorem built84z:prog.built 84 []=some (shL 0 0 0 0).toArray:=by kernel_rfl
theorem built102(a b c d:Int):prog.built 102 [(0,(.agg #[.int .u16 a,.int .i64 b,.int .i64 c,.int .i64 d]))]=some #[.int .u16 a,.int .i64 b,.int .i64 c,.int .i64 d,.slice none 0 0]:=by kernel_rfl
theorem built102z:prog.built 102 []=some (shL 0 0 0 0 ++ [slF nilF]).toArray:=by kernel_rfl
theorem K_j8:z102=(shL 0 0 0 0 ++ [slF nilF]).toArray:=by kernel_rfl
theorem K_yt:z84=(shL 0 0 0 0).toArray:=by kernel_rfl
theorem K_d0{w:World}{b:Sl}{c:List F}(hs:BSrc w b c){i:Nat}(hi:i<c.length):∃ p,b.a=some p∧ldI .u8 (p.add i) w=some ((bAt c i:Nat):Int):=by
 obtain⟨p,p1,p2⟩:=K_1a hs hi
 refine⟨p,p1,?_⟩
 rw[p2]
 unfold bAt bF
 rw[J_gd,J_ge hi];rfl
theorem K_9y(n:Int):IntKind.u16.wrap n=n % 65536:=by simp[IntKind.wrap,IntKind.bits,IntKind.signed]
theorem K_1m8{a b:Nat}(ha:a<256)(hb:b<256):bits .or .u16 (IntKind.u16.wrap ((IntKind.u16.wrap (a:Int))*2 ^ 8)) (IntKind.u16.wrap (b:Int))=((a*256+b:Nat):Int):=by
 have e1:IntKind.u16.wrap (a:Int)=(a:Int):=by rw[K_9y];omega
 have e2:IntKind.u16.wrap (b:Int)=(b:Int):=by rw[K_9y];omega
 have e3:(a:Int)*2 ^ 8=((a*256:Nat):Int):=by simp
 have e4:IntKind.u16.wrap ((a*256:Nat):Int)=((a*256:Nat):Int):=by rw[K_9y];omega
 rw[e1,e2,e3,e4,(K_bq (k:=.u16) rfl (show a*256<2 ^ 16 by omega) (show b<2 ^ 16 by omega)).2.1]
 have:=Nat.two_pow_add_eq_or_of_lt (i:=8) (show b<2 ^ 8 by omega) a
 rw[Nat.mul_comm]at this
 rw[show a*256=a*2 ^ 8 from rfl,←this]
theorem K_1kj{a b:Nat}(ha:a<256)(hb:b<256):IntKind.u16.wrap ((IntKind.u16.wrap ((IntKind.u16.wrap (a:Int))*256))+(IntKind.u16.wrap (b:Int)))=((a*256+b:Nat):Int):=by
 have e1:IntKind.u16.wrap (a:Int)=(a:Int):=by rw[K_9y];omega
 have e2:IntKind.u16.wrap (b:Int)=(b:Int):=by rw[K_9y];omega
 rw[e1,e2]
 have e4:IntKind.u16.wrap ((a:Int)*256)=((a*256:Nat):Int):=by rw[K_9y];omega
 rw[e4,K_9y];omega
theorem K_n3{a:Nat}(ha:a<256):IntKind.i64.wrap (a:Int)=(a:Int):=w64 (by omega) (by omega)
theorem K_es(s n i z:Nat):∀ v∈shL s n i z,v.oneCell'=true:=fun v hv=>by
 simp only[shL,List.mem_cons,List.not_mem_nil,or_false]at hv
 rcases hv with rfl | rfl | rfl | rfl <;> rfl
theorem K_ew(s n i z:Nat)(sv:Sl):∀ v∈shL s n i z ++ [slF sv],v.oneCell'=true:=fun v hv=>by
 rcases List.mem_append.1 hv with h | h
 ·exact K_es s n i z v h
 ·simp only[List.mem_singleton]at h;rw[h];rfl
theorem K_1k0{w:World}{b:Sl}{c:List F}(hs:BSrc w b c)(h5:5≤c.length):
  ∃ g w',K_bi b w=some ((⟨g,0,none⟩,()),w')∧Bk 102 w' g (shL (setN c) (bAt c 2) (bAt c 3) (bAt c 4) ++ [slF nilF])∧Upd none_ w w'∧w.heap.size≤g:=by
 have hbl:b.len=c.length:=by rw[hs.len,K_1]
 have hd:=hs.upd0 (Upd.refl none_ w).drew
 obtain⟨p,p1,p2⟩:=K_d0 hd (i:=0) (by omega)
 obtain⟨p',q1,q2⟩:=K_d0 hd (i:=1) (by omega)
 obtain rfl:p'=p:=Option.some.inj (q1.symm.trans p1)
 obtain⟨p'',r1,r2⟩:=K_d0 hd (i:=2) (by omega)
 obtain rfl:p''=p':=Option.some.inj (r1.symm.trans p1)
 obtain⟨p''',s1,s2⟩:=K_d0 hd (i:=3) (by omega)
 obtain rfl:p'''=p'':=Option.some.inj (s1.symm.trans p1)
 obtain⟨p4,t1,t2⟩:=K_d0 hd (i:=4) (by omega)
 obtain rfl:p4=p''':=Option.some.inj (t1.symm.trans p1)
 obtain⟨w1,a1,a2,a3,a4⟩:=K_9 z102 102 w.drew
 have a2:Bk 102 w1 w.heap.size (shL 0 0 0 0 ++ [slF nilF]):=by rw[K_j8]at a2;exact a2
 have a1:newB z102 102 w.drew=some (⟨w.heap.size,0,none⟩,w1):=a1
 have hd1:=hd.upd0 a3
 obtain⟨w2,b1,b2,b3⟩:=a2.stA (o:=0) (vs:=(shL (setN c) (bAt c 2) (bAt c 3) (bAt c 4) ++ [slF nilF]).toArray) (by simp[shL]) (fun v hv=>K_ew _ _ _ _ _ v hv)
 have b2:Bk 102 w2 w.heap.size (shL (setN c) (bAt c 2) (bAt c 3) (bAt c 4) ++ [slF nilF]):=b2
 have hlt:=K_h5 hs
 have hcne:c≠[]:=fun e=>by rw[e]at h5;simp at h5
 have hd2:BSrc w2 b c:=K_59 hd1 b3 fun q hq _=>by have:=hlt q hq hcne;omega
 have L:∀ {W:World},BSrc W b c→ldI .u8 (p4.add 0) W=some ((bAt c 0:Nat):Int)∧ldI .u8 (p4.add 1) W=some ((bAt c 1:Nat):Int)∧ldI .u8 (p4.add 2) W=some ((bAt c 2:Nat):Int)∧ldI .u8 (p4.add 3) W=some ((bAt c 3:Nat):Int)∧ldI .u8 (p4.add 4) W=some ((bAt c 4:Nat):Int):=fun hW=>by
  have get:∀ i,i<c.length→ldI .u8 (p4.add i) _=some ((bAt c i:Nat):Int):=fun i hi=>by
   obtain⟨p0,x1,x2⟩:=K_d0 hW hi
   obtain rfl:p0=p4:=Option.some.inj (x1.symm.trans p1)
   exact x2
  exact⟨get 0 (by omega),get 1 (by omega),get 2 (by omega),get 3 (by omega),get 4 (by omega)⟩
 obtain⟨x0,x1,x2,x3,x4⟩:=L hd
 obtain⟨y0,y1,y2,y3,y4⟩:=L hd1
 obtain⟨v0,v1,v2,v3,v4⟩:=L hd2
 have c0:(0:Int)≤0∧(0:Int)<((b.len:Nat):Int):=by omega
 have c1:(0:Int)≤1∧(1:Int)<((b.len:Nat):Int):=by omega
 have c2:(0:Int)≤2∧(2:Int)<((b.len:Nat):Int):=by omega
 have c3:(0:Int)≤3∧(3:Int)<((b.len:Nat):Int):=by omega
 have c4:(0:Int)≤4∧(4:Int)<((b.len:Nat):Int):=by omega
 have hset:=K_1m8 (K_2u c 0) (K_2u c 1)
 refine⟨w.heap.size,w2,?_,b2,((Upd.refl none_ w).drew.and0 a3).trans' b3 fun k hk e=>by omega,Nat.le_refl _⟩
 unfold K_bi
 rw[p1,J_bs,if_pos c0,J_bs,if_pos c1,J_bs,if_pos c2,J_bs,if_pos c3,J_bs,if_pos c4]
 simp only[Nat.mul_one]
 rw[x0,J_bs,x1,J_bs,x2,J_bs,x3,J_bs,x4,J_bs,hset,K_n3 (K_2u c 2),K_n3 (K_2u c 3),K_n3 (K_2u c 4),built84,J_bs,built102,J_bs,a1,bnd_ok,y4,J_bs,K_a,y3,J_bs,K_a,y2,J_bs,K_a,y1,J_bs,K_a,y0,J_bs,K_a,if_pos (by rfl)]
 have b1:stA ⟨w.heap.size,0,none⟩ #[.int .u16 ((bAt c 0*256+bAt c 1:Nat):Int),.int .i64 ((bAt c 2:Nat):Int),.int .i64 ((bAt c 3:Nat):Int),.int .i64 ((bAt c 4:Nat):Int),.slice none 0 0] w1=some w2:=b1
 rw[b1,J_bs,v4,J_bs,K_a,v3,J_bs,K_a,v2,J_bs,K_a,v1,J_bs,K_a,v0,J_bs,K_a]
theorem K_1ku{w:World}{b:Sl}{c:List F}(hs:BSrc w b c)(h5:5≤c.length):
  ∃ g w',K_ch b w=some ((⟨g,0,none⟩,()),w')∧Bk 84 w' g (shL (setN c) (bAt c 2) (bAt c 3) (bAt c 4))∧Upd none_ w w'∧w.heap.size≤g:=by
 have hbl:b.len=c.length:=by rw[hs.len,K_1]
 have hd:=hs.upd0 (Upd.refl none_ w).drew
 obtain⟨p4,p1,p2⟩:=K_d0 hd (i:=0) (by omega)
 obtain⟨w1,a1,a2,a3,a4⟩:=K_9 z84 84 w.drew
 have a2:Bk 84 w1 w.heap.size (shL 0 0 0 0):=by rw[K_yt]at a2;exact a2
 have a1:newB z84 84 w.drew=some (⟨w.heap.size,0,none⟩,w1):=a1
 have hd1:=hd.upd0 a3
 obtain⟨w2,b1,b2,b3⟩:=a2.stA (o:=0) (vs:=(shL (setN c) (bAt c 2) (bAt c 3) (bAt c 4)).toArray) (by simp[shL]) (fun v hv=>K_es _ _ _ _ v hv)
 have b2:Bk 84 w2 w.heap.size (shL (setN c) (bAt c 2) (bAt c 3) (bAt c 4)):=b2
 have hlt:=K_h5 hs
 have hcne:c≠[]:=fun e=>by rw[e]at h5;simp at h5
 have hd2:BSrc w2 b c:=K_59 hd1 b3 fun q hq _=>by have:=hlt q hq hcne;omega
 have L:∀ {W:World},BSrc W b c→ldI .u8 (p4.add 0) W=some ((bAt c 0:Nat):Int)∧ldI .u8 (p4.add 1) W=some ((bAt c 1:Nat):Int)∧ldI .u8 (p4.add 2) W=some ((bAt c 2:Nat):Int)∧ldI .u8 (p4.add 3) W=some ((bAt c 3:Nat):Int)∧ldI .u8 (p4.add 4) W=some ((bAt c 4:Nat):Int):=fun hW=>by
  have get:∀ i,i<c.length→ldI .u8 (p4.add i) _=some ((bAt c i:Nat):Int):=fun i hi=>by
   obtain⟨p0,x1,x2⟩:=K_d0 hW hi
   obtain rfl:p0=p4:=Option.some.inj (x1.symm.trans p1)
   exact x2
  exact⟨get 0 (by omega),get 1 (by omega),get 2 (by omega),get 3 (by omega),get 4 (by omega)⟩
 obtain⟨x0,x1,x2,x3,x4⟩:=L hd
 obtain⟨y0,y1,y2,y3,y4⟩:=L hd1
 obtain⟨v0,v1,v2,v3,v4⟩:=L hd2
 have c0:(0:Int)≤0∧(0:Int)<((b.len:Nat):Int):=by omega
 have c1:(0:Int)≤1∧(1:Int)<((b.len:Nat):Int):=by omega
 have c2:(0:Int)≤2∧(2:Int)<((b.len:Nat):Int):=by omega
 have c3:(0:Int)≤3∧(3:Int)<((b.len:Nat):Int):=by omega
 have c4:(0:Int)≤4∧(4:Int)<((b.len:Nat):Int):=by omega
 have hset:=K_1kj (K_2u c 0) (K_2u c 1)
 refine⟨w.heap.size,w2,?_,b2,((Upd.refl none_ w).drew.and0 a3).trans' b3 fun k hk e=>by omega,Nat.le_refl _⟩
 unfold K_ch
 rw[p1,J_bs,if_pos c0,J_bs,if_pos c1,J_bs,if_pos c2,J_bs,if_pos c3,J_bs,if_pos c4]
 simp only[Nat.mul_one]
 rw[x0,J_bs,x1,J_bs,x2,J_bs,x3,J_bs,x4,J_bs,hset,K_n3 (K_2u c 2),K_n3 (K_2u c 3),K_n3 (K_2u c 4),built84,J_bs,a1,bnd_ok,y4,J_bs,K_a,y3,J_bs,K_a,y2,J_bs,K_a,y1,J_bs,K_a,y0,J_bs,K_a,if_pos (by rfl)]
 have b1:stA ⟨w.heap.size,0,none⟩ #[.int .u16 ((bAt c 0*256+bAt c 1:Nat):Int),.int .i64 ((bAt c 2:Nat):Int),.int .i64 ((bAt c 3:Nat):Int),.int .i64 ((bAt c 4:Nat):Int)] w1=some w2:=b1
 rw[b1,J_bs,v4,J_bs,K_a,v3,J_bs,K_a,v2,J_bs,K_a,v1,J_bs,K_a,v0,J_bs,K_a]
end Go.Sh

namespace Go.Sh
open Go.Fw Go.Gf Go.RowKit Go.Proofs.Tryd
theorem K_rm{e:TypeId}{w:World}{g:Nat}{s n i z:Nat}{tl:List Value}(b:Bk e w g (shL s n i z ++ tl)):
  ldI .u16 (⟨g,0,none⟩:Addr) w=some (s:Int)∧ldI .i64 (⟨g,1,none⟩:Addr) w=some (n:Int)∧ldI .i64 (⟨g,2,none⟩:Addr) w=some (i:Int)∧ldI .i64 (⟨g,3,none⟩:Addr) w=some (z:Int):=
 ⟨b.ldI rfl,b.ldI rfl,b.ldI rfl,b.ldI rfl⟩
theorem K_1d3(s n i z:Nat)(a b:Sl):(shL s n i z ++ [slF a]).set 4 (slF b)=shL s n i z ++ [slF b]:=rfl
def okN(c:List F):Bool:=decide (1≤bAt c 2∧bAt c 2≤16∧1≤bAt c 3∧1≤bAt c 4∧bAt c 4≤64)
theorem K_1jj{w:World}{g:Nat}{e:TypeId}{c:List F}{tl:List Value}(b:Bk e w g (shL (setN c) (bAt c 2) (bAt c 3) (bAt c 4) ++ tl)):K_ax ⟨g,0,none⟩ w=some ((!okN c,()),w):=by
 obtain⟨l0,l1,l2,l3⟩:=K_rm b
 unfold K_ax okN
 simp only[add_lit,Nat.zero_add,l1,l2,l3,J_bs]
 by_cases h1:1≤bAt c 2
 ·rw[if_neg (by simp only[decide_eq_true_eq];omega)]
  by_cases h2:bAt c 2≤16
  ·rw[if_neg (by simp only[decide_eq_true_eq];omega)]
   by_cases h3:1≤bAt c 3
   ·rw[if_neg (by simp only[decide_eq_true_eq];omega)]
    by_cases h4:1≤bAt c 4
    ·rw[if_neg (by simp only[decide_eq_true_eq];omega)]
     by_cases h5:bAt c 4≤64
     ·rw[decide_eq_false (show ¬((bAt c 4:Nat):Int) > 64 by omega),decide_eq_true ⟨h1,h2,h3,h4,h5⟩];rfl
     ·rw[decide_eq_true (show ((bAt c 4:Nat):Int) > 64 by omega),decide_eq_false (fun h=>h5 h.2.2.2.2)];rfl
    ·rw[if_pos (by simp only[decide_eq_true_eq];omega),decide_eq_false (fun h=>h4 h.2.2.2.1)];rfl
   ·rw[if_pos (by simp only[decide_eq_true_eq];omega),decide_eq_false (fun h=>h3 h.2.2.1)];rfl
  ·rw[if_pos (by simp only[decide_eq_true_eq];omega),decide_eq_false (fun h=>h2 h.2.1)];rfl
 ·rw[if_pos (by simp only[decide_eq_true_eq];omega),decide_eq_false (fun h=>h1 h.1)];rfl
theorem K_133{c:List F}:fitB c=(okN c && decide (c.length=5+(bAt c 4+4)+(5+(bAt c 4+4)) % 2+4∧((5+(bAt c 4+4)) % 2=1→bAt c (5+(bAt c 4+4))=0))):=by
 unfold fitB okN
 rw[Bool.eq_iff_iff]
 simp only[Bool.and_eq_true,decide_eq_true_eq]
 constructor
 ·rintro⟨a,b,c,d,e,f,g⟩;exact⟨⟨a,b,c,d,e⟩,f,g⟩
 ·rintro⟨⟨a,b,c,d,e⟩,f,g⟩;exact⟨a,b,c,d,e,f,g⟩
theorem K_1jn{w:World}{b:Sl}{c:List F}(hs:BSrc w b c)(h5:5≤c.length)(hl:c.length≤1000):
  ∃ cs w',K_cw b w=some ((cs,fitB c,()),w')∧Upd none_ w w'∧(if fitB c=true then ∃ sv,cs=(shL (setN c) (bAt c 2) (bAt c 3) (bAt c 4) ++ [slF sv]).toArray∧BSrc w' sv (valsP c)∧(∀ q,sv.a=some q→∃ p,b.a=some p∧q.block=p.block) else cs=(shL 0 0 0 0 ++ [slF nilF]).toArray):=by
 have hbl:b.len=c.length:=by rw[hs.len,K_1]
 obtain⟨w1,a1,a2,a3,a4⟩:=K_9 z102 102 w
 have a2:Bk 102 w1 w.heap.size (shL 0 0 0 0 ++ [slF nilF]):=by rw[K_j8]at a2;exact a2
 obtain⟨g,w2,b1,b2,b3,b4⟩:=K_1k0 (hs.upd0 a3) h5
 have u2:=a3.and0 b3
 have q1:=a3.size
 have q2:=b3.size
 have zero:∀ (w3:World),Upd none_ w1 w3→∃ w4,((prog.built 102 []).bind fun cs_37=>
 if (cs_37).size=5 then((stA ⟨w.heap.size,0,none⟩ cs_37 w3).bind fun w_38=>
 (ldA 5 ⟨w.heap.size,0,none⟩ w_38).bind fun res_39=>
 some ((res_39,false,()),w_38)) else none)=some (((shL 0 0 0 0 ++ [slF nilF]).toArray,false,()),w4)∧Upd none_ w w4:=fun w3 u3=>by
  obtain⟨w4,c1,c2,c3⟩:=(a2.upd0 u3).stA (o:=0) (vs:=(shL 0 0 0 0 ++ [slF nilF]).toArray) (by simp[shL]) (fun v hv=>K_ew _ _ _ _ _ v hv)
  have c2:Bk 102 w4 w.heap.size (shL 0 0 0 0 ++ [slF nilF]):=c2
  have c4:=c2.ldA (i:=0) (n:=5) (by simp[shL])
  have c4:ldA 5 ⟨w.heap.size,0,none⟩ w4=some (shL 0 0 0 0 ++ [slF nilF]).toArray:=c4
  exact⟨w4,by rw[built102z,J_bs,if_pos (by rfl),c1,J_bs,c4,J_bs],(a3.and0 u3).trans' c3 fun k hk e=>by omega⟩
 unfold K_cw
 rw[a1,bnd_ok,b1,bnd_ok]
 dsimp only
 rw[K_1jj b2,bnd_ok]
 dsimp only
 obtain⟨l0,l1,l2,l3⟩:=K_rm b2
 by_cases hok:okN c=true
 ·have hb:=hok
  unfold okN at hb
  obtain⟨h1,h2,h3,h4,h64⟩:=of_decide_eq_true hb
  obtain⟨n,hn⟩:∃ n,n=bAt c 4+4:=⟨_,rfl⟩
  have e1:IntKind.i64.wrap (((bAt c 4:Nat):Int)+4)=((n:Nat):Int):=by rw[w64 (by omega) (by omega)];omega
  have e2:IntKind.i64.wrap (5+((n:Nat):Int))=((5+n:Nat):Int):=by rw[w64 (by omega) (by omega)];omega
  have e3:Int.tmod ((5+n:Nat):Int) 2=(((5+n) % 2:Nat):Int):=rfl
  have e4:IntKind.i64.wrap (((5+n:Nat):Int)+(((5+n) % 2:Nat):Int))=((5+n+(5+n) % 2:Nat):Int):=by rw[w64 (by omega) (by omega)];omega
  have e5:IntKind.i64.wrap (((5+n+(5+n) % 2:Nat):Int)+4)=((5+n+(5+n) % 2+4:Nat):Int):=by rw[w64 (by omega) (by omega)];omega
  have hf:fitB c=decide (c.length=5+n+(5+n) % 2+4∧((5+n) % 2=1→bAt c (5+n)=0)):=by rw[K_133,hok,←hn];rfl
  have hs2:K_b1 b ((n:Nat):Int) (((5+n) % 2:Nat):Int) w2=some ((!fitB c,()),w2):=by
   unfold K_b1
   rw[e2,e4,e5,hf,hbl]
   by_cases hlen:c.length=5+n+(5+n) % 2+4
   ·rw[if_neg (by rw[bne_iff_ne];omega)]
    by_cases hp:(5+n) % 2=1
    ·obtain⟨p,p1,p2⟩:=K_d0 (hs.upd0 u2) (i:=5+n) (by omega)
     have cc:(0:Int)≤((5+n:Nat):Int)∧((5+n:Nat):Int)<((c.length:Nat):Int):=by omega
     rw[if_pos (by rw[hp];rfl),p1,J_bs,if_pos cc,J_tn,Nat.mul_one,p2,J_bs]
     have:(((bAt c (5+n):Nat):Int) != 0)=!decide (c.length=5+n+(5+n) % 2+4∧((5+n) % 2=1→bAt c (5+n)=0)):=by
      by_cases hz:bAt c (5+n)=0
      ·rw[hz,decide_eq_true ⟨hlen,fun _=>rfl⟩];rfl
      ·rw[decide_eq_false (fun h=>hz (h.2 hp))]
       have:(((bAt c (5+n):Nat):Int) != 0)=true:=by rw[bne_iff_ne];omega
       rw[this];rfl
     rw[this]
    ·rw[if_neg (by rw[beq_iff_eq];omega),decide_eq_true ⟨hlen,fun h=>absurd h hp⟩];rfl
   ·rw[if_pos (by rw[bne_iff_ne];omega),decide_eq_false (fun h=>hlen h.1)];rfl
  have ea:(((⟨g,0,none⟩:Addr).add 0).add 3)=⟨g,3,none⟩:=by simp only[add_lit,Nat.zero_add]
  rw[hok,if_neg (by decide),ea,l3,J_bs,e1,e2,e3,hs2,bnd_ok]
  dsimp only
  by_cases hfit:fitB c=true
  ·have hcl:c.length=5+n+(5+n) % 2+4:=(of_decide_eq_true (hf ▸ hfit)).1
   have hcap:=hs.cap
   rw[hfit,if_neg (by decide)]
   have c1:(0:Int)≤((5+n:Nat):Int)∧((5+n:Nat):Int)≤((b.cap:Nat):Int):=by omega
   have c2:(0:Int)≤((5+n:Nat):Int)∧((5+n:Nat):Int)≤(((Int.toNat ((5+n:Nat):Int)):Nat):Int):=by rw[J_tn];omega
   have c3:(0:Int)≤5∧(5:Int)≤(((Int.toNat ((5+n:Nat):Int)):Nat):Int):=by rw[J_tn];omega
   rw[if_pos c1,if_pos c2,if_pos c3,J_tn]
   obtain⟨sv,hsv⟩:∃ sv:Sl,sv=⟨sla b.a 5 (5+n) 1,5+n - 5,5+n - 5⟩:=⟨_,rfl⟩
   obtain⟨w3,d1,d2,d3⟩:=b2.stC (i:=4) (by simp[shL]) (slF sv)
   rw[K_1d3]at d2
   have d1:stC ⟨g,4,none⟩ (.slice (sla b.a 5 (5+n) 1) (5+n - 5) (5+n - 5)) w2=some w3:=by rw[hsv]at d1;exact d1
   have d4:=d2.ldA (i:=0) (n:=5) (by simp[shL])
   have d4:ldA 5 ⟨g,0,none⟩ w3=some (shL (setN c) (bAt c 2) (bAt c 3) (bAt c 4) ++ [slF sv]).toArray:=d4
   have hgw:g≠w.heap.size:=by omega
   have u3:Upd none_ w w3:=u2.trans' d3 fun k hk e=>by omega
   obtain⟨w4,f1,f2,f3⟩:=((a2.upd0 b3).upd d3 (fun e=>hgw e.symm)).stA (o:=0) (vs:=(shL (setN c) (bAt c 2) (bAt c 3) (bAt c 4) ++ [slF sv]).toArray) (by simp[shL]) (fun v hv=>K_ew _ _ _ _ _ v hv)
   have f2:Bk 102 w4 w.heap.size (shL (setN c) (bAt c 2) (bAt c 3) (bAt c 4) ++ [slF sv]):=f2
   have f4:=f2.ldA (i:=0) (n:=5) (by simp[shL])
   have f4:ldA 5 ⟨w.heap.size,0,none⟩ w4=some (shL (setN c) (bAt c 2) (bAt c 3) (bAt c 4) ++ [slF sv]).toArray:=f4
   have u4:Upd none_ w w4:=u3.trans' f3 fun k hk e=>by omega
   refine⟨(shL (setN c) (bAt c 2) (bAt c 3) (bAt c 4) ++ [slF sv]).toArray,w4,?_,u4,?_⟩
   ·rw[add_lit,Nat.zero_add,d1,J_bs,d4,J_bs,if_pos (by rfl),f1,J_bs,f4,J_bs]
   rw[if_pos rfl]
   refine⟨sv,rfl,?_,fun q hq=>?_⟩
   ·have h0:=(hs.upd0 u4)
    have h1:=(K_11y h0 (lo:=5) (by rw[K_1];omega)).cut (n:=n) (by show n≤b.len - 5;omega)
    have h1:Fw.Src w4 ⟨sla b.a 5 b.cap 1,n,b.cap - 5⟩ ((fb c).drop 5 |>.take n):=h1
    rw[K_17c,K_jo]at h1
    have hsla:sla b.a 5 (5+n) 1=sla b.a 5 b.cap 1:=by
     unfold sla
     rw[if_neg (by omega),if_neg (by omega)]
    have hvp:valsP c=(c.drop 5).take n:=by unfold valsP;rw[←hn]
    have hvl:=K_ns hfit
    rw[hvp]at hvl ⊢
    refine⟨?_,?_,?_,h1.one⟩
    ·rw[hsv,K_1,hvl]
     show 5+n - 5=_;omega
    ·rw[hsv];exact Nat.le_refl _
    ·rw[hsv]
     rcases h1.rd with ⟨x1,x2,x3⟩ | ⟨p,x1,x2⟩
     ·have h0:((c.drop 5).take n).length=0:=by
       have h:=congrArg List.length x3
       rw[K_1]at h
       exact h
      omega
     ·exact .inr ⟨p,by show sla b.a 5 (5+n) 1=some p;rw[hsla];exact x1,x2⟩
   ·rw[hsv]at hq
    exact K_1i4 hq
  ·have hff:fitB c=false:=by simpa using hfit
   rw[hff,if_pos (by decide)]
   obtain⟨w4,z1,z2⟩:=zero w2 b3
   exact⟨_,w4,z1,z2,by rw[if_neg (by decide)]⟩
 ·have hff:okN c=false:=by simpa using hok
  have hfz:fitB c=false:=by rw[K_133,hff];rfl
  rw[hff,if_pos (by decide),hfz]
  obtain⟨w4,z1,z2⟩:=zero w2 b3
  exact⟨_,w4,z1,z2,by rw[if_neg (by decide)]⟩
end Go.Sh

namespace Go.Sh
open Go.Fw Go.Gf Go.RowKit Go.Proofs.Tryd
theorem K_1l7{n:Nat}(hn:n≤1000)(w:World):K_ci ((5+n+4:Nat):Int) ((Int.tmod ((5+n+4:Nat):Int) 2) == 1) w=some ((((5+n+(5+n) % 2+4:Nat):Int),()),w):=by
 have e:Int.tmod ((5+n+4:Nat):Int) 2=(((5+n+4) % 2:Nat):Int):=rfl
 unfold K_ci
 rw[e]
 by_cases h:(5+n) % 2=1
 ·have h2:(5+n+4) % 2=1:=by omega
  have e1:IntKind.i64.wrap (((5+n+4:Nat):Int)+1)=((5+n+(5+n) % 2+4:Nat):Int):=by rw[w64 (by omega) (by omega)];omega
  rw[h2,if_pos (by rfl),e1]
 ·have h2:(5+n+4) % 2=0:=by omega
  have e1:(5+n+4:Nat)=5+n+(5+n) % 2+4:=by omega
  rw[h2,if_neg (by decide),←e1]
theorem K_1kd{w:World}{b:Sl}{c:List F}{g:Nat}{e:TypeId}(hs:BSrc w b c)(hl:c.length≤1000)(hb:Bk e w g (shL (setN c) (bAt c 2) (bAt c 3) (bAt c 4))):
  K_cn b ⟨g,0,none⟩ ((bAt c 4+4:Nat):Int) ((5+(bAt c 4+4)+(5+(bAt c 4+4)) % 2+4:Nat):Int) w=some ((!fitB c,()),w):=by
 have hbl:b.len=c.length:=by rw[hs.len,K_1]
 have hb':Bk e w g (shL (setN c) (bAt c 2) (bAt c 3) (bAt c 4) ++ []):=by rw[List.append_nil];exact hb
 obtain⟨l0,l1,l2,l3⟩:=K_rm hb'
 have h4:=K_2u c 4
 obtain⟨n,hn⟩:∃ n,n=bAt c 4+4:=⟨_,rfl⟩
 have hfb:fitB c=decide (1≤bAt c 2∧bAt c 2≤16∧1≤bAt c 3∧1≤bAt c 4∧bAt c 4≤64∧c.length=5+n+(5+n) % 2+4∧((5+n) % 2=1→bAt c (5+n)=0)):=by rw[hn];rfl
 have e2:IntKind.i64.wrap (5+((n:Nat):Int))=((5+n:Nat):Int):=by rw[w64 (by omega) (by omega)];omega
 have e3:Int.tmod ((5+n:Nat):Int) 2=(((5+n) % 2:Nat):Int):=rfl
 rw[hfb,←hn]
 unfold K_cn
 simp only[add_lit,Nat.zero_add,l1,l2,l3,J_bs,e2,e3,hbl]
 by_cases h1:1≤bAt c 2
 ·rw[if_neg (by simp only[decide_eq_true_eq];omega)]
  by_cases h2:bAt c 2≤16
  ·rw[if_neg (by simp only[decide_eq_true_eq];omega)]
   by_cases h3:1≤bAt c 3
   ·rw[if_neg (by simp only[decide_eq_true_eq];omega)]
    by_cases h4:1≤bAt c 4
    ·rw[if_neg (by simp only[decide_eq_true_eq];omega)]
     by_cases h5:bAt c 4≤64
     ·rw[if_neg (by simp only[decide_eq_true_eq];omega)]
      by_cases hlen:c.length=5+n+(5+n) % 2+4
      ·rw[if_neg (by rw[bne_iff_ne];omega)]
       by_cases hp:(5+n) % 2=1
       ·obtain⟨p,p1,p2⟩:=K_d0 hs (i:=5+n) (by omega)
        have cc:(0:Int)≤((5+n:Nat):Int)∧((5+n:Nat):Int)<((c.length:Nat):Int):=by omega
        rw[if_pos (by rw[hp];rfl),p1,J_bs,if_pos cc,J_tn,Nat.mul_one,p2,J_bs]
        by_cases hz:bAt c (5+n)=0
        ·rw[hz,decide_eq_true ⟨h1,h2,h3,h4,h5,hlen,fun _=>rfl⟩];rfl
        ·rw[decide_eq_false (fun h=>hz (h.2.2.2.2.2.2 hp))]
         have:(((bAt c (5+n):Nat):Int) != 0)=true:=by rw[bne_iff_ne];omega
         rw[this];rfl
       ·rw[if_neg (by rw[beq_iff_eq];omega),decide_eq_true ⟨h1,h2,h3,h4,h5,hlen,fun h=>absurd h hp⟩];rfl
      ·rw[if_pos (by rw[bne_iff_ne];omega),decide_eq_false (fun h=>hlen h.2.2.2.2.2.1)];rfl
     ·rw[if_pos (by simp only[decide_eq_true_eq];omega),decide_eq_false (fun h=>h5 h.2.2.2.2.1)];rfl
    ·rw[if_pos (by simp only[decide_eq_true_eq];omega),decide_eq_false (fun h=>h4 h.2.2.2.1)];rfl
   ·rw[if_pos (by simp only[decide_eq_true_eq];omega),decide_eq_false (fun h=>h3 h.2.2.1)];rfl
  ·rw[if_pos (by simp only[decide_eq_true_eq];omega),decide_eq_false (fun h=>h2 h.2.1)];rfl
 ·rw[if_pos (by simp only[decide_eq_true_eq];omega),decide_eq_false (fun h=>h1 h.1)];rfl
theorem K_1kn{w:World}{b:Sl}{c:List F}(hs:BSrc w b c)(h14:14≤c.length)(hl:c.length≤1000):
  ∃ cs s w',K_em b w=some ((cs,s,fitB c,()),w')∧Upd none_ w w'∧(if fitB c=true then cs=(shL (setN c) (bAt c 2) (bAt c 3) (bAt c 4)).toArray∧OwnS 5 w' s (fb (valsP c))∧Fresh w.heap.size s else cs=(shL 0 0 0 0).toArray):=by
 have hbl:b.len=c.length:=by rw[hs.len,K_1]
 have h4:=K_2u c 4
 obtain⟨w1,a1,a2,a3,a4⟩:=K_9 z84 84 w
 have a2:Bk 84 w1 w.heap.size (shL 0 0 0 0):=by rw[K_yt]at a2;exact a2
 obtain⟨g,w2,b1,b2,b3,b4⟩:=K_1ku (hs.upd0 a3) (by omega)
 have u2:=a3.and0 b3
 have q1:=a3.size
 have q2:=b3.size
 have hb':Bk 84 w2 g (shL (setN c) (bAt c 2) (bAt c 3) (bAt c 4) ++ []):=by rw[List.append_nil];exact b2
 obtain⟨l0,l1,l2,l3⟩:=K_rm hb'
 have ea:((⟨g,0,none⟩:Addr).add 3)=⟨g,3,none⟩:=by simp only[add_lit,Nat.zero_add]
 have e1:IntKind.i64.wrap (((bAt c 4:Nat):Int)+4)=((bAt c 4+4:Nat):Int):=by rw[w64 (by omega) (by omega)];omega
 have e2:IntKind.i64.wrap (5+((bAt c 4+4:Nat):Int))=((5+(bAt c 4+4):Nat):Int):=by rw[w64 (by omega) (by omega)];omega
 have e5:IntKind.i64.wrap (((5+(bAt c 4+4):Nat):Int)+4)=((5+(bAt c 4+4)+4:Nat):Int):=by rw[w64 (by omega) (by omega)];omega
 unfold K_em
 rw[a1,bnd_ok,if_neg (by simp only[decide_eq_true_eq];omega),b1,bnd_ok]
 dsimp only
 rw[ea,l3,J_bs,e1,e2,e5,K_1l7 (by omega),bnd_ok]
 dsimp only
 rw[K_1kd (hs.upd0 u2) hl b2,bnd_ok]
 dsimp only
 by_cases hfit:fitB c=true
 ·obtain⟨f1,f2,f3,f4,f5,f6,f7⟩:=(K_1a3 c).1 hfit
  have hcap:=hs.cap
  rw[hfit,if_neg (by decide)]
  unfold K_g6
  have c1:(0:Int)≤((5+(bAt c 4+4):Nat):Int)∧((5+(bAt c 4+4):Nat):Int)≤((b.cap:Nat):Int):=by omega
  have c3:(0:Int)≤5∧(5:Int)≤(((Int.toNat ((5+(bAt c 4+4):Nat):Int)):Nat):Int):=by rw[J_tn];omega
  have d0:=b2.drew.ldA (i:=0) (n:=4) (by simp[shL])
  have d0:ldA 4 ⟨g,0,none⟩ w2.drew=some (shL (setN c) (bAt c 2) (bAt c 3) (bAt c 4)).toArray:=d0
  have ud:=(Upd.refl none_ w2).drew
  obtain⟨w3,g1,g2,g3⟩:=K_n1 sliceB w2.drew
  have d1:=(b2.drew.upd0 g3).ldA (i:=0) (n:=4) (by simp[shL])
  have d1:ldA 4 ⟨g,0,none⟩ w3=some (shL (setN c) (bAt c 2) (bAt c 3) (bAt c 4)).toArray:=d1
  have hs3:BSrc w3 ⟨sla b.a 5 b.cap 1,5+(bAt c 4+4) - 5,b.cap - 5⟩ (valsP c):=by
   have h0:=hs.upd0 ((u2.and0 ud).and0 g3)
   have h1:=(K_11y h0 (lo:=5) (by rw[K_1];omega)).cut (n:=5+(bAt c 4+4) - 5) (by show _≤b.len - 5;omega)
   rw[K_17c,K_jo]at h1
   unfold valsP
   rw[show 5+(bAt c 4+4) - 5=bAt c 4+4 by omega]at h1 ⊢
   exact h1
  obtain⟨s4,w4,i1,i2,i3,i4,i5⟩:=K_1e sliceB g2 hs3 (by show (0+(5+(bAt c 4+4) - 5))*1≤_;omega)
  have i3:OwnS 5 w4 s4 (fb (valsP c)):=i3
  have q3:w2.heap.size≤w3.heap.size:=g3.size
  have u24:Upd none_ w2 w4:=(ud.and0 g3).trans' i4 fun j hj e=>by have e2:w2.heap.size=j:=Option.some.inj e;omega
  have hf4:∀ k,s4.blk=some k→w2.heap.size≤k:=fun k hk=>by
   rcases i5 with e | e
   ·rw[e]at hk;have e2:w2.heap.size=k:=Option.some.inj hk;omega
   ·rw[e]at hk;have e2:w3.heap.size=k:=Option.some.inj hk;omega
  have d2:=(b2.upd0 u24).ldA (i:=0) (n:=4) (by simp[shL])
  have d2:ldA 4 ⟨g,0,none⟩ w4=some (shL (setN c) (bAt c 2) (bAt c 3) (bAt c 4)).toArray:=d2
  obtain⟨w5,j1,j2,j3⟩:=((a2.upd0 b3).upd0 u24).stA (o:=0) (vs:=(shL (setN c) (bAt c 2) (bAt c 3) (bAt c 4)).toArray) (by simp[shL]) (fun v hv=>K_es _ _ _ _ v hv)
  have j2:Bk 84 w5 w.heap.size (shL (setN c) (bAt c 2) (bAt c 3) (bAt c 4)):=j2
  have d3:=((b2.upd0 u24).upd j3 (by omega)).ldA (i:=0) (n:=4) (by simp[shL])
  have d3:ldA 4 ⟨g,0,none⟩ w5=some (shL (setN c) (bAt c 2) (bAt c 3) (bAt c 4)).toArray:=d3
  have d4:=j2.ldA (i:=0) (n:=4) (by simp[shL])
  have d4:ldA 4 ⟨w.heap.size,0,none⟩ w5=some (shL (setN c) (bAt c 2) (bAt c 3) (bAt c 4)).toArray:=d4
  have hz:(shL (setN c) (bAt c 2) (bAt c 3) (bAt c 4)).toArray.size=4:=rfl
  refine⟨(shL (setN c) (bAt c 2) (bAt c 3) (bAt c 4)).toArray,s4,w5,?_,(u2.and0 u24).trans' j3 fun k hk e=>by omega,by rw[if_pos rfl];exact⟨rfl,i3.upd j3 fun k hk e=>by have:=hf4 k hk;omega,fun k hk=>by have:=hf4 k hk;omega⟩⟩
  rw[e2,if_pos c1,if_pos c3,d0,J_bs,g1,bnd_ok,d1,J_bs,K_a,J_tn]
  dsimp only
  rw[i1,bnd_ok,d2,J_bs,K_a,if_pos hz,j1,J_bs,d3,J_bs,K_a,bnd_ok]
  dsimp only
  rw[d4,J_bs]
 ·have hff:fitB c=false:=by simpa using hfit
  rw[hff,if_pos (by decide)]
  obtain⟨w4,c1,c2,c3⟩:=(a2.upd0 b3).stA (o:=0) (vs:=(shL 0 0 0 0).toArray) (by simp[shL]) (fun v hv=>K_es _ _ _ _ v hv)
  have c2:Bk 84 w4 w.heap.size (shL 0 0 0 0):=c2
  have c4:=c2.ldA (i:=0) (n:=4) (by simp[shL])
  have c4:ldA 4 ⟨w.heap.size,0,none⟩ w4=some (shL 0 0 0 0).toArray:=c4
  exact⟨_,nilF,w4,by rw[built84z,J_bs,if_pos (by rfl),c1,J_bs,c4,J_bs],u2.trans' c3 fun k hk e=>by omega,by rw[if_neg (by decide)]⟩
def b8(n:Nat):F:=⟨n % 256,Nat.mod_lt _ (by decide)⟩
def bytes5(s need idx size:Nat):List F:=[b8 (s / 256),b8 s,b8 need,b8 idx,b8 size]
def padL(l:List F):List F:=if l.length % 2=1 then l ++ [0] else l
def lineL(s need idx size:Nat)(vals:List F):List F:=codedP (padL (bytes5 s need idx size ++ vals))
theorem K_7o{n:Nat}:IntKind.u8.wrap (n:Int)=bF (b8 n):=by rw[IntKind.wrap_u8];rfl
theorem K_1jz(l:List F):(padL l).length≤l.length+1:=by unfold padL;split <;> simp
theorem K_15d{K:Nat}(hK:18446744073709551616≤K){w w0:World}{sv:Sl}{vals:List F}{s need idx size:Nat}(hs:s<65536)(hv:BSrc w sv vals)(hvl:vals.length≤1000000):
  ∃ w1 s2 w2,bldS prog 23 5 #[(0,(.int .u8 (bF (b8 (s / 256))))),(1,(.int .u8 (bF (b8 s)))),(2,(.int .u8 (bF (b8 need)))),(3,(.int .u8 (bF (b8 idx)))),(4,(.int .u8 (bF (b8 size))))] w=some (⟨some ⟨w.heap.size,0,none⟩,5,5⟩,w1)∧
   apd prog 23 23 (.slice (some ⟨w.heap.size,0,none⟩) 5 5) (.slice sv.a sv.len sv.cap) w1=some (s2,w2)∧OwnS 5 w2 s2 (fb (bytes5 s need idx size ++ vals))∧Upd none_ w w2∧Fresh w.heap.size s2∧s2.len=5+vals.length:=by
 obtain⟨w1,a1,a2,a3,a4⟩:=K_87 sliceB (fb (bytes5 s need idx size)) (fun v hv=>by obtain⟨x,_,rfl⟩:=List.mem_map.1 hv;rfl) (by rw[K_1];simp[bytes5]) (by rw[K_1];simp[bytes5]) w
 have a1:bldS prog 23 5 #[(0,(.int .u8 (bF (b8 (s / 256))))),(1,(.int .u8 (bF (b8 s)))),(2,(.int .u8 (bF (b8 need)))),(3,(.int .u8 (bF (b8 idx)))),(4,(.int .u8 (bF (b8 size))))] w=some (⟨some ⟨w.heap.size,0,none⟩,5,5⟩,w1):=a1
 have a2:OwnS 5 w1 ⟨some ⟨w.heap.size,0,none⟩,5,5⟩ (fb (bytes5 s need idx size)):=a2
 have hsl:sv.len=vals.length:=by rw[hv.len,K_1]
 obtain⟨s2,w2,b1,b2,b3,b4,b5⟩:=K_1e sliceB a2 (hv.upd0 a3) (by show (5+sv.len)*1≤_;omega)
 rw[←K_4s]at b3
 have q1:=a3.size
 refine⟨w1,s2,w2,a1,b1,b3,a3.trans' b4 fun j hj e=>by have e2:w.heap.size=j:=Option.some.inj e;omega,fun k hk=>?_,by rw[b2,hsl]⟩
 rcases b5 with e | e
 ·rw[e]at hk;have e2:w.heap.size=k:=Option.some.inj hk;omega
 ·rw[e]at hk;have e2:w1.heap.size=k:=Option.some.inj hk;omega
theorem K_18y{K:Nat}(hK:18446744073709551616≤K){w:World}{sv:Sl}{vals:List F}{s need idx size:Nat}(hs:s<65536)(hv:BSrc w sv vals)(hvl:vals.length≤1000000):
  ∃ s' w',K_4b K (shL s need idx size ++ [slF sv]).toArray w=some ((s',()),w')∧OwnS 5 w' s' (fb (lineL s need idx size vals))∧Upd none_ w w'∧Fresh w.heap.size s':=by
 obtain⟨w1,a1,a2,a3,a4⟩:=K_9 (shL s need idx size ++ [slF sv]).toArray 102 w
 have a2:Bk 102 w1 w.heap.size (shL s need idx size ++ [slF sv]):=a2
 obtain⟨l0,l1,l2,l3⟩:=K_rm a2
 have q1:=a3.size
 obtain⟨w2,s3,w3,b1,b2,b3,b4,b5,b6⟩:=K_15d hK (w0:=w) (s:=s) (need:=need) (idx:=idx) (size:=size) hs (hv.upd0 a3) hvl
 have e1:IntKind.u8.wrap (Int.fdiv (s:Int) (2 ^ 8))=bF (b8 (s / 256)):=by
  have:Int.fdiv (s:Int) (2 ^ 8)=((s / 256:Nat):Int):=K_jf s 8
  rw[this,K_7o]
 have u12:Upd none_ w1 w2:=by
  obtain⟨w2',x1,x2,x3,x4⟩:=K_87 sliceB (fb (bytes5 s need idx size)) (fun v hv=>by obtain⟨x,_,rfl⟩:=List.mem_map.1 hv;rfl) (by rw[K_1];simp[bytes5]) (by rw[K_1];simp[bytes5]) w1
  have x1:bldS prog 23 5 #[(0,(.int .u8 (bF (b8 (s / 256))))),(1,(.int .u8 (bF (b8 s)))),(2,(.int .u8 (bF (b8 need)))),(3,(.int .u8 (bF (b8 idx)))),(4,(.int .u8 (bF (b8 size))))] w1=some (_,w2'):=x1
  rw[b1]at x1
  obtain⟨_,rfl⟩:=Prod.mk.inj (Option.some.inj x1)
  exact x3
 have l4:=(a2.upd0 u12).ldS (i:=4) (a:=sv.a) (l:=sv.len) (c:=sv.cap) rfl
 have u3:=a3.and0 b4
 have hsum:(bytes5 s need idx size ++ vals).length=5+vals.length:=by rw[List.length_append];rfl
 have hm:Int.tmod ((s3.len:Nat):Int) 2=(((5+vals.length) % 2:Nat):Int):=by rw[b6];rfl
 unfold K_4b
 rw[a1,bnd_ok]
 simp only[add_lit,Nat.zero_add,l0,l1,l2,l3,J_bs,e1,K_7o]
 rw[b1,bnd_ok,l4,J_bs]
 dsimp only
 rw[b2,bnd_ok,hm]
 by_cases hp:(5+vals.length) % 2=1
 ·have hpl:padL (bytes5 s need idx size ++ vals)=bytes5 s need idx size ++ vals ++ [0]:=by unfold padL;rw[hsum,if_pos hp]
  obtain⟨w4,s5,w5,c1,c2,c3,c4,c5⟩:=K_ez b3 (by rw[hsum];omega) 0
  have c1:bldS prog 23 1 #[(0,(.int .u8 0))] w3=some (⟨some ⟨w3.heap.size,0,none⟩,1,1⟩,w4):=c1
  have q3:=u3.size
  obtain⟨s6,w6,d1,d2,d3,d4⟩:=K_1bw hK (c3.src (K_k _)) (by rw[List.length_append,hsum];show 5+vals.length+1≤_;omega)
  have q5:=c4.size
  refine⟨s6,w6,?_,by unfold lineL;rw[hpl];exact d2,(u3.trans' c4 fun k hk e=>by have:=b5 k e;omega).and0 d3,fun k hk=>by have:=d4 k hk;omega⟩
  rw[if_pos (by rw[hp];rfl),c1,bnd_ok]
  dsimp only
  rw[c2,bnd_ok,d1,bnd_ok]
 ·have hpl:padL (bytes5 s need idx size ++ vals)=bytes5 s need idx size ++ vals:=by unfold padL;rw[hsum,if_neg hp]
  obtain⟨s6,w6,d1,d2,d3,d4⟩:=K_1bw hK (b3.src (K_k _)) (by rw[hsum];omega)
  have q3:=u3.size
  refine⟨s6,w6,?_,by unfold lineL;rw[hpl];exact d2,u3.and0 d3,fun k hk=>by have:=d4 k hk;omega⟩
  rw[if_neg (by rw[beq_iff_eq];omega),d1,bnd_ok]
theorem K_1fy{K:Nat}(hK:18446744073709551616≤K){w:World}{sv:Sl}{vals:List F}{s need idx size:Nat}(hs:s<65536)(hv:BSrc w sv vals)(hvl:vals.length≤1000000):
  ∃ s' w',K_d1 K (shL s need idx size).toArray sv w=some ((s',()),w')∧OwnS 5 w' s' (fb (lineL s need idx size vals))∧Upd none_ w w'∧Fresh w.heap.size s':=by
 obtain⟨w1,a1,a2,a3,a4⟩:=K_9 (shL s need idx size).toArray 84 w
 have a2:Bk 84 w1 w.heap.size (shL s need idx size ++ []):=by rw[List.append_nil];exact a2
 obtain⟨l0,l1,l2,l3⟩:=K_rm a2
 have q1:=a3.size
 obtain⟨w2,s3,w3,b1,b2,b3,b4,b5,b6⟩:=K_15d hK (w0:=w) (s:=s) (need:=need) (idx:=idx) (size:=size) hs (hv.upd0 a3) hvl
 have e1:IntKind.u8.wrap (IntKind.u16.wrap (Int.tdiv (s:Int) 256))=bF (b8 (s / 256)):=by
  have:Int.tdiv (s:Int) 256=((s / 256:Nat):Int):=rfl
  have e:IntKind.u16.wrap ((s / 256:Nat):Int)=((s / 256:Nat):Int):=by rw[K_9y];omega
  rw[this,e,K_7o]
 have e1':IntKind.u8.wrap (Int.tmod (s:Int) 256)=bF (b8 s):=by
  have:Int.tmod (s:Int) 256=((s % 256:Nat):Int):=rfl
  rw[this,K_7o]
  unfold b8 bF
  simp
 have u3:=a3.and0 b4
 have hsum:(bytes5 s need idx size ++ vals).length=5+vals.length:=by rw[List.length_append];rfl
 have hm:Int.tmod ((s3.len:Nat):Int) 2=(((5+vals.length) % 2:Nat):Int):=by rw[b6];rfl
 unfold K_d1
 rw[a1,bnd_ok]
 simp only[add_lit,Nat.zero_add,l0,l1,l2,l3,J_bs,e1,e1',K_7o]
 rw[b1,bnd_ok]
 dsimp only
 rw[b2,bnd_ok,hm]
 by_cases hp:(5+vals.length) % 2=1
 ·have hpl:padL (bytes5 s need idx size ++ vals)=bytes5 s need idx size ++ vals ++ [0]:=by unfold padL;rw[hsum,if_pos hp]
  obtain⟨w4,s5,w5,c1,c2,c3,c4,c5⟩:=K_ez b3 (by rw[hsum];omega) 0
  have c1:bldS prog 23 1 #[(0,(.int .u8 0))] w3=some (⟨some ⟨w3.heap.size,0,none⟩,1,1⟩,w4):=c1
  have q3:=u3.size
  obtain⟨s6,w6,d1,d2,d3,d4⟩:=K_186 hK (c3.src (K_k _)) (by rw[List.length_append,hsum];show 5+vals.length+1≤_;omega)
  have q5:=c4.size
  refine⟨s6,w6,?_,by unfold lineL;rw[hpl];exact d2,(u3.trans' c4 fun k hk e=>by have:=b5 k e;omega).and0 d3,fun k hk=>by have:=d4 k hk;omega⟩
  rw[if_pos (by rw[hp];rfl),c1,bnd_ok]
  dsimp only
  rw[c2,bnd_ok,d1,bnd_ok]
 ·have hpl:padL (bytes5 s need idx size ++ vals)=bytes5 s need idx size ++ vals:=by unfold padL;rw[hsum,if_neg hp]
  obtain⟨s6,w6,d1,d2,d3,d4⟩:=K_186 hK (b3.src (K_k _)) (by rw[hsum];omega)
  have q3:=u3.size
  refine⟨s6,w6,?_,by unfold lineL;rw[hpl];exact d2,u3.and0 d3,fun k hk=>by have:=d4 k hk;omega⟩
  rw[if_neg (by rw[beq_iff_eq];omega),d1,bnd_ok]
end Go.Sh

namespace Go.Sh
open Go.Fw Go.Gf Go.RowKit Go.Proofs.Tryd
def mendR(T:List Nat):Int×Option (List F×Nat):=
 if 1024<T.length then(4,none) else
 match rdP T [] [] with
 | none=>(112,none)
 | some l=>if l.length<14∨78<l.length then(113,none) else
  match Gf.repP l with
  | none=>(113,none)
  | some r=>if fitB r.1=true then(0,some r) else(113,none)
theorem K_up{T:List Nat}{c:List F}{n:Nat}(h:(mendR T).2=some (c,n)):(mendR T).1=0∧fitB c=true∧14≤c.length∧c.length≤78:=by
 unfold mendR at h ⊢
 split at h
 ·cases h
 ·rename_i h1
  rw[if_neg h1]
  split at h
  ·cases h
  ·rename_i l hl
   split at h
   ·cases h
   ·rename_i h2
    split at h
    ·cases h
    ·rename_i r hr
     split at h
     ·rename_i h3
      obtain rfl:=Option.some.inj h
      have:=(K_pm (b:=l) (by omega)).2 _ hr
      have hlen:=this.1
      dsimp only at h3 hlen ⊢
      rw[if_neg h2,if_pos h3]
      exact⟨rfl,h3,by omega,by omega⟩
     ·cases h
theorem K_13y{T:List Nat}(h:(mendR T).2=none):(mendR T).1≠0:=by
 unfold mendR at h ⊢
 split
 ·decide
 ·rename_i h1
  rw[if_neg h1]at h
  split
  ·decide
  ·rename_i l hl
   rw[hl]at h
   dsimp only at h
   split
   ·decide
   ·rename_i h2
    rw[if_neg h2]at h
    split
    ·decide
    ·rename_i r hr
     rw[hr]at h
     dsimp only at h
     split
     ·rename_i h3;rw[if_pos h3]at h;cases h
     ·decide
def shareC(c:List F)(sv:Sl):List Value:=shL (setN c) (bAt c 2) (bAt c 3) (bAt c 4) ++ [slF sv]
def share0:List Value:=shL 0 0 0 0 ++ [slF nilF]
theorem K_1fs{K:Nat}(hK:18446744073709551616≤K)(w:World){t:ByteArray}{T:List Nat}(hT:IsText t T)(hTb:∀ c∈T,c<256):
  ∃ cs n w',K_9d K t w=some ((cs,n,(mendR T).1,()),w')∧Upd none_ w w'∧(match (mendR T).2 with | some r=>n=((r.2:Nat):Int)∧∃ sv,cs=(shareC r.1 sv).toArray∧BSrc w' sv (valsP r.1)∧Fresh w.heap.size sv | none=>n=0∧cs=share0.toArray):=by
 have hsz:=hT.1
 obtain⟨w1,a1,a2,a3,a4⟩:=K_9 z102 102 w
 have a2:Bk 102 w1 w.heap.size share0:=by rw[K_j8]at a2;exact a2
 have q1:=a3.size
 have zero:∀ (w3:World) (e:Int),Upd none_ w1 w3→∃ w4,((prog.built 102 []).bind fun cs_3=>
 if (cs_3).size=5 then((stA ⟨w.heap.size,0,none⟩ cs_3 w3).bind fun w_4=>
 (ldA 5 ⟨w.heap.size,0,none⟩ w_4).bind fun res_5=>
 some (((res_5,0,e,()),w_4):(Array Value×Int×Int×Unit)×World)) else none)=some ((share0.toArray,0,e,()),w4)∧Upd none_ w w4:=fun w3 e u3=>by
  obtain⟨w4,c1,c2,c3⟩:=(a2.upd0 u3).stA (o:=0) (vs:=share0.toArray) (by simp[share0,shL]) (fun v hv=>K_ew _ _ _ _ _ v hv)
  have c2:Bk 102 w4 w.heap.size share0:=c2
  have c4:=c2.ldA (i:=0) (n:=5) (by simp[share0,shL])
  have c4:ldA 5 ⟨w.heap.size,0,none⟩ w4=some share0.toArray:=c4
  have hb:prog.built 102 []=some share0.toArray:=built102z
  exact⟨w4,by rw[hb,J_bs,if_pos (by rfl),c1,J_bs,c4,J_bs],(a3.and0 u3).trans' c3 fun k hk e=>by omega⟩
 unfold K_9d mendR
 rw[a1,bnd_ok]
 by_cases h1:1024<T.length
 ·rw[if_pos (decide_eq_true (show ((t.size:Nat):Int) > 1024 by omega)),if_pos h1]
  obtain⟨w4,z1,z2⟩:=zero w1 4 (Upd.refl _ _)
  exact⟨_,_,w4,z1,z2,rfl,rfl⟩
 ·rw[if_neg (by simp only[decide_eq_true_eq];omega),if_neg h1]
  obtain⟨s,v,w2,b1,b2,b3⟩:=K_1cr hK w1 hT hTb (by omega)
  rw[b1,bnd_ok]
  dsimp only
  cases hr:rdP T [] [] with
  | none=>
   rw[hr]at b3
   have b3:v=false:=b3
   rw[b3,if_pos (by decide)]
   obtain⟨w4,z1,z2⟩:=zero w2 112 b2
   exact⟨_,_,w4,z1,z2,rfl,rfl⟩
  | some l=>
   rw[hr]at b3
   obtain⟨rfl,o2,f2,l2⟩:=b3
   have hsl:s.len=l.length:=by rw[o2.len,K_1]
   dsimp only
   rw[if_neg (by decide)]
   have hs0:K_8a K s w2=some ((decide (l.length<14∨78<l.length),()),w2):=by
    unfold K_8a
    rw[hsl]
    by_cases h14:l.length<14
    ·rw[if_pos (decide_eq_true (show ((l.length:Nat):Int)<14 by omega)),decide_eq_true (Or.inl h14)]
    ·rw[if_neg (by simp only[decide_eq_true_eq];omega)]
     have:decide (((l.length:Nat):Int) > 78)=decide (l.length<14∨78<l.length):=by rw[decide_eq_decide];omega
     rw[this]
   rw[hs0,bnd_ok]
   dsimp only
   by_cases h2:l.length<14∨78<l.length
   ·rw[if_pos (decide_eq_true h2),if_pos h2]
    obtain⟨w4,z1,z2⟩:=zero w2 113 b2
    exact⟨_,_,w4,z1,z2,rfl,rfl⟩
   ·rw[if_neg (fun h=>h2 (of_decide_eq_true h)),if_neg h2]
    obtain⟨s3,n3,v3,w3,c1,c2,c3⟩:=K_1cu hK (o2.src (K_k _)) (by omega)
    rw[c1,bnd_ok]
    dsimp only
    have u3:=b2.and0 c2
    have q2:=b2.size
    cases hp:Gf.repP l with
    | none=>
     rw[hp]at c3
     have c3:v3=false:=c3
     rw[c3,if_pos (by decide)]
     obtain⟨w4,z1,z2⟩:=zero w3 113 u3
     exact⟨_,_,w4,z1,z2,rfl,rfl⟩
    | some r=>
     rw[hp]at c3
     obtain⟨rfl,hn3,o3,f3⟩:=c3
     have hlen:=((K_pm (b:=l) (by omega)).2 _ hp).1
     dsimp only at hlen ⊢
     rw[if_neg (by decide)]
     obtain⟨cs,w4,d1,d2,d3⟩:=K_1jn o3 (by omega) (by omega)
     rw[d1,bnd_ok]
     dsimp only
     have u4:=u3.and0 d2
     obtain⟨w5,e1,e2,e3,e4⟩:=K_9 z102 102 w4
     have e2:Bk 102 w5 w4.heap.size share0:=by rw[K_j8]at e2;exact e2
     rw[e1,bnd_ok]
     have q4:=u4.size
     by_cases hf:fitB r.1=true
     ·rw[if_pos hf]at d3 ⊢
      obtain⟨sv,hcs,dv,df⟩:=d3
      have hcs:cs=(shareC r.1 sv).toArray:=hcs
      rw[hcs,hf]
      obtain⟨w6,g1,g2,g3⟩:=e2.stA (o:=0) (vs:=(shareC r.1 sv).toArray) (by simp[share0,shareC,shL]) (fun v hv=>K_ew _ _ _ _ _ v hv)
      have g2:Bk 102 w6 w4.heap.size (shareC r.1 sv):=g2
      have g4:=g2.ldA (i:=0) (n:=5) (by simp[shareC,shL])
      have g4:ldA 5 ⟨w4.heap.size,0,none⟩ w6=some (shareC r.1 sv).toArray:=g4
      have u46:Upd none_ w4 w6:=e3.trans' g3 fun k hk e=>by omega
      obtain⟨w7,i1,i2,i3⟩:=((a2.upd0 u4).upd0 u46).stA (o:=0) (vs:=(shareC r.1 sv).toArray) (by simp[share0,shareC,shL]) (fun v hv=>K_ew _ _ _ _ _ v hv)
      have i2:Bk 102 w7 w.heap.size (shareC r.1 sv):=i2
      have i4:=i2.ldA (i:=0) (n:=5) (by simp[shareC,shL])
      have i4:ldA 5 ⟨w.heap.size,0,none⟩ w7=some (shareC r.1 sv).toArray:=i4
      have hz:(shareC r.1 sv).toArray.size=5:=rfl
      have hb3:∀ q,s3.a=some q→w1.heap.size≤q.block:=fun q hq=>by
       rcases f3 with e | e
       ·rw[e]at hq;exact f2 q.block (by simp[Sl.blk,hq])
       ·have:=e q.block (by simp[Sl.blk,hq]);omega
      have hfv:Fresh w1.heap.size sv:=fun k hk=>by
       cases ha:sv.a with
       | none=>rw[Sl.blk,ha]at hk;cases hk
       | some q=>
        rw[Sl.blk,ha]at hk
        have hk:q.block=k:=Option.some.inj hk
        obtain⟨p,p1,p2⟩:=df q ha
        have:=hb3 p p1
        omega
      refine⟨_,_,w7,?_,((a3.and0 u4).and0 u46).trans' i3 fun k hk e=>by omega,hn3,sv,rfl,?_,fun k hk=>by have:=hfv k hk;omega⟩
      ·rw[if_pos hz,g1,J_bs,if_neg (by decide),g4,J_bs,if_pos hz,i1,J_bs,i4,J_bs]
      ·exact K_59 (dv.upd0 u46) i3 fun q hq _=>by have:=hfv q.block (by simp[Sl.blk,hq]);omega
     ·rw[if_neg hf]at d3 ⊢
      have hff:fitB r.1=false:=by simpa using hf
      have d3:cs=share0.toArray:=d3
      rw[d3,hff]
      obtain⟨w6,g1,g2,g3⟩:=e2.stA (o:=0) (vs:=share0.toArray) (by simp[share0,shL]) (fun v hv=>K_ew _ _ _ _ _ v hv)
      have u46:Upd none_ w4 w6:=e3.trans' g3 fun k hk e=>by omega
      have hz:share0.toArray.size=5:=rfl
      obtain⟨w7,z1,z2⟩:=zero w6 113 (u4.and0 u46)
      refine⟨_,_,w7,?_,z2,rfl,rfl⟩
      rw[if_pos hz,g1,J_bs,if_pos (by decide)]
      exact z1
def lineT(c:List F)(idx:Nat)(vals:List F):ByteArray:=textOf (lineL (setN c) (bAt c 2) idx (bAt c 4) vals)
theorem K_16g(c:List F):setN c<65536:=by have:=K_2u c 0;have:=K_2u c 1;unfold setN;omega
theorem K_1be(s n i z:Nat)(vals:List F):(lineL s n i z vals).length≤vals.length+10:=by
 unfold lineL
 rw[Gf.codedP_length]
 have:=K_1jz (bytes5 s n i z ++ vals)
 rw[List.length_append]at this
 have h5:(bytes5 s n i z).length=5:=rfl
 omega
theorem K_1l1{K:Nat}(hK:18446744073709551616≤K){w:World}{sv:Sl}{vals:List F}{s n i z:Nat}(hs:s<65536)(hv:BSrc w sv vals)(hvl:vals.length≤1000000):
  ∃ w',K_5g K (shL s n i z ++ [slF sv]).toArray w=some ((textOf (lineL s n i z vals),()),w')∧Upd none_ w w':=by
 obtain⟨w1,a1,a2,a3,a4⟩:=K_9 (shL s n i z ++ [slF sv]).toArray 102 w
 have a2:Bk 102 w1 w.heap.size (shL s n i z ++ [slF sv]):=a2
 have a5:=a2.ldA (i:=0) (n:=5) (by simp[shL])
 have a5:ldA 5 ⟨w.heap.size,0,none⟩ w1=some (shL s n i z ++ [slF sv]).toArray:=a5
 obtain⟨s2,w2,b1,b2,b3,b4⟩:=K_18y hK (s:=s) (need:=n) (idx:=i) (size:=z) hs (hv.upd0 a3) hvl
 have hl:=K_1be s n i z vals
 obtain⟨w3,c1,c2⟩:=K_1ia hK (b2.src (K_k _)) (by omega) (K_rn b2)
 refine⟨w3,?_,(a3.and0 b3).and0 c2⟩
 unfold K_5g
 rw[a1,bnd_ok,a5,J_bs,b1,bnd_ok,c1,bnd_ok]
end Go.Sh

namespace Go.Sh
open Go.Fw Go.Gf Go.RowKit Go.Proofs.Tryd
def partC(s n i z:Nat)(sv:Sl)(wr:Nat):List Value:=shL s n i z ++ [slF sv,.int .i64 (wr:Int)]
def part0:List Value:=partC 0 0 0 0 nilF 0
theorem built105z:prog.built 105 []=some part0.toArray:=by kernel_rfl
theorem K_16p:z105=part0.toArray:=by kernel_rfl
theorem built105(a b c d:Int)(sv:Sl)(n:Int):prog.built 105 [(0,(.agg #[.int .u16 a,.int .i64 b,.int .i64 c,.int .i64 d])),(1,(.slice sv.a sv.len sv.cap)),(2,(.int .i64 n))]=some #[.int .u16 a,.int .i64 b,.int .i64 c,.int .i64 d,.slice sv.a sv.len sv.cap,.int .i64 n]:=by kernel_rfl
theorem K_13i(s n i z:Nat)(sv:Sl)(wr:Nat):∀ v∈partC s n i z sv wr,v.oneCell'=true:=fun v hv=>by
 rcases List.mem_append.1 hv with h | h
 ·exact K_es s n i z v h
 ·simp only[List.mem_cons,List.not_mem_nil,or_false]at h
  rcases h with rfl | rfl <;> rfl
theorem K_1j6{K:Nat}(hK:18446744073709551616≤K)(w:World){t:ByteArray}{T:List Nat}(hT:IsText t T)(hTb:∀ c∈T,c<256):
  ∃ cs w',K_eq K t w=some ((cs,(mendR T).1,()),w')∧Upd none_ w w'∧(match (mendR T).2 with | some r=>∃ sv,cs=(partC (setN r.1) (bAt r.1 2) (bAt r.1 3) (bAt r.1 4) sv r.2).toArray∧OwnS 5 w' sv (fb (valsP r.1))∧Fresh w.heap.size sv | none=>cs=part0.toArray):=by
 have hsz:=hT.1
 obtain⟨w1,a1,a2,a3,a4⟩:=K_9 z105 105 w
 have a2:Bk 105 w1 w.heap.size part0:=by rw[K_16p]at a2;exact a2
 have q1:=a3.size
 have zero:∀ (w3:World) (e:Int),Upd none_ w1 w3→∃ w4,((prog.built 105 []).bind fun cs_3=>
 if (cs_3).size=6 then((stA ⟨w.heap.size,0,none⟩ cs_3 w3).bind fun w_4=>
 (ldA 6 ⟨w.heap.size,0,none⟩ w_4).bind fun res_5=>
 some (((res_5,e,()),w_4):(Array Value×Int×Unit)×World)) else none)=some ((part0.toArray,e,()),w4)∧Upd none_ w w4:=fun w3 e u3=>by
  obtain⟨w4,c1,c2,c3⟩:=(a2.upd0 u3).stA (o:=0) (vs:=part0.toArray) (by simp[part0,partC,shL]) (fun v hv=>K_13i _ _ _ _ _ _ v hv)
  have c2:Bk 105 w4 w.heap.size part0:=c2
  have c4:=c2.ldA (i:=0) (n:=6) (by simp[part0,partC,shL])
  have c4:ldA 6 ⟨w.heap.size,0,none⟩ w4=some part0.toArray:=c4
  exact⟨w4,by rw[built105z,J_bs,if_pos (by rfl),c1,J_bs,c4,J_bs],(a3.and0 u3).trans' c3 fun k hk e=>by omega⟩
 unfold K_eq mendR
 rw[a1,bnd_ok]
 by_cases h1:1024<T.length
 ·rw[if_pos (decide_eq_true (show ((t.size:Nat):Int) > 1024 by omega)),if_pos h1]
  obtain⟨w4,z1,z2⟩:=zero w1 4 (Upd.refl _ _)
  exact⟨_,w4,z1,z2,rfl⟩
 ·rw[if_neg (by simp only[decide_eq_true_eq];omega),if_neg h1]
  obtain⟨s,v,w2,b1,b2,b3⟩:=K_1kl hK w1 hT hTb (by omega)
  rw[b1,bnd_ok]
  dsimp only
  cases hr:rdP T [] [] with
  | none=>
   rw[hr]at b3
   have b3:v=false:=b3
   rw[b3,if_pos (by decide)]
   obtain⟨w4,z1,z2⟩:=zero w2 112 b2
   exact⟨_,w4,z1,z2,rfl⟩
  | some l=>
   rw[hr]at b3
   obtain⟨rfl,o2,f2,l2⟩:=b3
   have hsl:s.len=l.length:=by rw[o2.len,K_1]
   dsimp only
   rw[if_neg (by decide)]
   have hs0:K_cm K s w2=some ((decide (l.length<14∨78<l.length),()),w2):=by
    unfold K_cm
    rw[hsl]
    by_cases h14:l.length<14
    ·rw[if_pos (decide_eq_true (show ((l.length:Nat):Int)<14 by omega)),decide_eq_true (Or.inl h14)]
    ·rw[if_neg (by simp only[decide_eq_true_eq];omega)]
     have:decide (((l.length:Nat):Int) > 78)=decide (l.length<14∨78<l.length):=by rw[decide_eq_decide];omega
     rw[this]
   rw[hs0,bnd_ok]
   dsimp only
   by_cases h2:l.length<14∨78<l.length
   ·rw[if_pos (decide_eq_true h2),if_pos h2]
    obtain⟨w4,z1,z2⟩:=zero w2 113 b2
    exact⟨_,w4,z1,z2,rfl⟩
   ·rw[if_neg (fun h=>h2 (of_decide_eq_true h)),if_neg h2]
    obtain⟨s3,n3,v3,w3,c1,c2,c3⟩:=K_1jv hK (o2.src (K_k _)) (by omega)
    rw[c1,bnd_ok]
    dsimp only
    have u3:=b2.and0 c2
    have q2:=b2.size
    rw[←Gf.repP_nearP (by omega)]at c3
    cases hp:Gf.repP l with
    | none=>
     rw[hp]at c3
     have c3:v3=false:=c3
     rw[c3,if_pos (by decide)]
     obtain⟨w4,z1,z2⟩:=zero w3 113 u3
     exact⟨_,w4,z1,z2,rfl⟩
    | some r=>
     rw[hp]at c3
     obtain⟨rfl,hn3,o3,f3⟩:=c3
     have hlen:=((K_pm (b:=l) (by omega)).2 _ hp).1
     dsimp only at hlen ⊢
     rw[if_neg (by decide)]
     obtain⟨cs,sv,w4,d1,d2,d3⟩:=K_1kn o3 (by omega) (by omega)
     rw[d1,bnd_ok]
     dsimp only
     have u4:=u3.and0 d2
     obtain⟨w5,e1,e2,e3,e4⟩:=K_9 z84 84 w4
     have e2:Bk 84 w5 w4.heap.size (shL 0 0 0 0):=by rw[K_yt]at e2;exact e2
     rw[e1,bnd_ok]
     have q4:=u4.size
     have q3:=u3.size
     by_cases hf:fitB r.1=true
     ·rw[if_pos hf]at d3 ⊢
      obtain⟨hcs,dv,df⟩:=d3
      rw[hcs,hf,hn3]
      obtain⟨w6,g1,g2,g3⟩:=e2.stA (o:=0) (vs:=(shL (setN r.1) (bAt r.1 2) (bAt r.1 3) (bAt r.1 4)).toArray) (by simp[shL]) (fun v hv=>K_es _ _ _ _ v hv)
      have g2:Bk 84 w6 w4.heap.size (shL (setN r.1) (bAt r.1 2) (bAt r.1 3) (bAt r.1 4)):=g2
      have g4:=g2.ldA (i:=0) (n:=4) (by simp[shL])
      have g4:ldA 4 ⟨w4.heap.size,0,none⟩ w6=some (shL (setN r.1) (bAt r.1 2) (bAt r.1 3) (bAt r.1 4)).toArray:=g4
      have u46:Upd none_ w4 w6:=e3.trans' g3 fun k hk e=>by omega
      obtain⟨w7,i1,i2,i3⟩:=((a2.upd0 u4).upd0 u46).stA (o:=0) (vs:=(partC (setN r.1) (bAt r.1 2) (bAt r.1 3) (bAt r.1 4) sv r.2).toArray) (by simp[part0,partC,shL]) (fun v hv=>K_13i _ _ _ _ _ _ v hv)
      have i2:Bk 105 w7 w.heap.size (partC (setN r.1) (bAt r.1 2) (bAt r.1 3) (bAt r.1 4) sv r.2):=i2
      have i4:=i2.ldA (i:=0) (n:=6) (by simp[partC,shL])
      have i4:ldA 6 ⟨w.heap.size,0,none⟩ w7=some (partC (setN r.1) (bAt r.1 2) (bAt r.1 3) (bAt r.1 4) sv r.2).toArray:=i4
      have hz:(shL (setN r.1) (bAt r.1 2) (bAt r.1 3) (bAt r.1 4)).toArray.size=4:=rfl
      have hbt:prog.built 105 [(0,(.agg (shL (setN r.1) (bAt r.1 2) (bAt r.1 3) (bAt r.1 4)).toArray)),(1,(.slice sv.a sv.len sv.cap)),(2,(.int .i64 ((r.2:Nat):Int)))]=some (partC (setN r.1) (bAt r.1 2) (bAt r.1 3) (bAt r.1 4) sv r.2).toArray:=built105 _ _ _ _ sv _
      have hz6:(partC (setN r.1) (bAt r.1 2) (bAt r.1 3) (bAt r.1 4) sv r.2).toArray.size=6:=rfl
      refine⟨_,w7,?_,((a3.and0 u4).and0 u46).trans' i3 fun k hk e=>by omega,sv,rfl,?_,fun k hk=>by have:=df k hk;omega⟩
      ·rw[if_pos hz,g1,J_bs,if_neg (by decide),g4,J_bs,hbt,J_bs,if_pos hz6,i1,J_bs,i4,J_bs]
      ·exact(dv.upd0 u46).upd i3 fun k hk e=>by have:=df k hk;omega
     ·rw[if_neg hf]at d3 ⊢
      have hff:fitB r.1=false:=by simpa using hf
      rw[d3,hff]
      obtain⟨w6,g1,g2,g3⟩:=e2.stA (o:=0) (vs:=(shL 0 0 0 0).toArray) (by simp[shL]) (fun v hv=>K_es _ _ _ _ v hv)
      have u46:Upd none_ w4 w6:=e3.trans' g3 fun k hk e=>by omega
      have hz:(shL 0 0 0 0).toArray.size=4:=rfl
      obtain⟨w7,z1,z2⟩:=zero w6 113 (u4.and0 u46)
      refine⟨_,w7,?_,z2,rfl⟩
      rw[if_pos hz,g1,J_bs,if_pos (by decide)]
      exact z1
end Go.Sh

namespace Go.Sh
open Go.Fw Go.Gf Go.RowKit Go.Proofs.Tryd
theorem K_1cm{K:Nat}(hK:300≤K)(b:F)(n:Nat)(hn:n<9223372036854775807):∀ (d i m:Nat) (v:F),i+d=n→d<m→
  K_4c K m (bF b) (n:Int) (bF v) (i:Int)=some (.norm (bF (v*F.pow b d),())):=by
 intro d
 induction d with
 | zero=>
  intro i m v hi hm
  obtain⟨m,rfl⟩:∃ q,m=q+1:=⟨m - 1,by omega⟩
  show K_8l K (K_4c K m) (bF b) (n:Int) (bF v) (i:Int)=_
  unfold K_8l
  rw[if_neg (by simp only[decide_eq_true_eq];omega),F.pow_zero,F.mul_one]
 | succ d ih=>
  intro i m v hi hm
  obtain⟨m,rfl⟩:∃ q,m=q+1:=⟨m - 1,by omega⟩
  have e3:IntKind.i64.wrap ((i:Int)+1)=((i+1:Nat):Int):=by rw[w64 (by omega) (by omega)];rfl
  show K_8l K (K_4c K m) (bF b) (n:Int) (bF v) (i:Int)=_
  unfold K_8l
  rw[if_pos (decide_eq_true (show (i:Int)<(n:Int) by omega)),rtimes hK,J_bs,e3,ih (i+1) m _ (by omega) (by omega),F.pow_succ,F.mul_assoc,F.mul_comm b]
theorem K_17j{K:Nat}(hK:300≤K)(b:F)(n:Nat)(hn:n<9223372036854775807)(hnK:n<K):K_ak K (bF b) (n:Int)=some (bF (F.pow b n),()):=by
 have h2:=K_1cm hK b n hn n 0 K 1 (by omega) hnK
 rw[F.one_mul]at h2
 unfold K_ak
 have h2:K_4c K K (bF b) (n:Int) 1 0=_:=h2
 rw[h2]
 rfl
end Go.Sh

namespace Go.Sh
open Go.Fw Go.RowKit Go.Proofs.Tryd
theorem Spoil0(K:Nat){s:Sl}:∀ (d i n:Nat) (w:World) (xs:List Int),i+d=xs.length→xs.length≤140737488355328→d<n→Vw 5 w s (ints .u8 xs)→
  ∃ w' ys,K_23 K n s (i:Int) w=some ((),w')∧Vw 5 w' s (ints .u8 ys)∧ys.length=xs.length∧Upd (fun k=>s.blk=some k) w w':=by
 intro d
 induction d with
 | zero=>
  intro i n w xs hi hl hn hv
  obtain⟨n,rfl⟩:∃ m,n=m+1:=⟨n - 1,by omega⟩
  refine⟨w,xs,?_,hv,rfl,Upd.refl _ _⟩
  have hd:decide ((i:Int)<((s.len:Nat):Int))=false:=by rw[hv.len,K_3];simp;omega
  show K_53 K (K_23 K n) s (i:Int) w=_
  unfold K_53
  rw[hd,if_neg (by decide)]
 | succ d ih=>
  intro i n w xs hi hl hn hv
  obtain⟨n,rfl⟩:∃ m,n=m+1:=⟨n - 1,by omega⟩
  have hsl:s.len=xs.length:=by rw[hv.len,K_3]
  obtain⟨p,hp,hpl⟩:=hv.rd.ld
  have l1:=hpl i (by omega)
  have hp:s.a=some p:=hp (fun e=>by rw[e]at hi;simp at hi)
  obtain⟨q,w1,hq,hs,hv1,u1⟩:=hv.st (i:=i) (by omega) (.int .u8 (bits .xor .u8 (xs[i]'(by omega)) 165))
  obtain rfl:p=q:=Option.some.inj (hp.symm.trans hq)
  rw[K_1hc]at hv1
  obtain⟨w2,ys,h2,hv2,hl2,u2⟩:=ih (i+1) n w1 _ (by rw[List.length_set];omega) (by rw[List.length_set];omega) (by omega) hv1
  refine⟨w2,ys,?_,hv2,by rw[hl2,List.length_set],u1.trans' u2 fun _ _ e=>e⟩
  have hd:decide ((i:Int)<((s.len:Nat):Int))=true:=by rw[hsl];simp;omega
  have c:(0:Int)≤(i:Int)∧(i:Int)<((s.len:Nat):Int):=by omega
  have e1:IntKind.i64.wrap ((i:Int)+1)=((i+1:Nat):Int):=by rw[w64 (by omega) (by omega)];rfl
  show K_53 K (K_23 K n) s (i:Int) w=_
  unfold K_53
  rw[hd,if_pos rfl,hp,J_bs,if_pos c,J_tn,Nat.mul_one,l1,J_bs,J_bs,if_pos c,hs,J_bs,e1,h2]
theorem pushV{w:World}{s:Sl}{xs:List Int}(x:Int)(ho:Vw 5 w s (ints .u8 xs))(hs:s.len+1≤140737488355328):
  ∃ w1 s2 w2,bldS prog 23 1 #[(0,(.int .u8 x))] w=some (⟨some ⟨w.heap.size,0,none⟩,1,1⟩,w1)∧apd prog 23 23 (.slice s.a s.len s.cap) (.slice (some ⟨w.heap.size,0,none⟩) 1 1) w1=some (s2,w2)∧
   Vw 5 w2 s2 (ints .u8 (xs ++ [x]))∧s2.len=s.len+1∧Upd (fun k=>s.blk=some k) w w2∧(∀ k,s2.blk=some k→s.blk=some k∨w.heap.size≤k):=by
 obtain⟨w1,h1,o1,u1,z1⟩:=K_8u sliceB (.int .u8 x) rfl w
 obtain⟨s2,w2,h2,l2,o2,u2,b2⟩:=K_1m4 sliceB (ho.upd0 u1) (o1.src (by simp[Value.oneCell'])) (by show (s.len+1)*1≤_;omega)
 refine⟨w1,s2,w2,h1,h2,by simpa using o2,l2,(u1.mono fun _ _ e=>e.elim).trans' u2 fun _ _ e=>e,fun k hk=>(b2 k hk).imp id fun e=>by omega⟩
theorem Spoil1(K:Nat):∀ (d i n:Nat) (w:World) (s:Sl) (xs:List Int),i+d=70→xs.length+d≤140737488355328→d<n→Vw 5 w s (ints .u8 xs)→
  ∃ s' w' ys,K_25 K n s (i:Int) w=some ((s',()),w')∧Vw 5 w' s' (ints .u8 ys)∧ys.length=xs.length+d∧Upd (fun k=>s.blk=some k) w w'∧(∀ k,s'.blk=some k→s.blk=some k∨w.heap.size≤k):=by
 intro d
 induction d with
 | zero=>
  intro i n w s xs hi hl hn hv
  obtain⟨n,rfl⟩:∃ m,n=m+1:=⟨n - 1,by omega⟩
  have:i=70:=by omega
  subst this
  refine⟨s,w,xs,?_,hv,rfl,Upd.refl _ _,fun _=>.inl⟩
  show K_56 K (K_25 K n) s ((70:Nat):Int) w=_
  unfold K_56
  rw[if_neg (by decide)]
 | succ d ih=>
  intro i n w s xs hi hl hn hv
  obtain⟨n,rfl⟩:∃ m,n=m+1:=⟨n - 1,by omega⟩
  have hsl:s.len=xs.length:=by rw[hv.len,K_3]
  obtain⟨w1,s2,w2,h1,h2,o2,l2,u2,b2⟩:=pushV (IntKind.u8.wrap (IntKind.i64.wrap ((IntKind.i64.wrap (7*(i:Int)))+3))) hv (by omega)
  obtain⟨s3,w3,ys,h3,o3,l3,u3,b3⟩:=ih (i+1) n w2 s2 _ (by omega) (by rw[List.length_append,List.length_singleton];omega) (by omega) o2
  refine⟨s3,w3,ys,?_,o3,by rw[l3,List.length_append,List.length_singleton];omega,u2.trans' u3 fun k hk e=>(b2 k e).elim id fun e=>by omega,fun k hk=>?_⟩
  ·have hd:decide ((i:Int)<70)=true:=by simp;omega
   have e1:IntKind.i64.wrap ((i:Int)+1)=((i+1:Nat):Int):=by rw[w64 (by omega) (by omega)];rfl
   show K_56 K (K_25 K n) s (i:Int) w=_
   unfold K_56
   rw[hd,if_pos rfl,h1,bnd_ok,h2,bnd_ok,e1,h3]
  ·rcases b3 k hk with e | e
   ·exact b2 k e
   ·exact .inr (by have:=u2.size;omega)
theorem K_18q{K:Nat}(hK:18446744073709551616≤K){s:Sl}{xs:List Int}{w:World}(hv:Vw 5 w s (ints .u8 xs))(hl:xs.length≤140737488351232):
  ∃ w',K_6w K s w=some ((),w')∧Upd (fun k=>s.blk=some k) w w':=by
 obtain⟨w1,ys,h1,v1,l1,u1⟩:=Spoil0 K xs.length 0 K w xs (by omega) (by omega) (by omega) hv
 have h1:K_23 K K s 0 w=_:=h1
 have hsl:s.len=xs.length:=by rw[hv.len,K_3]
 obtain⟨w2,s2,w3,h2,h3,v3,l3,u3,b3⟩:=pushV 1 v1 (by omega)
 obtain⟨s4,w4,zs,h4,v4,l4,u4,b4⟩:=Spoil1 K 70 0 K w3 s2 _ (by omega) (by rw[List.length_append,List.length_singleton];omega) (by omega) v3
 have h4:K_25 K K s2 0 w3=_:=h4
 rw[List.length_append,List.length_singleton]at l4
 have hl4:s4.len=xs.length+71:=by rw[v4.len,K_3];omega
 obtain⟨p,w5,hp,h5,v5,u5⟩:=v4.st (i:=xs.length+70) (by omega) (.int .u8 77)
 have e1:IntKind.i64.wrap (((s4.len:Nat):Int) - 1)=((xs.length+70:Nat):Int):=by rw[hl4,w64 (by omega) (by omega)];omega
 have c:(0:Int)≤((xs.length+70:Nat):Int)∧((xs.length+70:Nat):Int)<((s4.len:Nat):Int):=by omega
 refine⟨w5,?_,?_⟩
 ·unfold K_6w
  rw[h1,bnd_ok,h2,bnd_ok,h3,bnd_ok,h4,bnd_ok]
  dsimp only
  rw[hp,J_bs,e1,if_pos c,J_tn,Nat.mul_one,h5,J_bs]
 ·have q3:Upd (fun k=>s.blk=some k) w w3:=u1.trans' u3 fun _ _ e=>e
  have hz:=u1.size
  have q4:Upd (fun k=>s.blk=some k) w w4:=q3.trans' u4 fun k hk e=>(b3 k e).elim id fun e=>by omega
  have hz3:=u3.size
  refine q4.trans' u5 fun k hk e=>?_
  rcases b4 k e with e | e
  ·rcases b3 k e with e | e
   ·exact e
   ·omega
  ·omega
end Go.Sh

namespace Go.Sh
open Go.Fw Go.Gf Go.RowKit Go.Proofs.Tryd
theorem sliceT:OneSlice prog 29 9 (.string ⟨#[]⟩) 16:=⟨by kernel_rfl,⟨t9,by kernel_rfl,by kernel_rfl,by kernel_rfl,by kernel_rfl⟩,by decide,rfl,rfl⟩
def tx(ts:List ByteArray):List Value:=ts.map Value.string
theorem K_16(ts:List ByteArray):(tx ts).length=ts.length:=List.length_map ..
theorem K_p2(ts:List ByteArray):∀ v∈tx ts,v.oneCell'=true:=fun v hv=>by obtain⟨x,_,rfl⟩:=List.mem_map.1 hv;rfl
theorem K_xc(a b:List ByteArray):tx (a ++ b)=tx a ++ tx b:=List.map_append ..
theorem tx_at{w:World}{s:Sl}{ts:List ByteArray}(h:Src w s (tx ts)){i:Nat}(hi:i<ts.length):∃ p,s.a=some p∧ldStr (p.add i) w=some ts[i]:=by
 rcases h.rd with ⟨_,_,e⟩ | ⟨p,e1,e2⟩
 ·have:=congrArg List.length e
  rw[K_16]at this
  rw[this]at hi;simp at hi
 ·refine⟨p,e1,?_⟩
  have hv:(tx ts)[i]? =some (.string ts[i]):=by unfold tx;rw[List.getElem?_map,J_ge hi];rfl
  have:=e2 i _ hv
  unfold ldStr
  rw[this];rfl
theorem K_1fg{K:Nat}{a b:Sl}{ts:List ByteArray}(hl:ts.length<4611686018427387904):
  ∀ (d i f:Nat) (w:World),i+d=ts.length→d<f→Src w a (tx ts)→Src w b (tx ts)→∃ w',K_2i K f a b (i:Int) w=some (.norm (),w')∧Upd none_ w w':=by
 intro d
 induction d with
 | zero=>
  intro i f w hi hf ha hb
  obtain⟨f,rfl⟩:∃ q,f=q+1:=⟨f - 1,by omega⟩
  have hal:a.len=ts.length:=by rw[ha.len,K_16]
  refine⟨w,?_,Upd.refl _ _⟩
  show K_5r K (K_2i K f) a b (i:Int) w=_
  unfold K_5r
  rw[if_neg (by simp only[decide_eq_true_eq];omega)]
 | succ d ih=>
  intro i f w hi hf ha hb
  obtain⟨f,rfl⟩:∃ q,f=q+1:=⟨f - 1,by omega⟩
  have hal:a.len=ts.length:=by rw[ha.len,K_16]
  have hbl:b.len=ts.length:=by rw[hb.len,K_16]
  have ud:=(Upd.refl none_ w).drew
  have e3:IntKind.i64.wrap ((i:Int)+1)=((i+1:Nat):Int):=by rw[w64 (by omega) (by omega)];rfl
  obtain⟨p,p1,p2⟩:=tx_at (ha.upd0 ud) (i:=i) (by omega)
  obtain⟨q,q1,q2⟩:=tx_at (hb.upd0 ud) (i:=i) (by omega)
  have c1:(0:Int)≤(i:Int)∧(i:Int)<((a.len:Nat):Int):=by omega
  have c2:(0:Int)≤(i:Int)∧(i:Int)<((b.len:Nat):Int):=by omega
  obtain⟨w',k1,k2⟩:=ih (i+1) f w.drew (by omega) (by omega) (ha.upd0 ud) (hb.upd0 ud)
  refine⟨w',?_,k2.predrew⟩
  show K_5r K (K_2i K f) a b (i:Int) w=_
  unfold K_5r
  rw[if_pos (decide_eq_true (show (i:Int)<((a.len:Nat):Int) by omega)),p1,J_bs,if_pos c1,q1,J_bs,if_pos c2,J_tn,Nat.mul_one,p2,J_bs,q2,J_bs,if_neg (by simp),e3,k1]
theorem K_1am{K:Nat}(hK:18446744073709551616≤K){w:World}{a b:Sl}{ts:List ByteArray}(hl:ts.length<4611686018427387904)(ha:Src w a (tx ts))(hb:Src w b (tx ts)):
  ∃ w',K_85 K a b w=some ((true,()),w')∧Upd none_ w w':=by
 have hal:a.len=ts.length:=by rw[ha.len,K_16]
 have hbl:b.len=ts.length:=by rw[hb.len,K_16]
 obtain⟨w',k1,k2⟩:=K_1fg (K:=K) hl ts.length 0 K w (by omega) (by omega) ha hb
 have k1:K_2i K K a b 0 w=_:=k1
 refine⟨w',?_,k2⟩
 unfold K_85
 rw[if_neg (by rw[hal,hbl];simp),k1,bnd_ok]
theorem K_1kz{w:World}{s:Sl}{ts:List ByteArray}(ho:OwnS 9 w s (tx ts))(hl:ts.length≤1099511627776)(v:ByteArray):
  ∃ w1 s' w',bldS prog 29 1 #[(0,(.string v))] w=some (⟨some ⟨w.heap.size,0,none⟩,1,1⟩,w1)∧apd prog 29 29 (.slice s.a s.len s.cap) (.slice (some ⟨w.heap.size,0,none⟩) 1 1) w1=some (s',w')∧OwnS 9 w' s' (tx (ts ++ [v]))∧Upd (fun k=>s.blk=some k) w w'∧∀ k,s'.blk=some k→s.blk=some k∨w.heap.size≤k:=by
 obtain⟨w1,a1,a2,a3,a4⟩:=K_8u sliceT (.string v) rfl w
 have a2:OwnS 9 w1 ⟨some ⟨w.heap.size,0,none⟩,1,1⟩ (tx [v]):=a2
 have hpl:=ho.len
 rw[K_16]at hpl
 obtain⟨s2,w2,b1,b2,b3,b4,b5⟩:=K_1e sliceT (ho.upd0 a3) (a2.src (K_p2 _)) (by show (s.len+1)*16≤_;omega)
 rw[←K_xc]at b3
 have q1:=a3.size
 refine⟨w1,s2,w2,a1,b1,b3,(a3.mono (T:=fun k=>s.blk=some k) fun _ _ e=>e.elim).trans' b4 fun _ _ e=>e,fun k hk=>?_⟩
 rcases b5 with e | e
 ·rw[e]at hk;exact .inl hk
 ·rw[e]at hk;have e2:w1.heap.size=k:=Option.some.inj hk;exact .inr (by omega)
end Go.Sh

namespace Go.Sha
open Go.Fw
def rr32(x:Int)(n:Nat):Int:=bits .or .u32 (IntKind.u32.wrap (x*2 ^ (32 - n))) (Int.fdiv x (2 ^ n))
def sch32(x y w16 w7:Int):Int:=
 IntKind.u32.wrap ((IntKind.u32.wrap ((IntKind.u32.wrap (w16+w7))+(bits .xor .u32 (bits .xor .u32 (rr32 x 7) (rr32 x 18)) (Int.fdiv x (2 ^ 3)))))+(bits .xor .u32 (bits .xor .u32 (rr32 y 17) (rr32 y 19)) (Int.fdiv y (2 ^ 10))))
def word32(p q r s:Int):Int:=
 bits .or .u32 (bits .or .u32 (bits .or .u32 (IntKind.u32.wrap ((IntKind.u32.wrap p)*2 ^ 24)) (IntKind.u32.wrap ((IntKind.u32.wrap q)*2 ^ 16))) (IntKind.u32.wrap ((IntKind.u32.wrap r)*2 ^ 8))) (IntKind.u32.wrap s)
def words32(bs:List Int):Nat→List Int
 | 0=>[]
 | n+1=>words32 bs n ++ [word32 (bs.getD (4*n) 0) (bs.getD (4*n+1) 0) (bs.getD (4*n+2) 0) (bs.getD (4*n+3) 0)]
def ext32:Nat→List Int→List Int
 | 0,s=>s
 | n+1,s=>ext32 n (s ++ [sch32 (s.getD (s.length - 15) 0) (s.getD (s.length - 2) 0) (s.getD (s.length - 16) 0) (s.getD (s.length - 7) 0)])
def t1_32(e f g k x w:Int):Int:=
 IntKind.u32.wrap ((IntKind.u32.wrap ((IntKind.u32.wrap ((IntKind.u32.wrap (k+(bits .xor .u32 (bits .xor .u32 (rr32 e 6) (rr32 e 11)) (rr32 e 25))))+(bits .xor .u32 (bits .and .u32 e f) (bits .and .u32 (bits .xor .u32 IntKind.u32.max e) g))))+x))+w)
def t2_32(a b c:Int):Int:=
 IntKind.u32.wrap ((bits .xor .u32 (bits .xor .u32 (rr32 a 2) (rr32 a 13)) (rr32 a 22))+(bits .xor .u32 (bits .xor .u32 (bits .and .u32 a b) (bits .and .u32 a c)) (bits .and .u32 b c)))
abbrev V8:=Int×Int×Int×Int×Int×Int×Int×Int×Unit
def rounds32(W C:List Int):Nat→Nat→Int→Int→Int→Int→Int→Int→Int→Int→V8
 | 0,_,a,b,c,d,e,f,g,k=>(a,b,c,d,e,f,g,k,())
 | n+1,i,a,b,c,d,e,f,g,k=>
  rounds32 W C n (i+1) (IntKind.u32.wrap (t1_32 e f g k (IntKind.u32.wrap (Int.fdiv (C.getD i 0) (2 ^ 32))) (W.getD i 0)+t2_32 a b c)) a b c
   (IntKind.u32.wrap (d+t1_32 e f g k (IntKind.u32.wrap (Int.fdiv (C.getD i 0) (2 ^ 32))) (W.getD i 0))) e f g
def list8(v:V8):List Int:=[v.1,v.2.1,v.2.2.1,v.2.2.2.1,v.2.2.2.2.1,v.2.2.2.2.2.1,v.2.2.2.2.2.2.1,v.2.2.2.2.2.2.2.1]
def rv32(C H bs:List Int):V8:=
 rounds32 (ext32 48 (words32 bs 16)) C 64 0 ((H.map IntKind.u32.wrap).getD 0 0) ((H.map IntKind.u32.wrap).getD 1 0) ((H.map IntKind.u32.wrap).getD 2 0) ((H.map IntKind.u32.wrap).getD 3 0) ((H.map IntKind.u32.wrap).getD 4 0) ((H.map IntKind.u32.wrap).getD 5 0) ((H.map IntKind.u32.wrap).getD 6 0) ((H.map IntKind.u32.wrap).getD 7 0)
def sum8(v x:List Int):List Int:=(List.range 8).map fun i=>IntKind.u64.wrap (IntKind.u32.wrap (v.getD i 0+x.getD i 0))
def comp32(C H bs:List Int):List Int:=sum8 (H.map IntKind.u32.wrap) (list8 (rv32 C H bs))
def comps32(C:List Int):Nat→List Int→List Int→List Int
 | 0,H,_=>H
 | n+1,H,bs=>comps32 C n (comp32 C H bs) (bs.drop 64)
theorem K_n(bs:List Int):∀ n,(words32 bs n).length=n
 | 0=>rfl
 | n+1=>by simp[words32,K_n bs n]
theorem K_q5:∀ n s,(ext32 n s).length=s.length+n
 | 0,s=>rfl
 | n+1,s=>by simp[ext32,K_q5 n];omega
theorem K_mr(C H bs:List Int):(comp32 C H bs).length=8:=by simp[comp32,sum8]
theorem K_fw(C:List Int):∀ (n:Nat) (H bs:List Int),H.length=8→(comps32 C n H bs).length=8
 | 0,_,_,h=>h
 | n+1,H,bs,_=>K_fw C n _ _ (K_mr C H bs)
end Go.Sha

namespace Go.Sha
open Go.Fw
def rr64(x:Int)(n:Nat):Int:=bits .or .u64 (IntKind.u64.wrap (x*2 ^ (64 - n))) (Int.fdiv x (2 ^ n))
def sch64(x y w16 w7:Int):Int:=
 IntKind.u64.wrap ((IntKind.u64.wrap ((IntKind.u64.wrap (w16+w7))+(bits .xor .u64 (bits .xor .u64 (rr64 x 1) (rr64 x 8)) (Int.fdiv x (2 ^ 7)))))+(bits .xor .u64 (bits .xor .u64 (rr64 y 19) (rr64 y 61)) (Int.fdiv y (2 ^ 6))))
def sh8(v x:Int):Int:=bits .or .u64 (IntKind.u64.wrap (v*2 ^ 8)) (IntKind.u64.wrap x)
def word64(v:Int)(bs:List Int)(o:Nat):Nat→Int
 | 0=>v
 | n+1=>sh8 (word64 v bs o n) (bs.getD (o+n) 0)
def words64(bs:List Int):Nat→List Int
 | 0=>[]
 | n+1=>words64 bs n ++ [word64 0 bs (8*n) 8]
def ext64:Nat→List Int→List Int
 | 0,s=>s
 | n+1,s=>ext64 n (s ++ [sch64 (s.getD (s.length - 15) 0) (s.getD (s.length - 2) 0) (s.getD (s.length - 16) 0) (s.getD (s.length - 7) 0)])
def t1_64(e f g k x w:Int):Int:=
 IntKind.u64.wrap ((IntKind.u64.wrap ((IntKind.u64.wrap ((IntKind.u64.wrap (k+(bits .xor .u64 (bits .xor .u64 (rr64 e 14) (rr64 e 18)) (rr64 e 41))))+(bits .xor .u64 (bits .and .u64 e f) (bits .and .u64 (bits .xor .u64 IntKind.u64.max e) g))))+x))+w)
def t2_64(a b c:Int):Int:=
 IntKind.u64.wrap ((bits .xor .u64 (bits .xor .u64 (rr64 a 28) (rr64 a 34)) (rr64 a 39))+(bits .xor .u64 (bits .xor .u64 (bits .and .u64 a b) (bits .and .u64 a c)) (bits .and .u64 b c)))
def rounds64(W C:List Int):Nat→Nat→Int→Int→Int→Int→Int→Int→Int→Int→V8
 | 0,_,a,b,c,d,e,f,g,k=>(a,b,c,d,e,f,g,k,())
 | n+1,i,a,b,c,d,e,f,g,k=>
  rounds64 W C n (i+1) (IntKind.u64.wrap (t1_64 e f g k (C.getD i 0) (W.getD i 0)+t2_64 a b c)) a b c (IntKind.u64.wrap (d+t1_64 e f g k (C.getD i 0) (W.getD i 0))) e f g
def rv64(C H bs:List Int):V8:=
 rounds64 (ext64 64 (words64 bs 16)) C 80 0 (H.getD 0 0) (H.getD 1 0) (H.getD 2 0) (H.getD 3 0) (H.getD 4 0) (H.getD 5 0) (H.getD 6 0) (H.getD 7 0)
def sum8w(v x:List Int):List Int:=(List.range 8).map fun i=>IntKind.u64.wrap (v.getD i 0+x.getD i 0)
def comp64(C H bs:List Int):List Int:=sum8w H (list8 (rv64 C H bs))
def comps64(C:List Int):Nat→List Int→List Int→List Int
 | 0,H,_=>H
 | n+1,H,bs=>comps64 C n (comp64 C H bs) (bs.drop 128)
theorem K_33(bs:List Int):∀ n,(words64 bs n).length=n
 | 0=>rfl
 | n+1=>by simp[words64,K_33 bs n]
theorem K_pl:∀ n s,(ext64 n s).length=s.length+n
 | 0,s=>rfl
 | n+1,s=>by simp[ext64,K_pl n];omega
theorem K_i3(C H bs:List Int):(comp64 C H bs).length=8:=by simp[comp64,sum8w]
theorem K_r4(C:List Int):∀ (n:Nat) (H bs:List Int),H.length=8→(comps64 C n H bs).length=8
 | 0,_,_,h=>h
 | n+1,H,bs,_=>K_r4 C n _ _ (K_i3 C H bs)
theorem K_1mc{v x:Int}(hx:InK .u8 x):sh8 v x=(v*256+x) % 18446744073709551616:=by
 obtain⟨b,rfl,hb⟩:=hx.nat
 have hb:b<256:=hb
 unfold sh8
 have e1:IntKind.u64.wrap (b:Int)=(b:Int):=by rw[IntKind.wrap_u64];omega
 obtain⟨q,hq⟩:∃ q:Nat,(v % 72057594037927936)=(q:Int):=Int.eq_ofNat_of_zero_le (Int.emod_nonneg _ (by decide))
 have hq2:q<72057594037927936:=by omega
 have e2:IntKind.u64.wrap (v*2 ^ 8)=((q*256:Nat):Int):=by
  rw[IntKind.wrap_u64]
  have:(v*2 ^ 8:Int)=v*256:=rfl
  rw[this]
  omega
 rw[e1,e2,(K_bq (k:=.u64) rfl (show q*256<2 ^ 64 by omega) (show b<2 ^ 64 by omega)).2.1]
 have e3:q*256 ||| b=q*256+b:=by
  rw[Nat.mul_comm]
  exact(Nat.two_pow_add_eq_or_of_lt (i:=8) hb q).symm
 rw[e3]
 omega
theorem K_14o{bs:List Int}(h:∀ i,InK .u8 (bs.getD i 0))(v:Int)(o:Nat):word64 v bs o 8=word64 0 bs o 8:=by
 simp only[word64,K_1mc (h _)]
 omega
end Go.Sha

namespace Go.Sha
open Go.Fw
def narrowB(h:Int):Bool:=h == 224 || h == 256
def blk(h:Int):Nat:=if narrowB h=true then 64 else 128
theorem K_ji(h:Int):0<blk h:=by unfold blk;split <;> decide
theorem K_y8(h:Int):blk h≤128:=by unfold blk;split <;> decide
def compH(h:Int)(C H bs:List Int):List Int:=if narrowB h=true then comp32 C H bs else comp64 C H bs
def compsH(h:Int)(C:List Int)(n:Nat)(H bs:List Int):List Int:=if narrowB h=true then comps32 C n H bs else comps64 C n H bs
theorem K_ju(h:Int)(C H bs:List Int):compsH h C 0 H bs=H:=by unfold compsH;split <;> rfl
theorem K_jx(h:Int)(C:List Int)(n:Nat)(H bs:List Int):compsH h C (n+1) H bs=compsH h C n (compH h C H bs) (bs.drop (blk h)):=by
 unfold compsH compH blk;split <;> rfl
theorem K_15p(h:Int)(C:List Int)(n:Nat)(H bs:List Int)(hH:H.length=8):(compsH h C n H bs).length=8:=by
 unfold compsH;split
 ·exact K_fw C n H bs hH
 ·exact K_r4 C n H bs hH
theorem K_vj{bs:List Int}(k:Nat)(hk:64≤k):∀ n,n≤16→words32 (bs.take k) n=words32 bs n
 | 0,_=>rfl
 | n+1,hn=>by
  have g:∀ q,q<64→(bs.take k).getD q 0=bs.getD q 0:=fun q hq=>by
   simp[J_gd,List.getElem?_take,show q<k by omega]
  simp only[words32]
  rw[K_vj k hk n (by omega),g _ (by omega),g _ (by omega),g _ (by omega),g _ (by omega)]
theorem K_yi{bs:List Int}(k:Nat)(v:Int)(o:Nat):∀ n,o+n≤k→word64 v (bs.take k) o n=word64 v bs o n
 | 0,_=>rfl
 | n+1,hn=>by
  simp only[word64]
  rw[K_yi k v o n (by omega)]
  congr 1
  simp[J_gd,List.getElem?_take,show o+n<k by omega]
theorem K_vi{bs:List Int}(k:Nat)(hk:128≤k):∀ n,n≤16→words64 (bs.take k) n=words64 bs n
 | 0,_=>rfl
 | n+1,hn=>by
  simp only[words64]
  rw[K_vi k hk n (by omega),K_yi k 0 (8*n) 8 (by omega)]
theorem K_11b(h:Int)(C H bs:List Int)(k:Nat)(hk:blk h≤k):compH h C H (bs.take k)=compH h C H bs:=by
 unfold compH blk at*
 split
 ·rename_i hn
  rw[if_pos hn]at hk
  unfold comp32 rv32
  rw[K_vj k hk 16 (Nat.le_refl _)]
 ·rename_i hn
  rw[if_neg hn]at hk
  unfold comp64 rv64
  rw[K_vi k hk 16 (Nat.le_refl _)]
theorem K_e5(h:Int)(C:List Int):∀ (n:Nat) (H bs:List Int) (k:Nat),n*blk h≤k→compsH h C n H (bs.take k)=compsH h C n H bs
 | 0,H,bs,k,_=>by rw[K_ju,K_ju]
 | n+1,H,bs,k,hk=>by
  have h1:(n+1)*blk h=n*blk h+blk h:=Nat.succ_mul n _
  rw[K_jx,K_jx,K_11b h C H bs k (by omega),List.drop_take,K_e5 h C n _ _ (k - blk h) (by omega)]
theorem K_uc(h:Int)(C:List Int):∀ (n m:Nat) (H bs:List Int),compsH h C (n+m) H bs=compsH h C m (compsH h C n H bs) (bs.drop (n*blk h))
 | 0,m,H,bs=>by rw[K_ju,Nat.zero_add,Nat.zero_mul,List.drop_zero]
 | n+1,m,H,bs=>by
  rw[show n+1+m=(n+m)+1 by omega,K_jx,K_jx,K_uc h C n m,List.drop_drop,Nat.succ_mul,Nat.add_comm (blk h)]
structure Fed(h:Int) (C H0 xs:List Int) (H half:List Int):Prop where
 words:H=compsH h C (xs.length / blk h) H0 xs
 held:half.take (xs.length % blk h)=xs.drop (xs.length / blk h*blk h)
 len:half.length=128
theorem Fed.start(h:Int)(C H0:List Int):Fed h C H0 [] H0 (List.replicate 128 0):=by
 refine⟨?_,?_,by simp⟩
 ·simp[K_ju]
 ·simp
def over(l:List Int)(o:Nat)(ys:List Int):List Int:=l.take o ++ ys ++ l.drop (o+ys.length)
theorem K_v1{l ys:List Int}{o:Nat}(h:o+ys.length≤l.length):(over l o ys).length=l.length:=by
 simp[over];omega
theorem K_uf{l ys:List Int}{o:Nat}(h:o+ys.length≤l.length):(over l o ys).take (o+ys.length)=l.take o ++ ys:=by
 unfold over
 rw[List.take_append_of_le_length (by simp;omega),List.take_of_length_le (by simp;omega)]
theorem K_1e5{n m b:Nat}(hb:0<b)(h:n % b+m<b):(n+m) / b=n / b∧(n+m) % b=n % b+m:=by
 have h1:=Nat.div_add_mod n b
 have h2:n+m=n % b+m+b*(n / b):=by omega
 constructor
 ·rw[h2,Nat.add_mul_div_left _ _ hb,Nat.div_eq_of_lt h,Nat.zero_add]
 ·rw[h2,Nat.add_mul_mod_self_left,Nat.mod_eq_of_lt h]
theorem Fed.less{h:Int}{C H0 xs H half ys:List Int}(f:Fed h C H0 xs H half)(hl:xs.length % blk h+ys.length<blk h):Fed h C H0 (xs ++ ys) H (over half (xs.length % blk h) ys):=by
 have hb:=K_y8 h
 obtain⟨d1,d2⟩:=K_1e5 (K_ji h) hl
 have hle:xs.length / blk h*blk h≤xs.length:=Nat.div_mul_le_self _ _
 refine⟨?_,?_,by rw[K_v1 (by rw[f.len];omega)];exact f.len⟩
 ·rw[List.length_append,d1,f.words]
  have:=K_e5 h C (xs.length / blk h) H0 (xs ++ ys) xs.length hle
  rw[List.take_left]at this
  exact this
 ·rw[List.length_append,d1,d2,K_uf (by rw[f.len];omega),f.held,List.drop_append_of_le_length hle]
theorem Fed.fill{h:Int}{C H0 xs H half ys:List Int}(f:Fed h C H0 xs H half)(hl:xs.length % blk h+ys.length=blk h):
  Fed h C H0 (xs ++ ys) (compsH h C 1 H ((over half (xs.length % blk h) ys).take (blk h))) (over half (xs.length % blk h) ys):=by
 have hb:=K_y8 h
 have hp:=K_ji h
 have h1:=Nat.div_add_mod xs.length (blk h)
 have h2:xs.length+ys.length=(xs.length / blk h+1)*blk h:=by rw[Nat.succ_mul,Nat.mul_comm];omega
 have d1:(xs.length+ys.length) / blk h=xs.length / blk h+1:=by rw[h2];exact Nat.mul_div_cancel _ hp
 have d2:(xs.length+ys.length) % blk h=0:=by rw[h2];exact Nat.mul_mod_left _ _
 have hle:xs.length / blk h*blk h≤xs.length:=Nat.div_mul_le_self _ _
 refine⟨?_,?_,by rw[K_v1 (by rw[f.len];omega)];exact f.len⟩
 ·rw[List.length_append,d1,K_uc,f.words]
  have e1:=K_e5 h C (xs.length / blk h) H0 (xs ++ ys) xs.length hle
  rw[List.take_left]at e1
  rw[←e1]
  congr 1
  have e2:=K_uf (l:=half) (ys:=ys) (o:=xs.length % blk h) (by rw[f.len];omega)
  rw[hl]at e2
  rw[e2,f.held,List.drop_append_of_le_length hle]
 ·rw[List.length_append,d1,d2]
  simp
  omega
theorem Fed.whole{h:Int}{C H0 xs H half ys:List Int}(f:Fed h C H0 xs H half)(hz:xs.length % blk h=0):
  Fed h C H0 (xs ++ ys) (compsH h C (ys.length / blk h) H (ys.take (ys.length / blk h*blk h))) (over half 0 (ys.drop (ys.length / blk h*blk h))):=by
 have hb:=K_y8 h
 have hp:=K_ji h
 have h1:=Nat.div_add_mod xs.length (blk h)
 have hx:xs.length=xs.length / blk h*blk h:=by rw[Nat.mul_comm];omega
 have d1:(xs.length+ys.length) / blk h=xs.length / blk h+ys.length / blk h:=by
  have:xs.length+ys.length=ys.length+blk h*(xs.length / blk h):=by omega
  rw[this,Nat.add_mul_div_left _ _ hp,Nat.add_comm]
 have d2:(xs.length+ys.length) % blk h=ys.length % blk h:=by
  have:xs.length+ys.length=ys.length+blk h*(xs.length / blk h):=by omega
  rw[this,Nat.add_mul_mod_self_left]
 have hyl:=Nat.div_add_mod ys.length (blk h)
 have hym:=Nat.mod_lt ys.length hp
 have hyle:ys.length / blk h*blk h≤ys.length:=Nat.div_mul_le_self _ _
 have hrl:(ys.drop (ys.length / blk h*blk h)).length=ys.length % blk h:=by
  rw[List.length_drop]
  have:blk h*(ys.length / blk h)=ys.length / blk h*blk h:=Nat.mul_comm _ _
  omega
 refine⟨?_,?_,by rw[K_v1 (by rw[hrl,f.len];omega)];exact f.len⟩
 ·rw[List.length_append,d1,K_uc,f.words]
  have e1:=K_e5 h C (xs.length / blk h) H0 (xs ++ ys) xs.length (by omega)
  rw[List.take_left]at e1
  rw[←e1,K_e5 h C _ _ ys _ (Nat.le_refl _)]
  congr 1
  rw[←hx,List.drop_left]
 ·rw[List.length_append,d1,d2]
  have:=K_uf (l:=half) (ys:=ys.drop (ys.length / blk h*blk h)) (o:=0) (by rw[hrl,f.len];omega)
  rw[hrl,Nat.zero_add]at this
  rw[this,List.take_zero,List.nil_append,Nat.add_mul,←hx,List.drop_append]
  simp
end Go.Sha

namespace Go.Sha
open Go.Fw
theorem K_6v{k:IntKind}(hs:k.signed=false)(x y:Int):
  bits .and k x y=(((BitVec.ofInt k.bits x &&& BitVec.ofInt k.bits y).toNat:Nat):Int)∧bits .or k x y=(((BitVec.ofInt k.bits x ||| BitVec.ofInt k.bits y).toNat:Nat):Int)∧
  bits .xor k x y=(((BitVec.ofInt k.bits x ^^^ BitVec.ofInt k.bits y).toNat:Nat):Int):=
 ⟨K_jc hs _ (BitVec.isLt _),K_jc hs _ (BitVec.isLt _),K_jc hs _ (BitVec.isLt _)⟩
theorem bv_of{n:Nat}(v:BitVec n):BitVec.ofInt n ((v.toNat:Nat):Int)=v:=by
 rw[BitVec.ofInt_natCast]
 apply BitVec.eq_of_toNat_eq
 simp
theorem K_y4{k:IntKind}(hs:k.signed=false)(x y:Int):bits .or k x y=bits .or k y x:=by
 rw[(K_6v hs x y).2.1,(K_6v hs y x).2.1,BitVec.or_comm]
theorem ch_or{k:IntKind}(hs:k.signed=false)(m:Int)(hm:BitVec.ofInt k.bits m=BitVec.allOnes k.bits)(e f g:Int):
  bits .or k (bits .and k e f) (bits .and k (bits .xor k m e) g)=bits .xor k (bits .and k e f) (bits .and k (bits .xor k m e) g):=by
 rw[(K_6v hs _ _).2.1,(K_6v hs (bits .and k e f) _).2.2,(K_6v hs e f).1,(K_6v hs (bits .xor k m e) g).1,(K_6v hs m e).2.2]
 simp only[bv_of,hm]
 congr 2
 apply BitVec.eq_of_getLsbD_eq
 intro i hi
 simp only[BitVec.getLsbD_or,BitVec.getLsbD_and,BitVec.getLsbD_xor,BitVec.getLsbD_allOnes,hi,decide_true]
 cases (BitVec.ofInt k.bits e).getLsbD i <;> cases (BitVec.ofInt k.bits f).getLsbD i <;> cases (BitVec.ofInt k.bits g).getLsbD i <;> rfl
theorem K_1fu{k:IntKind}(hs:k.signed=false)(a b c:Int):
  bits .or k (bits .or k (bits .and k a b) (bits .and k a c)) (bits .and k b c)=bits .xor k (bits .xor k (bits .and k a b) (bits .and k a c)) (bits .and k b c):=by
 rw[(K_6v hs _ _).2.1,(K_6v hs (bits .and k a b) (bits .and k a c)).2.1,(K_6v hs (bits .xor k _ _) _).2.2,(K_6v hs (bits .and k a b) (bits .and k a c)).2.2,(K_6v hs a b).1,(K_6v hs a c).1,(K_6v hs b c).1]
 simp only[bv_of]
 congr 2
 apply BitVec.eq_of_getLsbD_eq
 intro i hi
 simp only[BitVec.getLsbD_or,BitVec.getLsbD_and,BitVec.getLsbD_xor]
 cases (BitVec.ofInt k.bits a).getLsbD i <;> cases (BitVec.ofInt k.bits b).getLsbD i <;> cases (BitVec.ofInt k.bits c).getLsbD i <;> rfl
theorem all32:BitVec.ofInt IntKind.u32.bits IntKind.u32.max=BitVec.allOnes IntKind.u32.bits:=by decide+kernel
theorem all64:BitVec.ofInt IntKind.u64.bits IntKind.u64.max=BitVec.allOnes IntKind.u64.bits:=by decide+kernel
theorem K_cs(x:Int)(n:Nat):bits .or .u32 (Int.fdiv x (2 ^ n)) (IntKind.u32.wrap (x*2 ^ (32 - n)))=rr32 x n:=K_y4 rfl _ _
theorem K_cx(x:Int)(n:Nat):bits .or .u64 (Int.fdiv x (2 ^ n)) (IntKind.u64.wrap (x*2 ^ (64 - n)))=rr64 x n:=K_y4 rfl _ _
theorem K_1gs(x y w16 w7:Int):
  IntKind.u32.wrap ((IntKind.u32.wrap ((IntKind.u32.wrap ((bits .xor .u32 (bits .xor .u32 (rr32 y 17) (rr32 y 19)) (Int.fdiv y (2 ^ 10)))+w7))+(bits .xor .u32 (bits .xor .u32 (rr32 x 7) (rr32 x 18)) (Int.fdiv x (2 ^ 3)))))+w16)=sch32 x y w16 w7:=by
 unfold sch32
 simp only[IntKind.wrap_u32]
 omega
theorem K_1gz(x y w16 w7:Int):
  IntKind.u64.wrap ((IntKind.u64.wrap ((IntKind.u64.wrap ((bits .xor .u64 (bits .xor .u64 (rr64 y 19) (rr64 y 61)) (Int.fdiv y (2 ^ 6)))+w7))+(bits .xor .u64 (bits .xor .u64 (rr64 x 1) (rr64 x 8)) (Int.fdiv x (2 ^ 7)))))+w16)=sch64 x y w16 w7:=by
 unfold sch64
 simp only[IntKind.wrap_u64]
 omega
end Go.Sha
