/- Texts of this claim, put together: EscJn, EscJo, EscZc, EscZd, EscJp -/
import Derived.Test.YteomkfcfhlljkaaDoorAllLawadjpfi
import Derived.Test.YteomkfcfhlljkaaDoorAllLawkobmpe
import Derived.SliceStrings
set_option linter.unusedVariables false
set_option maxRecDepth 100000
namespace Go.Sh
open Go.Fw Go.Gf Go.Sha Go.RowKit Go.Proofs.Tryd
theorem K_1kk(L:List (List F))(x:F):valJ L x=(List.range (bAt (L.getD 0 []) 4+4)).map fun v=>lagV L (bAt (L.getD 0 []) 2) v x:=by
 unfold valJ betwL lagV
 refine List.map_congr_left fun v _=>?_
 rw[K_pp]
theorem K_1hn{L:List (List F)}{need n:Nat}(hv:∀ c∈L,(valsP c).length=n):(∀ c∈L.drop need,betwL L need n (idxF c)=valsP c)↔∀ v,v<n→OnLine (ptsL L v) need:=by
 constructor
 ·intro h v hvn p hp
  have hd:(ptsL L v).drop need=ptsL (L.drop need) v:=by unfold ptsL;rw[List.map_drop]
  rw[hd]at hp
  unfold ptsL at hp
  obtain⟨c,hc,rfl⟩:=List.mem_map.1 hp
  have:=congrArg (fun l=>l.getD v 0) (h c hc)
  dsimp only at this ⊢
  rw[←this]
  unfold betwL
  rw[K_e3 _ _ 0 0 (by simpa using hvn),←K_pp]
  have:(List.range n).getD v 0=v:=by rw[J_gd,List.getElem?_range hvn];rfl
  rw[this];rfl
 ·intro h c hc
  have hcl:=hv c (List.mem_of_mem_drop hc)
  apply List.ext_getElem
  ·rw[K_6g,hcl]
  ·intro v h1 h2
   rw[K_6g]at h1
   have hp:(b8 (bAt c 3),(valsP c).getD v 0)∈(ptsL L v).drop need:=by
    have hd:(ptsL L v).drop need=ptsL (L.drop need) v:=by unfold ptsL;rw[List.map_drop]
    rw[hd]
    exact List.mem_map_of_mem (f:=fun c=>(b8 (bAt c 3),(valsP c).getD v 0)) hc
   have:=h v h1 _ hp
   have e:(betwL L need n (idxF c))[v]'(by rw[K_6g];exact h1)=lag (ptsL (L.take need) v) (idxF c):=by simp[betwL]
   rw[e,K_pp,K_zd h2]
   exact this
theorem K_1iy{C S:List Int}{L:List (List F)}{set need size:Nat}(hv:∀ c∈L,(valsP c).length=size+4):fitL C S L set need size=true↔(∀ v,v<size+4→OnLine (ptsL L v) need)∧betwL L need (size+4) 0=rowP C S set ((betwL L need (size+4) 0).take size):=by
 unfold fitL
 rw[decide_eq_true_iff]
 exact and_congr (K_1hn hv) Iff.rfl
theorem K_1hw{K:Nat}(hK:18446744073709551616≤K){w:World}{C S:List Int}(T:TabsR w C S){g:Nat}{p:Pt}{t:Sl}{V:List F}(hb:Bk 105 w g (ptC p))(ht:OwnS 5 w t (fb V))(hl:bAt p.1 4≤V.length)(hV:V.length≤1000):
  ∃ w',K_ac K ⟨g,0,none⟩ t w=some ((!decide (rowP C S (setN p.1) (V.take (bAt p.1 4))=V),()),w')∧Upd none_ w w':=by
 have ud:Upd none_ w w.drew:=(Upd.refl _ _).drew
 have lds:∀ w2:World,Bk 105 w2 g (ptC p)→ldI .u16 (((⟨g,0,none⟩:Addr).add 0).add 0) w2=some ((setN p.1:Nat):Int)∧ldI .i64 (((⟨g,0,none⟩:Addr).add 0).add 3) w2=some ((bAt p.1 4:Nat):Int):=fun w2 b=>by
  simp only[add_lit,Nat.zero_add]
  exact⟨b.ldI rfl,b.ldI rfl⟩
 obtain⟨l0,l3⟩:=lds _ (hb.upd0 ud)
 have htl:=ht.len
 rw[K_1]at htl
 have hcap:=ht.cap
 have c1:(0:Int)≤((bAt p.1 4:Nat):Int)∧((bAt p.1 4:Nat):Int)≤((t.cap:Nat):Int):=by omega
 have hsrc:BSrc w.drew ⟨sla t.a 0 t.cap 1,bAt p.1 4 - 0,t.cap - 0⟩ (V.take (bAt p.1 4)):=by
  rw[sla_zero,Nat.sub_zero,Nat.sub_zero]
  have:=(ht.drew.src (K_k _)).cut (n:=bAt p.1 4) (by omega)
  rw[K_jo]at this;exact this
 obtain⟨s2,w2,a1,a2,a3,a4⟩:=K_1la hK (T.upd0 ud) (set:=setN p.1) (K_16g _) hsrc (by rw[List.length_take];omega)
 have u2:=ud.and0 a3
 obtain⟨m0,m3⟩:=lds _ (hb.upd0 u2)
 have r1:=K_jn (s:=t) ((ht.drew.src (K_k _)).rds)
 have r2:=K_jn (s:=t) (((ht.upd0 u2).src (K_k _)).rds)
 have r3:=K_jn (s:=s2) ((a2.src (K_k _)).rds)
 refine⟨w2,?_,u2⟩
 unfold K_ac
 rw[l0,J_bs,l3,J_bs,if_pos c1,J_tn,r1,J_bs,a1,bnd_ok,r2,J_bs,K_a,m3,J_bs,K_a,m0,J_bs,K_a,r3,J_bs,K_1gp]
def JoinedAt(w:World)(s:Sl)(L:List (List F)):Prop:=∃ B ss R,OutAt B w s ss R∧R.length=bAt (L.getD 0 []) 4+4∧∀ v,v<bAt (L.getD 0 []) 4+4→(R.getD v []).length=bAt (L.getD 0 []) 2∧∀ x,ev (R.getD v []) x=lagV L (bAt (L.getD 0 []) 2) v x
theorem K_17w{K:Nat}(hK:18446744073709551616≤K){w:World}{C S:List Int}(T:TabsR w C S){a:Sl}{ts:List ByteArray}{Ts:List (List Nat)}(hT:TextsL ts Ts)(hl:ts.length≤1000)(hs:Src w a (tx ts))(hlt:∀ q,a.a=some q→ts≠[]→q.block<w.heap.size):
  ∃ s' q w',K_99 K a w=some ((s',(ptC q).toArray,(joinR C S Ts).1,()),w')∧Upd none_ w w'∧((joinR C S Ts).1=0→q.1=(joinR C S Ts).2.getD 0 []∧JoinedAt w' s' (joinR C S Ts).2):=by
 obtain⟨w0,z1,z2,z3,z4⟩:=K_9 z105 105 w
 have z2:Bk 105 w0 w.heap.size (ptC pt0):=by rw[K_16p]at z2;exact z2
 obtain⟨w1,u1,b1,k1⟩:=K_1im hK hT hl (B:=w0.heap.size) (g:=w.heap.size) (fun q hq hne=>by have:=hlt q hq hne;omega) (by omega) ts.length 0 K w0 ⟨none,0,0⟩ [] (by omega) (by omega) (Nat.le_refl _) (hs.upd0 z3) rfl (PtAt.nil _ _) z2
 have u1:Upd (· =w.heap.size) w0 w1:=u1.mono fun k _ e=>e.elim (fun e=>by cases e) id
 have z1':=u1.size
 rw[List.drop_zero]at k1
 have end_:∀ {w2:World},Upd (· =w.heap.size) w0 w2→Upd none_ w w2:=fun u=>z3.trans' u fun k hk e=>by omega
 unfold K_99
 rw[z1,bnd_ok]
 by_cases h1:(mendAll Ts).1=0
 ·rw[if_pos h1]at k1
  obtain⟨all,ps,r1,hA,hps⟩:=k1
  rw[List.nil_append]at hA
  have r1:K_r K K a ⟨w.heap.size,0,none⟩ ⟨none,0,0⟩ 0 w0=_:=r1
  have hsz:=hA.size
  have hpl:ps.length=(mendAll Ts).2.length:=by rw[←hps,List.length_map]
  have hlen:ps.length≤1000:=by have:=K_jt Ts;have:=hT.1;omega
  rw[r1,bnd_ok]
  dsimp only
  rw[hsz]
  cases h2:(mendAll Ts).2 with
  | nil=>
   rw[h2]at hpl
   rw[K_yk h1 h2]
   obtain⟨w2,d1,d2,d3⟩:=stP b1 pt0
   refine⟨nilF,pt0,w2,?_,end_ (u1.trans' d3 fun _ _ e=>e),(fun e=>by cases e)⟩
   rw[hpl]
   rw[if_pos (by rfl),K_ha,J_bs,if_pos (K_cv _),d1,J_bs,ldP6 d2,J_bs]
  | cons x r=>
   have hj:=K_u8 (C:=C) (S:=S) h1 h2
   rw[h2]at hps hpl
   have hfit:=K_jy Ts
   rw[h2]at hfit
   rw[List.length_cons]at hpl
   rw[if_neg (by rw[beq_iff_eq];omega)]
   have hp0:(ps.getD 0 pt0).1=x:=by
    have:=K_e3 (·.1) ps pt0 [] (i:=0) (by omega)
    rw[hps]at this;exact this.symm
   obtain⟨p,p1,p2,_⟩:=hA.ld (i:=0) (by omega)
   have c0:(0:Int)≤0∧(0:Int)<((ps.length:Nat):Int):=by omega
   obtain⟨w2,w3,f1,f2,f3,f4,f5⟩:=cpP w1 (ps.getD 0 pt0)
   have hA3:=hA.upd0 f4
   obtain⟨w4,r2,u4,b4⟩:=K_1hm (K:=K) (g1:=w1.heap.size) hlen (g:=w.heap.size) (by omega) (by omega) ps.length 0 K w3 (by omega) (by omega) (by have:=f4.size;omega) hA3 (b1.upd0 f4) f3
   have r2:K_20 K K ⟨w.heap.size,0,none⟩ all ⟨w1.heap.size,0,none⟩ 0 w3=_:=r2
   rw[List.drop_zero,hps,hp0]at r2
   have u14:Upd (· =w.heap.size) w0 w4:=(u1.and0 f4).trans' u4 fun _ _ e=>e
   have hA4:PtAt w0.heap.size w4 all ps:=hA3.updN hA3.lt u4 fun k h _ e=>by omega
   have f34:=f3.upd u4 (fun e=>by omega)
   have z34:=u4.size
   have z13:=f4.size
   rw[p1,J_bs,if_pos c0,p2,J_bs,f1,bnd_ok,if_pos (K_cv _),f2,J_bs,r2,bnd_ok]
   by_cases h3:(x :: r).all (alikeB x)=true
   ·rw[if_pos h3]
    rw[if_neg (by rw[h3];decide)]at hj
    dsimp only
    have hvl:∀ q∈ps,fitB q.1=true∧alikeB x q.1=true∧(valsP q.1).length=bAt x 4+4:=fun q hq=>by
     have hm:q.1∈x :: r:=by rw[←hps];exact List.mem_map_of_mem hq
     have h4:=List.all_eq_true.1 h3 _ hm
     exact⟨hfit _ hm,h4,K_pt (hfit _ hm) h4⟩
    have hx4:=K_2u x 4
    obtain⟨w5,u5,b5,k5⟩:=K_1hs hK (B:=w0.heap.size) (B1:=w4.heap.size) (g:=w.heap.size) (s:=all) (fa:=⟨w1.heap.size,0,none⟩) hlen (by omega) (by omega) (fun q hq=>by rw[(hvl q hq).2.2];omega) hA4.lt ps.length 0 K w4 ⟨none,0,0⟩ [] (by omega) (by omega) (Nat.le_refl _) hA4 (PtAt.nil _ _) (fun k hk=>by cases hk) (fun p hp=>by cases hp) (Nat.le_refl _) b4 ⟨fun a h=>by simp at h,fun a h=>(by cases h),by simp⟩
    have u5:Upd (· =w.heap.size) w4 w5:=u5.mono fun k _ e=>e.elim (fun e=>by cases e) id
    rw[List.drop_zero,List.map_nil,hps]at k5
    have u15:=u14.trans' u5 fun _ _ e=>e
    have z45:=u5.size
    cases ho:ownL [] (x :: r) with
    | none=>
     rw[ho]at k5 hj
     have k5:K_x K K ⟨w.heap.size,0,none⟩ all ⟨w1.heap.size,0,none⟩ ⟨none,0,0⟩ 0 w4=_:=k5
     rw[hj]
     refine⟨nilF,pt0,w5,?_,end_ u15,(fun e=>by cases e)⟩
     rw[k5,bnd_ok]
     dsimp only
     rw[ldP6 b5,J_bs]
    | some l=>
     rw[ho]at k5 hj
     obtain⟨own,os,k6,hO,hos⟩:=k5
     have k6:K_x K K ⟨w.heap.size,0,none⟩ all ⟨w1.heap.size,0,none⟩ ⟨none,0,0⟩ 0 w4=_:=k6
     rw[k6,bnd_ok]
     dsimp only at hj ⊢
     obtain⟨o1,o2,o3,o4,o5⟩:=K_uj ho
     have hol:os.length=l.length:=by rw[←hos,List.length_map]
     have f35:=f34.upd u5 (fun e=>by omega)
     have l1:ldI .i64 (((⟨w1.heap.size,0,none⟩:Addr).add 0).add 1) w5=some ((bAt x 2:Nat):Int):=by
      simp only[add_lit,Nat.zero_add]
      have h:=f35.ldI (i:=1) (κ:=.i64) (n:=((bAt (ps.getD 0 pt0).1 2:Nat):Int)) rfl
      rw[hp0]at h;exact h
     rw[l1,J_bs,hO.size,hol]
     by_cases h5:l.length<bAt x 2
     ·rw[if_pos h5]at hj
      rw[hj]
      obtain⟨w6,d1,d2,d3⟩:=stP b5 pt0
      refine⟨nilF,pt0,w6,?_,end_ (u15.trans' d3 fun _ _ e=>e),(fun e=>by cases e)⟩
      rw[if_pos (decide_eq_true (by omega)),K_ha,J_bs,if_pos (K_cv _),d1,J_bs,ldP6 d2,J_bs]
     ·rw[if_neg h5]at hj
      rw[if_neg (by simp only[decide_eq_true_eq];omega)]
      have hn:=K_130 (hfit x (List.mem_cons_self ..))
      have hlike:∀ c∈l,alikeB x c=true:=fun c hc=>List.all_eq_true.1 h3 c (o4 c hc)
      have hvals:∀ c∈l,(valsP c).length=bAt x 4+4:=fun c hc=>K_pt (hfit c (o4 c hc)) (hlike c hc)
      have hsv0:(ps.getD 0 pt0).2.1.len=bAt x 4+4:=by
       have hm:=K_no pt0 (l:=ps) (i:=0) (by omega)
       rw[(hA.src _ hm).len,K_1,(hvl _ hm).2.2]
      obtain⟨w6,u6,b6,k7,k8⟩:=K_1i0 hK (own:=own) (os:=os) (p0:=ps.getD 0 pt0) (need:=bAt x 2) (n:=bAt x 4+4) (g:=w.heap.size) (g1:=w1.heap.size) (B:=w0.heap.size) (N:=w5.heap.size) (B0:=w5.heap.size) hn.1 hn.2.1 (by omega) (by omega) hO.lt (Nat.le_refl _) (by omega) (by omega) (by omega) (by omega) (fun q hq=>hvals _ (by rw[←hos];exact List.mem_map_of_mem hq)) hsv0 (by omega) (by rw[hos];exact K_1fi o1) (bAt x 4+4) 0 K w5 nilF [] [] nilF (by omega) (by omega) (Nat.le_refl _) hO b5 f35 (OutAt.nil _ _) rfl (fun v' h=>by omega) (OwnS.nil _ _) (fun k hk=>by cases hk) (fun i hi=>absurd hi (Nat.not_lt_zero i))
      rw[hos]at k7 k8
      have u6':Upd (· =w.heap.size) w5 w6:=u6.mono fun k hk e=>e.elim (fun e=>by omega) id
      have u16:=u15.trans' u6' fun _ _ e=>e
      have hiff:=K_1iy (C:=C) (S:=S) (set:=setN x) (need:=bAt x 2) hvals
      by_cases hon:∀ v,0≤v→v<bAt x 4+4→OnLine (ptsL l v) (bAt x 2)
      ·obtain⟨out,ss,R,t,r5,hOut,hRl,hR,ht,ht1⟩:=k7 hon
       have r5:K_q K K ⟨w.heap.size,0,none⟩ ⟨w1.heap.size,0,none⟩ own ((bAt x 2:Nat):Int) ⟨none,0,0⟩ ⟨none,0,0⟩ 0 w5=_:=r5
       rw[r5,bnd_ok]
       dsimp only
       have f36:=f35.upd u6 (fun e=>e.elim (fun e=>by omega) fun e=>by omega)
       have hval:((List.range (bAt x 4+4)).map fun v'=>lagV l (bAt x 2) v' 0)=betwL l (bAt x 2) (bAt x 4+4) 0:=by
        unfold betwL lagV
        refine List.map_congr_left fun v _=>?_
        rw[K_pp]
       rw[hval]at ht
       obtain⟨w7,s1,s2⟩:=K_1hw hK (T.upd0 (end_ u16)) f36 ht (by rw[K_6g,hp0];omega) (by rw[K_6g];omega)
       rw[hp0]at s1
       rw[s1,bnd_ok]
       by_cases hrow:rowP C S (setN x) ((betwL l (bAt x 2) (bAt x 4+4) 0).take (bAt x 4))=betwL l (bAt x 2) (bAt x 4+4) 0
       ·rw[decide_eq_true hrow,if_neg (by decide)]
        have h6:fitL C S l (setN x) (bAt x 2) (bAt x 4)=true:=hiff.2 ⟨fun v hv=>hon v (Nat.zero_le _) hv,hrow.symm⟩
        rw[if_neg (by rw[h6];decide)]at hj
        have ud:Upd none_ w6 w7.drew:=s2.drew
        obtain⟨w8,d1,d2,d3⟩:=stP (b6.upd0 ud) (ps.getD 0 pt0)
        rw[hj]
        have z56:=u6.size
        refine⟨out,ps.getD 0 pt0,w8,?_,end_ ((u16.and0 ud).trans' d3 fun _ _ e=>e),fun _=>⟨by rw[hp0];exact o2.symm,?_⟩⟩
        ·rw[ldP6 (f36.upd0 ud),J_bs,if_pos (K_cv _),d1,J_bs,ldP6 d2,J_bs]
        ·refine⟨w5.heap.size,ss,R,(hOut.upd0 ud).updS d3 (fun k hk e=>by have:=hOut.low k hk;omega) (fun i hi q hq e=>by have:=(hOut.off i hi q hq).2.1;omega),?_,?_⟩
         ·show R.length=bAt (l.getD 0 []) 4+4
          rw[o2];exact hRl
         ·show ∀ v,v<bAt (l.getD 0 []) 4+4→(R.getD v []).length=bAt (l.getD 0 []) 2∧∀ x,ev (R.getD v []) x=lagV l (bAt (l.getD 0 []) 2) v x
          rw[o2];exact hR
       ·rw[decide_eq_false hrow,if_pos (by decide)]
        have h6:fitL C S l (setN x) (bAt x 2) (bAt x 4)=false:=by
         apply Bool.eq_false_iff.2
         intro h
         exact hrow (hiff.1 h).2.symm
        rw[if_pos h6]at hj
        rw[hj]
        obtain⟨w8,d1,d2,d3⟩:=stP (b6.upd0 s2) pt0
        refine⟨nilF,pt0,w8,?_,end_ ((u16.and0 s2).trans' d3 fun _ _ e=>e),(fun e=>by cases e)⟩
        rw[K_ha,J_bs,if_pos (K_cv _),d1,J_bs,ldP6 d2,J_bs]
      ·have r5:=k8 hon
       have r5:K_q K K ⟨w.heap.size,0,none⟩ ⟨w1.heap.size,0,none⟩ own ((bAt x 2:Nat):Int) ⟨none,0,0⟩ ⟨none,0,0⟩ 0 w5=_:=r5
       have h6:fitL C S l (setN x) (bAt x 2) (bAt x 4)=false:=by
        apply Bool.eq_false_iff.2
        intro h
        exact hon fun v _ hv=>(hiff.1 h).1 v hv
       rw[if_pos h6]at hj
       rw[hj,r5,bnd_ok]
       dsimp only
       refine⟨nilF,pt0,w6,?_,end_ u16,(fun e=>by cases e)⟩
       rw[ldP6 b6,J_bs]
   ·rw[if_neg h3]
    rw[if_pos (by simpa using h3)]at hj
    rw[hj]
    refine⟨nilF,pt0,w4,?_,end_ u14,(fun e=>by cases e)⟩
    dsimp only
    rw[ldP6 b4,J_bs]
 ·rw[if_neg h1]at k1
  have k1:K_r K K a ⟨w.heap.size,0,none⟩ ⟨none,0,0⟩ 0 w0=_:=k1
  rw[K_xj h1]
  refine⟨nilF,pt0,w1,?_,end_ u1,fun e=>absurd e h1⟩
  rw[k1,bnd_ok]
  dsimp only
  rw[ldP6 b1,J_bs]
end Go.Sh

namespace Go.Sh
open Go.Fw Go.Gf Go.Sha Go.RowKit Go.Proofs.Tryd
structure RowsJ(N:Nat) (w:World) (s:Sl) (ss:List Sl) (R:List (List F)):Prop where
 own:Fw.Src w s (ss.map slF)
 len:ss.length=R.length
 row:∀ i,i<R.length→BSrc w (ss.getD i nilF) (R.getD i [])
 lt:(∀ q,s.a=some q→q.block<N)∧∀ i,i<R.length→∀ q,(ss.getD i nilF).a=some q→q.block<N
theorem RowsJ.upd{N:Nat}{w w':World}{s:Sl}{ss:List Sl}{R:List (List F)}{X:Nat→Prop}(h:RowsJ N w s ss R)(u:Upd X w w')(hn:∀ k,k<N→¬X k):RowsJ N w' s ss R:=
 ⟨h.own.upd u fun q hq=>hn _ (h.lt.1 q hq),h.len,fun i hi=>Fw.Src.upd (h.row i hi) u fun q hq=>hn _ (h.lt.2 i hi q hq),h.lt⟩
theorem RowsJ.upd0{N:Nat}{w w':World}{s:Sl}{ss:List Sl}{R:List (List F)}(h:RowsJ N w s ss R)(u:Upd none_ w w'):RowsJ N w' s ss R:=h.upd u fun _ _=>id
theorem RowsJ.size{N:Nat}{w:World}{s:Sl}{ss:List Sl}{R:List (List F)}(h:RowsJ N w s ss R):s.len=R.length:=by rw[h.own.len,List.length_map,h.len]
theorem RowsJ.ld{N:Nat}{w:World}{s:Sl}{ss:List Sl}{R:List (List F)}(h:RowsJ N w s ss R){i:Nat}(hi:i<R.length):∃ p,s.a=some p∧ldS (p.add i) w=some (ss.getD i nilF):=by
 have hl:=h.len
 rcases h.own.rd with ⟨_,_,e⟩ | ⟨p,e1,e2⟩
 ·have:=congrArg List.length e
  rw[List.length_map]at this
  simp at this;rw[this]at hl;simp at hl;omega
 ·refine⟨p,e1,?_⟩
  have hv:(ss.map slF)[i]? =some (slF (ss.getD i nilF)):=by
   rw[List.getElem?_map,J_ge (by omega),J_gd,J_ge (by omega)];rfl
  have:=e2 i _ hv
  unfold ldS
  rw[this];rfl
theorem OutAt.rows{B:Nat}{w:World}{s:Sl}{ss:List Sl}{R:List (List F)}(h:OutAt B w s ss R):RowsJ w.heap.size w s ss R:=
 ⟨h.own.src (K_16a ss),h.len,h.row,fun q hq=>h.own.lt (k:=q.block) (by simp[Sl.blk,hq]),fun i hi q hq=>(h.off i hi q hq).2.2⟩
theorem K_nj(L:List (List F))(x:F):(valJ L x).length=bAt (L.getD 0 []) 4+4:=K_6g _ _ _ _
theorem K_1bg{L:List (List F)}{x:F}{v:Nat}(h:v<bAt (L.getD 0 []) 4+4):(valJ L x).getD v 0=lagV L (bAt (L.getD 0 []) 2) v x:=by
 rw[K_1kk,K_e3 _ _ 0 0 (by simpa using h)]
 have:(List.range (bAt (L.getD 0 []) 4+4)).getD v 0=v:=by rw[J_gd,List.getElem?_range h];rfl
 rw[this]
theorem takeJ(l:List F){i:Nat}(h:i<l.length):l.take i ++ [l.getD i 0]=l.take (i+1):=by
 rw[List.take_succ_eq_append_getElem h,K_zd h]
theorem K_1j5{K:Nat}{N g:Nat}{s:Sl}{ss:List Sl}{R L:List (List F)}{q:Pt}(hq:q.1=L.getD 0 [])(hRl:R.length=bAt (L.getD 0 []) 4+4)(hneed:1≤bAt (L.getD 0 []) 2)(hR:∀ v,v<bAt (L.getD 0 []) 4+4→(R.getD v []).length=bAt (L.getD 0 []) 2∧∀ x,ev (R.getD v []) x=lagV L (bAt (L.getD 0 []) 2) v x)(hg:g<N):
  ∀ (d i m:Nat) (w:World) (t:Sl),i+d=bAt (L.getD 0 []) 4→d<m→N≤w.heap.size→RowsJ N w s ss R→Bk 105 w g (ptC q)→OwnS 5 w t (fb ((valJ L 0).take i))→(∀ k,t.blk=some k→N≤k)→
   ∃ t' w',K_5l K m s ⟨g,0,none⟩ t (i:Int) w=some ((t',()),w')∧OwnS 5 w' t' (fb ((valJ L 0).take (bAt (L.getD 0 []) 4)))∧Upd (fun k=>t.blk=some k) w w'∧∀ k,t'.blk=some k→t.blk=some k∨w.heap.size≤k:=by
 have h4:=K_2u (L.getD 0 []) 4
 intro d
 induction d with
 | zero=>
  intro i m w t hi hm hN hS hb ht ht1
  obtain⟨m,rfl⟩:∃ q,m=q+1:=⟨m - 1,by omega⟩
  have hin:i=bAt (L.getD 0 []) 4:=by omega
  rw[hin]at ht
  have l3:ldI .i64 (((⟨g,0,none⟩:Addr).add 0).add 3) w=some ((bAt q.1 4:Nat):Int):=by simp only[add_lit,Nat.zero_add];exact hb.ldI rfl
  refine⟨t,w,?_,ht,Upd.refl _ _,fun k hk=>.inl hk⟩
  show K_9l K (K_5l K m) s ⟨g,0,none⟩ t (i:Int) w=_
  unfold K_9l
  rw[l3,J_bs,hq,if_neg (by simp only[decide_eq_true_eq];omega)]
 | succ d ih=>
  intro i m w t hi hm hN hS hb ht ht1
  obtain⟨m,rfl⟩:∃ q,m=q+1:=⟨m - 1,by omega⟩
  have l3:ldI .i64 (((⟨g,0,none⟩:Addr).add 0).add 3) w=some ((bAt q.1 4:Nat):Int):=by simp only[add_lit,Nat.zero_add];exact hb.ldI rfl
  have e3:IntKind.i64.wrap ((i:Int)+1)=((i+1:Nat):Int):=by rw[w64 (by omega) (by omega)];rfl
  have hiR:i<R.length:=by omega
  obtain⟨p,p1,p2⟩:=hS.ld hiR
  have hsz:=hS.size
  have c1:(0:Int)≤(i:Int)∧(i:Int)<((s.len:Nat):Int):=by omega
  obtain⟨hr1,hr2⟩:=hR i (by omega)
  have hsrc:=hS.row i hiR
  have hrl:0<(R.getD i []).length:=by omega
  obtain⟨p',p1',p3⟩:=K_1a hsrc hrl
  have hv:(R.getD i [])[0]=(valJ L 0).getD i 0:=by rw[K_zd hrl,←K_1do hrl,hr2,K_1bg (by omega)]
  rw[hv]at p3
  have p3:ldI .u8 (p'.add (0*1)) w=_:=p3
  have hsl:(ss.getD i nilF).len=(R.getD i []).length:=by rw[hsrc.len,K_1]
  have c2:(0:Int)≤0∧(0:Int)<(((ss.getD i nilF).len:Nat):Int):=by omega
  obtain⟨w1,t1,w2,a1,a2,a4,a5,a6⟩:=K_ez ht (by rw[List.length_take];omega) ((valJ L 0).getD i 0)
  rw[takeJ _ (by rw[K_nj];omega)]at a4
  have z2:=a5.size
  obtain⟨t',w',k1,k2,k3,k4⟩:=ih (i+1) m w2 t1 (by omega) (by omega) (by omega) (hS.upd a5 fun k hk e=>by have:=ht1 k e;omega) (hb.upd a5 fun e=>by have:=ht1 _ e;omega) a4 (fun k hk=>(a6 k hk).elim (ht1 k) fun e=>by omega)
  refine⟨t',w',?_,k2,a5.trans' k3 fun k hk e=>(a6 k e).elim id fun e2=>absurd hk (by omega),fun k hk=>(k4 k hk).elim (a6 k) fun e=>.inr (by omega)⟩
  show K_9l K (K_5l K m) s ⟨g,0,none⟩ t (i:Int) w=_
  unfold K_9l
  rw[l3,J_bs,hq,if_pos (decide_eq_true (by omega)),p1,J_bs,if_pos c1,J_tn,Nat.mul_one,p2,J_bs,p1',J_bs,if_pos c2,p3,J_bs,a1,bnd_ok]
  dsimp only
  rw[a2,bnd_ok,e3,k1]
theorem K_1i9{K:Nat}(hK:18446744073709551616≤K){w:World}{C S:List Int}(T:TabsR w C S){a:Sl}{ts:List ByteArray}{Ts:List (List Nat)}(hT:TextsL ts Ts)(hl:ts.length≤1000)(hs:Src w a (tx ts))(hlt:∀ q,a.a=some q→ts≠[]→q.block<w.heap.size):
  ∃ s' w',K_er K a w=some ((s',(joinR C S Ts).1,()),w')∧Upd none_ w w'∧OwnS 5 w' s' (fb (secJ (joinR C S Ts)))∧Fresh w.heap.size s':=by
 obtain⟨s1,q,w1,a1,u1,a2⟩:=K_17w hK T hT hl hs hlt
 obtain⟨w2,w3,f1,f2,f3,f4,f5⟩:=cpP w1 q
 unfold K_er secJ
 rw[a1,bnd_ok,f1,bnd_ok]
 dsimp only
 rw[if_pos (K_cv _),f2,J_bs]
 by_cases h:(joinR C S Ts).1=0
 ·rw[if_neg (by rw[h];decide),if_pos h]
  obtain⟨hq,B,ss,R,hO,hRl,hR⟩:=a2 h
  obtain⟨J,hjl⟩:=K_mw h
  have z1:=u1.size
  have z3:=f4.size
  obtain⟨t',w4,k1,k2,k3,k4⟩:=K_1j5 (K:=K) hq hRl J.need.1 hR (N:=w3.heap.size) f5 (bAt ((joinR C S Ts).2.getD 0 []) 4) 0 K w3 nilF (by omega) (by have:=J.need;omega) (Nat.le_refl _) (by
   have h1:=hO.rows.upd0 f4
   exact⟨h1.own,h1.len,h1.row,fun q hq=>by have:=h1.lt.1 q hq;omega,fun i hi q hq=>by have:=h1.lt.2 i hi q hq;omega⟩) f3 (OwnS.nil _ _) (fun k hk=>by cases hk)
  have k1:K_5l K K s1 ⟨w1.heap.size,0,none⟩ ⟨none,0,0⟩ 0 w3=_:=k1
  have u4:Upd none_ w3 w4:=k3.mono fun k _ e=>by cases e
  refine⟨t',w4,?_,(u1.and0 f4).and0 u4,k2,fun k hk=>(k4 k hk).elim (fun e=>by cases e) fun e=>by omega⟩
  rw[k1,bnd_ok,h]
 ·rw[if_pos (by rw[bne_iff_ne];exact h),if_neg h]
  exact⟨nilF,w3,rfl,u1.and0 f4,OwnS.nil _ _,(fun k hk=>by cases hk)⟩
theorem K_1eu(K:Nat)(idx:Int)(w:World):K_9o K idx w=some ((decide (idx<1∨255<idx),()),w):=by
 unfold K_9o
 by_cases h:idx<1
 ·rw[if_pos (decide_eq_true h),decide_eq_true (Or.inl h)]
 ·rw[if_neg (by simpa using h)]
  congr 3
  rw[decide_eq_decide];omega
theorem K_1eo{K:Nat}(hK:18446744073709551616≤K){N n:Nat}{s:Sl}{fa:Addr}{ss:List Sl}{R L:List (List F)}(hRl:R.length=bAt (L.getD 0 []) 4+4)(hneed:bAt (L.getD 0 []) 2≤16)(hR:∀ v,v<bAt (L.getD 0 []) 4+4→(R.getD v []).length=bAt (L.getD 0 []) 2∧∀ x,ev (R.getD v []) x=lagV L (bAt (L.getD 0 []) 2) v x):
  ∀ (d i m:Nat) (w:World) (t:Sl),i+d=R.length→d<m→N≤w.heap.size→RowsJ N w s ss R→OwnS 5 w t (fb ((valJ L (b8 n)).take i))→(∀ k,t.blk=some k→N≤k)→
   ∃ t' w',K_3o K m (n:Int) s fa t (i:Int) w=some ((t',()),w')∧OwnS 5 w' t' (fb (valJ L (b8 n)))∧Upd (fun k=>t.blk=some k) w w'∧∀ k,t'.blk=some k→t.blk=some k∨w.heap.size≤k:=by
 have h4:=K_2u (L.getD 0 []) 4
 intro d
 induction d with
 | zero=>
  intro i m w t hi hm hN hS ht ht1
  obtain⟨m,rfl⟩:∃ q,m=q+1:=⟨m - 1,by omega⟩
  have hsz:=hS.size
  rw[List.take_of_length_le (by rw[K_nj];omega)]at ht
  refine⟨t,w,?_,ht,Upd.refl _ _,fun k hk=>.inl hk⟩
  show K_7n K (K_3o K m) (n:Int) s fa t (i:Int) w=_
  unfold K_7n
  rw[if_neg (by simp only[decide_eq_true_eq];omega)]
 | succ d ih=>
  intro i m w t hi hm hN hS ht ht1
  obtain⟨m,rfl⟩:∃ q,m=q+1:=⟨m - 1,by omega⟩
  have e3:IntKind.i64.wrap ((i:Int)+1)=((i+1:Nat):Int):=by rw[w64 (by omega) (by omega)];rfl
  have hiR:i<R.length:=by omega
  obtain⟨p,p1,p2⟩:=hS.ld hiR
  have hsz:=hS.size
  have c1:(0:Int)≤(i:Int)∧(i:Int)<((s.len:Nat):Int):=by omega
  obtain⟨hr1,hr2⟩:=hR i (by omega)
  obtain⟨w1,v1,v2⟩:=K_1j4 hK (by omega) n (hS.row i hiR)
  rw[hr2,←K_1bg (by omega)]at v1
  obtain⟨w2,t1,w3,a1,a2,a4,a5,a6⟩:=K_ez (ht.upd0 v2) (by rw[List.length_take];omega) ((valJ L (b8 n)).getD i 0)
  rw[takeJ _ (by rw[K_nj];omega)]at a4
  have u3:Upd (fun k=>t.blk=some k) w w3:=(v2.mono (T:=fun k=>t.blk=some k) fun _ _ e=>e.elim).trans' a5 fun _ _ e=>e
  have z2:=u3.size
  have z1:=v2.size
  obtain⟨t',w',k1,k2,k3,k4⟩:=ih (i+1) m w3 t1 (by omega) (by omega) (by omega) (hS.upd u3 fun k hk e=>by have:=ht1 k e;omega) a4 (fun k hk=>(a6 k hk).elim (ht1 k) fun e=>by omega)
  refine⟨t',w',?_,k2,u3.trans' k3 fun k hk e=>(a6 k e).elim id fun e2=>absurd hk (by omega),fun k hk=>(k4 k hk).elim (fun e=>(a6 k e).imp id fun e2=>by omega) fun e=>.inr (by omega)⟩
  show K_7n K (K_3o K m) (n:Int) s fa t (i:Int) w=_
  unfold K_7n
  rw[if_pos (decide_eq_true (by omega)),p1,J_bs,if_pos c1,J_tn,Nat.mul_one,p2,J_bs,v1,bnd_ok,a1,bnd_ok]
  dsimp only
  rw[a2,bnd_ok,e3,k1]
theorem K_1e7{K:Nat}(hK:18446744073709551616≤K){w:World}{C S:List Int}(T:TabsR w C S)(idx:Int){a:Sl}{ts:List ByteArray}{Ts:List (List Nat)}(hT:TextsL ts Ts)(hl:ts.length≤1000)(hs:Src w a (tx ts))(hlt:∀ q,a.a=some q→ts≠[]→q.block<w.heap.size):
  ∃ w',K_bh K idx a w=some ((extT idx (joinR C S Ts),extE idx (joinR C S Ts),()),w')∧Upd none_ w w':=by
 unfold K_bh extT extE
 rw[K_1eu,bnd_ok]
 dsimp only
 by_cases hi:idx<1∨255<idx
 ·rw[if_pos (decide_eq_true hi),if_pos hi,if_pos hi]
  exact⟨w,rfl,Upd.refl _ _⟩
 ·rw[if_neg (by simpa using hi),if_neg hi,if_neg hi]
  obtain⟨s1,q,w1,a1,u1,a2⟩:=K_17w hK T hT hl hs hlt
  obtain⟨w2,w3,f1,f2,f3,f4,f5⟩:=cpP w1 q
  rw[a1,bnd_ok,f1,bnd_ok]
  dsimp only
  rw[if_pos (K_cv _),f2,J_bs]
  by_cases h:(joinR C S Ts).1=0
  ·rw[if_neg (by rw[h];decide),if_pos h]
   obtain⟨hq,B,ss,R,hO,hRl,hR⟩:=a2 h
   obtain⟨J,hjl⟩:=K_mw h
   obtain⟨n,rfl⟩:∃ n:Nat,idx=(n:Int):=⟨idx.toNat,by omega⟩
   have h4:=K_2u ((joinR C S Ts).2.getD 0 []) 4
   have z1:=u1.size
   have z3:=f4.size
   obtain⟨t',w4,k1,k2,k3,k4⟩:=K_1eo hK (n:=n) (fa:=⟨w1.heap.size,0,none⟩) hRl J.need.2.1 hR (N:=w3.heap.size) R.length 0 K w3 nilF (by omega) (by omega) (Nat.le_refl _) (by
    have h1:=hO.rows.upd0 f4
    exact⟨h1.own,h1.len,h1.row,fun q hq=>by have:=h1.lt.1 q hq;omega,fun i hi q hq=>by have:=h1.lt.2 i hi q hq;omega⟩) (OwnS.nil _ _) (fun k hk=>by cases hk)
   have k1:K_3o K K (n:Int) s1 ⟨w1.heap.size,0,none⟩ ⟨none,0,0⟩ 0 w3=_:=k1
   have u4:Upd none_ w3 w4:=k3.mono fun k _ e=>by cases e
   have f34:=f3.upd0 u4
   have z4:=u4.size
   have l4:ldA 4 ((⟨w1.heap.size,0,none⟩:Addr).add 0) w4=some (shL (setN q.1) (bAt q.1 2) (bAt q.1 3) (bAt q.1 4)).toArray:=by
    have:=f34.ldA (i:=0) (n:=4) (by simp[ptC,partC,shL])
    simp only[add_lit,Nat.zero_add]
    exact this
   obtain⟨w5,n1,n2,n3,n4⟩:=K_9 z84 84 w4
   have n2:Bk 84 w5 w4.heap.size (shL 0 0 0 0):=by rw[K_yt]at n2;exact n2
   obtain⟨w6,o1,o2,o3⟩:=n2.stA (o:=0) (vs:=(shL (setN q.1) (bAt q.1 2) (bAt q.1 3) (bAt q.1 4)).toArray) (by simp[shL]) (fun v hv=>K_es _ _ _ _ v hv)
   have o2:Bk 84 w6 w4.heap.size (shL (setN q.1) (bAt q.1 2) (bAt q.1 3) (bAt q.1 4)):=o2
   obtain⟨w7,r1,r2,r3⟩:=o2.stC (i:=2) (by simp[shL]) (.int .i64 (n:Int))
   have r2:Bk 84 w7 w4.heap.size (shL (setN q.1) (bAt q.1 2) n (bAt q.1 4)):=r2
   have r1:stC ((⟨w4.heap.size,0,none⟩:Addr).add 2) (.int .i64 (n:Int)) w6=some w7:=by simp only[add_lit,Nat.zero_add];exact r1
   have hz:(shL (setN q.1) (bAt q.1 2) (bAt q.1 3) (bAt q.1 4)).toArray.size=4:=rfl
   have l7:=r2.ldA (i:=0) (n:=4) (by simp[shL])
   have l7:ldA 4 ⟨w4.heap.size,0,none⟩ w7=some (shL (setN q.1) (bAt q.1 2) n (bAt q.1 4)).toArray:=l7
   have u7:Upd none_ w4 w7:=(n3.trans' o3 fun k hk e=>by omega).trans' r3 fun k hk e=>by omega
   obtain⟨s8,w8,g1,g2,g3,g4⟩:=K_1fy hK (s:=setN q.1) (need:=bAt q.1 2) (idx:=n) (size:=bAt q.1 4) (K_16g _) ((k2.upd0 u7).src (K_k _)) (by rw[K_nj];omega)
   have hll:=K_1be (setN q.1) (bAt q.1 2) n (bAt q.1 4) (valJ (joinR C S Ts).2 (b8 n))
   rw[K_nj]at hll
   obtain⟨w9,j1,j2⟩:=K_1fm hK (g2.src (K_k _)) (by omega)
   refine⟨w9,?_,((((u1.and0 f4).and0 u4).and0 u7).and0 g3).and0 j2⟩
   rw[k1,bnd_ok,l4,J_bs,n1,bnd_ok,if_pos hz,o1,J_bs,r1,J_bs,l7,J_bs,g1,bnd_ok,j1,bnd_ok,h]
   unfold lineT
   rw[←hq]
   rfl
  ·rw[if_pos (by rw[bne_iff_ne];exact h),if_neg h]
   exact⟨w3,rfl,u1.and0 f4⟩
end Go.Sh

namespace Go.Sh
open Go.Fw Go.Gf Go.Sha Go.RowKit Go.Proofs.Tryd Go.Deep Go.ChangeShapes Go.WideShapes
end Go.Sh

namespace Go.Sh
open Go.Fw Go.Gf Go.Sha Go.RowKit Go.Proofs.Tryd
end Go.Sh

namespace Go.Sh
open Go.Fw Go.Gf Go.Sha Go.RowKit Go.Proofs.Tryd Go.ChangeShapes Go.WideShapes
theorem und_S:prog.underlying 29=some (.slice 9):=by kernel_rfl
theorem und_s:prog.underlying 9=some .string:=by kernel_rfl
theorem K_1jr:prog.cellsOf 9=1:=by kernel_rfl
structure TextsIn(W:World) (s:Sl) (ts:List ByteArray):Prop where
 src:Fw.Src W s (tx ts)
 lt:∀ q,s.a=some q→ts≠[]→q.block<W.heap.size
theorem K_1dx{H:Type}{enc:TypeId×Value→H}{W:World}{d:DataW H}{p:List MemPlace}{v:Value}(h:DataW.Trod enc prog W 0 (fun _=>true) true 29 v d p)(hv:∃ a len cap,v= .slice a len cap):∃ s ts,v=slV s∧TextsIn W s ts:=by
 obtain⟨fuel,hf⟩:=h
 obtain⟨a,len,cap,rfl⟩:=hv
 rcases open_strings und_S und_s K_1jr hf with ⟨hcs,hx⟩ | ⟨a',len',cap',ss,hcs,_,hl,hm,hsl,hx,hcell,_⟩
 ·simp[Value.cells]at hcs
  obtain⟨rfl,rfl,rfl⟩:=hcs
  exact⟨nilF,[],rfl,⟨rfl,Nat.le_refl _,.inl ⟨rfl,rfl,rfl⟩,fun v hv=>by cases hv⟩,fun q hq=>by cases hq⟩
 ·simp[Value.cells]at hcs
  obtain⟨rfl,rfl,rfl⟩:=hcs
  have hsl:ss.length=cap:=hsl
  have hrd:∀ i v,(tx (ss.take len))[i]? =some v→W.cell? (a'.add i)=some v:=fun i v hv=>by
   have hi:i<len∧i<ss.length:=by
    have:=(List.getElem?_eq_some_iff.1 hv).1
    rw[K_16,List.length_take]at this;omega
   rw[hcell i hi.2]
   have h2:(tx (ss.take len))[i]? =some (.string (ss.getD i ByteArray.empty)):=by
    unfold tx
    rw[List.getElem?_map,List.getElem?_take_of_lt hi.1,J_ge hi.2,J_gd,J_ge hi.2];rfl
   rw[←hv,h2]
  refine⟨⟨some a',len,cap⟩,ss.take len,rfl,⟨by rw[K_16,List.length_take];show len=_;omega,hl,.inr ⟨a',rfl,hrd⟩,K_p2 _⟩,fun q hq hne=>?_⟩
  obtain rfl:a'=q:=Option.some.inj hq
  have h0:0<ss.length∧0<len:=by
   have:=List.length_pos_iff.2 hne
   rw[List.length_take]at this;omega
  have:=hcell 0 h0.1
  exact World.block_lt_of_cell? W _ (by simpa[Addr.add] using this)
def natsOf(t:ByteArray):List Nat:=t.data.toList.map UInt8.toNat
theorem K_1ic(ts:List ByteArray):TextsL ts (ts.map natsOf):=by
 refine⟨List.length_map ..,fun j hj=>?_⟩
 rw[K_e3 natsOf ts str0 [] hj]
 refine⟨K_1ky _,fun c hc=>?_⟩
 obtain⟨u,_,rfl⟩:=List.mem_map.1 hc
 exact u.toNat_lt
theorem K_1i6{w:World}{a:Option Addr}{cap:Nat}{ts:List ByteArray}(ho:OwnS 9 w ⟨a,ts.length+70,cap⟩ (tx (ts ++ margT))):Fw.Src w ⟨a,ts.length,cap⟩ (tx ts):=by
 have:=(ho.src (K_p2 _)).cut (n:=ts.length) (by show _≤ts.length+70;omega)
 have e:(tx (ts ++ margT)).take ts.length=tx ts:=by
  rw[K_xc,List.take_append_of_le_length (by rw[K_16];exact Nat.le_refl _),List.take_of_length_le (by rw[K_16];exact Nat.le_refl _)]
 rw[e]at this;exact this
theorem K_1ie{C S:List Int}{Ts:List (List Nat)}:(secJ (joinR C S Ts)).length≤1000:=by
 unfold secJ
 split
 ·rw[List.length_take]
  have:=K_2u ((joinR C S Ts).2.getD 0 []) 4
  omega
 ·exact Nat.zero_le _
theorem K_173{K:Nat}(hK:18446744073709551616≤K){C S:List Int}{W:World}(T:TabsR W C S)(idx:Int){l:Sl}{tl:List ByteArray}(P:TextsIn W l tl):
  ∃ w2,K_ar K l idx W=some ((true,()),w2)∧Upd none_ W w2:=by
 obtain⟨l1,c1,c2,c3⟩:=K_1kc P.src 40
 have c1:K_bt l 40=_:=c1
 generalize hts:tl.take 40=ts at c2 c3
 have hl1:∀ q,l1.a=some q→ts≠[]→q.block<W.heap.size:=fun q hq hne=>by
  rcases c2.rd with ⟨e,_⟩ | ⟨p,e1,e2⟩
  ·rw[e]at hq;cases hq
  ·obtain rfl:p=q:=Option.some.inj (e1.symm.trans hq)
   have hpos:=List.length_pos_iff.2 hne
   have:=e2 0 (.string ts[0]) (by unfold tx;rw[List.getElem?_map,J_ge hpos];rfl)
   exact World.block_lt_of_cell? W _ (by simpa[Addr.add] using this)
 have hT:=K_1ic ts
 obtain⟨a,cap,w1,d1,d2,d3,d4⟩:=K_1jf hK (by omega) c2
 have hm:=K_1i6 d2
 have hml:∀ w:World,w1.heap.size≤w.heap.size→∀ q,(⟨a,ts.length,cap⟩:Sl).a=some q→ts≠[]→q.block<w.heap.size:=fun w hw q hq _=>by
  have:=d2.lt (k:=q.block) (by have hq:a=some q:=hq;simp[Sl.blk,hq])
  omega
 have z1:=d3.size
 generalize hR:joinR C S (ts.map natsOf)=R
 have hsl:(secJ R).length≤1000:=by rw[←hR];exact K_1ie
 obtain⟨sw,w2,e1,e2,e3,e4⟩:=K_1i9 hK (T.upd0 d3) hT (by omega) (c2.upd0 d3) (fun q hq hne=>by have:=hl1 q hq hne;omega)
 have u2:=d3.and0 e2
 have z2:=e2.size
 obtain⟨w3,f1,f2⟩:=K_1e7 hK (T.upd0 u2) idx hT (by omega) (c2.upd0 u2) (fun q hq hne=>by have:=hl1 q hq hne;omega)
 have u3:=u2.and0 f2
 have z3:=f2.size
 have h13:=e2.and0 f2
 obtain⟨sa,w4,g1,g2,g3,g4⟩:=K_1d7 hK (T.upd0 u3).to hT (by omega) (hm.upd0 h13) (hml w3 (by omega))
 have u4:=u3.and0 g2
 have z4:=g2.size
 have h14:=h13.and0 g2
 obtain⟨w5,i1,i2⟩:=K_1h3 hK (T.upd0 u4).to idx hT (by omega) (hm.upd0 h14) (hml w4 (by omega))
 have u5:=u4.and0 i2
 have z5:=i2.size
 have h15:=h14.and0 i2
 obtain⟨sb,w6,j1,j2,j3,j4⟩:=K_1d7 hK (T.upd0 u5).to hT (by omega) (hm.upd0 h15) (hml w5 (by omega))
 have u6:=u5.and0 j2
 have z6:=j2.size
 have h16:=h15.and0 j2
 rw[hR]at e1 e3 f1 g1 g3 i1 j1 j3
 have ow:OwnS 5 w6 sw (fb (secJ R)):=(((e3.upd0 f2).upd0 g2).upd0 i2).upd0 j2
 have va:Vw 5 w6 sa (fb (secJ R)):=(g3.upd0 i2).upd0 j2
 have hbl:((secJ R).map bF).length<9223372036854775807:=by rw[List.length_map];omega
 obtain⟨w7,n1,n2⟩:=K_nl hK (xs:=(secJ R).map bF) (ys:=(secJ R).map bF) va.rd (ow.src (K_k _)).rds hbl
 obtain⟨w8,n3,n4⟩:=K_nl hK (xs:=(secJ R).map bF) (ys:=(secJ R).map bF) (j3.upd0 n2).rd ((ow.upd0 n2).src (K_k _)).rds hbl
 have h18:=(h16.and0 n2).and0 n4
 have u8:=(u6.and0 n2).and0 n4
 obtain⟨w9,o1,o2⟩:=K_190 hK (by omega) (d2.upd0 h18) (c2.upd0 u8)
 have n24:=(n2.and0 n4).and0 o2
 have s0:K_5f K l1 ⟨a,ts.length,cap⟩ sw R.1 (extT idx R) (extE idx R) sa R.1 (extT idx R) (extE idx R) sb R.1 w6=some ((false,()),w9):=by
  unfold K_5f K_dz
  rw[J_bs,if_neg (by simp),J_bs,if_neg (by simp),J_bs,if_neg (by simp),if_neg (by simp),n1,bnd_ok,decide_eq_true rfl]
  dsimp only
  rw[if_neg (by decide),n3,bnd_ok,decide_eq_true rfl]
  dsimp only
  rw[if_neg (by decide),o1,bnd_ok]
  rfl
 have va9:=va.upd0 n24
 have hal:∀ k,sa.blk=some k→k<w4.heap.size:=fun k hk=>g3.lt hk
 obtain⟨w10,p1,p2⟩:=K_18q hK (xs:=(secJ R).map bF) va9 (by rw[List.length_map];omega)
 have hb10:Vw 5 w10 sb (fb (secJ R)):=(j3.upd0 n24).upd p2 fun k hk e=>by have:=hal k e;have:=j4 k hk;omega
 have hw10:OwnS 5 w10 sw (fb (secJ R)):=(ow.upd0 n24).upd p2 fun k hk e=>by have:=e3.lt hk;have:=g4 k e;omega
 obtain⟨w11,q1,q2⟩:=K_nl hK (xs:=(secJ R).map bF) (ys:=(secJ R).map bF) hb10.rd (hw10.src (K_k _)).rds hbl
 refine⟨w11,?_,((u6.and0 n24).trans' p2 fun k hk e=>by have:=g4 k e;omega).and0 q2⟩
 unfold K_ar
 rw[c1,J_bs,d1,bnd_ok,e1,bnd_ok,f1,bnd_ok,g1,bnd_ok,i1,bnd_ok,j1,bnd_ok]
 dsimp only
 rw[s0,bnd_ok]
 dsimp only
 rw[if_neg (by decide),p1,bnd_ok,q1,bnd_ok,decide_eq_true rfl]
end Go.Sh
