/- Texts of this claim, put together: EscLj, EscLk -/
import Derived.Test.YteomkfcfhlljkaaDoorAllLawnophni
import Derived.Deep.Slices
set_option linter.unusedVariables false
set_option maxRecDepth 100000
namespace Go.Sh
open Go.Fw Go.Gf Go.Sha Go.RowKit Go.Proofs.Tryd Go.Deep Go.ChangeShapes Go.WideShapes
theorem K_176{w:World}{p:Addr}{vs:List Value}(h:Rd w p vs)(hne:vs≠[]):ldA vs.length p w=some vs.toArray:=by
 have hsp:p.spot=none:=by
  obtain⟨v,r,rfl⟩:∃ v r,vs=v :: r:=by
   cases vs with
   | nil=>exact absurd rfl hne
   | cons v r=>exact⟨v,r,rfl⟩
  have h0:=h 0 v rfl
  unfold World.cell? at h0
  split at h0
  ·have h0:(if (p.add 0).spot.isSome=true then none else _)=some v:=h0
   split at h0
   ·cases h0
   ·rename_i hs
    cases hq:p.spot with
    | none=>rfl
    | some x=>exact absurd (by unfold Addr.add;simp[hq]) hs
  ·cases h0
 obtain⟨g,o,sp⟩:=p
 have hsp:sp=none:=hsp
 subst hsp
 obtain⟨m,hm⟩:∃ m,vs.length=m+1:=⟨vs.length - 1,by have:=List.length_pos_iff.2 hne;omega⟩
 have hlast:=h m (vs[m]'(by omega)) (J_ge (by omega))
 rw[add_lit]at hlast
 unfold World.cell? at hlast
 unfold ldA
 split at hlast
 ·rename_i c e fz hb
  simp only[Option.isSome_none,Bool.false_eq_true,if_false]at hlast
  have hsz:o+m<c.size:=(Array.getElem?_eq_some_iff.1 hlast).1
  simp only[hb]
  rw[if_pos ⟨trivial,by omega⟩]
  congr 1
  apply Array.ext (by simp;omega)
  intro i h1 h2
  have h2':i<vs.length:=by simpa using h2
  have hi:=h i vs[i] (J_ge h2')
  rw[add_lit]at hi
  simp only[World.cell?,hb,Option.isSome_none,Bool.false_eq_true,if_false]at hi
  have:=(Array.getElem?_eq_some_iff.1 hi).2
  simp[this]
 ·cases hlast
theorem K_x5(p:Addr)(k:Nat):(p.add k).block=p.block:=by unfold Addr.add;split <;> rfl
abbrev Pk:=Int×Int×Int×F×F
def pkV(p:Pk):List Value:=pkL p.1 p.2.1 p.2.2.1 (bF p.2.2.2.1) (bF p.2.2.2.2)
def pk0:Pk:=(0,0,0,0,0)
structure PkIn(N:Nat) (w:World) (s:Sl) (pks:List Pk):Prop where
 len:s.len=pks.length
 rd:pks.length=0∨∃ p,s.a=some p∧p.block<N∧∀ i,i<pks.length→Rd w (p.add (i*5)) (pkV (pks.getD i pk0))
theorem PkIn.upd{N:Nat}{w w':World}{s:Sl}{pks:List Pk}{X:Nat→Prop}(h:PkIn N w s pks)(u:Upd X w w')(hX:∀ k,k<N→¬X k):PkIn N w' s pks:=
 ⟨h.len,h.rd.imp id fun⟨p,h1,h2,h3⟩=>⟨p,h1,h2,fun i hi=>(h3 i hi).upd u fun _=>hX _ (by rw[K_x5];exact h2)⟩⟩
theorem PkIn.upd0{N:Nat}{w w':World}{s:Sl}{pks:List Pk}(h:PkIn N w s pks)(u:Upd none_ w w'):PkIn N w' s pks:=h.upd u fun _ _=>id
theorem PkIn.ld{N:Nat}{w:World}{s:Sl}{pks:List Pk}(h:PkIn N w s pks){i:Nat}(hi:i<pks.length):∃ p,s.a=some p∧ldA 5 (p.add (i*5)) w=some (pkV (pks.getD i pk0)).toArray:=by
 rcases h.rd with h0 | ⟨p,h1,h2,h3⟩
 ·omega
 ·exact⟨p,h1,K_176 (h3 i hi) (by simp[pkV,pkL])⟩
theorem K_12e:prog.underlying 53=some (.slice 59):=by kernel_rfl
theorem K_103:prog.cellsOf 59=5:=by kernel_rfl
theorem K_10c{H:Type}{enc:TypeId×Value→H}{W:World}{d:DataW H}{p:List MemPlace}{v:Value}(h:DataW.Trod enc prog W 0 (fun _=>true) true 53 v d p)(hv:∃ a len cap,v= .slice a len cap):∃ s pks,v=slV s∧PkIn W.heap.size W s pks:=by
 obtain⟨fuel,hf⟩:=h
 obtain⟨a,len,cap,rfl⟩:=hv
 rcases open_slice K_12e hf with ⟨hcs,hx⟩ | ⟨a',len',cap',m,n,D,Pl,hcs,_,hl,hm,hmm,hx,hrows⟩
 ·simp[Value.cells]at hcs
  obtain⟨rfl,rfl,rfl⟩:=hcs
  exact⟨nilF,[],rfl,rfl,.inl rfl⟩
 simp[Value.cells]at hcs
 obtain⟨rfl,rfl,rfl⟩:=hcs
 have hm2:m=cap:=by simpa using hmm
 have each:∀ i,∃ o:Pk,i<len→Rd W (a'.add (i*5)) (pkV o):=by
  intro i
  by_cases hi:i<len
  ·obtain⟨cs',h1,h2⟩:=hrows i (by omega)
   rw[K_103]at h1
   obtain⟨_,hlen,hcell⟩:=World.cells?_some h1
   obtain⟨a1,i1,k1,x1,y1,ho⟩:=K_xs hlen h2
   refine⟨(a1,i1,k1,x1,y1),fun _ j v hv=>?_⟩
   have hv:(pkL a1 i1 k1 (bF x1) (bF y1))[j]? =some v:=hv
   rw[←ho]at hv
   have hj:=(List.getElem?_eq_some_iff.1 hv).1
   rw[hcell j (by omega)];exact hv
  ·exact⟨pk0,fun h=>absurd h hi⟩
 obtain⟨f,hfo⟩:=Classical.axiomOfChoice each
 refine⟨⟨some a',len,cap⟩,(List.range len).map f,rfl,by simp,?_⟩
 by_cases h0:len=0
 ·left;rw[h0];rfl
 right
 have hb0:=(hfo 0 (by omega)).lt (by simp[pkV,pkL])
 rw[K_x5]at hb0
 refine⟨a',rfl,hb0,fun i hi=>?_⟩
 have hi:i<len:=by simpa using hi
 have he:((List.range len).map f).getD i pk0=f i:=by
  rw[J_gd,List.getElem?_map,List.getElem?_range hi];rfl
 rw[he];exact hfo i hi
section
variable (set need size:Nat) (rows:List (List F)) (n:Nat)
def hurtP(p:Pk):List F×Nat:=
 (hurtL (lineX set need size rows (idxU p.1 n+1)) (idxU p.2.1 (lineX set need size rows (idxU p.1 n+1)).length) p.2.2.2.1 (idxU p.2.2.1 (lineX set need size rows (idxU p.1 n+1)).length) p.2.2.2.2,idxU p.1 n+1)
def mapX(xs:List Nat):List (Int×Value):=xs.map fun x=>(((x - 1:Nat):Int),Value.int .i64 1)
end
theorem K_p0:∀ (r acc:List Nat) (x:Nat),dedG acc (r ++ [x])=if x∈dedG acc r then dedG acc r else dedG acc r ++ [x]
 | [],acc,x=>rfl
 | y :: r,acc,x=>by
  show (if y∈acc then dedG acc (r ++ [x]) else dedG (acc ++ [y]) (r ++ [x]))=if x∈(if y∈acc then dedG acc r else dedG (acc ++ [y]) r) then(if y∈acc then dedG acc r else dedG (acc ++ [y]) r) else(if y∈acc then dedG acc r else dedG (acc ++ [y]) r) ++ [x]
  by_cases c:y∈acc
  ·simp only[if_pos c];exact K_p0 r acc x
  ·simp only[if_neg c];exact K_p0 r (acc ++ [y]) x
theorem K_xn:∀ (xs:List Nat) (x:Nat),(∀ y∈xs,1≤y)→1≤x→mapGet (mapX xs) (((x - 1:Nat):Int))=if x∈xs then some (.int .i64 1) else none
 | [],x,_,_=>by rw[if_neg (fun h=>by cases h)];rfl
 | y :: xs,x,h,hx=>by
  have ih:=K_xn xs x (fun z hz=>h z (List.mem_cons_of_mem _ hz)) hx
  have hy:=h y (List.mem_cons_self ..)
  unfold mapGet mapX at ih ⊢
  rw[List.map_cons,List.find?_cons]
  dsimp only
  by_cases c:y=x
  ·have:((((y - 1:Nat):Int)) == (((x - 1:Nat):Int)))=true:=by rw[c];simp
   rw[this,if_pos (by rw[c];exact List.mem_cons_self ..)];rfl
  ·have:((((y - 1:Nat):Int)) == (((x - 1:Nat):Int)))=false:=by apply Bool.eq_false_iff.2;rw[ne_eq,beq_iff_eq];omega
   rw[this]
   dsimp only
   rw[ih]
   by_cases m:x∈xs
   ·rw[if_pos m,if_pos (List.mem_cons_of_mem _ m)]
   ·rw[if_neg m,if_neg (fun h=>(List.mem_cons.1 h).elim (fun e=>c e.symm) m)]
theorem K_tp:prog.underlying 57=some (.map 3 3):=by kernel_rfl
theorem K_172{K:Nat}(hK:18446744073709551616≤K){C S:List Int}{set need size n N r:Nat}{sec:List F}{rows:List (List F)}(D:Dealt C S set need size sec rows)(hn:1≤n∧n≤255){s sl:Sl}{d2:Addr}{pks:List Pk}(hr:N≤r):
  ∀ (d i m:Nat) (w:World) (mine:Sl),i+d=min pks.length 40→d<m→N≤w.heap.size→PkIn N w s pks→OwnS 9 w sl (tx (dealN set need size rows n))→(∀ k,sl.blk=some k→k<N)→OwnS 9 w mine (tx (((pks.take i).map (hurtP set need size rows n)).map fun p=>textOf p.1))→(∀ k,mine.blk=some k→N≤k∧k≠r)→MapAt w r (mapX (dedG [] (((pks.take i).map (hurtP set need size rows n)).map (·.2))))→
   ∃ mine' w',K_1h K m s d2 sl mine (.map (some r)) (i:Int) w=some (.norm (mine',()),w')∧OwnS 9 w' mine' (tx (((pks.take 40).map (hurtP set need size rows n)).map fun p=>textOf p.1))∧(∀ k,mine'.blk=some k→N≤k∧k≠r)∧MapAt w' r (mapX (dedG [] (((pks.take 40).map (hurtP set need size rows n)).map (·.2))))∧Upd (fun k=>N≤k) w w':=by
 intro d
 induction d with
 | zero=>
  intro i m w mine hi hm hN hP hL hsl hM hmb hA
  obtain⟨m,rfl⟩:∃ q,m=q+1:=⟨m - 1,by omega⟩
  have hti:pks.take i=pks.take 40:=by
   by_cases c:pks.length≤40
   ·rw[List.take_of_length_le (by omega),List.take_of_length_le c]
   ·rw[show i=40 by omega]
  rw[hti]at hM hA
  have hs2:K_1z K s (i:Int) w=some ((false,()),w):=by
   unfold K_1z
   rw[hP.len]
   by_cases c:i<pks.length
   ·rw[if_pos (decide_eq_true (by omega)),decide_eq_false (by omega)]
   ·rw[if_neg (by simp only[decide_eq_true_eq];omega)]
  refine⟨mine,w,?_,hM,hmb,hA,Upd.refl _ _⟩
  show K_3j K (K_1h K m) s d2 sl mine (.map (some r)) (i:Int) w=_
  unfold K_3j
  rw[hs2,bnd_ok,if_neg (by decide)]
 | succ d ih=>
  intro i m w mine hi hm hN hP hL hsl hM hmb hA
  obtain⟨m,rfl⟩:∃ q,m=q+1:=⟨m - 1,by omega⟩
  have hil:i<pks.length:=by omega
  have hi40:i<40:=by omega
  have e3:IntKind.i64.wrap ((i:Int)+1)=((i+1:Nat):Int):=by rw[w64 (by omega) (by omega)];rfl
  have hs2:K_1z K s (i:Int) w=some ((true,()),w):=by
   unfold K_1z
   rw[hP.len,if_pos (decide_eq_true (by omega)),decide_eq_true (by omega)]
  obtain⟨p,p1,p2⟩:=hP.ld hil
  have hpl:=hP.len
  have c1:(0:Int)≤(i:Int)∧(i:Int)<((s.len:Nat):Int):=by omega
  obtain⟨w1,a1,a2,a3,a4⟩:=K_h z59 59 w
  have hz:z59=(pkL 0 0 0 0 0).toArray:=by kernel_rfl
  have a2:Bk 59 w1 w.heap.size (pkL 0 0 0 0 0):=by rw[hz]at a2;exact a2
  have hmem:=K_lv pk0 hil
  have htake:pks.take (i+1)=pks.take i ++ [pks.getD i pk0]:=by
   rw[List.take_succ_eq_append_getElem hil,J_gd,J_ge hil];rfl
  generalize hpk:pks.getD i pk0=pk at p2 htake
  obtain⟨w2,b1,b2,b3⟩:=a2.stA (o:=0) (vs:=(pkV pk).toArray) (by simp[pkV,pkL]) (fun v hv=>by
   simp only[pkV,pkL,List.mem_cons,List.not_mem_nil,or_false]at hv
   rcases hv with rfl | rfl | rfl | rfl | rfl <;> rfl)
  have b2:Bk 59 w2 w.heap.size (pkL pk.1 pk.2.1 pk.2.2.1 (bF pk.2.2.2.1) (bF pk.2.2.2.2)):=b2
  have hz5:(pkV pk).toArray.size=5:=rfl
  have u2:Upd none_ w w2:=a3.trans' b3 fun k hk e=>by omega
  obtain⟨l0,_,_,_,_⟩:=K_117 b2
  have ud:Upd none_ w w2.drew:=u2.drew
  obtain⟨_,l1,l2,l3,l4⟩:=K_117 b2.drew
  have hsll:sl.len=n:=by rw[hL.len,K_4q];exact K_7r _ _ _ _ _
  have hai:=K_9l pk.1 (n:=n) (by omega)
  have c0:IntKind.u64.wrap ((sl.len:Nat):Int)≠0:=by rw[hsll,K_pb (by omega)];omega
  have eA:IntKind.i64.wrap (Int.tmod (IntKind.u64.wrap pk.1) (IntKind.u64.wrap ((sl.len:Nat):Int)))=((idxU pk.1 n:Nat):Int):=by rw[hsll];exact K_sk pk.1 (by omega) (by omega)
  have cA:(0:Int)≤((idxU pk.1 n:Nat):Int)∧((idxU pk.1 n:Nat):Int)<((sl.len:Nat):Int):=by omega
  obtain⟨q,q1,q2⟩:=tx_at ((hL.upd0 ud).src (K_eo _)) (i:=idxU pk.1 n) (by rw[K_7r];exact hai)
  have htx:(dealN set need size rows n)[idxU pk.1 n]'(by rw[K_7r];exact hai)=textOf (lineX set need size rows (idxU pk.1 n+1)):=by
   have:=K_11e (set:=set) (need:=need) (size:=size) (rows:=rows) hai
   rw[J_gd,J_ge (by rw[K_7r];exact hai)]at this
   exact this
  rw[htx]at q2
  have hx:1≤idxU pk.1 n+1∧idxU pk.1 n+1≤255:=by omega
  obtain⟨mm,hm1,hm2,hm3⟩:=K_l3 (D.ok hx)
  have hm1:(lineX set need size rows (idxU pk.1 n+1)).length=2*mm:=hm1
  obtain⟨w3,g1,g2⟩:=K_15a hK w2.drew hm1 (by omega) (by omega) pk.2.1 pk.2.2.1 pk.2.2.2.1 pk.2.2.2.2
  have hh1:(hurtP set need size rows n pk).1=hurtL (lineX set need size rows (idxU pk.1 n+1)) (idxU pk.2.1 (lineX set need size rows (idxU pk.1 n+1)).length) pk.2.2.2.1 (idxU pk.2.2.1 (lineX set need size rows (idxU pk.1 n+1)).length) pk.2.2.2.2:=rfl
  have hh2:(hurtP set need size rows n pk).2=idxU pk.1 n+1:=rfl
  rw[←hh1]at g1
  have u3:=ud.and0 g2
  have z3:=u3.size
  have hrl:=(hA.upd0 u3).lt
  have hxs1:∀ y∈dedG [] (((pks.take i).map (hurtP set need size rows n)).map (·.2)),1≤y:=fun y hy=>by
   rcases(K_h5 _ [] y).1 hy with h | h
   ·cases h
   ·obtain⟨z,hz',rfl⟩:=List.mem_map.1 h
    obtain⟨z',_,rfl⟩:=List.mem_map.1 hz'
    show 1≤idxU z'.1 n+1
    omega
  have hput:∃ w4,mput prog 57 (.map (some r)) (.int .i64 ((idxU pk.1 n:Nat):Int)) (.int .i64 1) w3=some ((),w4)∧MapAt w4 r (mapX (dedG [] (((pks.take (i+1)).map (hurtP set need size rows n)).map (·.2))))∧Upd (· =r) w3 w4:=by
   rw[htake,List.map_append,List.map_append,List.map_cons,List.map_nil,List.map_cons,List.map_nil,K_p0,hh2]
   have hg:=K_xn (dedG [] (((pks.take i).map (hurtP set need size rows n)).map (·.2))) (idxU pk.1 n+1) hxs1 (by omega)
   rw[Nat.add_sub_cancel]at hg
   by_cases c:idxU pk.1 n+1∈dedG [] (((pks.take i).map (hurtP set need size rows n)).map (·.2))
   ·rw[if_pos c]at hg ⊢
    exact K_124 K_tp K_p8 (hA.upd0 u3) _ _ hg
   ·rw[if_neg c]at hg ⊢
    obtain⟨w4,k1,k2,k3⟩:=K_wy K_tp K_p8 (hA.upd0 u3) _ (.int .i64 1) hg
    refine⟨w4,k1,?_,k3⟩
    have:mapX (dedG [] (((pks.take i).map (hurtP set need size rows n)).map (·.2)) ++ [idxU pk.1 n+1])=mapX (dedG [] (((pks.take i).map (hurtP set need size rows n)).map (·.2))) ++ [(((idxU pk.1 n:Nat):Int),.int .i64 1)]:=by
     unfold mapX;rw[List.map_append];rfl
    rw[this];exact k2
  obtain⟨w4,h1,h2,h3⟩:=hput
  have z4:=h3.size
  have hM4:OwnS 9 w4 mine _:=(hM.upd0 u3).upd h3 fun k hk e=>(hmb k hk).2 e
  have hpll:(((pks.take i).map (hurtP set need size rows n)).map fun p=>textOf p.1).length≤1000:=by rw[List.length_map,List.length_map,List.length_take];omega
  obtain⟨w5,mine2,w6,i1,i2,i3,i4,i5⟩:=K_yw hM4 (by omega) (textOf (hurtP set need size rows n pk).1)
  have hmt:(((pks.take i).map (hurtP set need size rows n)).map fun p=>textOf p.1) ++ [textOf (hurtP set need size rows n pk).1]=((pks.take (i+1)).map (hurtP set need size rows n)).map fun p=>textOf p.1:=by
   rw[htake,List.map_append,List.map_append];rfl
  rw[hmt]at i3
  have z6:=i4.size
  have u4:Upd (fun k=>N≤k) w w4:=(u3.mono (T:=fun k=>N≤k) fun _ _ e=>e.elim).trans' h3 fun k _ e=>by omega
  have u6:Upd (fun k=>N≤k) w w6:=u4.trans' i4 fun k _ e=>(hmb k e).1
  have hmb2:∀ k,mine2.blk=some k→N≤k∧k≠r:=fun k hk=>(i5 k hk).elim (hmb k) fun e=>by omega
  obtain⟨mine',w',k1,k2,k3,k4,k5⟩:=ih (i+1) m w6 mine2 (by omega) (by omega) (by omega) (hP.upd u6 fun k hk e=>by omega) (hL.upd u6 fun k hk e=>by have:=hsl k hk;omega) hsl i3 hmb2 (h2.upd i4 fun e=>(hmb r e).2 rfl)
  refine⟨mine',w',?_,k2,k3,k4,u6.trans' k5 fun _ _ e=>e⟩
  show K_3j K (K_1h K m) s d2 sl mine (.map (some r)) (i:Int) w=_
  unfold K_3j
  rw[hs2,bnd_ok,if_pos rfl,p1,J_bs,if_pos c1,J_tn,p2,J_bs,a1,bnd_ok,if_pos hz5,b1,J_bs,l0,J_bs,if_pos c0,q1,J_bs,eA,if_pos cA,J_tn,Nat.mul_one,q2,J_bs,l1,J_bs,l3,J_bs,l2,J_bs,l4,J_bs,g1,bnd_ok]
  dsimp only
  rw[if_neg (by decide),h1,bnd_ok,i1,bnd_ok]
  dsimp only
  rw[i2,bnd_ok,e3,k1]
end Go.Sh

namespace Go.Sh
open Go.Fw Go.Gf Go.Sha Go.RowKit Go.Proofs.Tryd
theorem K_x0{K:Nat}(hK:18446744073709551616≤K){C S:List Int}{W:World}(T:Tabs W C S){set:Nat}(hset:set<65536){s r:Sl}{need count:Int}{own:Bool}{ss rs:List Int}(P:BytesIn W s ss)(Q:BytesIn W r rs){ps:Sl}{pks:List Pk}(R:PkIn W.heap.size W ps pks):
  ∃ w2,K_8q K (dlC (set:Int) s need count own r) ps W=some ((true,()),w2)∧Upd none_ W w2:=by
 obtain⟨l,rfl⟩:=K_xi P.inn
 obtain⟨L,rfl⟩:=K_xi Q.inn
 have hs:BSrc W s l:=P.src
 have hr:BSrc W r L:=Q.src
 obtain⟨w1,a1,a2,a3,a4⟩:=K_h (dlC (set:Int) s need count own r) 25 W
 have a2:Bk 25 w1 W.heap.size (dlL (set:Int) s need count own r):=a2
 have hA:=a2.ldA (i:=0) (n:=6) (by simp[dlL])
 have hA:ldA 6 ⟨W.heap.size,0,none⟩ w1=some (dlC (set:Int) s need count own r):=hA
 obtain⟨s2,sl,w2,c1,c2,c3,c4,c5,c6,c7⟩:=K_142 hK (T.upd0 a3) hset (need:=need) (count:=count) (own:=own) (hs.upd0 a3) (hr.upd0 a3)
 obtain⟨w3,e1,e2,e3⟩:=(a2.upd0 c2).stA (o:=0) (vs:=dlC (set:Int) s2 ((needD need:Nat):Int) ((cntD need count:Nat):Int) false r) (by simp[dlL,dlC]) (fun v hv=>by
  simp only[dlC,dlL,List.mem_cons,List.not_mem_nil,or_false]at hv
  rcases hv with rfl | rfl | rfl | rfl | rfl | rfl <;> rfl)
 have e2:Bk 25 w3 W.heap.size (dlL (set:Int) s2 ((needD need:Nat):Int) ((cntD need count:Nat):Int) false r):=e2
 have hz6:(dlC (set:Int) s2 ((needD need:Nat):Int) ((cntD need count:Nat):Int) false r).size=6:=rfl
 have z1:=a3.size
 have u2:=a3.and0 c2
 have u3:Upd none_ W w3:=u2.trans' e3 fun k hk e=>by omega
 obtain⟨w4,f1,f2⟩:=K_15r hK (T.upd0 u3)
 have hs0:K_4p K true w3=some ((false,()),w4):=by
  unfold K_4p
  rw[f1,bnd_ok]
  dsimp only
  rw[if_neg (by decide)];rfl
 obtain⟨w5,g1,g2,g3,g4⟩:=K_11g prog 57 w4
 have u4:=u3.and0 f2
 have u5:=u4.and0 g3
 have hsec:=K_w2 l
 have hneed:=K_s0 need
 have hcnt:=K_yz need count
 have D:Dealt C S set (needD need) (secD l).length (secD l) (rowsD C S set l L need):=K_vu C S hset hneed hsec
 have hsl3:OwnS 9 w3 sl (tx (textsD C S set l L need count)):=c4.upd e3 fun k hk e=>by have:=c6 k hk;omega
 have hs23:BSrc w3 s2 (secD l):=Fw.Src.upd c3 e3 fun q hq e=>by have:=c5 q.block (by simp[Sl.blk,hq]);omega
 have hslk:∀ k,sl.blk=some k→k<w4.heap.size:=fun k hk=>(hsl3.upd0 f2).lt hk
 have hsl5:=(hsl3.upd0 f2).upd0 g3
 unfold textsD at hsl5
 generalize hrows:rowsD C S set l L need=rows at hsl5 D
 have hR5:PkIn w4.heap.size w5 ps pks:=by
  have:=R.upd0 u5
  exact⟨this.len,this.rd.imp id fun⟨p,h1,h2,h3⟩=>⟨p,h1,Nat.lt_of_lt_of_le h2 u4.size,h3⟩⟩
 obtain⟨mine,w6,i1,i2,i3,i4,i5⟩:=K_172 hK D (n:=cntD need count) (N:=w4.heap.size) (r:=w4.heap.size) (s:=ps) (sl:=sl) (d2:=⟨W.heap.size,0,none⟩) (pks:=pks) (by omega) (Nat.le_refl _) (min pks.length 40) 0 K w5 nilF (by omega) (by omega) g3.size hR5 hsl5 hslk (by rw[List.take_zero,List.map_nil,List.map_nil];exact OwnS.nil _ _) (fun k hk=>by cases hk) (by rw[List.take_zero,List.map_nil,List.map_nil];exact g2)
 have i1:K_1h K K ps ⟨W.heap.size,0,none⟩ sl ⟨none,0,0⟩ (.map (some w4.heap.size)) 0 w5=_:=i1
 have z4:=u4.size
 have u46:Upd none_ w4 w6:=g3.trans' i5 fun k hk e=>by omega
 have u6:=u4.and0 u46
 generalize hxs:(pks.take 40).map (hurtP set (needD need) (secD l).length rows (cntD need count))=xs at i2 i4
 have hxl:xs.length≤40:=by rw[←hxs,List.length_map,List.length_take];omega
 have hp:∀ p∈xs,(1≤p.2∧p.2≤255)∧Near p.1 (lineX set (needD need) (secD l).length rows p.2):=fun p hp=>by
  rw[←hxs]at hp
  obtain⟨pk,_,rfl⟩:=List.mem_map.1 hp
  have hai:=K_9l pk.1 (n:=cntD need count) (by omega)
  have hx:1≤idxU pk.1 (cntD need count)+1∧idxU pk.1 (cntD need count)+1≤255:=by omega
  obtain⟨m,h1,h2,h3⟩:=K_l3 (D.ok hx)
  have h1:(lineX set (needD need) (secD l).length rows (idxU pk.1 (cntD need count)+1)).length=2*m:=h1
  exact⟨hx,K_11a (K_9l _ (by omega)) (K_9l _ (by omega)) (K_qo _ _ _ _ _) _ _⟩
 have join:∃ s' w',K_2l K mine w6=some ((s',if (dedG [] (xs.map (·.2))).length<needD need then 114 else 0,()),w')∧Upd none_ w6 w'∧((dedG [] (xs.map (·.2))).length<needD need→s'.len=0)∧(¬(dedG [] (xs.map (·.2))).length<needD need→Vw 5 w' s' (fb (secD l))):=by
  by_cases h0:0<xs.length
  ·obtain⟨s',w',k1,k2,k3⟩:=K_l5 hK (T.upd0 u6) D h0 (by omega) hp (i2.src (K_eo _)) (K_8f i2)
   by_cases c:(dedG [] (xs.map (·.2))).length<needD need
   ·rw[if_pos c]at k3 ⊢
    exact⟨s',w',k3.1,k1,fun _=>k3.2,fun h=>absurd c h⟩
   ·rw[if_neg c]at k3 ⊢
    exact⟨s',w',k3.1,k1,fun h=>absurd h c,fun _=>k3.2⟩
  ·have hnil:xs=[]:=List.eq_nil_of_length_eq_zero (by omega)
   subst hnil
   obtain⟨s',w',k1,k2,k3,k4⟩:=K_zb hK (T.upd0 u6) (K_xj []) (by simp) (i2.src (K_eo _)) (fun q hq _=>K_8f i2 q hq)
   have hj:joinR C S (([]:List ByteArray).map natsOf)=(114,[]):=K_o2 rfl rfl
   rw[hj]at k1 k3
   have hc:(dedG [] (([]:List (List F×Nat)).map (·.2))).length<needD need:=by show 0<_;omega
   rw[if_pos hc]
   refine⟨s',w',k1,k2,fun _=>?_,fun h=>absurd hc h⟩
   have h1:secJ ((114:Int),([]:List (List F)))=[]:=by unfold secJ;rw[if_neg (by decide)]
   rw[h1]at k3
   have:=k3.len
   rw[K_0]at this;exact this
 obtain⟨s7,w7,j1,j2,j3,j4⟩:=join
 have hlen:=K_14u (ty:=3) K_tp (i4.upd0 j2)
 have hml:(mapX (dedG [] (xs.map (·.2)))).length=(dedG [] (xs.map (·.2))).length:=List.length_map ..
 rw[hml]at hlen
 have hb7:=(e2.upd0 ((f2.and0 u46).and0 j2))
 obtain⟨_,d1,d2,_,_,_⟩:=K_79 hb7
 have u7:=u6.and0 j2
 have hs7:=hs23.upd0 ((f2.and0 u46).and0 j2)
 unfold K_8q
 rw[a1,bnd_ok,hA,J_bs,c1,bnd_ok]
 dsimp only
 rw[if_pos hz6,e1,J_bs,hs0,bnd_ok]
 dsimp only
 rw[if_neg (by decide),g1,bnd_ok,i1,bnd_ok]
 dsimp only
 rw[j1,bnd_ok,hlen,bnd_ok,d2,J_bs]
 by_cases c:(dedG [] (xs.map (·.2))).length<needD need
 ·rw[if_pos c,if_pos (decide_eq_true (by omega))]
  unfold K_6v K_2b
  rw[J_bs]
  dsimp only
  rw[if_pos (by rfl),bnd_ok,j3 c]
  exact⟨w7,rfl,u7⟩
 ·rw[if_neg c,if_neg (by simp only[decide_eq_true_eq];omega)]
  obtain⟨w8,k1,k2⟩:=K_o0 hK (xs:=(secD l).map bF) (ys:=(secD l).map bF) (j4 c).rd hs7.rds (by rw[List.length_map];omega)
  unfold K_2b
  rw[J_bs]
  dsimp only
  rw[if_pos (by rfl),d1,J_bs,k1,bnd_ok,decide_eq_true rfl]
  exact⟨w8,rfl,u7.and0 k2⟩
end Go.Sh
